import Derived.Test.YtapinbmkjkbkkaaBuCl
import Derived.Test.YtapinbmkjkbkkaaBuSi
import Derived.Test.YtapinbmkjkbkkaaBuLbx36
import Derived.Test.YtapinbmkjkbkkaaBuP4
import Derived.Test.YtapinbmkjkbkkaaBuLbx4
import Derived.Test.YtapinbmkjkbkkaaBuLbx16
import Derived.Test.YtapinbmkjkbkkaaBuLbe
namespace Go.Proofs.Ytapinbmkjkbkkaa.Pu
open Go.RowKit Go.Proofs.aC.bE Go.Proofs.aC.bV Go.Proofs.aC.bY Lb Mk
section
variable {nm AZ : List (List UInt8)}
def Both (nm AZ W:List (List UInt8)):Prop:=∀ s∈W,s∈nm∧s∈AZ
theorem NB {U V:List (List UInt8)} (h:Both nm AZ (U ++ V)):Both nm AZ U∧Both nm AZ V:=⟨fun s hs=>h s (List.mem_append.mpr (.inl hs)),fun s hs=>h s (List.mem_append.mpr (.inr hs))⟩
theorem GZ {W:List (List UInt8)} (h:Both nm AZ W):Both AZ nm W:=fun s hs=>⟨(h s hs).2,(h s hs).1⟩
def Agree (nm AZ:List (List UInt8)) (L L':List Int→Prop):Prop:=∀ W,Both nm AZ W→(L (W.map (nameAt nm))↔L' (W.map (nameAt AZ)))
theorem ZU {x:List UInt8} {W:List (List UInt8)} (hW:Both nm AZ W) (h:x∈nm∧W.map (nameAt nm)=[nameAt nm x]):x∈AZ∧W.map (nameAt AZ)=[nameAt AZ x]:=by
  obtain ⟨h1,h2⟩:=h;obtain ⟨s,rfl,h3⟩:=List.map_eq_singleton_iff.mp h2;have hs:=hW s (List.mem_cons_self ..);obtain rfl:=NC hs.1 h1 h3;exact ⟨hs.2,rfl⟩
theorem ZV {L L':List Int→Prop} (hA:Agree nm AZ L L') {w:List Int} (h:tC L w) : ∀ W,Both nm AZ W→w=W.map (nameAt nm)→tC L' (W.map (nameAt AZ)):=by
  induction h with
  |nil =>
    intro W _ e;obtain rfl:W=[]:=(by simpa using e.symm);exact .nil
  |app hu _ ih =>
    intro W hW e;obtain ⟨U,V,rfl,rfl,rfl⟩:=List.map_eq_append_iff.mp e.symm;obtain ⟨h1,h2⟩:=NB hW;rw [List.map_append];exact .app ((hA U h1).mp hu) (ih V h2 rfl)
theorem agree_swap {L L':List Int→Prop} (h:Agree nm AZ L L'):Agree AZ nm L' L:=fun W hW=>(h W (GZ hW)).symm
theorem agree_star {L L':List Int→Prop} (h:Agree nm AZ L L'):Agree nm AZ (tC L) (tC L'):=fun W hW=>⟨fun k=>ZV h k W hW rfl,fun k=>ZV (agree_swap h) k W (GZ hW) rfl⟩
theorem SG : ∀ ks:List gB,(∀ k∈ks,Agree nm AZ (tV nm k) (tV AZ k))→Agree nm AZ (kM nm ks) (kM AZ ks)
  |[],_=>fun W _=>by rw [kM,kM];simp
  |k :: ks,h=>fun W hW=>by
    rw [kM,kM];have h1:=h k (List.mem_cons_self ..);have h2:=SG ks (fun q hq=>h q (List.mem_cons_of_mem _ hq));constructor
    · rintro ⟨u,v,e,hu,hv⟩
      obtain ⟨U,V,rfl,rfl,rfl⟩:=List.map_eq_append_iff.mp e;obtain ⟨g1,g2⟩:=NB hW;exact ⟨_,_,List.map_append,(h1 U g1).mp hu,(h2 V g2).mp hv⟩
    · rintro ⟨u,v,e,hu,hv⟩
      obtain ⟨U,V,rfl,rfl,rfl⟩:=List.map_eq_append_iff.mp e;obtain ⟨g1,g2⟩:=NB hW;exact ⟨_,_,List.map_append,(h1 U g1).mpr hu,(h2 V g2).mpr hv⟩
theorem lang_agree : ∀ (n:Nat) (r:gB),SizeOf.sizeOf r≤n→gX r=true→Agree nm AZ (tV nm r) (tV AZ r):=by
  intro n;induction n with
  |zero=>intro r h;cases r;simp at h
  |succ n ih =>
    intro r h hr;obtain ⟨op,name,ks⟩:=r;rw [NA,Bool.and_eq_true,List.all_eq_true] at hr;have hk : ∀ k,k∈ks→Agree nm AZ (tV nm k) (tV AZ k):=by
      intro k hk;refine ih k ?_ (hr.1 k hk);have:=List.sizeOf_lt_of_mem hk;simp at h;omega
    intro W hW;rw [nN,nN];by_cases h1:op=1
    · rw [if_pos h1,if_pos h1]
      exact ⟨ZU hW,ZU (GZ hW)⟩
    rw [if_neg h1,if_neg h1];by_cases h2:op=2
    · rw [if_pos h2,if_pos h2]
      constructor
      · rintro ⟨c,hc⟩
        obtain ⟨s,rfl,_⟩:=List.map_eq_singleton_iff.mp hc;exact ⟨_,rfl⟩
      · rintro ⟨c,hc⟩
        obtain ⟨s,rfl,_⟩:=List.map_eq_singleton_iff.mp hc;exact ⟨_,rfl⟩
    rw [if_neg h2,if_neg h2];by_cases h3:op=3
    · rw [if_pos h3,if_pos h3];simp
    rw [if_neg h3,if_neg h3];by_cases h5:op=5
    · rw [if_pos h5,if_pos h5];exact SG ks hk W hW
    rw [if_neg h5,if_neg h5];by_cases h6:op=6
    · rw [if_pos h6,if_pos h6,S9,S9]
      exact ⟨fun ⟨k,h1,h2⟩=>⟨k,h1,(hk k h1 W hW).mp h2⟩,fun ⟨k,h1,h2⟩=>⟨k,h1,(hk k h1 W hW).mpr h2⟩⟩
    rw [if_neg h6,if_neg h6];have hhd:Agree nm AZ (tX nm ks) (tX AZ ks):=by
      cases ks with
      |nil=>intro W _;rw [tX,tX];simp
      |cons k ks=>rw [tX,tX];exact hk k (List.mem_cons_self ..)
    by_cases h7:op=7
    · rw [if_pos h7,if_pos h7];exact agree_star hhd W hW
    rw [if_neg h7,if_neg h7];by_cases h8:op=8
    · rw [if_pos h8,if_pos h8];exact not_congr (hhd W hW)
    rw [if_neg h8,if_neg h8]
end
theorem idx_take {l:List (List UInt8)} {i:Nat} {x:List UInt8} (h:l[i]?=some x):l.idxOf x=i↔x ∉ l.take i:=by
  obtain ⟨hl,rfl⟩:=List.getElem?_eq_some_iff.mp h;have e:l.idxOf l[i]=(l.take i ++ l.drop i).idxOf l[i]:=(by rw [List.take_append_drop]);rw [e,List.idxOf_append];by_cases hm:l[i]∈l.take i
  · rw [if_pos hm]
    have:=List.idxOf_lt_length_of_mem hm;rw [List.length_take] at this;constructor
    · intro h;omega
    · intro h;exact absurd hm h
  · rw [if_neg hm,List.drop_eq_getElem_cons hl,List.idxOf_cons_self,List.length_take]
    constructor
    · intro _;exact hm
    · intro _;omega
section
variable {l1 : List ByteArray}
theorem get_nk {i:Nat} (h:i<l1.length):(l1.map nk)[i]?=some (nk (fF ByteArray.empty l1 (i:Int))):=by
  rw [List.getElem?_map];unfold fF;simp [List.getElem?_eq_getElem h]
theorem ZW {i:Nat} (h:i<l1.length):KI (l1.map nk) (nk (fF ByteArray.empty l1 (i:Int)))=(i:Int)↔nk (fF ByteArray.empty l1 (i:Int)) ∉ (l1.take i).map nk:=by
  have hg:=get_nk h;have hm:=List.mem_of_getElem? hg;have:=idx_take hg;unfold KI nameAt;rw [if_pos hm,if_pos hm,List.map_take,← this];omega
theorem names_l0 (hl:l1.length≤4096) : ∀ (d i:Nat),l1.length - i=d→i≤l1.length→∀ k,d+5000<k→dK.l0 k l1 (i:Int)=some (if iU ((l1.take i).map nk) (l1.drop i)=true then 0 else 80):=by
  intro d;induction d with
  |zero =>
    intro i hd hi k hk;obtain ⟨k,rfl⟩ : ∃ q,k=q+1:=⟨k - 1,by omega⟩;rw [dK.l0,if_neg (by omega),JI l1 i (by omega),if_pos rfl]
  |succ d ih =>
    intro i hd hi k hk;obtain ⟨k,rfl⟩ : ∃ q,k=q+1:=⟨k - 1,by omega⟩;have hlt:i<l1.length:=(by omega);have hn:=ZW hlt;rw [dK.l0,if_pos (by omega),if_pos (by omega),SF _ k (by omega),Option.bind_some,ZP l1 _ hl k (by omega),Option.bind_some,wX l1 i hlt];by_cases h1:xO (fF ByteArray.empty l1 (i:Int))=true
    · rw [if_pos h1,h1,Bool.and_true]
      by_cases h2:nk (fF ByteArray.empty l1 (i:Int))∈(l1.take i).map nk
      · rw [if_neg (fun e=>(hn.mp e) h2),decide_eq_true h2]
        rfl
      · rw [if_pos (hn.mpr h2),decide_eq_false h2,show wrap64 ((i:Int)+1)=((i+1:Nat):Int) by unfold wrap64;omega,ih (i+1) (by omega) (by omega) k (by omega)]
        rfl
    · rw [if_neg h1,show xO (fF ByteArray.empty l1 (i:Int))=false by simpa using h1,Bool.and_false,Bool.false_and,if_neg (by simp)]
theorem names_same (k:Nat) (hk:10000<k):dK.f k l1=some (if l1.length≤4096∧iU [] l1=true then 0 else 80):=by
  unfold dK.f;by_cases hl:l1.length≤4096
  · rw [if_neg (by omega)]
    have:=names_l0 hl l1.length 0 (by omega) (by omega) k (by omega);refine this.trans ?_;rw [List.take_zero,List.drop_zero,List.map_nil];by_cases h:iU [] l1=true
    · rw [if_pos h,if_pos ⟨hl,h⟩]
    · rw [if_neg h,if_neg (fun e=>h e.2)]
  · rw [if_pos (by omega),if_neg (fun e=>hl e.1)]
theorem names_all (h:iU [] l1=true) : ∀ i,i≤l1.length→iU ((l1.take i).map nk) (l1.drop i)=true:=by
  intro i;induction i with
  |zero=>intro _;rw [List.take_zero,List.drop_zero,List.map_nil];exact h
  |succ i ih =>
    intro hi;have h1:=ih (by omega);rw [wX l1 i (by omega),Bool.and_eq_true] at h1;exact h1.2
theorem name_num (h:iU [] l1=true) {i:Nat} (hi:i<l1.length):nameAt (l1.map nk) (nk (fF ByteArray.empty l1 (i:Int)))=(i:Int):=by
  have h1:=names_all h i (by omega);rw [wX l1 i hi,Bool.and_eq_true,Bool.and_eq_true,Bool.not_eq_true',decide_eq_false_iff_not] at h1;have h2:=(ZW hi).mpr h1.1.1;unfold KI at h2;rw [if_pos (List.mem_of_getElem? (get_nk hi))] at h2;exact h2
def uW (l1:List ByteArray) (ws:List Int):List ByteArray:=ws.map (fF ByteArray.empty l1)
theorem words_l0 {ws:List Int} (hw:ws.length≤100) (hr : ∀ s∈ws,0≤s∧s<l1.length) : ∀ (d i:Nat),ws.length - i=d→i≤ws.length→∀ k,d<k→eF.l0 k l1 ws (uW l1 (ws.take i)) (i:Int)=some (uW l1 ws):=by
  intro d;induction d with
  |zero =>
    intro i hd hi k hk;obtain ⟨k,rfl⟩ : ∃ q,k=q+1:=⟨k - 1,by omega⟩;rw [eF.l0,if_neg (by omega),List.take_of_length_le (by omega)]
  |succ d ih =>
    intro i hd hi k hk;obtain ⟨k,rfl⟩ : ∃ q,k=q+1:=⟨k - 1,by omega⟩;have hlt:i<ws.length:=(by omega);have hrd:rd ws (i:Int)=ws[i]:=(by unfold rd;simp [List.getElem?_eq_getElem hlt]);have h1:=hr ws[i] (List.getElem_mem hlt);have hul:(uW l1 (ws.take i)).length=i:=(by unfold uW;rw [List.length_map,List.length_take];omega);rw [eF.l0,if_pos (by omega),if_pos (by omega),hrd,if_pos h1.1,if_pos h1.2,if_pos (by rw [hul];omega),show wrap64 ((i:Int)+1)=((i+1:Nat):Int) by unfold wrap64;omega];have e:uW l1 (ws.take i) ++ [fF ByteArray.empty l1 ws[i]]=uW l1 (ws.take (i+1)):=by
      unfold uW;rw [List.take_succ_eq_append_getElem hlt,List.map_append];rfl
    rw [e];exact ih (i+1) (by omega) (by omega) k (by omega)
theorem words_f {ws:List Int} (hw:ws.length≤100) (hr : ∀ s∈ws,0≤s∧s<l1.length) (k:Nat) (hk:100<k):eF.f k l1 ws=some (uW l1 ws):=by
  unfold eF.f;exact words_l0 hw hr ws.length 0 (by omega) (by omega) k (by omega)
theorem lang_words {r:gB} (hr:gX r=true) (h:iU [] l1=true) {ws:List Int} (hrg : ∀ s∈ws,0≤s∧s<l1.length):tV (nmW (uW l1 ws)) r (UC (uW l1 ws))↔tV (l1.map nk) r ws:=by
  have h1:=lang_agree (nm:=nmW (uW l1 ws)) (AZ:=l1.map nk) _ r (Nat.le_refl _) hr ((uW l1 ws).map nk) (fun s hs=>⟨hs,by
    obtain ⟨x,hx,rfl⟩:=List.mem_map.mp hs;unfold uW at hx;obtain ⟨z,hz,rfl⟩:=List.mem_map.mp hx;obtain ⟨g1,g2⟩:=hrg z hz;obtain ⟨i,rfl⟩:=Int.eq_ofNat_of_zero_le g1;exact List.mem_of_getElem? (get_nk (by omega))⟩)
  have e1:((uW l1 ws).map nk).map (nameAt (nmW (uW l1 ws)))=UC (uW l1 ws):=(by unfold UC;rw [List.map_map];rfl);have e2:((uW l1 ws).map nk).map (nameAt (l1.map nk))=ws:=by
    unfold uW;rw [List.map_map,List.map_map];refine (List.map_congr_left (g:=id) fun z hz=>?_).trans (List.map_id ws);obtain ⟨g1,g2⟩:=hrg z hz;obtain ⟨i,rfl⟩:=Int.eq_ofNat_of_zero_le g1;exact name_num h (by omega)
  rw [e1,e2] at h1;exact h1
end
end Go.Proofs.Ytapinbmkjkbkkaa.Pu
namespace Go.Proofs.Ytapinbmkjkbkkaa.Pu
open Go.RowKit Go.Proofs.aC.bE Go.Proofs.aC.bV Go.Proofs.aC.bY Lb Mk
mutual
def KJ:gB→Prop
  |⟨_,_,ks⟩=>ks.length≤9223372036854775807∧JJ ks
def JJ:List gB→Prop
  |[]=>True
  |k :: ks=>KJ k∧JJ ks
end
theorem ND {k:gB} : ∀ {ks:List gB},JJ ks→k∈ks→KJ k
  |q :: ks,hw,h=>by
    rw [JJ] at hw;rcases List.mem_cons.mp h with rfl|h
    · exact hw.1
    · exact ND hw.2 h
theorem ZX : ∀ {ks:List gB},(∀ k∈ks,KJ k)→JJ ks
  |[],_=>by rw [JJ];trivial
  |k :: ks,h=>by
    rw [JJ];exact ⟨h k (List.mem_cons_self ..),ZX (fun q hq=>h q (List.mem_cons_of_mem _ hq))⟩
theorem wide_read (w:World) : ∀ (n:Nat) (A:Option Addr) (ks:List gB),SizeOf.sizeOf ks≤n→Kd.C k25 w A ks.length ks→JJ ks:=by
  intro n;induction n with
  |zero=>intro A ks h;cases ks <;> simp at h
  |succ n ih =>
    intro A ks h hC;refine ZX (fun k hk=>?_);obtain ⟨i,hi,rfl⟩:=List.getElem_of_mem hk;obtain ⟨ad,A2,c2,_,_,_,_,_,hg⟩:=mE hC (i:Int) (by omega) (by omega);rw [JH hi] at hg;have hs:=List.sizeOf_lt_of_mem hk;clear hk;generalize ks[i]=q at hg hs ⊢;obtain ⟨op,name,ls⟩:=q;rw [KJ];refine ⟨hg.2.1,ih A2 ls ?_ hg⟩;simp at hs;omega
theorem cou_any_l (op:Int) (name:ByteArray) (ks:List gB) (hl:ks.length≤9223372036854775807) (ih : ∀ k,k∈ks→∃ (n:Int) (K:Nat),∀ q,K≤q→bS.f q k.f0 k.f1 k.f2=some n) : ∀ (m i:Nat) (x:Int),ks.length - i=m →
    ∃ (n:Int) (K:Nat),∀ k,K≤k→bS.l0 k x (i:Int) op name ks=some n:=by
  intro m;induction m with
  |zero =>
    intro i x hm;refine ⟨x,1,fun k hk=>?_⟩;obtain ⟨k,rfl⟩ : ∃ q,k=q+1:=⟨k - 1,by omega⟩;rw [bS.l0,if_neg (by omega)]
  |succ m ihm =>
    intro i x hm;have hlt:i<ks.length:=(by omega);by_cases hx:x≤500
    · obtain ⟨n1,K1,h1⟩:=ih ks[i] (List.getElem_mem hlt)
      obtain ⟨n,K,g1⟩:=ihm (i+1) (wrap64 (x+n1)) (by omega);refine ⟨n,K+K1+1,fun k hk=>?_⟩;obtain ⟨k,rfl⟩ : ∃ q,k=q+1:=⟨k - 1,by omega⟩;rw [bS.l0,if_pos (by omega),if_pos hx,if_pos (by omega),JH hlt,h1 k (by omega),Option.bind_some,show wrap64 ((i:Int)+1)=((i+1:Nat):Int) by unfold wrap64;omega];exact g1 k (by omega)
    · refine ⟨x,1,fun k hk=>?_⟩
      obtain ⟨k,rfl⟩ : ∃ q,k=q+1:=⟨k - 1,by omega⟩;rw [bS.l0,if_pos (by omega),if_neg hx]
theorem cou_any : ∀ (n:Nat) (r:gB),SizeOf.sizeOf r≤n→KJ r→∃ (m:Int) (K:Nat),∀ k,K≤k→bS.f k r.f0 r.f1 r.f2=some m:=by
  intro n;induction n with
  |zero=>intro r h;cases r;simp at h
  |succ n ih =>
    intro r h hw;obtain ⟨op,name,ks⟩:=r;rw [KJ] at hw;obtain ⟨m,K,g⟩:=cou_any_l op name ks hw.1 (fun k hk=>ih k (by
      have:=List.sizeOf_lt_of_mem hk;simp at h;omega) (ND hw.2 hk)) ks.length 0 1 (by omega)
    refine ⟨m,K+1,fun k hk=>?_⟩;obtain ⟨k,rfl⟩ : ∃ q,k=q+1:=⟨k - 1,by omega⟩;show bS.f (k+1) op name ks=_;rw [bS.f];exact g k (by omega)
theorem dee_wide_l (op:Int) (name:ByteArray) (d:Nat) (hd:d<50) (ks:List gB) (hl:ks.length≤9223372036854775807) (ih : ∀ k,k∈ks→Dee k d) : ∀ (m i:Nat),ks.length - i=m→i≤ks.length →
    ∃ (b:Bool) (K:Nat),(∀ k,K≤k→bN.l0 k ((d+1:Nat):Int) (i:Int) op name ks=some b)∧(b=true↔zL (ks.drop i)≤d):=by
  intro m;induction m with
  |zero =>
    intro i hm hi;refine ⟨true,1,fun k hk=>?_,?_⟩
    · obtain ⟨k,rfl⟩ : ∃ q,k=q+1:=⟨k - 1,by omega⟩
      rw [bN.l0,if_neg (by omega)]
    · rw [List.drop_eq_nil_of_le (by omega),zL];simp
  |succ m ihm =>
    intro i hm hi;have hlt:i<ks.length:=(by omega);have hdrop:=List.drop_eq_getElem_cons hlt;obtain ⟨b1,K1,h1,h2⟩:=ih ks[i] (List.getElem_mem hlt);have step : ∀ k,K1≤k→bN.l0 (k+1) ((d+1:Nat):Int) (i:Int) op name ks=(if b1=true then (bN.l0 k ((d+1:Nat):Int) ((i+1:Nat):Int) op name ks) else (some false)):=by
      intro k hk;rw [bN.l0,if_pos (by omega),if_pos (by omega),JH hlt,show wrap64 (((d+1:Nat):Int) - 1)=(d:Int) by unfold wrap64;omega,h1 k hk,Option.bind_some,show wrap64 ((i:Int)+1)=((i+1:Nat):Int) by unfold wrap64;omega]
    cases b1 with
    |false =>
      refine ⟨false,K1+1,fun k hk=>?_,?_⟩
      · obtain ⟨k,rfl⟩ : ∃ q,k=q+1:=⟨k - 1,by omega⟩
        rw [step k (by omega),if_neg (by simp)]
      · rw [hdrop,vF]
        constructor
        · intro h;exact absurd h (by simp)
        · intro h
          exact absurd (h2.mpr (by omega)) (by simp)
    |true =>
      have h4:=h2.mp rfl;obtain ⟨b,K,g1,g2⟩:=ihm (i+1) (by omega) (by omega);refine ⟨b,K+K1+1,fun k hk=>?_,?_⟩
      · obtain ⟨k,rfl⟩ : ∃ q,k=q+1:=⟨k - 1,by omega⟩
        rw [step k (by omega),if_pos rfl];exact g1 k (by omega)
      · rw [g2,hdrop,vF]
        omega
theorem dee_wide : ∀ (n:Nat) (r:gB),SizeOf.sizeOf r≤n→KJ r→∀ d,d≤50→Dee r d:=by
  intro n;induction n with
  |zero=>intro r h;cases r;simp at h
  |succ n ih =>
    intro r h hw d hd;obtain ⟨op,name,ks⟩:=r;rw [KJ] at hw;cases d with
    |zero =>
      refine ⟨false,1,fun k hk=>?_,?_⟩
      · obtain ⟨k,rfl⟩ : ∃ q,k=q+1:=⟨k - 1,by omega⟩
        show bN.f (k+1) op name ks ((0:Nat):Int)=_;rw [bN.f];exact if_pos rfl
      · rw [R9];simp
    |succ d =>
      obtain ⟨b,K,g1,g2⟩:=dee_wide_l op name d (by omega) ks hw.1 (fun k hk=>ih k (by
        have:=List.sizeOf_lt_of_mem hk;simp at h;omega) (ND hw.2 hk) d (by omega)) ks.length 0 (by omega) (by omega)
      refine ⟨b,K+1,fun k hk=>?_,?_⟩
      · obtain ⟨k,rfl⟩ : ∃ q,k=q+1:=⟨k - 1,by omega⟩
        show bN.f (k+1) op name ks ((d+1:Nat):Int)=_;rw [bN.f,if_neg (by omega)];exact g1 k (by omega)
      · rw [g2,R9,List.drop_zero]
        omega
theorem check_wide (r:gB) (hw:KJ r) : ∃ K,∀ k,K≤k→sS k r.f0 r.f1 r.f2=some (ZE r)∧bT.f k r.f0 r.f1 r.f2=some (ZE r):=by
  by_cases hd:dep r≤50
  · exact check_same r (by omega)
  · have hz:ZE r=71:=by unfold ZE;rw [if_neg (fun h=>hd h.2)]
    obtain ⟨n,b,K1,h1,h2,_⟩:=ZQ _ r (Nat.le_refl _) 1 (by omega);obtain ⟨m,K2,g1⟩:=cou_any _ r (Nat.le_refl _) hw;obtain ⟨b2,K3,f1,f2⟩:=dee_wide _ r (Nat.le_refl _) hw 50 (by omega);refine ⟨K1+K2+K3+1,fun k hk=>?_⟩;rw [hz];obtain ⟨k,rfl⟩ : ∃ q,k=q+1:=⟨k - 1,by omega⟩;constructor
    · unfold sS
      have e:dQ.f (k+1) r.f0 r.f1 r.f2 1=some (n,b):=h1 (k+1) (by omega);rw [e,Option.map_some];have hb : ¬ b=true:=fun hb=>hd (by have:=(h2.mp hb).2;omega);exact congrArg some (if_neg hb)
    · unfold bT.f
      rw [g1 (k+1) (by omega),Option.bind_some];by_cases hm:m > 500
      · rw [if_pos hm,bT.j0,if_pos rfl]
      · have e2:bN.f (k+1) r.f0 r.f1 r.f2 50=some b2:=f1 (k+1) (by omega)
        have hb : ¬ b2=true:=fun hb=>hd (f2.mp hb);rw [if_neg hm,e2,Option.bind_some,show (!b2)=true by simpa using hb,bT.j0,if_pos rfl]
end Go.Proofs.Ytapinbmkjkbkkaa.Pu
namespace Go.Proofs.Ytapinbmkjkbkkaa.Mk
open Go.RowKit Go.Proofs.aC.bE Go.Proofs.aC.bV Go.Proofs.aC.bY Lb Pu
noncomputable def rB (r:gB) (l1:List ByteArray):RS:=zA (l1.map nk) (wW (dC l1.length)) r 0 1 (2,[],false)
noncomputable def gW.f (k:Nat) (aM:Int) (aJ:ByteArray) (bQ:List gB) (l1:List ByteArray):Option (Int × Int × Int × Int × List gV × Int) :=
  (jL.f k aM aJ bQ l1).bind fun e =>
    if e=0 then (if cnt ⟨aM,aJ,bQ⟩≤100000∧gX ⟨aM,aJ,bQ⟩=true∧l1.length≤4096 then
      (if Over (rB ⟨aM,aJ,bQ⟩ l1)=true then some (0,0,0,0,[],3) else some ((rB ⟨aM,aJ,bQ⟩ l1).1,(l1.length:Int),0,1,(rB ⟨aM,aJ,bQ⟩ l1).2.1,0)) else none)
    else some (0,0,0,0,[],e)
set_option maxRecDepth 100000 in
set_option maxHeartbeats 6400000 in
theorem gW.calls (k:Nat) (aM:Int) (aJ:ByteArray) (jF:Option Addr) (iY:Nat) (bQ:List gB) (A1:Option Addr) (c1:Nat) (l1:List ByteArray) (r1 r2 r3 r4:Int) (r5:List gV) (r6:Int) (w:World) (mI:Kd.C k25 w jF bQ.length bQ) (mJ:bQ.length≤iY) (hr1:Kd.C Kd.string w A1 l1.length l1) (hc1:l1.length≤c1) (h:gW.f k aM aJ bQ l1=some (r1,r2,r3,r4,r5,r6)) :
    Calls Try.prog 12 #[.agg #[.int .i64 aM,.string aJ,.slice jF bQ.length iY],.slice A1 l1.length c1] w fun e w'=>∃ v,e = .returned (.tuple #[.agg #[.int .i64 r1,.int .i64 r2,.int .i64 r3,.int .i64 r4,v],.int .i64 r6])∧xP.R 78 w' w.heap.size (fun _=>True) v r5∧Below w.heap.size w w':=by
  obtain ⟨e,he,h⟩:=Option.bind_eq_some_iff.mp h;have P6:=aA.mk mI;have HC0:=aA.mk mJ;have HR1:=aA.mk hr1;have SH:=aA.mk hc1;have HE:=aA.mk he;have HH:=aA.mk h;obtain ⟨w2,hw2⟩ : ∃ w2,w2=((w.alloc (.cells #[.int .i64 aM,.string aJ,.slice jF bQ.length iY] 25)).alloc (.cells #[.int .i64 0,.int .i64 0,.int .i64 0,.int .i64 0,.slice none 0 0] 31)):=⟨_,rfl⟩;have hB2:Below w.heap.size w w2:=(by rw [hw2];exact aN (aN (Below.refl _ _) _) _);have HB2:=aA.mk hB2;have BX:aA (w2.heap[w.heap.size]?=some (.cells #[.int .i64 aM,.string aJ,.slice jF bQ.length iY] 25 (0,0))):=⟨by rw [hw2];exact bH (dX _ _) _⟩;have BZ:aA (w2.heap[w.heap.size+1]?=some (.cells #[.int .i64 0,.int .i64 0,.int .i64 0,.int .i64 0,.slice none 0 0] 31 (0,0))):=⟨by
    rw [hw2];have e:=dX (w.alloc (.cells #[.int .i64 aM,.string aJ,.slice jF bQ.length iY] 25)) (.cells #[.int .i64 0,.int .i64 0,.int .i64 0,.int .i64 0,.slice none 0 0] 31);simpa using e⟩
  have hx0:=(aD BX.out 0).trans rfl;have hx1:=(aD BX.out 1).trans rfl;have hx2:=(aD BX.out 2).trans rfl;clear mI mJ hr1 hc1 he h hB2;go_enter Try.func12,Try.ntmps12;go_upto_region 1 with (fail)
  rw [←hw2];clear hw2;go_wp2_with (fail)
  go_at_call 37;refine (jL.calls k aM aJ _ _ bQ _ _ l1 e _ (Kd.dJ P6.out HB2.out) HC0.out (Kd.dJ HR1.out HB2.out) SH.out HE.out).mono ?_;rintro e' w3 ⟨rfl,hb3⟩;have HB3:=aA.mk (bU HB2.out HB2.out.size hb3);have l5:=aA.mk (bK BX.out hb3);have BZ3:=aA.mk (bK BZ.out hb3);clear hx0 hx1 hx2 BX BZ hb3 HB2;have hg:w.heap.size≤w.heap.size+1:=Nat.le_succ _;have HG:=aA.mk hg;clear hg;by_cases hz:e=0
  · subst hz
    have hx0:=(aD l5.out 0).trans rfl;have hx1:=(aD l5.out 1).trans rfl;have hx2:=(aD l5.out 2).trans rfl;have h:=HH.out;rw [if_pos rfl] at h;by_cases hcc:cnt ⟨aM,aJ,bQ⟩≤100000∧gX ⟨aM,aJ,bQ⟩=true∧l1.length≤4096
    · rw [if_pos hcc] at h
      have H2:=aA.mk h;have HCC:=aA.mk hcc;clear h HH hcc;go_wp2_with (fail)
      go_at_call 38;refine (NF ⟨aM,aJ,bQ⟩ (rmake_all HCC.out.2.2 _ _ (Nat.le_refl _) HCC.out.2.1 HCC.out.1) HCC.out.1 _ _ _ _ _ (Kd.dJ HR1.out HB3.out) SH.out (Kd.dJ P6.out HB3.out) HC0.out).mono ?_;rintro e' w5 hf;have hf:ZY l1.length w3 (rB ⟨aM,aJ,bQ⟩ l1) e' w5:=hf;have h:=H2.out;generalize hav:rB ⟨aM,aJ,bQ⟩ l1=a at hf h;have HAV:=aA.mk hav;unfold ZY at hf;clear hx0 hx1 hx2 hav l5 H2;by_cases hov:Over a=true
      · rw [if_pos hov] at hf h
        obtain ⟨rfl,hb5⟩:=hf;obtain ⟨⟩:=h;have DC:=aA.mk (bU HB3.out HB3.out.size hb5);have X7:=aA.mk (bK BZ3.out hb5);have hd0 : ∀ o:Obj,(w5.alloc o).cell? ⟨w.heap.size+1,0,none⟩=some (.int .i64 0):=fun o=>(aD (bH X7.out o) 0).trans rfl;have hd1 : ∀ o:Obj,(w5.alloc o).cell? ⟨w.heap.size+1,1,none⟩=some (.int .i64 0):=fun o=>(aD (bH X7.out o) 1).trans rfl;have hd2 : ∀ o:Obj,(w5.alloc o).cell? ⟨w.heap.size+1,2,none⟩=some (.int .i64 0):=fun o=>(aD (bH X7.out o) 2).trans rfl;have hd3 : ∀ o:Obj,(w5.alloc o).cell? ⟨w.heap.size+1,3,none⟩=some (.int .i64 0):=fun o=>(aD (bH X7.out o) 3).trans rfl;have hd4 : ∀ o:Obj,(w5.alloc o).cell? ⟨w.heap.size+1,4,none⟩=some (.slice none 0 0):=fun o=>(aD (bH X7.out o) 4).trans rfl;have hf0 : ∀ o:Obj,(w5.alloc o).frozen? ⟨w.heap.size+1,0,none⟩=false:=fun o=>bF (bH X7.out o) 0;have hf1 : ∀ o:Obj,(w5.alloc o).frozen? ⟨w.heap.size+1,1,none⟩=false:=fun o=>bF (bH X7.out o) 1;have hf2 : ∀ o:Obj,(w5.alloc o).frozen? ⟨w.heap.size+1,2,none⟩=false:=fun o=>bF (bH X7.out o) 2;have hf3 : ∀ o:Obj,(w5.alloc o).frozen? ⟨w.heap.size+1,3,none⟩=false:=fun o=>bF (bH X7.out o) 3;have hf4 : ∀ o:Obj,(w5.alloc o).frozen? ⟨w.heap.size+1,4,none⟩=false:=fun o=>bF (bH X7.out o) 4;clear hb5 BZ3 hov;go_wp2;refine bodyPost_ret (v:=.tuple #[.agg #[.int .i64 0,.int .i64 0,.int .i64 0,.int .i64 0,.slice none 0 0],.int .i64 3]) (by simp [results,Try.results12,go_sem,hd0,hd1,hd2,hd3,hd4]) rfl ?_;exact ⟨_,rfl,Kd.kJ _ _ _ _ _,BJ (aN DC.out _) HG.out _ _ _ _ _⟩
      · rw [if_neg hov] at hf h
        obtain ⟨v,rfl,hR,hb5⟩:=hf;obtain ⟨⟩:=h;have DC:=aA.mk (bU HB3.out HB3.out.size hb5);have X7:=aA.mk (bK BZ3.out hb5);obtain ⟨Av,cv,rfl⟩:=Kd.dY hR;have HRV:=aA.mk (show xP.R 78 w5 w.heap.size (fun _=>True) (.slice Av a.2.1.length cv) a.2.1 from Kd.iH hR HB3.out.size);have hd0 : ∀ o:Obj,(w5.alloc o).cell? ⟨w.heap.size+1,0,none⟩=some (.int .i64 0):=fun o=>(aD (bH X7.out o) 0).trans rfl;have hd1 : ∀ o:Obj,(w5.alloc o).cell? ⟨w.heap.size+1,1,none⟩=some (.int .i64 0):=fun o=>(aD (bH X7.out o) 1).trans rfl;have hd2 : ∀ o:Obj,(w5.alloc o).cell? ⟨w.heap.size+1,2,none⟩=some (.int .i64 0):=fun o=>(aD (bH X7.out o) 2).trans rfl;have hd3 : ∀ o:Obj,(w5.alloc o).cell? ⟨w.heap.size+1,3,none⟩=some (.int .i64 0):=fun o=>(aD (bH X7.out o) 3).trans rfl;have hd4 : ∀ o:Obj,(w5.alloc o).cell? ⟨w.heap.size+1,4,none⟩=some (.slice none 0 0):=fun o=>(aD (bH X7.out o) 4).trans rfl;have hf0 : ∀ o:Obj,(w5.alloc o).frozen? ⟨w.heap.size+1,0,none⟩=false:=fun o=>bF (bH X7.out o) 0;have hf1 : ∀ o:Obj,(w5.alloc o).frozen? ⟨w.heap.size+1,1,none⟩=false:=fun o=>bF (bH X7.out o) 1;have hf2 : ∀ o:Obj,(w5.alloc o).frozen? ⟨w.heap.size+1,2,none⟩=false:=fun o=>bF (bH X7.out o) 2;have hf3 : ∀ o:Obj,(w5.alloc o).frozen? ⟨w.heap.size+1,3,none⟩=false:=fun o=>bF (bH X7.out o) 3;have hf4 : ∀ o:Obj,(w5.alloc o).frozen? ⟨w.heap.size+1,4,none⟩=false:=fun o=>bF (bH X7.out o) 4;clear hb5 BZ3 hov hR HAV;go_wp2;refine bodyPost_ret (v:=.tuple #[.agg #[.int .i64 a.1,.int .i64 (l1.length:Int),.int .i64 0,.int .i64 1,.slice Av a.2.1.length cv],.int .i64 0]) (by simp [results,Try.results12,go_sem,hd0,hd1,hd2,hd3,hd4]) rfl ?_;exact ⟨_,rfl,(xQ _ _ (xQ _ _ (xQ _ _ (xQ _ _ (xQ _ _ ⟨Kd.nY HRV.out _,_,bH X7.out _⟩))))).1,BJ (aN DC.out _) HG.out _ _ _ _ _⟩
    · rw [if_neg hcc] at h
      exact absurd h (by simp)
  · have hz0:(e==0)=false:=beq_eq_false_iff_ne.mpr hz
    have hz1:(e != 0)=true:=bne_iff_ne.mpr hz;have h:=HH.out;rw [if_neg hz] at h;obtain ⟨⟩:=h;have hd0:=(aD BZ3.out 0).trans rfl;have hd1:=(aD BZ3.out 1).trans rfl;have hd2:=(aD BZ3.out 2).trans rfl;have hd3:=(aD BZ3.out 3).trans rfl;have hd4:=(aD BZ3.out 4).trans rfl;have hf0:=bF BZ3.out 0;have hf1:=bF BZ3.out 1;have hf2:=bF BZ3.out 2;have hf3:=bF BZ3.out 3;have hf4:=bF BZ3.out 4;clear hz HH l5;go_wp2;refine bodyPost_ret (v:=.tuple #[.agg #[.int .i64 0,.int .i64 0,.int .i64 0,.int .i64 0,.slice none 0 0],.int .i64 r6]) (by simp [results,Try.results12,go_sem,hd0,hd1,hd2,hd3,hd4]) rfl ?_;exact ⟨_,rfl,Kd.kJ _ _ _ _ _,BJ HB3.out HG.out _ _ _ _ _⟩
end Go.Proofs.Ytapinbmkjkbkkaa.Mk
namespace Go.Proofs.Ytapinbmkjkbkkaa.Mk
open Go.RowKit Go.Proofs.aC.bE Go.Proofs.aC.bV Go.Proofs.aC.bY Lb Pu
structure LawOk (k:Nat) (r:gB) (l1:List ByteArray) (ws:List Int) (x1 x2 x3 x4:Int) (x5:List gV) (x6:Int):Prop where
  nb:pE.f k r.f0 r.f1 r.f2 l1=some (x1,x2,x3,x4,x5,x6)
  rb:gW.f k r.f0 r.f1 r.f2 l1=some (x1,x2,x3,x4,x5,x6)
  sm:bW.f k x1 x2 x3 x4 x5 x1 x2 x3 x4 x5=some true
  last:(∀ s∈ws.take 30,0≤s∧s<l1.length)→x6=0→∃ b u,jX.f k x1 x2 x3 x4 x5 (ws.take 30)=some (b,0)∧eF.f k l1 (ws.take 30)=some u∧kK.f k r.f0 r.f1 r.f2 u=some (b,0)
set_option maxRecDepth 100000 in
set_option maxHeartbeats 6400000 in
theorem law_builds (k:Nat) (r:gB) (l1:List ByteArray) (ws:List Int) (x1 x2 x3 x4:Int) (x5:List gV) (x6:Int) (H:LawOk k r l1 ws x1 x2 x3 x4 x5 x6) (w:World) (A:Option Addr) (c:Nat) (A1:Option Addr) (c1:Nat) (A2:Option Addr) (c2:Nat)
    (hr:Kd.C k25 w A r.f2.length r.f2) (hc:r.f2.length≤c) (h1:Kd.C Kd.string w A1 l1.length l1) (hc1:l1.length≤c1) (h2:Kd.C (Kd.int .i64) w A2 ws.length ws) (hc2:ws.length≤c2) :
    Calls Try.prog 3 #[.agg #[.int .i64 r.f0,.string r.f1,.slice A r.f2.length c],.slice A1 l1.length c1,.slice A2 ws.length c2] w fun e w'=>e = .returned (.bool true)∧Below w.heap.size w w':=by
  obtain ⟨W1,hW1⟩ : ∃ W1,W1=w.alloc (.cells #[.int .i64 r.f0,.string r.f1,.slice A r.f2.length c] 25):=⟨_,rfl⟩;have hlm:l1.length≤9223372036854775807:=h1.2.1;have hwm:ws.length≤9223372036854775807:=h2.2.1;have HH:=aA.mk H;have HR:=aA.mk hr;have HC:=aA.mk hc;have HL:=aA.mk h1;have HLC:=aA.mk hc1;have HW:=aA.mk h2;have HWC:=aA.mk hc2;have vG:aA (Below w.heap.size w W1):=⟨by rw [hW1];exact aN (Below.refl _ _) _⟩;have BX:aA (W1.heap[w.heap.size]?=some (.cells #[.int .i64 r.f0,.string r.f1,.slice A r.f2.length c] 25 (0,0))):=⟨by rw [hW1];exact dX _ _⟩;clear hr hc h1 hc1 h2 hc2 H;go_enter Try.func3,Try.ntmps3;go_upto_region 1 with (fail)
  rw [←hW1];clear hW1;go_wp2_with (fail)
  go_at_call 10;refine (ZZ W1).mono ?_;rintro e w2 ⟨rfl,hb⟩;have HB2:=aA.mk (bU vG.out vG.out.size hb);have qJ:=aA.mk (bK BX.out hb);have hx0:=(aD qJ.out 0).trans rfl;have hx1:=(aD qJ.out 1).trans rfl;have hx2:=(aD qJ.out 2).trans rfl;clear hb BX vG;go_wp2_with (fail)
  go_at_call 11;refine (pE.calls k r.f0 r.f1 _ _ r.f2 _ _ l1 x1 x2 x3 x4 x5 x6 _ (Kd.dJ HR.out HB2.out) HC.out (Kd.dJ HL.out HB2.out) HLC.out HH.out.nb).mono ?_;rintro e w3 ⟨v,rfl,hv,hb⟩;obtain ⟨Av,cv,rfl⟩:=Kd.dY hv;have hx5:x5.length≤9223372036854775807:=(Kd.cO hv).2.2.2.1;have HB3:=aA.mk (bU HB2.out HB2.out.size hb);have l5:=aA.mk (bK qJ.out hb);have HV3:=aA.mk (Kd.cO hv).2;clear hx0 hx1 hx2 qJ HB2 hb hv;obtain ⟨w4,hw4⟩ : ∃ w4,w4=w3.alloc (.cells #[.int .i64 x1,.int .i64 x2,.int .i64 x3,.int .i64 x4,.slice Av x5.length cv] 31):=⟨_,rfl⟩;have wV:aA (Below w.heap.size w w4):=⟨by rw [hw4];exact aN HB3.out _⟩;have GV:aA (w4.heap[w.heap.size]?=some (.cells #[.int .i64 r.f0,.string r.f1,.slice A r.f2.length c] 25 (0,0))):=⟨by rw [hw4];exact bH l5.out _⟩;have BD4:aA (w4.heap[w3.heap.size]?=some (.cells #[.int .i64 x1,.int .i64 x2,.int .i64 x3,.int .i64 x4,.slice Av x5.length cv] 31 (0,0))):=⟨by rw [hw4];exact dX _ _⟩;have HV4:aA (Kd.C xP w4 Av x5.length x5):=⟨by rw [hw4];exact Kd.dJ HV3.out.2 (aN (Below.refl _ _) _)⟩;have HVC:aA (x5.length≤cv):=⟨HV3.out.1⟩;have hx0:=(aD GV.out 0).trans rfl;have hx1:=(aD GV.out 1).trans rfl;have hx2:=(aD GV.out 2).trans rfl;go_upto_region 4 with (fail)
  rw [←hw4];clear hw4 HV3 HB3 l5;go_wp2_with (fail)
  go_at_call 12;refine (gW.calls k r.f0 r.f1 _ _ r.f2 _ _ l1 x1 x2 x3 x4 x5 x6 _ (Kd.dJ HR.out wV.out) HC.out (Kd.dJ HL.out wV.out) HLC.out HH.out.rb).mono ?_;rintro e w5 ⟨v,rfl,hv,hb⟩;obtain ⟨Au,cu,rfl⟩:=Kd.dY hv;have HU5:=aA.mk (Kd.cO hv).2;obtain ⟨w6,hw6⟩ : ∃ w6,w6=w5.alloc (.cells #[.int .i64 x1,.int .i64 x2,.int .i64 x3,.int .i64 x4,.slice Au x5.length cu] 31):=⟨_,rfl⟩;have SK:aA (Below w.heap.size w w6):=⟨by rw [hw6];exact aN (bU wV.out wV.out.size hb) _⟩;have BX6:aA (w6.heap[w.heap.size]?=some (.cells #[.int .i64 r.f0,.string r.f1,.slice A r.f2.length c] 25 (0,0))):=⟨by rw [hw6];exact bH (bK GV.out hb) _⟩;have BD6:aA (w6.heap[w3.heap.size]?=some (.cells #[.int .i64 x1,.int .i64 x2,.int .i64 x3,.int .i64 x4,.slice Av x5.length cv] 31 (0,0))):=⟨by rw [hw6];exact bH (bK BD4.out hb) _⟩;have BU6:aA (w6.heap[w5.heap.size]?=some (.cells #[.int .i64 x1,.int .i64 x2,.int .i64 x3,.int .i64 x4,.slice Au x5.length cu] 31 (0,0))):=⟨by rw [hw6];exact dX _ _⟩;have HV6:aA (Kd.C xP w6 Av x5.length x5):=⟨by rw [hw6];exact Kd.dJ (Kd.dJ HV4.out hb) (aN (Below.refl _ _) _)⟩;have HU6:aA (Kd.C xP w6 Au x5.length x5):=⟨by rw [hw6];exact Kd.dJ HU5.out.2 (aN (Below.refl _ _) _)⟩;have HUC:aA (x5.length≤cu):=⟨HU5.out.1⟩;clear hx0 hx1 hx2 hb hv HV4 BD4 GV wV HU5;have hd0:=(aD BD6.out 0).trans rfl;have hd1:=(aD BD6.out 1).trans rfl;have hd2:=(aD BD6.out 2).trans rfl;have hd3:=(aD BD6.out 3).trans rfl;have hd4:=(aD BD6.out 4).trans rfl;have hu0:=(aD BU6.out 0).trans rfl;have hu1:=(aD BU6.out 1).trans rfl;have hu2:=(aD BU6.out 2).trans rfl;have hu3:=(aD BU6.out 3).trans rfl;have hu4:=(aD BU6.out 4).trans rfl;go_upto_region 5 with (fail)
  rw [←hw6];clear hw6;go_wp2_with (fail)
  go_at_call 13;refine (bW.calls k x1 x2 x3 x4 _ _ x5 x1 x2 x3 x4 _ _ x5 true _ HV6.out HVC.out HU6.out HUC.out HH.out.sm).mono ?_;rintro e w7 ⟨rfl,hb⟩;have HB7:=aA.mk (bU SK.out SK.out.size hb);have BX7:=aA.mk (bK BX6.out hb);have BD7:=aA.mk (bK BD6.out hb);have HV7:=aA.mk (Kd.dJ HV6.out hb);clear hd0 hd1 hd2 hd3 hd4 hu0 hu1 hu2 hu3 hu4 hb SK BX6 BD6 BU6 HV6 HU6;go_upto_if 41 with (fail);go_cut [2] from 42 to 43 (fun v2 wx=>∃ A3:Option Addr,v2 = .slice A3 (ws.take 30).length c2∧aA (Kd.C (Kd.int .i64) w A3 (ws.take 30).length (ws.take 30))∧wx=w7)
  case first =>
    by_cases h30:30<ws.length
    · obtain ⟨ad,had,_⟩:=Kd.qP HW.out 0 (by omega) (by omega)
      have hlt:(ws.take 30).length=30:=(by rw [List.length_take];omega);have hcc:30≤c2:=(by have:=HWC.out;omega);have hC3:=Kd.C_take HW.out (m:=30) (by omega);subst had;have HC3:=aA.mk hC3;have hd30:decide ((30:Int)<(ws.length:Int))=true:=decide_eq_true (by omega);clear hC3;go_wp2_with (fail)
      go_meet
      refine ⟨_,?_,HC3,rfl⟩;rw [hlt]
    · have hlt:ws.take 30=ws:=List.take_of_length_le (by omega)
      have hd30:decide ((30:Int)<(ws.length:Int))=false:=decide_eq_false (by omega);have HLT:=aA.mk hlt;clear hlt;go_wp2_with (fail)
      go_meet
      refine ⟨A2,?_,?_,rfl⟩
      · rw [HLT.out]
      · rw [HLT.out];exact HW
  case rest =>
    obtain ⟨A3,rfl,HW3,hwx⟩:=hcut;have hwx:=hwx.symm;subst hwx;obtain ⟨KV,hws3⟩ : ∃ KV,KV=ws.take 30:=⟨_,rfl⟩;have HLAST:aA ((∀ s∈KV,0≤s∧s<l1.length)→x6=0→∃ b u,jX.f k x1 x2 x3 x4 x5 KV=some (b,0)∧eF.f k l1 KV=some u∧kK.f k r.f0 r.f1 r.f2 u=some (b,0)):=⟨by rw [hws3];exact HH.out.last⟩;have hw3c:KV.length≤c2:=(by rw [hws3,List.length_take];have:=HWC.out;omega);have HW3C:=aA.mk hw3c;rw [←hws3] at HW3 ⊢;have h30:KV.length≤30:=(by rw [hws3,List.length_take];omega);clear hws3 hw3c HH HW;have HI0:aA (∀ j:Nat,j<0→0≤rd KV (j:Int)∧rd KV (j:Int)<(l1.length:Int)):=⟨fun j h=>absurd h (by omega)⟩;go_wp2_with (fail)
    go_loopg [11] KV.length (fun q v11 wr=>∃ i:Nat,i≤KV.length∧v11 = .int .i64 i∧q=KV.length - i∧aA (∀ j:Nat,j<i→0≤rd KV (j:Int)∧rd KV (j:Int)<(l1.length:Int))∧wr=w7)
    case atStart=>exact ⟨0,Nat.zero_le _,rfl,rfl,HI0,rfl⟩
    case round =>
      obtain ⟨i,hi,rfl,rfl,HI,rfl⟩:=hrel;clear HI0;by_cases hlt:i<KV.length
      · have hdi:decide ((i:Int)<(KV.length:Int))=true:=decide_eq_true (by omega)
        obtain ⟨ad,had,hx⟩:=Kd.qP (Kd.dJ HW3.out HB7.out) (i:Int) (by omega) (by omega);subst had;rw [Int.toNat_natCast] at hx;obtain ⟨z,hz⟩ : ∃ z,rd KV (i:Int)=z:=⟨_,rfl⟩;rw [hz] at hx;have HZ:=aA.mk hz;clear hz;by_cases hneg:z<0
        · have hdn:decide (z<0)=true:=decide_eq_true hneg
          go_wp2;go_ret;exact ⟨rfl,HB7.out⟩
        · have hdn:decide (z<0)=false:=decide_eq_false hneg
          by_cases hbig:(l1.length:Int)≤z
          · have hdb:decide ((l1.length:Int)≤z)=true:=decide_eq_true hbig
            go_wp2;go_ret;exact ⟨rfl,HB7.out⟩
          · have hdb:decide ((l1.length:Int)≤z)=false:=decide_eq_false hbig
            have HI2:aA (∀ j:Nat,j<i+1→0≤rd KV (j:Int)∧rd KV (j:Int)<(l1.length:Int)):=⟨fun j hj=>by
              by_cases e:j=i
              · subst e;rw [HZ.out];omega
              · exact HI.out j (by omega)⟩
            go_wp2;go_roundg (KV.length - (i+1))
            case measure=>omega
            case rel=>exact ⟨i+1,by omega,by go_num,rfl,HI2,rfl⟩
      · have hdi:decide ((i:Int)<(KV.length:Int))=false:=decide_eq_false (by omega)
        have HRNG:aA (∀ s∈KV,0≤s∧s<l1.length):=⟨fun s hs=>by
          obtain ⟨j,hj,rfl⟩:=List.getElem_of_mem hs;have:=HI.out j (by omega);unfold rd at this;simpa [List.getElem?_eq_getElem hj] using this⟩
        by_cases hz:x6=0
        · subst hz
          obtain ⟨b,u,hrun,hwords,hmatch⟩:=HLAST.out HRNG.out rfl;have HRUN:=aA.mk hrun;have HWORDS:=aA.mk hwords;have HMATCH:=aA.mk hmatch;have hd0:=(aD BD7.out 0).trans rfl;have hd1:=(aD BD7.out 1).trans rfl;have hd2:=(aD BD7.out 2).trans rfl;have hd3:=(aD BD7.out 3).trans rfl;have hd4:=(aD BD7.out 4).trans rfl;clear hrun hwords hmatch;go_wp2_with (fail)
          go_at_call 14;refine (jX.calls k x1 x2 x3 x4 _ _ x5 _ _ KV b 0 _ HV7.out HVC.out (Kd.dJ HW3.out HB7.out) HW3C.out HRUN.out).mono ?_;rintro e w8 ⟨rfl,hb⟩;have HB8:=aA.mk (bU HB7.out HB7.out.size hb);have BX8:=aA.mk (bK BX7.out hb);clear hd0 hd1 hd2 hd3 hd4 hb BX7 BD7 HV7;have hx0:=(aD BX8.out 0).trans rfl;have hx1:=(aD BX8.out 1).trans rfl;have hx2:=(aD BX8.out 2).trans rfl;go_upto_region 17 with (fail)
          go_cut [14,15] from 72 to 79 (fun v14 v15 wx=>v14 = .bool b∧v15 = .int .i64 0∧aA (Below w.heap.size w wx))
          case first =>
            go_region_law (go_simp;first|(go_at_call 16;refine (eF.calls k _ _ l1 _ _ KV u _ (Kd.dJ HL.out (by repeat (first|exact HB8.out|apply aN|apply bB|apply bX))) HLC.out (Kd.dJ HW3.out (by repeat (first|exact HB8.out|apply aN|apply bB|apply bX))) HW3C.out HWORDS.out).mono ?_;rintro e w9 ⟨v,rfl,hR,hb⟩;obtain ⟨Ag,cg,rfl⟩:=Kd.dY hR;have HG:=aA.mk (Kd.cO hR).2;have HB9:=aA.mk (bU (show Below w.heap.size w _ from (by repeat (first|exact HB8.out|apply aN|apply bB|apply bX))) (Below.size (show Below w.heap.size w _ from (by repeat (first|exact HB8.out|apply aN|apply bB|apply bX)))) hb);have BX9:=aA.mk (bK (show _ from (by first|exact BX8.out|(simp;exact BX8.out))) hb);have hy0:=(aD BX9.out 0).trans rfl;have hy1:=(aD BX9.out 1).trans rfl;have hy2:=(aD BX9.out 2).trans rfl;clear hR hb)|(go_at_call 15;refine (kK.calls k r.f0 r.f1 _ _ r.f2 _ _ u b 0 _ (Kd.dJ HR.out (by repeat (first|exact HB9.out|apply aN|apply bB|apply bX))) HC.out (by first|exact HG.out.2|exact Kd.dJ HG.out.2 (by repeat (first|exact Below.refl _ _|apply aN|apply bB|apply bX))) HG.out.1 HMATCH.out).mono ?_;rintro e w10 ⟨rfl,hb⟩;have HB10:=aA.mk (bU (show Below w.heap.size w _ by repeat (first|exact HB9.out|apply aN|apply bB|apply bX)) (Below.size (show Below w.heap.size w _ by repeat (first|exact HB9.out|apply aN|apply bB|apply bX))) hb);clear hb))
            all_goals (go_wp2_with (fail);go_meet)
            all_goals exact ⟨rfl,rfl,⟨by repeat (first|exact HB10.out|apply aN|apply bB|apply bX)⟩⟩
          case rest =>
            obtain ⟨rfl,rfl,HBx⟩:=hcut;have hbb:(b==b)=true:=(by cases b <;> rfl);go_wp2;go_ret;exact ⟨rfl,HBx.out⟩
        · have hz0:(x6==0)=false:=beq_eq_false_iff_ne.mpr hz
          have hz1:(x6 != 0)=true:=bne_iff_ne.mpr hz;go_wp2;go_ret;exact ⟨rfl,HB7.out⟩
end Go.Proofs.Ytapinbmkjkbkkaa.Mk
namespace Go.Proofs.Ytapinbmkjkbkkaa.Pu
open Go.RowKit Go.Proofs.aC.bE Go.Proofs.aC.bV Go.Proofs.aC.bY Lb Mk Ls
theorem chE_zero {r:gB} (h:ZE r=0):cnt r≤500∧gX r=true:=by
  unfold ZE at h;by_cases h1:cnt r≤500∧dep r≤50
  · rw [if_pos h1] at h
    by_cases h2:gX r=true
    · exact ⟨h1.1,h2⟩
    · rw [if_neg h2] at h;exact absurd h (by decide)
  · rw [if_neg h1] at h;exact absurd h (by decide)
theorem NG {r:gB} {l1:List ByteArray} {k:Nat} (hk:10000<k) (h:bT.f k r.f0 r.f1 r.f2=some (ZE r)) :
    jL.f k r.f0 r.f1 r.f2 l1=some (if ZE r=0 then (if l1.length≤4096∧iU [] l1=true then 0 else 80) else ZE r):=by
  unfold jL.f;rw [h,Option.bind_some];by_cases hz:ZE r=0
  · rw [if_pos hz,if_pos hz,names_same k hk,Option.bind_some]
    by_cases hn:l1.length≤4096∧iU [] l1=true
    · rw [if_pos hn,if_pos rfl]
    · rw [if_neg hn,if_neg (by decide)]
  · rw [if_neg hz,if_neg hz]
theorem run_lang {r:gB} {l1:List ByteArray} {ws:List Int} (hns:l1.length≤4096) (hnm:iU [] l1=true) (hr:gX r=true) (hw:ws.length≤30) (hrg : ∀ s∈ws,0≤s∧s<l1.length) {s:St} (hs:R6 (l1.map nk) (nnC l1.length) r 0 1 (2,[])=some s) (hck:RA s.1 l1.length 0 1 s.2=0) :
    ∃ K b,(b=true↔tV (l1.map nk) r ws)∧∀ k,K≤k→jX.f k s.1 l1.length 0 1 s.2 ws=some (b,0):=by
  have hns':(l1.map nk).length≤4096:=(by rw [List.length_map];exact hns);have hnn:NNok (l1.map nk).length (nnC l1.length):=(by rw [List.length_map];exact nnC_ok hns);obtain ⟨m',F,h1,h2,h3,h4,h5,h6⟩:=mk_all hns' hnn _ r (Nat.le_refl _) hr 0 1 2 [] s (by omega) (by omega) (by omega) (by omega) (by simp) hs;subst h1;rw [List.nil_append] at hck;obtain ⟨m,ns,s0,e0,em,ens,es,ee,_,hs0,he0,A,_⟩:=ck_ok hck;obtain rfl:m'=m:=(by have:(m':Int)=m:=em;omega);obtain rfl:s0=0:=(by omega);obtain rfl:e0=1:=(by omega);have hok:AR (l1.length:Int) ws=true:=by
    unfold AR;rw [List.all_eq_true];intro x hx;have:=hrg x hx;rw [Bool.and_eq_true,decide_eq_true_iff,decide_eq_true_iff];exact this
  obtain ⟨K,b0,b',_,hH,_,hW,hrun⟩:=a_ (ns:=l1.length) A hs0 he0 (ws:=ws) (by omega) hck hok;refine ⟨K,b'.getD 1 false,?_,fun k hk=>(hrun k hk).1⟩;have hp:=d_ hs0 hH hW 1;have hv:VW (l1.map nk).length ws:=⟨by rw [List.length_map];exact hok,by omega⟩;exact hp.trans (h6 ws hv)
theorem NH (r:gB) (hd:KJ r) (l1:List ByteArray) (hsz : ∀ s∈l1,s.size≤maxLen) (ws:List Int) : ∃ k x1 x2 x3 x4 x5 x6,LawOk k r l1 ws x1 x2 x3 x4 x5 x6:=by
  have hall:l1.all (fun s=>decide (s.size≤maxLen))=true:=by
    rw [List.all_eq_true];exact fun s hs=>decide_eq_true (hsz s hs)
  have heta:(⟨r.f0,r.f1,r.f2⟩:gB)=r:=(by cases r;rfl);obtain ⟨K1,h1⟩:=check_wide r hd;obtain ⟨K2,h2⟩:=same_f (a0:=0) (a1:=0) (a2:=0) (a3:=0) (l:=([]:List gV)) (by simp);have hbad : ∀ e:Int,e≠0→(∀ k,K1≤k→pE.f k r.f0 r.f1 r.f2 l1=some (0,0,0,0,[],e))→(∀ k,K1+10001≤k→gW.f k r.f0 r.f1 r.f2 l1=some (0,0,0,0,[],e))→∃ k x1 x2 x3 x4 x5 x6,LawOk k r l1 ws x1 x2 x3 x4 x5 x6:=by
    intro e he g1 g2;exact ⟨K1+K2+10001,0,0,0,0,[],e,g1 _ (by omega),g2 _ (by omega),h2 _ (by omega),fun _ hz=>absurd hz he⟩
  by_cases hz:ZE r=0
  · obtain ⟨hc,hr⟩:=chE_zero hz
    by_cases hn:l1.length≤4096∧iU [] l1=true
    · have hask : ∀ k,K1+10001≤k→jL.f k r.f0 r.f1 r.f2 l1=some 0:=fun k hk=>by
        rw [NG (by omega) (h1 k (by omega)).2,if_pos hz,if_pos hn]
      have DI:=sim_all (nm:=l1.map nk) (d:=dC l1.length) (fun a=>(ZN hn.1 a).1) _ r (Nat.le_refl _) 0 1 (2,[]) ⟨by decide,by simp⟩;have DI:Sim false (R6 (l1.map nk) (nnC l1.length) r 0 1 (2,[])) (rB r l1):=DI;cases hm:R6 (l1.map nk) (nnC l1.length) r 0 1 (2,[]) with
      |none =>
        rw [hm] at DI;have hov:Over (rB r l1)=true:=DI;refine hbad 3 (by decide) (fun k hk=>?_) (fun k hk=>?_)
        · unfold pE.f
          rw [if_pos hall,(h1 k hk).1,Option.map_some,if_pos hz,if_pos hn,heta];unfold qO;rw [hm]
        · unfold gW.f
          rw [hask k hk,Option.bind_some,if_pos rfl,heta,if_pos ⟨by omega,hr,hn.1⟩,if_pos hov]
      |some s =>
        rw [hm] at DI;obtain ⟨ha,hsm⟩:=DI;have hov:Over (rB r l1)=false:=(by rw [ha];exact l6 hsm);obtain ⟨_,hck,_,_⟩:=r_ok l1 hn.1 r hr (rB r l1) rfl hov;rw [ha] at hck;obtain ⟨K3,h3⟩:=same_f (a0:=s.1) (a1:=(l1.length:Int)) (a2:=0) (a3:=1) (l:=s.2) hsm.2;have hnb : ∀ k,K1≤k→pE.f k r.f0 r.f1 r.f2 l1=some (s.1,(l1.length:Int),0,1,s.2,0):=fun k hk=>by
          unfold pE.f;rw [if_pos hall,(h1 k hk).1,Option.map_some,if_pos hz,if_pos hn,heta];unfold qO;rw [hm]
        have hrb : ∀ k,K1+10001≤k→gW.f k r.f0 r.f1 r.f2 l1=some (s.1,(l1.length:Int),0,1,s.2,0):=fun k hk=>by
          unfold gW.f;rw [hask k hk,Option.bind_some,if_pos rfl,heta,if_pos ⟨by omega,hr,hn.1⟩,if_neg (by rw [hov];simp),ha]
        by_cases hrg : ∀ z∈ws.take 30,0≤z∧z<l1.length
        · obtain ⟨K4,b,hb,h4⟩:=run_lang hn.1 hn.2 hr (by rw [List.length_take];omega) hrg hm hck
          refine ⟨K1+K3+K4+10001,_,_,_,_,_,_,hnb _ (by omega),hrb _ (by omega),h3 _ (by omega),fun _ _=>⟨b,uW l1 (ws.take 30),h4 _ (by omega),words_f (by rw [List.length_take];omega) hrg _ (by omega),?_⟩⟩;unfold kK.f;have hul:(uW l1 (ws.take 30)).length≤100:=(by unfold uW;rw [List.length_map,List.length_take];omega);rw [(h1 _ (by omega)).2,Option.bind_some,if_pos hz,if_neg (by omega),heta,if_pos hr];have hlw:=lang_words hr hn.2 hrg;have : @decide (tV (nmW (uW l1 (ws.take 30))) r (UC (uW l1 (ws.take 30)))) (Classical.propDecidable _)=b:=by
            cases hb':b with
            |true=>exact @decide_eq_true _ (Classical.propDecidable _) (hlw.mpr (hb.mp hb'))
            |false=>exact @decide_eq_false _ (Classical.propDecidable _) (fun h=>by have:=hb.mpr (hlw.mp h);rw [hb'] at this;exact absurd this (by simp))
          rw [this]
        · exact ⟨K1+K3+10001,_,_,_,_,_,_,hnb _ (by omega),hrb _ (by omega),h3 _ (by omega),fun h _=>absurd h hrg⟩
    · refine hbad 80 (by decide) (fun k hk=>?_) (fun k hk=>?_)
      · unfold pE.f
        rw [if_pos hall,(h1 k hk).1,Option.map_some,if_pos hz,if_neg hn]
      · unfold gW.f
        rw [NG (by omega) (h1 k (by omega)).2,if_pos hz,if_neg hn,Option.bind_some,if_neg (by decide)]
  · refine hbad (ZE r) hz (fun k hk=>?_) (fun k hk=>?_)
    · unfold pE.f
      rw [if_pos hall,(h1 k hk).1,Option.map_some,if_neg hz]
    · unfold gW.f
      rw [NG (by omega) (h1 k (by omega)).2,if_neg hz,Option.bind_some,if_neg hz]
end Go.Proofs.Ytapinbmkjkbkkaa.Pu
