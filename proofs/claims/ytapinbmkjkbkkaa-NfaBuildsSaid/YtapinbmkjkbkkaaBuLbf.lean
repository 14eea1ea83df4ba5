import Derived.Test.YtapinbmkjkbkkaaBuLbx1
import Derived.Test.YtapinbmkjkbkkaaBuLbe
import Derived.Test.YtapinbmkjkbkkaaBuLbx18
import Derived.Test.YtapinbmkjkbkkaaBuP4
import Derived.Test.YtapinbmkjkbkkaaBuVi
namespace Go.Proofs.Ytapinbmkjkbkkaa.Pu
open Go.RowKit Go.Proofs.aC.bE Go.Proofs.aC.bV Go.Proofs.aC.bY Lb Mk
def R2 (m:Nat) (l:List gV):List (List Int)→List (List Bool)→Prop
  |[],[]=>True
  |B :: Bs,b :: bs=>X9 m B b∧Hand l b b∧R2 m l Bs bs
  |_,_=>False
section
variable {m : Nat} {l : List gV}
theorem r2_len : ∀ {sets:List (List Int)} {bs:List (List Bool)},R2 m l sets bs→sets.length=bs.length
  |[],[],_=>rfl
  |_ :: _,_ :: _,h=>by rw [List.length_cons,List.length_cons,r2_len h.2.2]
  |[],_ :: _,h=>h.elim
  |_ :: _,[],h=>h.elim
theorem r2_get : ∀ {sets:List (List Int)} {bs:List (List Bool)},R2 m l sets bs→∀ i,i<bs.length→X9 m (sets.getD i []) (bs.getD i [])∧Hand l (bs.getD i []) (bs.getD i [])
  |_ :: _,_ :: _,h,0,_=>⟨h.1,h.2.1⟩
  |_ :: _,_ :: _,h,i+1,hi=>by
    have:=r2_get h.2.2 i (by simpa using hi);simpa using this
  |[],[],_,i,hi=>by simp at hi
  |[],_ :: _,h,_,_=>h.elim
  |_ :: _,[],h,_,_=>h.elim
theorem r2_snoc {B:List Int} {b:List Bool} (hR:X9 m B b) (hH:Hand l b b) : ∀ {sets:List (List Int)} {bs:List (List Bool)},R2 m l sets bs→R2 m l (sets ++ [B]) (bs ++ [b])
  |[],[],_=>⟨hR,hH,trivial⟩
  |_ :: _,_ :: _,h=>⟨h.1,h.2.1,r2_snoc hR hH h.2.2⟩
  |[],_ :: _,h=>h.elim
  |_ :: _,[],h=>h.elim
theorem r2_idx {B:List Int} {b:List Bool} (hR:X9 m B b) : ∀ {sets:List (List Int)} {bs:List (List Bool)},R2 m l sets bs→(sets.map keyOf).idxOf (keyOf B)=bs.idxOf b∧(keyOf B∈sets.map keyOf↔b∈bs)
  |[],[],_=>by simp
  |B0 :: Bs,b0 :: bs,h=>by
    obtain ⟨i1,i2⟩:=r2_idx hR h.2.2;have hk:=key_inj h.1 hR;rw [List.map_cons,List.idxOf_cons,List.idxOf_cons,List.mem_cons,List.mem_cons,i1,i2];by_cases e:b0=b
    · have e':=hk.mpr e
      rw [e',e];simp
    · have e':keyOf B0≠keyOf B:=fun q=>e (hk.mp q)
      have n1:(keyOf B0==keyOf B)=false:=(by simpa using e');have n2:(b0==b)=false:=(by simpa using e);rw [n1,n2];refine ⟨rfl,?_⟩;constructor
      · rintro (q|q)
        · exact absurd q.symm e'
        · exact .inr q
      · rintro (q|q)
        · exact absurd q.symm e
        · exact .inr q
  |[],_ :: _,h=>h.elim
  |_ :: _,[],h=>h.elim
end
theorem SV {b:List Bool} : ∀ (bs:List (List Bool)) (p:Nat),p<bs.length→bs.getD p []=b→(∀ q,q<p→bs.getD q []≠b)→bs.idxOf b=p
  |x :: bs,0,_,h,_=>by
    have:x=b:=h;rw [this,List.idxOf_cons];simp
  |x :: bs,p+1,hp,h,hq=>by
    have hx:(x==b)=false:=by
      have:=hq 0 (by omega);simpa using this
    rw [List.idxOf_cons,hx,SV bs p (by simpa using hp) (by simpa using h) (fun q hq'=>by have:=hq (q+1) (by omega);simpa using this)];rfl
  |[],_,hp,_,_=>by simp at hp
theorem alike_l0 {a b:List Bool} (hl:a.length=b.length) (hm:a.length≤4096) : ∀ (d i:Nat),a.length - i=d→i≤a.length→∀ k,d<k→bM.l0 k a b (i:Int)=some (decide (a.drop i=b.drop i)):=by
  intro d;induction d with
  |zero =>
    intro i hd hi k hk;obtain ⟨k,rfl⟩ : ∃ q,k=q+1:=⟨k - 1,by omega⟩;simp only [bM.l0];rw [if_neg (by omega),List.drop_eq_nil_of_le (by omega),List.drop_eq_nil_of_le (by omega)];simp
  |succ d ih =>
    intro i hd hi k hk;obtain ⟨k,rfl⟩ : ∃ q,k=q+1:=⟨k - 1,by omega⟩;have h1:i<a.length:=(by omega);have h2:i<b.length:=(by omega);have e1:fF false a (i:Int)=a[i]:=(by simp [fF,List.getD_eq_getElem?_getD,List.getElem?_eq_getElem h1]);have e2:fF false b (i:Int)=b[i]:=(by simp [fF,List.getD_eq_getElem?_getD,List.getElem?_eq_getElem h2]);simp only [bM.l0];rw [if_pos (by omega),if_pos (by omega),if_pos (by omega),e1,e2,xR (by omega),ih (i+1) (by omega) (by omega) k (by omega),List.drop_eq_getElem_cons h1,List.drop_eq_getElem_cons h2];by_cases h:a[i]=b[i]
    · rw [if_neg (by simp [h])]
      congr 1
      rw [decide_eq_decide,h];exact ⟨fun q=>by rw [q],fun q=>(List.cons.inj q).2⟩
    · rw [if_pos (by simpa using h)]
      congr 1
      exact (decide_eq_false (fun q=>h (List.cons.inj q).1)).symm
theorem alike_f {a b:List Bool} (hl:a.length=b.length) (hm:a.length≤4096) {k:Nat} (hk:a.length<k):bM.f k a b=some (decide (a=b)):=by
  unfold bM.f;have:=alike_l0 hl hm a.length 0 rfl (Nat.zero_le _) k hk;rw [List.drop_zero,List.drop_zero] at this;exact this
section
variable {m ns : Nat} {s e : Nat} {l : List gV}
theorem dfa_l2 (hm:m≤4096) {bs:List (List Bool)} {sets:List (List Int)} (hR:R2 m l sets bs) (hlen:bs.length≤1024) {b':List Bool} (hb:b'.length=m) {i j:Int} {row:List Int} {n1:Int} {next:List (List Int)} {acc:List Bool} {r:Int × List (List Int) × List Bool × Int}
    (hr : ∃ k,aH.j3 k bs i row j b' (bs.idxOf b':Nat) m ns s e l n1 next acc=some r) : ∀ (d p:Nat),bs.length - p=d→p≤bs.length→(∀ q,q<p→bs.getD q []≠b') →
    ∃ k,aH.l2 k bs i row j b' (p:Int) m ns s e l n1 next acc=some r:=by
  intro d;obtain ⟨k,hk⟩:=hr;induction d with
  |zero =>
    intro p hd hp hq;obtain rfl:p=bs.length:=(by omega);have hno:b' ∉ bs:=fun hmem=>by
      obtain ⟨q,hq1,hq2⟩:=List.mem_iff_getElem.mp hmem;refine hq q hq1 ?_;rw [List.getD_eq_getElem?_getD,List.getElem?_eq_getElem hq1];exact hq2
    rw [List.idxOf_eq_length hno] at hk;refine ⟨k+1,?_⟩;simp only [aH.l2];rw [if_neg (by omega)];exact hk
  |succ d ih =>
    intro p hd hp hq;have hlt:p<bs.length:=(by omega);have hg:=r2_get hR p hlt;have e1:jJ bs (p:Int)=bs.getD p []:=(by unfold jJ;rw [Int.toNat_natCast]);have hal : ∀ k,m<k→bM.f k (bs.getD p []) b'=some (decide (bs.getD p []=b')):=fun k hk=>alike_f (by rw [hg.1.lb,hb]) (by rw [hg.1.lb];exact hm) (by rw [hg.1.lb];exact hk);by_cases h:bs.getD p []=b'
    · have hidx:=SV bs p hlt h hq
      rw [hidx] at hk;obtain ⟨q,hqd⟩ : ∃ q,q=k+m+1:=⟨_,rfl⟩;refine ⟨q+1,?_⟩;simp only [aH.l2];rw [if_pos (by omega),if_pos (by omega),e1,hal q (by omega),Option.bind_some,decide_eq_true h,if_pos rfl];exact vH (fun k=>(aH.kN k).2.2.1 _ _ _ _ _ _ _ _ _ _ _ _ _ _) (show k≤q by omega) hk
    · obtain ⟨k2,hk2⟩:=ih (p+1) (by omega) (by omega) (fun q hq'=>by
        rcases Nat.lt_succ_iff_lt_or_eq.mp hq' with hq'|rfl
        · exact hq q hq'
        · exact h)
      obtain ⟨q,hqd⟩ : ∃ q,q=k2+m+1:=⟨_,rfl⟩;refine ⟨q+1,?_⟩;simp only [aH.l2];rw [if_pos (by omega),if_pos (by omega),e1,hal q (by omega),Option.bind_some,decide_eq_false h,if_neg (by simp),xR (by omega)];exact vH (fun k=>(aH.kN k).2.2.2 _ _ _ _ _ _ _ _ _ _ _ _ _ _) (show k2≤q by omega) hk2
theorem DR {n:Nat} (hn:n≤5000) (hns:ns≤4096):qQ ns n=true↔(1024<n∨65536<n * ns):=by
  unfold qQ;have hle:n * ns≤5000 * 4096:=Nat.mul_le_mul hn hns;have e:((n:Int) * (ns:Int))=((n * ns:Nat):Int):=(by norm_cast);rw [e,show wrap64 ((n * ns:Nat):Int)=((n * ns:Nat):Int) by generalize n * ns=q at hle;unfold wrap64;omega];generalize n * ns=q;simp only [Bool.or_eq_true,decide_eq_true_eq];omega
theorem tY (row:List Int) (d:Nat) (x:Int):(row ++ List.replicate (d+1) 0).set row.length x=(row ++ [x]) ++ List.replicate d 0:=by
  rw [List.set_append_right _ _ (Nat.le_refl _),Nat.sub_self,List.replicate_succ,List.set_cons_zero,List.append_assoc];rfl
def JK (m:Nat) (l:List gV) (bs:List (List Bool)) (bi:List Bool) (row:List Int):Prop :=
  ∀ c,c<row.length→∃ (p:Nat) (b:List Bool),row[c]?=some (p:Int)∧bs[p]?=some b∧By m l c bi b∧b.length=m
theorem NM {bs:List (List Bool)} {bi:List Bool} {row:List Int} (h:JK m l bs bi row) (ys:List (List Bool)):JK m l (bs ++ ys) bi row:=fun c hc=>by
  obtain ⟨p,b,h1,h2,h3⟩:=h c hc;refine ⟨p,b,h1,?_,h3⟩;obtain ⟨hp,_⟩:=List.getElem?_eq_some_iff.mp h2;rw [List.getElem?_append_left hp];exact h2
theorem NN {bs:List (List Bool)} {bi:List Bool} {row:List Int} (h:JK m l bs bi row) {p:Nat} {b:List Bool} (hp:bs[p]?=some b) (hb:By m l (row.length:Nat) bi b) (hbm:b.length=m):JK m l bs bi (row ++ [(p:Int)]):=fun c hc=>by
  rw [List.length_append,List.length_singleton] at hc;rcases Nat.lt_succ_iff_lt_or_eq.mp hc with hc|rfl
  · obtain ⟨p',b',h1,h2,h3⟩:=h c hc
    exact ⟨p',b',by rw [List.getElem?_append_left hc];exact h1,h2,h3⟩
  · exact ⟨p,b,by simp,hp,hb,hbm⟩
theorem many_wrap {n:Nat} (hn:n≤5000) (hns:ns≤4096):wrap64 ((n:Int) * (ns:Int))=((n * ns:Nat):Int):=by
  have hle:n * ns≤5000 * 4096:=Nat.mul_le_mul hn hns;rw [show ((n:Int) * (ns:Int))=((n * ns:Nat):Int) by norm_cast];generalize n * ns=q at hle;unfold wrap64;omega
theorem SX {n:Nat} (hn:n≤5000) (hns:ns≤4096) {α:Type} (x y:α):(if (n:Int) > 1024 then x else if wrap64 ((n:Int) * (ns:Int)) > 65536 then x else y)=if qQ ns n=true then x else y:=by
  rw [many_wrap hn hns];by_cases h:qQ ns n=true
  · rw [if_pos h]
    have:=(DR hn hns).mp h;generalize n * ns=q at this ⊢;by_cases h2:(n:Int) > 1024
    · rw [if_pos h2]
    · rw [if_neg h2,if_pos (by omega)]
  · rw [if_neg h]
    have h3 : ¬ (1024<n∨65536<n * ns):=fun q=>h ((DR hn hns).mpr q);generalize n * ns=q at h3 ⊢;rw [if_neg (by omega),if_neg (by omega)]
theorem j3_known {bs:List (List Bool)} {i:Int} {row:List Int} {b':List Bool} {n1:Int} {next:List (List Int)} {acc:List Bool} {p j d k:Nat} (hlen:bs.length≤1024) (hns:ns≤4096) (jM:qQ ns bs.length=false) (hp:p<bs.length) (hrow:row.length=j) (hj:j<ns) :
    aH.j3 (k+1) bs i (row ++ List.replicate (d+1) 0) (j:Int) b' (p:Int) m ns s e l n1 next acc=aH.l1 k bs i ((row ++ [(p:Int)]) ++ List.replicate d 0) ((j+1:Nat):Int) m ns s e l n1 next acc:=by
  have hs:=tY row d (p:Int);rw [hrow] at hs;have hl:j<(row ++ List.replicate (d+1) (0:Int)).length:=(by simp [hrow]);simp only [aH.j3];rw [if_neg (by omega),SX (by omega) hns,jM,if_neg (by simp),if_pos (by omega),if_pos (by omega),Int.toNat_natCast,xR (by omega),hs]
theorem j3_new {bs:List (List Bool)} {i:Int} {row:List Int} {b':List Bool} {n1:Int} {next:List (List Int)} {acc:List Bool} {j d k:Nat} (hlen:bs.length≤1024) (hns:ns≤4096) (hrow:row.length=j) (hj:j<ns) :
    aH.j3 (k+1) bs i (row ++ List.replicate (d+1) 0) (j:Int) b' (bs.length:Nat) m ns s e l n1 next acc=if qQ ns (bs.length+1:Nat)=true then some (0,[],[],3) else aH.l1 k (bs ++ [b']) i ((row ++ [(bs.length:Int)]) ++ List.replicate d 0) ((j+1:Nat):Int) m ns s e l n1 next acc:=by
  have hs:=tY row d (bs.length:Int);rw [hrow] at hs;have hl:j<(row ++ List.replicate (d+1) (0:Int)).length:=(by simp [hrow]);have hll:(bs ++ [b']).length=bs.length+1:=(by simp);simp only [aH.j3];rw [if_pos trivial,if_pos (by omega),Option.bind_some,hll,SX (by omega) hns];by_cases hq:qQ ns (bs.length+1:Nat)=true
  · rw [if_pos hq,if_pos hq]
  · rw [if_neg hq,if_neg hq,if_pos (by omega),if_pos (by omega),Int.toNat_natCast,xR (by omega),hs]
theorem rowF_known {S:List Int} {sets:List (List Int)} {ks:List (List UInt8)} {row:List Int} {t:List Int} {k d j:Nat} (h1:eT.f k m ns s e l (j:Int) S=some t) (h2:fD.f k t=some (strOfNums (UE t))) (hks:(strOfNums (UE t)).size≤4096) (hin:keyOf t∈ks) :
    xS k m ns s e l S (d+1) j sets ks row=xS k m ns s e l S d (j+1) sets ks (row ++ [((ks.idxOf (keyOf t):Nat):Int)]):=by
  have ekey:nk (strOfNums (UE t))=keyOf t:=rfl;simp only [xS];rw [h1,Option.bind_some,h2,Option.bind_some,if_pos hks,ekey,if_pos hin];unfold nameAt;rw [if_pos hin]
theorem m_ {S:List Int} {sets:List (List Int)} {ks:List (List UInt8)} {row:List Int} {t:List Int} {k d j:Nat} (h1:eT.f k m ns s e l (j:Int) S=some t) (h2:fD.f k t=some (strOfNums (UE t))) (hks:(strOfNums (UE t)).size≤4096) (hin:keyOf t ∉ ks) :
    xS k m ns s e l S (d+1) j sets ks row=if qQ ns ((sets.length+1:Nat):Int)=true then some none else xS k m ns s e l S d (j+1) (sets ++ [t]) (ks ++ [keyOf t]) (row ++ [(sets.length:Int)]):=by
  have ekey:nk (strOfNums (UE t))=keyOf t:=rfl;simp only [xS];rw [h1,Option.bind_some,h2,Option.bind_some,if_pos hks,ekey,if_neg hin];rfl
set_option maxHeartbeats 1000000 in
theorem dfa_row (A:IC m l) (hns:ns≤4096) {i:Nat} {n1:Int} {next:List (List Int)} {acc:List Bool} {S:List Int} {bi:List Bool} (hS:X9 m S bi) (hSH:Hand l bi bi) : ∀ (d j:Nat),ns - j=d→j≤ns→∀ (sets:List (List Int)) (bs:List (List Bool)) (row:List Int),R2 m l sets bs→row.length=j→qQ ns bs.length=false→bs.length≤1024 →
    i<bs.length→bs.getD i []=bi→JK m l bs bi row →
    (∃ K,(∀ k,K≤k→xS k m ns s e l S d j sets (sets.map keyOf) row=some none)∧∃ k,aH.l1 k bs (i:Int) (row ++ List.replicate d 0) (j:Int) m ns s e l n1 next acc=some (0,[],[],3)) ∨
    ∃ K T9 bs' row',(∀ k,K≤k→xS k m ns s e l S d j sets (sets.map keyOf) row=some (some (T9,T9.map keyOf,row')))∧R2 m l T9 bs'∧row'.length=ns∧qQ ns bs'.length=false∧bs'.length≤1024∧(∃ ys,bs'=bs ++ ys)∧JK m l bs' bi row' ∧
      ∀ r,(∃ k,aH.l1 k bs' (i:Int) row' (ns:Int) m ns s e l n1 next acc=some r)→∃ k,aH.l1 k bs (i:Int) (row ++ List.replicate d 0) (j:Int) m ns s e l n1 next acc=some r:=by
  intro d;have hm:=A.m1;induction d with
  |zero =>
    intro j hd hj sets bs row hR hrow jM hlen hi hbi hok;obtain rfl:j=ns:=(by omega);refine .inr ⟨0,sets,bs,row,fun k _=>rfl,hR,hrow,jM,hlen,⟨[],by simp⟩,hok,fun r hr=>?_⟩;rw [List.replicate_zero,List.append_nil];exact hr
  |succ d ih =>
    intro j hd hj sets bs row hR hrow jM hlen hi hbi hok;have hjlt:j<ns:=(by omega);obtain ⟨K1,t,b',h1,hRt,hBy⟩:=step_f (sy:=ns) (s:=s) (e:=e) A (sym:=(j:Int)) hS hSH hS.lb;obtain ⟨K2,h2⟩:=key_f (B:=t) (by rw [hRt.lB];omega);have hks:(strOfNums (UE t)).size≤4096:=(by rw [strOfNums_size,UF,hRt.lB];omega);have hlR:=r2_len hR;have ekey:nk (strOfNums (UE t))=keyOf t:=rfl;obtain ⟨x1,x2⟩:=r2_idx hRt hR;have erd:jJ bs (i:Int)=bi:=(by unfold jJ;rw [Int.toNat_natCast];exact hbi);have hl1 : ∀ r,(∃ k,aH.j3 k bs (i:Int) (row ++ List.replicate (d+1) 0) (j:Int) b' (bs.idxOf b':Nat) m ns s e l n1 next acc=some r)→∃ k,aH.l1 k bs (i:Int) (row ++ List.replicate (d+1) 0) (j:Int) m ns s e l n1 next acc=some r:=by
      intro r hr;obtain ⟨k,hk⟩:=dfa_l2 hm hR hlen hRt.lb hr bs.length 0 rfl (Nat.zero_le _) (fun q hq=>absurd hq (by omega));obtain ⟨q,hqd⟩ : ∃ q,q=k+K1:=⟨_,rfl⟩;refine ⟨q+1,?_⟩;simp only [aH.l1];rw [if_pos (by omega),if_pos (by omega),if_pos (by omega),erd,(h1 q (by omega)).2,Option.bind_some];exact vH (fun k=>(aH.kN k).2.2.2 _ _ _ _ _ _ _ _ _ _ _ _ _ _) (show k≤q by omega) hk
    by_cases hmem:b'∈bs
    ·
      obtain ⟨p,hp⟩ : ∃ p,p=bs.idxOf b':=⟨_,rfl⟩;have hpl:p<bs.length:=(by rw [hp];exact List.idxOf_lt_length_of_mem hmem);have hpb:bs[p]?=some b':=(by rw [List.getElem?_eq_getElem hpl];congr 1;subst hp;exact List.getElem_idxOf hpl);have o_ : ∀ k,K1+K2≤k→xS k m ns s e l S (d+1) j sets (sets.map keyOf) row=xS k m ns s e l S d (j+1) sets (sets.map keyOf) (row ++ [(p:Int)]):=by
        intro k hk;rw [rowF_known (h1 k (by omega)).1 (h2 k (by omega)) hks (x2.mpr hmem),x1,← hp]
      have hj3 : ∀ r,(∃ k,aH.l1 k bs (i:Int) ((row ++ [(p:Int)]) ++ List.replicate d 0) ((j+1:Nat):Int) m ns s e l n1 next acc=some r)→∃ k,aH.l1 k bs (i:Int) (row ++ List.replicate (d+1) 0) (j:Int) m ns s e l n1 next acc=some r:=by
        rintro r ⟨k,hk⟩;refine hl1 r ⟨k+1,?_⟩;rw [←hp,j3_known hlen hns jM hpl hrow hjlt];exact hk
      have hlen':(row ++ [(p:Int)]).length=j+1:=(by simp [hrow]);rcases ih (j+1) (by omega) (by omega) sets bs (row ++ [(p:Int)]) hR hlen' jM hlen hi hbi (NN hok hpb (by rw [hrow];exact hBy) hRt.lb) with ⟨K,g1,g2⟩|⟨K,T9,bs',row',g1,g2,g3,g4,g5,g6,g7,g8⟩
      · exact .inl ⟨K+K1+K2,fun k hk=>(o_ k (by omega)).trans (g1 k (by omega)),hj3 _ g2⟩
      · exact .inr ⟨K+K1+K2,T9,bs',row',fun k hk=>(o_ k (by omega)).trans (g1 k (by omega)),g2,g3,g4,g5,g6,g7,fun r hr=>hj3 r (g8 r hr)⟩
    ·
      have hidx:bs.idxOf b'=bs.length:=List.idxOf_eq_length hmem;have hkn:keyOf t ∉ sets.map keyOf:=fun q=>hmem (x2.mp q);by_cases hmn:qQ ns (bs.length+1:Nat)=true
      · refine .inl ⟨K1+K2,fun k hk=>?_,hl1 _ ⟨1,?_⟩⟩
        · rw [m_ (h1 k (by omega)).1 (h2 k (by omega)) hks hkn,hlR,if_pos hmn]
        · rw [hidx,j3_new hlen hns hrow hjlt,if_pos hmn]
      · have hmf:qQ ns (bs.length+1:Nat)=false:=by simpa using hmn
        have o_ : ∀ k,K1+K2≤k→xS k m ns s e l S (d+1) j sets (sets.map keyOf) row=xS k m ns s e l S d (j+1) (sets ++ [t]) ((sets ++ [t]).map keyOf) (row ++ [(bs.length:Int)]):=by
          intro k hk;rw [m_ (h1 k (by omega)).1 (h2 k (by omega)) hks hkn,hlR,if_neg hmn,List.map_append];rfl
        have hj3 : ∀ r,(∃ k,aH.l1 k (bs ++ [b']) (i:Int) ((row ++ [(bs.length:Int)]) ++ List.replicate d 0) ((j+1:Nat):Int) m ns s e l n1 next acc=some r)→∃ k,aH.l1 k bs (i:Int) (row ++ List.replicate (d+1) 0) (j:Int) m ns s e l n1 next acc=some r:=by
          rintro r ⟨k,hk⟩;refine hl1 r ⟨k+1,?_⟩;rw [hidx,j3_new hlen hns hrow hjlt,if_neg hmn];exact hk
        have hlen':(row ++ [(bs.length:Int)]).length=j+1:=(by simp [hrow]);have hbl:(bs ++ [b']).length=bs.length+1:=(by simp);have h1024:bs.length+1≤1024:=by
          refine Nat.le_of_not_lt fun q=>?_;exact hmn ((DR (by omega) hns).mpr (.inl q))
        have hgi:(bs ++ [b']).getD i []=bi:=(by rw [List.getD_eq_getElem?_getD,List.getElem?_append_left hi,← List.getD_eq_getElem?_getD];exact hbi);rcases ih (j+1) (by omega) (by omega) (sets ++ [t]) (bs ++ [b']) (row ++ [(bs.length:Int)]) (r2_snoc hRt (UD hBy) hR) hlen' (by rw [hbl];exact hmf) (by rw [hbl];exact h1024) (by rw [hbl];omega) hgi (NN (NM hok _) (by simp) (by rw [hrow];exact hBy) hRt.lb) with ⟨K,g1,g2⟩|⟨K,T9,bs',row',g1,g2,g3,g4,g5,⟨ys,g6⟩,g7,g8⟩
        · exact .inl ⟨K+K1+K2,fun k hk=>(o_ k (by omega)).trans (g1 k (by omega)),hj3 _ g2⟩
        · exact .inr ⟨K+K1+K2,T9,bs',row',fun k hk=>(o_ k (by omega)).trans (g1 k (by omega)),g2,g3,g4,g5,⟨b' :: ys,by rw [g6];simp⟩,g7,fun r hr=>hj3 r (g8 r hr)⟩
end
end Go.Proofs.Ytapinbmkjkbkkaa.Pu
namespace Go.Proofs.Ytapinbmkjkbkkaa.Pu
open Go.RowKit Go.Proofs.aC.bE Go.Proofs.aC.bV Go.Proofs.aC.bY Lb Mk
section
variable {m ns : Nat} {s e : Nat} {l : List gV}
def Rows (m ns e:Nat) (l:List gV) (bs:List (List Bool)) (next:List (List Int)) (acc:List Bool):Prop :=
  ∀ q,q<next.length→∃ row,next[q]?=some row∧row.length=ns∧JK m l bs (bs.getD q []) row∧acc[q]?=some ((bs.getD q []).getD e false)
theorem rows_more {bs:List (List Bool)} {next:List (List Int)} {acc:List Bool} (h:Rows m ns e l bs next acc) (hl:next.length≤bs.length) (ys:List (List Bool)):Rows m ns e l (bs ++ ys) next acc:=fun q hq=>by
  obtain ⟨row,h1,h2,h3,h4⟩:=h q hq;have e1:(bs ++ ys).getD q []=bs.getD q []:=(by rw [List.getD_eq_getElem?_getD,List.getElem?_append_left (by omega),← List.getD_eq_getElem?_getD]);rw [e1];exact ⟨row,h1,h2,NM h3 ys,h4⟩
theorem rows_snoc {bs:List (List Bool)} {next:List (List Int)} {acc:List Bool} (h:Rows m ns e l bs next acc) (ha:acc.length=next.length) {row:List Int} (hr:row.length=ns) (hok:JK m l bs (bs.getD next.length []) row) :
    Rows m ns e l bs (next ++ [row]) (acc ++ [(bs.getD next.length []).getD e false]):=fun q hq=>by
  rw [List.length_append,List.length_singleton] at hq;rcases Nat.lt_succ_iff_lt_or_eq.mp hq with hq|rfl
  · obtain ⟨row',h1,h2,h3,h4⟩:=h q hq
    exact ⟨row',by rw [List.getElem?_append_left hq];exact h1,h2,h3,by rw [List.getElem?_append_left (by omega)];exact h4⟩
  · exact ⟨row,by simp,hr,hok,by rw [←ha];simp⟩
theorem dfa_loop (A:IC m l) (hns:ns≤4096) (he:e<m) : ∀ (M i:Nat) (sets:List (List Int)) (bs:List (List Bool)) (next:List (List Int)) (acc:List Bool),1024 - i=M→R2 m l sets bs→i≤bs.length→next.length=i→acc.length=i→qQ ns bs.length=false→bs.length≤1024→Rows m ns e l bs next acc →
    (∃ K J0,(∀ k J,K≤k→J0≤J→l9 k m ns s e l J i sets (sets.map keyOf) next acc=some none)∧∃ k,aH.l0 k bs (i:Int) m ns s e l ns next acc=some (0,[],[],3)) ∨
    ∃ K J0 bsF n a,(∀ k J,K≤k→J0≤J→l9 k m ns s e l J i sets (sets.map keyOf) next acc=some (some (n,a)))∧(∃ k,aH.l0 k bs (i:Int) m ns s e l ns next acc=some ((ns:Int),n,a,0))∧(∃ ys,bsF=bs ++ ys)∧n.length=bsF.length∧a.length=n.length∧n.length≤1024∧Rows m ns e l bsF n a:=by
  intro M;have hm:=A.m1;induction M using Nat.strongRecOn with
  |_ M ih =>
  intro i sets bs next acc hM hR hi hn ha jM hlen hrows;have hlR:=r2_len hR;by_cases hlt:i<bs.length
  · obtain ⟨hRi,hHi⟩:=r2_get hR i hlt
    have hrow:=dfa_row (s:=s) (e:=e) A hns (i:=i) (n1:=ns) (next:=next) (acc:=acc) hRi hHi ns 0 rfl (Nat.zero_le _) sets bs [] hR rfl jM hlen hlt rfl (fun c hc=>absurd hc (by simp));rw [List.nil_append] at hrow;have hl0 : ∀ r,(∃ k,aH.l1 k bs (i:Int) (List.replicate ns 0) ((0:Nat):Int) m ns s e l ns next acc=some r)→∃ k,aH.l0 k bs (i:Int) m ns s e l ns next acc=some r:=by
      rintro r ⟨k,hk⟩;refine ⟨k+1,?_⟩;simp only [aH.l0];rw [if_pos (by omega),if_pos (by omega),Int.toNat_natCast,if_pos (by omega)];exact hk
    rcases hrow with ⟨K,g1,g2⟩|⟨K,T9,bs',row',g1,g2,g3,g4,g5,⟨ys,g6⟩,g7,g8⟩
    · refine .inl ⟨K,1,fun k J hk hJ=>?_,hl0 _ g2⟩
      obtain ⟨J,rfl⟩ : ∃ q,J=q+1:=⟨J - 1,by omega⟩;simp only [l9];rw [if_pos (by omega),NP hRi hm e he,Option.bind_some,Int.toNat_natCast,g1 k hk,Option.bind_some]
    · have hlt':i<bs'.length:=by rw [g6,List.length_append];omega
      have hgi:bs'.getD i []=bs.getD i []:=(by rw [g6,List.getD_eq_getElem?_getD,List.getElem?_append_left hlt,← List.getD_eq_getElem?_getD]);have hrows':Rows m ns e l bs' (next ++ [row']) (acc ++ [(bs.getD i []).getD e false]):=by
        have h0:Rows m ns e l bs' next acc:=(by rw [g6];exact rows_more hrows (by omega) ys);have:=rows_snoc h0 (by omega) g3 (by rw [hn,hgi];exact g7);rw [hn,hgi] at this;exact this
      have hend : ∀ r,(∃ k,aH.l0 k bs' ((i+1:Nat):Int) m ns s e l ns (next ++ [row']) (acc ++ [(bs.getD i []).getD e false])=some r)→∃ k,aH.l0 k bs (i:Int) m ns s e l ns next acc=some r:=by
        rintro r ⟨k,hk⟩;refine hl0 r (g8 r ⟨k+1,?_⟩);have erd:jJ bs' (i:Int)=bs.getD i []:=(by unfold jJ;rw [Int.toNat_natCast];exact hgi);have hlb:=hRi.lb;have e2:fF false (bs.getD i []) (e:Int)=(bs.getD i []).getD e false:=(by simp [fF]);simp only [aH.l1];rw [if_neg (by omega),if_pos (by omega),if_pos (by omega),if_pos (by omega),if_pos (by omega),erd,if_pos (by omega),if_pos (by omega),xR (by omega),e2];exact hk
      rcases ih (1024 - (i+1)) (by omega) (i+1) T9 bs' (next ++ [row']) (acc ++ [(bs.getD i []).getD e false]) rfl g2 (by omega) (by simp [hn]) (by simp [ha]) g4 g5 hrows' with ⟨K2,J2,f1,f2⟩|⟨K2,J2,bsF,n,a,f1,f2,⟨zs,f3⟩,f4,f5,f6,f7⟩
      · refine .inl ⟨K+K2,J2+1,fun k J hk hJ=>?_,hend _ f2⟩
        obtain ⟨J,rfl⟩ : ∃ q,J=q+1:=⟨J - 1,by omega⟩;simp only [l9];rw [if_pos (by omega),NP hRi hm e he,Option.bind_some,Int.toNat_natCast,g1 k (by omega),Option.bind_some];exact f1 k J (by omega) (by omega)
      · refine .inr ⟨K+K2,J2+1,bsF,n,a,fun k J hk hJ=>?_,hend _ f2,⟨ys ++ zs,by rw [f3,g6,List.append_assoc]⟩,f4,f5,f6,f7⟩
        obtain ⟨J,rfl⟩ : ∃ q,J=q+1:=⟨J - 1,by omega⟩;simp only [l9];rw [if_pos (by omega),NP hRi hm e he,Option.bind_some,Int.toNat_natCast,g1 k (by omega),Option.bind_some];exact f1 k J (by omega) (by omega)
  · refine .inr ⟨0,1,bs,next,acc,fun k J _ hJ=>?_,⟨1,?_⟩,⟨[],by simp⟩,by omega,by omega,by omega,hrows⟩
    · obtain ⟨J,rfl⟩ : ∃ q,J=q+1:=⟨J - 1,by omega⟩
      simp only [l9];rw [if_neg (by omega)]
    · simp only [aH.l0]
      rw [if_neg (by omega)]
theorem p_ (A:IC m l) (hns:ns≤4096) (hs:s<m) (he:e<m) (hck:RA m ns s e l=0) :
    (∃ K,∀ k,K≤k→oV.f k m ns s e l=some (0,[],[],3)∧aH.f k m ns s e l=some (0,[],[],3)) ∨
    ∃ K n a b0 ys,(∀ k,K≤k→oV.f k m ns s e l=some ((ns:Int),n,a,0)∧aH.f k m ns s e l=some ((ns:Int),n,a,0))∧b0.length=m∧Hand l (l7 (none0 m) [(s:Int)]) b0∧n.length=ys.length+1∧a.length=n.length∧n.length≤1024∧Rows m ns e l (b0 :: ys) n a:=by
  have hm:=A.m1;obtain ⟨K2,h2⟩:=q_ (aM:=m) (aJ:=ns) (aV:=s) (aW:=e) (l:=l);obtain ⟨E,hE,hRE⟩:=DT (m:=m) A.m1;obtain ⟨B1,hp,o5⟩:=r_ hRE A.m1 s hs;have o5:X9 m B1 (l7 (none0 m) [(s:Int)]):=o5;obtain ⟨K3,B',b0,h3,hR,hH⟩:=DU (sy:=ns) (s:=s) (e:=e) A o5;obtain ⟨K6,h6⟩:=marks_f (ls:=[(s:Int)]) (by simp) A.m1 (okS_one hs) (fun k hk=>(h3 k hk).2);obtain ⟨K7,h7⟩:=key_f (B:=B') (by rw [hR.lB];omega);have hks:(strOfNums (UE B')).size≤4096:=(by rw [strOfNums_size,UF,hR.lB];omega);have jM:qQ ns ([b0]:List (List Bool)).length=false:=by
    have h0 : ¬ qQ ns (1:Nat)=true:=fun h=>by
      have:=(DR (n:=1) (by omega) hns).mp h;omega
    simpa using h0
  have hloop:=dfa_loop (s:=s) A hns he 1024 0 [B'] [b0] [] [] rfl ⟨hR,X8 hH,trivial⟩ (by simp) rfl rfl jM (by simp) (fun q hq=>absurd hq (by simp));have hcode : ∀ k o,K3+K7≤k→l9 k m ns s e l k 0 [B'] ([B'].map keyOf) [] []=some o→oV.f k m ns s e l=some (match o with|none=>((0:Int),[],[],(3:Int))|some (n,a)=>((ns:Int),n,a,0)):=by
    intro k o hk ho;unfold oV.f;rw [check_f,hck,Option.bind_some,if_pos rfl,hE,Option.bind_some,hp,Option.bind_some,(h3 k (by omega)).1,Option.bind_some,h7 k (by omega),Option.bind_some,if_pos hks];have ho':l9 k m ns s e l k 0 [B'] [nk (strOfNums (UE B'))] [] []=some o:=ho;rw [ho'];rfl
  have href : ∀ r,(∃ k,aH.l0 k [b0] ((0:Nat):Int) m ns s e l ns [] []=some r)→∃ K,∀ k,K≤k→aH.f k m ns s e l=some r:=by
    rintro r ⟨k,hk⟩;refine ⟨k+K2+K6,fun q hq=>?_⟩;unfold aH.f;rw [h2 q (by omega),hck,Option.bind_some,if_pos rfl,h6 q (by omega),Option.bind_some];exact vH (fun k=>(aH.kN k).1 _ _ _ _ _ _ _ _ _ _) (show k≤q by omega) hk
  rcases hloop with ⟨K,J0,g1,g2⟩|⟨K,J0,bsF,n,a,g1,g2,⟨ys,g3⟩,g4,g5,g6,g7⟩
  · obtain ⟨K8,h8⟩:=href _ g2
    refine .inl ⟨K+J0+K3+K7+K8,fun k hk=>⟨?_,h8 k (by omega)⟩⟩;rw [hcode k none (by omega) (g1 k k (by omega) (by omega))]
  · obtain ⟨K8,h8⟩:=href _ g2
    refine .inr ⟨K+J0+K3+K7+K8,n,a,b0,ys,fun k hk=>⟨?_,h8 k (by omega)⟩,hR.lb,hH,by rw [g4,g3];simp,g5,g6,by rw [g3] at g7;exact g7⟩;rw [hcode k (some (n,a)) (by omega) (g1 k k (by omega) (by omega))]
end
end Go.Proofs.Ytapinbmkjkbkkaa.Pu
namespace Go.Proofs.Ytapinbmkjkbkkaa.Pu
open Go.RowKit Go.Proofs.aC.bE Go.Proofs.aC.bV Go.Proofs.aC.bY Lb Mk Ls
def yI (first:Int) (fr:Int):Nat→List Int→List gV
  |_,[]=>[]
  |j,x :: xs=>⟨fr,(j:Int),first+x⟩ :: yI first fr (j+1) xs
def pO (first:Int):Nat→List (List Int)→List gV
  |_,[]=>[]
  |i,r :: rs=>yI first (first+(i:Int)) 0 r ++ pO first (i+1) rs
def sU (first tt:Int):Nat→List Bool→List gV
  |_,[]=>[]
  |i,b :: bs=>(if b=true then [] else [⟨first+(i:Int),-1,tt⟩]) ++ sU first tt (i+1) bs
theorem t_ {first fr:Int} {x:gV} : ∀ (xs:List Int) (j:Nat),x∈yI first fr j xs↔∃ (c:Nat) (t:Int),xs[c]?=some t∧x=⟨fr,((j+c:Nat):Int),first+t⟩
  |[],j=>by simp [yI]
  |y :: ys,j=>by
    rw [yI,List.mem_cons,t_ ys (j+1)];constructor
    · rintro (rfl|⟨c,t,h1,rfl⟩)
      · exact ⟨0,y,rfl,rfl⟩
      · exact ⟨c+1,t,by simpa using h1,by rw [show j+1+c=j+(c+1) by omega]⟩
    · rintro ⟨c,t,h1,rfl⟩
      cases c with
      |zero =>
        obtain rfl:y=t:=(by simpa using h1);exact .inl rfl
      |succ c=>exact .inr ⟨c,t,by simpa using h1,by rw [show j+1+c=j+(c+1) by omega]⟩
theorem SY {first:Int} {x:gV} : ∀ (next:List (List Int)) (i:Nat),x∈pO first i next↔∃ (p:Nat) (row:List Int) (c:Nat) (t:Int),next[p]?=some row∧row[c]?=some t∧x=⟨first+((i+p:Nat):Int),(c:Int),first+t⟩
  |[],i=>by simp [pO]
  |r :: rs,i=>by
    rw [pO,List.mem_append,t_,SY rs (i+1)];constructor
    · rintro (⟨c,t,h1,rfl⟩|⟨p,row,c,t,h1,h2,rfl⟩)
      · exact ⟨0,r,c,t,rfl,h1,by simp⟩
      · exact ⟨p+1,row,c,t,by simpa using h1,h2,by rw [show i+1+p=i+(p+1) by omega]⟩
    · rintro ⟨p,row,c,t,h1,h2,rfl⟩
      cases p with
      |zero =>
        obtain rfl:r=row:=(by simpa using h1);exact .inl ⟨c,t,h2,by simp⟩
      |succ p=>exact .inr ⟨p,row,c,t,by simpa using h1,h2,by rw [show i+1+p=i+(p+1) by omega]⟩
theorem u_ {first tt:Int} {x:gV} : ∀ (acc:List Bool) (i:Nat),x∈sU first tt i acc↔∃ p:Nat,acc[p]?=some false∧x=⟨first+((i+p:Nat):Int),-1,tt⟩
  |[],i=>by simp [sU]
  |b :: bs,i=>by
    rw [sU,List.mem_append,u_ bs (i+1)];constructor
    · rintro (h|⟨p,h1,rfl⟩)
      · cases b with
        |true=>simp at h
        |false =>
          rw [if_neg (by simp),List.mem_singleton] at h;subst h;exact ⟨0,rfl,rfl⟩
      · exact ⟨p+1,by simpa using h1,by rw [show i+1+p=i+(p+1) by omega]⟩
    · rintro ⟨p,h1,rfl⟩
      cases p with
      |zero =>
        obtain rfl:b=false:=(by simpa using h1);exact .inl (by simp)
      |succ p=>exact .inr ⟨p,by simpa using h1,by rw [show i+1+p=i+(p+1) by omega]⟩
def wR (first:Int) (fr tt:Int) (next:List (List Int)) (acc:List Bool):List gV:=⟨fr,-1,first⟩ :: (pO first 0 next ++ sU first tt 0 acc)
section
variable {m ns e : Nat} {l : List gV} {bs : List (List Bool)} {next : List (List Int)} {acc : List Bool} {first fr tt : Nat}
theorem tZ {x:gV}:x∈wR first fr tt next acc↔x=⟨fr,-1,first⟩∨(∃ (p:Nat) (row:List Int) (c:Nat) (t:Int),next[p]?=some row∧row[c]?=some t∧x=⟨(first:Int)+(p:Int),(c:Int),(first:Int)+t⟩)∨∃ p:Nat,acc[p]?=some false∧x=⟨(first:Int)+(p:Int),-1,(tt:Int)⟩:=by
  unfold wR;rw [List.mem_cons,List.mem_append,SY,u_];simp only [Nat.zero_add]
theorem walk_from {b b':List Bool} {w:List Int} (hR:Rows m ns e l bs next acc) (hlen:next.length=bs.length) (hal:acc.length=next.length) (hW:Walk m l b w b') (hw:AR ns w=true) : ∀ p:Nat,bs[p]?=some b→¬ In b' e→Path (wR first fr tt next acc) (first+p) w tt:=by
  induction hW with
  |nil b =>
    intro p hp hn;have hpl:p<next.length:=(by rw [hlen];exact (List.getElem?_eq_some_iff.mp hp).1);obtain ⟨row,h1,h2,h3,h4⟩:=hR p hpl;rw [show bs.getD p []=b by rw [List.getD_eq_getElem?_getD,hp];rfl] at h4;have hf:b.getD e false=false:=Bool.eq_false_iff.mpr hn;rw [hf] at h4;have hmem:=(tZ (first:=first) (fr:=fr) (tt:=tt) (next:=next) (acc:=acc) (x:=⟨((first+p:Nat):Int),-1,(tt:Int)⟩)).mpr (.inr (.inr ⟨p,h4,by simp⟩));exact wH hmem (.nil _)
  |@cons c w b b1 b' hb hl _ ih =>
    intro p hp hn;have hpl:p<next.length:=(by rw [hlen];exact (List.getElem?_eq_some_iff.mp hp).1);obtain ⟨row,h1,h2,h3,h4⟩:=hR p hpl;rw [show bs.getD p []=b by rw [List.getD_eq_getElem?_getD,hp];rfl] at h3;have hc:=okS_mem hw (List.mem_cons_self ..);obtain ⟨c',rfl⟩:=Int.eq_ofNat_of_zero_le hc.1;obtain ⟨p1,b2,r1,r2,r3,r4⟩:=h3 c' (by omega);obtain rfl:b1=b2:=TA (by rw [hl,r4]) hb r3;have hmem:=(tZ (first:=first) (fr:=fr) (tt:=tt) (next:=next) (acc:=acc) (x:=⟨((first+p:Nat):Int),(c':Int),((first+p1:Nat):Int)⟩)).mpr (.inr (.inl ⟨p,row,c',(p1:Int),h1,r1,by simp⟩));have hw2:AR ns w=true:=by
      unfold AR at hw ⊢;rw [List.all_cons,Bool.and_eq_true] at hw;exact hw.2
    exact g_ hmem (.inl rfl) (ih hw2 p1 r2 hn)
theorem frag_not {b0 b':List Bool} {w:List Int} (hR:Rows m ns e l bs next acc) (hlen:next.length=bs.length) (hal:acc.length=next.length) (h0:bs[0]?=some b0) (hW:Walk m l b0 w b') (hw:VW ns w) (hf:fr<first) (ht:tt<first) (hft:fr≠tt) :
    Path (wR first fr tt next acc) fr w tt↔¬ In b' e:=by
  constructor
  · intro p
    have:=DL (fun i w=>(i=fr→∀ b',Walk m l b0 w b'→¬ In b' e)∧(∀ p b b',i=first+p→bs[p]?=some b→Walk m l b w b'→¬ In b' e)∧(i=tt→w=[]))
      ⟨fun h=>by omega,fun p b b' h=>by omega,fun _=>rfl⟩ (fun x hx e1 w ih=>?_) (fun x hx c w hc e1 ih=>?_) p (l8 hw)
    · exact this.1 rfl b' hW
    · rcases tZ.mp hx with rfl|⟨p,row,c,t,_,_,rfl⟩|⟨p,h1,rfl⟩
      · rw [iR.2] at ih
        rw [iR.1];exact ⟨fun _ b' hW=>ih.2.1 0 b0 b' rfl h0 hW,fun p b b' h=>by omega,fun h=>by omega⟩
      · exact absurd e1 (by show ¬ (c:Int) = -1;omega)
      · have e2:((tt:Int)).toNat=tt:=by omega
        have e3:((first:Int)+(p:Int)).toNat=first+p:=by omega
        have ih3:tt=tt→w=[]:=fun _=>ih.2.2 e2;obtain rfl:=ih3 rfl;refine ⟨fun h=>?_,fun p' b b' h hb hW=>?_,fun h=>?_⟩
        · have:((first:Int)+(p:Int)).toNat=fr:=h
          omega
        · have h:((first:Int)+(p:Int)).toNat=first+p':=h
          obtain rfl:p=p':=(by omega);cases hW;have hpl:p<next.length:=(by rw [←hal];exact (List.getElem?_eq_some_iff.mp h1).1);obtain ⟨row,_,_,_,h4⟩:=hR p hpl;rw [show bs.getD p []=b by rw [List.getD_eq_getElem?_getD,hb];rfl,h1] at h4;have:=Option.some.inj h4;unfold In;rw [←this];simp
        · have:((first:Int)+(p:Int)).toNat=tt:=h
          omega
    · rcases tZ.mp hx with rfl|⟨p,row,c',t,h1,h2,rfl⟩|⟨p,_,rfl⟩
      · have:(-1:Int)=c∨(-1:Int) = -2:=e1
        omega
      · have hcc:(c':Int)=c:=by
          have:(c':Int)=c∨(c':Int) = -2:=e1;omega
        subst hcc;refine ⟨fun h=>?_,fun p' b b' h hb hW=>?_,fun h=>?_⟩
        · have:((first:Int)+(p:Int)).toNat=fr:=h
          omega
        · have h:((first:Int)+(p:Int)).toNat=first+p':=h
          obtain rfl:p=p':=(by omega);have hpl:p<next.length:=(List.getElem?_eq_some_iff.mp h1).1;obtain ⟨row',g1,g2,g3,_⟩:=hR p hpl;rw [h1] at g1;obtain rfl:=Option.some.inj g1;rw [show bs.getD p []=b by rw [List.getD_eq_getElem?_getD,hb];rfl] at g3;obtain ⟨p1,b2,r1,r2,r3,r4⟩:=g3 c' (List.getElem?_eq_some_iff.mp h2).1;rw [h2] at r1;obtain rfl:=Option.some.inj r1;cases hW with
          |cons hb1 hl1 hW1 =>
            rename_i b1
            obtain rfl:b1=b2:=TA (by rw [hl1,r4]) hb1 r3;exact ih.2.1 p1 b1 b' (by show ((first:Int)+(p1:Int)).toNat=first+p1;omega) r2 hW1
        · have:((first:Int)+(p:Int)).toNat=tt:=h
          omega
      · have:(-1:Int)=c∨(-1:Int) = -2:=e1
        omega
  · intro hn
    have hmem:=(tZ (first:=first) (fr:=fr) (tt:=tt) (next:=next) (acc:=acc) (x:=⟨(fr:Int),-1,(first:Int)⟩)).mpr (.inl rfl);exact wH hmem (walk_from hR hlen hal hW hw.1 0 h0 hn)
end
end Go.Proofs.Ytapinbmkjkbkkaa.Pu
namespace Go.Proofs.Ytapinbmkjkbkkaa.Pu
open Go.RowKit Go.Proofs.aC.bE Go.Proofs.aC.bV Go.Proofs.aC.bY Lb Mk Ls
def lW:Nat→St→Option St
  |0,s=>some s
  |n+1,s=>(kP s).bind fun p=>lW n p.2
def tF:List gV→St→Option St
  |[],s=>some s
  |x :: xs,s=>(qB s x.f0 x.f1 x.f2).bind (tF xs)
def MU (o:Option (List (List Int) × List Bool)) (fr tt:Int) (s:St):Option St :=
  match o with
  |none=>none
  |some p=>(lW p.1.length s).bind (tF (wR s.1 fr tt p.1 p.2))
theorem statesF_eq : ∀ (n:Nat) (m:Nat) (l:List gV) (s':St),m≤4096→lW n ((m:Int),l)=some s'→s'=(((m+n:Nat):Int),l)∧m+n≤4096:=by
  intro n;induction n with
  |zero =>
    intro m l s' hm h;obtain rfl:=Option.some.inj h;exact ⟨rfl,hm⟩
  |succ n ih =>
    intro m l s' hm h;rw [lW] at h;obtain ⟨p,hp,h⟩:=Option.bind_eq_some_iff.mp h;unfold kP at hp;by_cases h1:(m:Int)<4096
    · rw [if_pos h1] at hp
      obtain rfl:=Option.some.inj hp;have h:lW n (((m+1:Nat):Int),l)=some s':=(by rw [Int.natCast_succ];exact h);obtain ⟨rfl,h2⟩:=ih (m+1) l s' (by omega) h;exact ⟨by rw [show m+1+n=m+(n+1) by omega],by omega⟩
    · rw [if_neg h1] at hp
      exact absurd hp (by simp)
theorem NQ : ∀ (xs:List gV) (s s':St),s.2.length≤65536→tF xs s=some s'→s'=(s.1,s.2 ++ xs)∧(s.2 ++ xs).length≤65536
  |[],s,s',hl,h=>by
    obtain rfl:=Option.some.inj h;exact ⟨by simp,by simpa using hl⟩
  |x :: xs,s,s',hl,h=>by
    rw [tF] at h;obtain ⟨p,hp,h⟩:=Option.bind_eq_some_iff.mp h;unfold qB at hp;by_cases h1:s.2.length<65536
    · rw [if_pos h1] at hp
      obtain rfl:=Option.some.inj hp;obtain ⟨rfl,h2⟩:=NQ xs _ s' (by simp;omega) h;refine ⟨by simp,?_⟩;simpa using h2
    · rw [if_neg h1] at hp
      exact absurd hp (by simp)
def wU (o:Option (List (List Int) × List Bool)):Prop:=∀ p,o=some p→p.1.length≤1024∧p.2.length=p.1.length∧∀ row∈p.1,row.length≤4096∧∀ x∈row,0≤x∧x≤1024
structure Q9 (ns:Nat) (a:St) (o:Option (List (List Int) × List Bool)):Prop where
  ex : ∃ k,oV.f k a.1 ns 0 1 a.2=some (match o with|none=>(0,[],[],3)|some p=>((ns:Int),p.1,p.2,0))
  dim:wU o
  rx : ∃ k,aH.f k a.1 ns 0 1 a.2=some (match o with|none=>(0,[],[],3)|some p=>((ns:Int),p.1,p.2,0))
  rl : ∀ p,o=some p→∀ row∈p.1,row.length=ns
def NNok (ns:Nat) (nn:St→Int→Int→St→Option St):Prop :=
  ∀ a:St,RA a.1 ns 0 1 a.2=0→∃ o,Q9 ns a o∧∀ fr tt s,nn a fr tt s=MU o fr tt s
def KL (nm:List (List UInt8)) (nn:St→Int→Int→St→Option St) (r:gB):Prop :=
  ∀ (fr tt m:Nat) (l:List gV) (s':St),fr<m→tt<m→fr≠tt→m≤4096→l.length≤65536→R6 nm nn r fr tt ((m:Int),l)=some s' →
    ∃ (m':Nat) (F:List gV),s'=((m':Int),l ++ F)∧m≤m'∧m'≤4096∧(l ++ F).length≤65536∧NL nm.length F fr tt m m'∧∀ w,VW nm.length w→(Path F fr w tt↔tV nm r w)
theorem yM {s s':St} {fr y tt:Int} (h:qB s fr y tt=some s'):s'=(s.1,s.2 ++ ([⟨fr,y,tt⟩]:List gV))∧(s.2 ++ ([⟨fr,y,tt⟩]:List gV)).length≤65536:=by
  unfold qB at h;by_cases h1:s.2.length<65536
  · rw [if_pos h1] at h
    obtain rfl:=Option.some.inj h;exact ⟨rfl,by simp;omega⟩
  · rw [if_neg h1] at h
    exact absurd h (by simp)
theorem zN {m:Nat} {l:List gV} {p:Int × St} (h:kP ((m:Int),l)=some p):p=((m:Int),((m+1:Nat):Int),l)∧m+1≤4096:=by
  unfold kP at h;by_cases h1:(m:Int)<4096
  · rw [if_pos h1] at h
    obtain rfl:=Option.some.inj h;exact ⟨by simp,by omega⟩
  · rw [if_neg h1] at h
    exact absurd h (by simp)
theorem path_end {l:List gV} {i j:Nat} {w:List Int} (h : ∀ x∈l,x.f0.toNat≠i) (p:Path l i w j):w=[]∧i=j:=by
  rcases NK p with h1|⟨x,hx,e,_⟩
  · exact h1
  · exact absurd e (h x hx)
theorem IE {fr tt:Nat} {w:List Int} (h:fr≠tt) : ¬ Path [] fr w tt:=fun p=>by
  rcases NK p with ⟨_,e⟩|⟨x,hx,_⟩
  · exact h e
  · exact absurd hx (by simp)
theorem NR {ns fr tt m:Nat}:NL ns [] fr tt m m:=⟨fun _ h=>absurd h (by simp),fun _ h=>absurd h (by simp),fun _ h=>absurd h (by simp),fun _ h=>absurd h (by simp)⟩
theorem NS {ns fr tt m:Nat} {y:Int} (h1 : -2≤y) (h2:y<ns):NL ns [⟨fr,y,tt⟩] fr tt m m :=
  ⟨fun x h=>by rw [List.mem_singleton.mp h,iR.1];exact .inl rfl,fun x h=>by rw [List.mem_singleton.mp h,iR.2];exact .inl rfl,fun x h=>by rw [List.mem_singleton.mp h];exact ⟨Int.natCast_nonneg _,Int.natCast_nonneg _⟩,fun x h=>by rw [List.mem_singleton.mp h];exact ⟨h1,h2⟩⟩
theorem NU {fr tt:Nat} {y:Int} (h:fr≠tt) {w:List Int} (hw : ∀ c∈w,0≤c):Path [⟨fr,y,tt⟩] fr w tt↔(y = -1∧w=[])∨∃ c,w=[c]∧(y=c∨y = -2):=by
  have hend : ∀ {v},Path [⟨(fr:Int),y,(tt:Int)⟩] tt v tt→v=[]:=fun p=>(path_end (fun x hx=>by rw [List.mem_singleton.mp hx,iR.1];exact h) p).1;constructor
  · intro p
    rcases NK p with ⟨_,e⟩|⟨x,hx,_,hs⟩
    · exact absurd e h
    · obtain rfl:=List.mem_singleton.mp hx
      rw [iR.2] at hs;rcases hs with ⟨e,p⟩|⟨c,v,rfl,e,p⟩
      · exact .inl ⟨e,hend p⟩
      · obtain rfl:=hend p
        exact .inr ⟨c,rfl,e⟩
  · rintro (⟨rfl,rfl⟩|⟨c,rfl,e⟩)
    · exact wH (List.mem_cons_self ..) (.nil _)
    · exact g_ (List.mem_cons_self ..) e (.nil _)
section
variable {nm : List (List UInt8)} {nn : St → Int → Int → St → Option St}
theorem nN (op:Int) (name:ByteArray) (ks:List gB):tV nm ⟨op,name,ks⟩=(if op=1 then (fun w=>nk name∈nm∧w=[nameAt nm (nk name)])
    else if op=2 then (fun w=>∃ c,w=[c]) else if op=3 then (fun w=>w=[]) else if op=5 then kM nm ks else if op=6 then wB nm ks
    else if op=7 then tC (tX nm ks) else if op=8 then (fun w=>¬ tX nm ks w) else (fun _=>False)):=by rw [tV]
theorem TB {s:List UInt8} (h:s∈nm):0≤nameAt nm s∧nameAt nm s<nm.length:=by
  unfold nameAt;rw [if_pos h];have:=List.idxOf_lt_length_of_mem h;omega
theorem mk_name (name:ByteArray) (ks:List gB):KL nm nn ⟨1,name,ks⟩:=by
  intro fr tt m l s' hf ht hft hm hl h;rw [rQ,if_pos rfl] at h;rw [nN,if_pos rfl];by_cases hin:nk name∈nm
  · rw [if_pos hin] at h
    obtain ⟨rfl,h2⟩:=yM h;have hn:=TB hin;refine ⟨m,_,rfl,Nat.le_refl _,hm,h2,NS (by omega) (by omega),fun w hw=>?_⟩;rw [NU hft (l8 hw)];constructor
    · rintro (⟨e,_⟩|⟨c,rfl,e⟩)
      · omega
      · have:=l8 hw c (List.mem_cons_self ..)
        have:c=nameAt nm (nk name):=(by omega);exact ⟨hin,by rw [this]⟩
    · rintro ⟨_,rfl⟩
      exact .inr ⟨_,rfl,.inl rfl⟩
  · rw [if_neg hin] at h
    obtain rfl:=Option.some.inj h;refine ⟨m,[],by simp,Nat.le_refl _,hm,by simpa using hl,NR,fun w hw=>⟨fun p=>absurd p (IE hft),fun h=>absurd h.1 hin⟩⟩
theorem mk_any (name:ByteArray) (ks:List gB):KL nm nn ⟨2,name,ks⟩:=by
  intro fr tt m l s' hf ht hft hm hl h;rw [rQ,if_neg (by decide),if_pos rfl] at h;rw [nN,if_neg (by decide),if_pos rfl];obtain ⟨rfl,h2⟩:=yM h;refine ⟨m,_,rfl,Nat.le_refl _,hm,h2,NS (by omega) (by omega),fun w hw=>?_⟩;rw [NU hft (l8 hw)];constructor
  · rintro (⟨e,_⟩|⟨c,rfl,e⟩)
    · omega
    · exact ⟨c,rfl⟩
  · rintro ⟨c,rfl⟩
    exact .inr ⟨_,rfl,.inr rfl⟩
theorem mk_empty (name:ByteArray) (ks:List gB):KL nm nn ⟨3,name,ks⟩:=by
  intro fr tt m l s' hf ht hft hm hl h;rw [rQ,if_neg (by decide),if_neg (by decide),if_pos rfl] at h;rw [nN,if_neg (by decide),if_neg (by decide),if_pos rfl];obtain ⟨rfl,h2⟩:=yM h;refine ⟨m,_,rfl,Nat.le_refl _,hm,h2,NS (by omega) (by omega),fun w hw=>?_⟩;rw [NU hft (l8 hw)];constructor
  · rintro (⟨_,e⟩|⟨c,rfl,e⟩)
    · exact e
    · have:=l8 hw c (List.mem_cons_self ..)
      omega
  · intro e
    exact .inl ⟨rfl,e⟩
theorem mk_none (op:Int) (name:ByteArray) (ks:List gB) (h:op≠1∧op≠2∧op≠3∧op≠5∧op≠6∧op≠7∧op≠8):KL nm nn ⟨op,name,ks⟩:=by
  intro fr tt m l s' hf ht hft hm hl h1;obtain ⟨e1,e2,e3,e5,e6,e7,e8⟩:=h;rw [rQ,if_neg e1,if_neg e2,if_neg e3,if_neg e5,if_neg e6,if_neg e7,if_neg e8] at h1;rw [nN,if_neg e1,if_neg e2,if_neg e3,if_neg e5,if_neg e6,if_neg e7,if_neg e8];obtain rfl:=Option.some.inj h1;exact ⟨m,[],by simp,Nat.le_refl _,hm,by simpa using hl,NR,fun w hw=>⟨fun p=>absurd p (IE hft),fun h=>h.elim⟩⟩
theorem mk_seq (name:ByteArray) : ∀ (ks:List gB),ks≠[]→(∀ k∈ks,KL nm nn k)→∀ (fr tt m:Nat) (l:List gV) (s':St),fr<m→tt<m→fr≠tt→m≤4096→l.length≤65536→DV nm nn ks fr tt ((m:Int),l)=some s' →
    ∃ (m':Nat) (F:List gV),s'=((m':Int),l ++ F)∧m≤m'∧m'≤4096∧(l ++ F).length≤65536∧NL nm.length F fr tt m m'∧∀ w,VW nm.length w→(Path F fr w tt↔kM nm ks w)
  |[],hne,_=>absurd rfl hne
  |k :: ks,_,ih=>by
    intro fr tt m l s' hf ht hft hm hl h;rw [IG] at h;rw [kM];by_cases hk:ks=[]
    · subst hk
      simp only [List.isEmpty_nil,if_true] at h;obtain ⟨m',F,h1,h2,h3,h4,h5,h6⟩:=ih k (List.mem_cons_self ..) fr tt m l s' hf ht hft hm hl h;refine ⟨m',F,h1,h2,h3,h4,h5,fun w hw=>(h6 w hw).trans ?_⟩;rw [kM];exact ⟨fun h=>⟨w,[],by simp,h,rfl⟩,by rintro ⟨u,v,rfl,h,rfl⟩;rwa [List.append_nil]⟩
    · have he : ¬ ks.isEmpty=true:=by simpa using hk
      rw [if_neg he] at h;obtain ⟨p,hp,h⟩:=Option.bind_eq_some_iff.mp h;obtain ⟨rfl,hm1⟩:=zN hp;obtain ⟨s1,hs1,h⟩:=Option.bind_eq_some_iff.mp h;obtain ⟨m1,F1,rfl,h2,h3,h4,h5,h6⟩:=ih k (List.mem_cons_self ..) fr m (m+1) l s1 (by omega) (by omega) (by omega) hm1 hl hs1;obtain ⟨m2,F2,rfl,g2,g3,g4,g5,g6⟩:=mk_seq name ks hk (fun k hk=>ih k (List.mem_cons_of_mem _ hk)) m tt m1 (l ++ F1) s' (by omega) (by omega) (by omega) h3 h4 h;refine ⟨m2,F1 ++ F2,by rw [List.append_assoc],by omega,g3,by rw [←List.append_assoc];exact g4,⟨fun x hx=>?_,fun x hx=>?_,fun x hx=>?_,fun x hx=>?_⟩,fun w hw=>?_⟩
      · rcases List.mem_append.mp hx with hx|hx
        · have:=h5.src x hx;omega
        · have:=g5.src x hx;omega
      · rcases List.mem_append.mp hx with hx|hx
        · have:=h5.dst x hx;omega
        · have:=g5.dst x hx;omega
      · rcases List.mem_append.mp hx with hx|hx
        · exact h5.pos x hx
        · exact g5.pos x hx
      · rcases List.mem_append.mp hx with hx|hx
        · exact h5.sym x hx
        · exact g5.sym x hx
      · rw [frag_seq h5 g5 (by omega) (by omega) (by omega) h2 (by omega) (by omega) hft hw]
        constructor
        · rintro ⟨u,v,rfl,p1,p2⟩
          exact ⟨u,v,rfl,(h6 u (IA hw).1).mp p1,(g6 v (IA hw).2).mp p2⟩
        · rintro ⟨u,v,rfl,p1,p2⟩
          exact ⟨u,v,rfl,(h6 u (IA hw).1).mpr p1,(g6 v (IA hw).2).mpr p2⟩
theorem mk_alt (name:ByteArray) : ∀ (ks:List gB),(∀ k∈ks,KL nm nn k)→∀ (fr tt m:Nat) (l:List gV) (s':St),fr<m→tt<m→fr≠tt→m≤4096→l.length≤65536→II nm nn ks fr tt ((m:Int),l)=some s' →
    ∃ (m':Nat) (F:List gV),s'=((m':Int),l ++ F)∧m≤m'∧m'≤4096∧(l ++ F).length≤65536∧NL nm.length F fr tt m m'∧∀ w,VW nm.length w→(Path F fr w tt↔wB nm ks w)
  |[],_=>by
    intro fr tt m l s' hf ht hft hm hl h;rw [II] at h;rw [wB];obtain rfl:=Option.some.inj h;exact ⟨m,[],by simp,Nat.le_refl _,hm,by simpa using hl,NR,fun w hw=>⟨fun p=>absurd p (IE hft),fun h=>h.elim⟩⟩
  |k :: ks,ih=>by
    intro fr tt m l s' hf ht hft hm hl h;rw [IJ] at h;rw [wB];obtain ⟨p,hp,h⟩:=Option.bind_eq_some_iff.mp h;obtain ⟨rfl,hm1⟩:=zN hp;obtain ⟨q,hq,h⟩:=Option.bind_eq_some_iff.mp h;obtain ⟨rfl,hm2⟩:=zN hq;obtain ⟨s0,hs0,h⟩:=Option.bind_eq_some_iff.mp h;obtain ⟨rfl,hl0⟩:=yM hs0;obtain ⟨s1,hs1,h⟩:=Option.bind_eq_some_iff.mp h;obtain ⟨m1,F1,rfl,h2,h3,h4,h5,h6⟩:=ih k (List.mem_cons_self ..) m (m+1) (m+1+1) _ s1 (by omega) (by omega) (by omega) hm2 hl0 hs1;obtain ⟨s2,hs2,h⟩:=Option.bind_eq_some_iff.mp h;obtain ⟨rfl,hl2⟩:=yM hs2;obtain ⟨m2,F2,rfl,g2,g3,g4,g5,g6⟩:=mk_alt name ks (fun k hk=>ih k (List.mem_cons_of_mem _ hk)) fr tt m1 _ s' (by omega) (by omega) (by omega) h3 hl2 h;have e:l ++ [⟨(fr:Int),-1,(m:Int)⟩] ++ F1 ++ [⟨((m+1:Nat):Int),-1,(tt:Int)⟩] ++ F2=l ++ (⟨(fr:Int),-1,(m:Int)⟩ :: (F1 ++ (⟨((m+1:Nat):Int),-1,(tt:Int)⟩ :: F2))):=(by simp);have hin : ∀ x∈(⟨(fr:Int),-1,(m:Int)⟩ :: (F1 ++ (⟨((m+1:Nat):Int),-1,(tt:Int)⟩ :: F2)):List gV),x=⟨(fr:Int),-1,(m:Int)⟩∨x∈F1∨x=⟨((m+1:Nat):Int),-1,(tt:Int)⟩∨x∈F2:=fun x hx=>by
      simpa [List.mem_cons,List.mem_append,or_assoc] using hx
    refine ⟨m2,_,by rw [←e],by omega,g3,by rw [←e];exact g4,⟨fun x hx=>?_,fun x hx=>?_,fun x hx=>?_,fun x hx=>?_⟩,fun w hw=>?_⟩
    · rcases hin x hx with rfl|hx|rfl|hx
      · rw [iR.1];omega
      · have:=h5.src x hx;omega
      · rw [iR.1];omega
      · have:=g5.src x hx;omega
    · rcases hin x hx with rfl|hx|rfl|hx
      · rw [iR.2];omega
      · have:=h5.dst x hx;omega
      · rw [iR.2];omega
      · have:=g5.dst x hx;omega
    · rcases hin x hx with rfl|hx|rfl|hx
      · exact ⟨Int.natCast_nonneg _,Int.natCast_nonneg _⟩
      · exact h5.pos x hx
      · exact ⟨Int.natCast_nonneg _,Int.natCast_nonneg _⟩
      · exact g5.pos x hx
    · rcases hin x hx with rfl|hx|rfl|hx
      · exact ⟨by show (-2:Int) ≤ -1;decide,by show (-1:Int)<_;omega⟩
      · exact h5.sym x hx
      · exact ⟨by show (-2:Int) ≤ -1;decide,by show (-1:Int)<_;omega⟩
      · exact g5.sym x hx
    · rw [frag_alt h5 g5 (by omega) (by omega) (by omega) (by omega) (by omega) (by omega) (by omega) h2 hft hw,h6 w hw,g6 w hw]
theorem TC {L L':List Int→Prop} {ns:Nat} (h : ∀ w,VW ns w→(L w↔L' w)) {w:List Int} (hw:VW ns w) (hs:tC L w):tC L' w:=by
  induction hs with
  |nil=>exact .nil
  |app hu _ ih=>exact .app ((h _ (IA hw).1).mp hu) (ih (IA hw).2)
theorem mk_star (name:ByteArray) (k:gB) (ks:List gB) (ih:KL nm nn k):KL nm nn ⟨7,name,k :: ks⟩:=by
  intro fr tt m l s' hf ht hft hm hl h;rw [rQ,if_neg (by decide),if_neg (by decide),if_neg (by decide),if_neg (by decide),if_neg (by decide),if_pos rfl,BM] at h;rw [nN,if_neg (by decide),if_neg (by decide),if_neg (by decide),if_neg (by decide),if_neg (by decide),if_pos rfl,tX];obtain ⟨p,hp,h⟩:=Option.bind_eq_some_iff.mp h;obtain ⟨rfl,hm1⟩:=zN hp;obtain ⟨q,hq,h⟩:=Option.bind_eq_some_iff.mp h;obtain ⟨rfl,hm2⟩:=zN hq;obtain ⟨s0,hs0,h⟩:=Option.bind_eq_some_iff.mp h;obtain ⟨rfl,hl0⟩:=yM hs0;obtain ⟨s1,hs1,h⟩:=Option.bind_eq_some_iff.mp h;obtain ⟨m1,F1,rfl,h2,h3,h4,h5,h6⟩:=ih m (m+1) (m+1+1) _ s1 (by omega) (by omega) (by omega) hm2 hl0 hs1;obtain ⟨s2,hs2,h⟩:=Option.bind_eq_some_iff.mp h;obtain ⟨rfl,hl2⟩:=yM hs2;obtain ⟨rfl,hl3⟩:=yM h;have e:l ++ [⟨(fr:Int),-1,(m:Int)⟩] ++ F1 ++ [⟨((m+1:Nat):Int),-1,(m:Int)⟩] ++ [⟨(m:Int),-1,(tt:Int)⟩]=l ++ (⟨(fr:Int),-1,(m:Int)⟩ :: (F1 ++ [⟨((m+1:Nat):Int),-1,(m:Int)⟩,⟨(m:Int),-1,(tt:Int)⟩])):=(by simp);have hin : ∀ x∈(⟨(fr:Int),-1,(m:Int)⟩ :: (F1 ++ [⟨((m+1:Nat):Int),-1,(m:Int)⟩,⟨(m:Int),-1,(tt:Int)⟩]):List gV),x=⟨(fr:Int),-1,(m:Int)⟩∨x∈F1∨x=⟨((m+1:Nat):Int),-1,(m:Int)⟩∨x=⟨(m:Int),-1,(tt:Int)⟩:=fun x hx=>by
    simpa [List.mem_cons,List.mem_append,or_assoc] using hx
  refine ⟨m1,_,by rw [←e],by omega,h3,by rw [←e];exact hl3,⟨fun x hx=>?_,fun x hx=>?_,fun x hx=>?_,fun x hx=>?_⟩,fun w hw=>?_⟩
  · rcases hin x hx with rfl|hx|rfl|rfl
    · rw [iR.1];omega
    · have:=h5.src x hx;omega
    · rw [iR.1];omega
    · rw [iR.1];omega
  · rcases hin x hx with rfl|hx|rfl|rfl
    · rw [iR.2];omega
    · have:=h5.dst x hx;omega
    · rw [iR.2];omega
    · rw [iR.2];omega
  · rcases hin x hx with rfl|hx|rfl|rfl
    · exact ⟨Int.natCast_nonneg _,Int.natCast_nonneg _⟩
    · exact h5.pos x hx
    · exact ⟨Int.natCast_nonneg _,Int.natCast_nonneg _⟩
    · exact ⟨Int.natCast_nonneg _,Int.natCast_nonneg _⟩
  · rcases hin x hx with rfl|hx|rfl|rfl
    · exact ⟨by show (-2:Int) ≤ -1;decide,by show (-1:Int)<_;omega⟩
    · exact h5.sym x hx
    · exact ⟨by show (-2:Int) ≤ -1;decide,by show (-1:Int)<_;omega⟩
    · exact ⟨by show (-2:Int) ≤ -1;decide,by show (-1:Int)<_;omega⟩
  · rw [frag_star h5 (by omega) (by omega) (by omega) (by omega) (by omega) (by omega) (by omega) hft hw]
    exact ⟨TC h6 hw,TC (fun w hw=>(h6 w hw).symm) hw⟩
theorem UA {ns m:Nat} {F:List gV} (hm:2≤m) (h4:m≤4096) (hns:ns≤4096) (hl:F.length≤65536) (h:NL ns F 0 1 2 m):RA m ns 0 1 F=0:=by
  unfold RA;rw [if_neg (by omega),if_pos (by unfold mF;exact decide_eq_true ⟨by omega,by omega,by omega,by omega,by omega,by omega⟩),if_pos];rw [List.all_eq_true];intro x hx;have h1:=h.src x hx;have h2:=h.dst x hx;have h3:=h.pos x hx;have h5:=h.sym x hx;unfold iQ;exact decide_eq_true ⟨⟨by omega,by omega⟩,⟨by omega,by omega⟩,h5.1,h5.2⟩
theorem mk_not (hns:nm.length≤4096) (hnn:NNok nm.length nn) (name:ByteArray) (k:gB) (ks:List gB) (ih:KL nm nn k):KL nm nn ⟨8,name,k :: ks⟩:=by
  intro fr tt m l s' hf ht hft hm hl h;rw [rQ,if_neg (by decide),if_neg (by decide),if_neg (by decide),if_neg (by decide),if_neg (by decide),if_neg (by decide),if_pos rfl,ZJ] at h;rw [nN,if_neg (by decide),if_neg (by decide),if_neg (by decide),if_neg (by decide),if_neg (by decide),if_neg (by decide),if_pos rfl,tX];obtain ⟨a,ha,h⟩:=Option.bind_eq_some_iff.mp h;obtain ⟨ma,F,rfl,h2,h3,h4,h5,h6⟩:=ih 0 1 2 [] a (by omega) (by omega) (by omega) (by omega) (by simp) ha;rw [List.nil_append] at h h4;have hck:=UA h2 h3 hns h4 h5;obtain ⟨o,⟨⟨k1,hk1⟩,_,_,_⟩,ho⟩:=hnn ((ma:Int),F) hck;rw [ho] at h;cases o with
  |none=>exact absurd h (by simp [MU])
  |some p =>
    obtain ⟨next,acc⟩:=p;obtain ⟨s1,hs1,h⟩:=Option.bind_eq_some_iff.mp (show (lW next.length ((m:Int),l)).bind (tF (wR m fr tt next acc))=some s' from h);obtain ⟨rfl,hm2⟩:=statesF_eq next.length m l s1 hm hs1;obtain ⟨rfl,hl2⟩:=NQ _ _ _ hl h;obtain ⟨_,_,_,_,e1,e2,e3,e4,_,hs,he,A,hsy⟩:=ck_ok hck;have e1:=Int.ofNat.inj e1;have e2:=Int.ofNat.inj e2;have e3:(0:Int)=((0:Nat):Int):=rfl;subst e1;subst e2;have hck':RA ma nm.length ((0:Nat):Int) ((1:Nat):Int) F=0:=hck;have huniq : ∀ r,(∃ K,∀ k,K≤k→oV.f k ma nm.length 0 1 F=some r)→r=((nm.length:Int),next,acc,(0:Int)):=by
      rintro r ⟨K,hK⟩;have h1:=vH (fun k=>oV.mono _ _ _ _ _ k) (show k1≤K+k1 by omega) hk1;rw [hK _ (by omega)] at h1;exact Option.some.inj h1
    rcases p_ (s:=0) (e:=1) A hns (by omega) (by omega) hck' with ⟨K,h7⟩|⟨K,n,ac,b0,ys,h7,hb0,hH,hlen,hal,hn,hrows⟩
    · have:=huniq _ ⟨K,fun k hk=>(h7 k hk).1⟩
      exact absurd (congrArg (fun r=>r.2.2.2) this) (by simp)
    · have:=huniq _ ⟨K,fun k hk=>(h7 k hk).1⟩
      obtain ⟨rfl,rfl⟩:n=next∧ac=acc:=(by simpa using this);refine ⟨m+n.length,wR m fr tt n ac,rfl,by omega,hm2,hl2,⟨fun x hx=>?_,fun x hx=>?_,fun x hx=>?_,fun x hx=>?_⟩,fun w hw=>?_⟩
      · rcases tZ.mp hx with rfl|⟨p,row,c,t,g1,_,rfl⟩|⟨p,g1,rfl⟩
        · rw [iR.1];exact .inl rfl
        · have:=(List.getElem?_eq_some_iff.mp g1).1
          right
          show m≤((m:Int)+(p:Int)).toNat∧((m:Int)+(p:Int)).toNat<_;omega
        · have:=(List.getElem?_eq_some_iff.mp g1).1
          right
          show m≤((m:Int)+(p:Int)).toNat∧((m:Int)+(p:Int)).toNat<_;omega
      · rcases tZ.mp hx with rfl|⟨p,row,c,t,g1,g2,rfl⟩|⟨p,g1,rfl⟩
        · rw [iR.2];right;omega
        · obtain ⟨row',r1,r2,r3,_⟩:=hrows p (List.getElem?_eq_some_iff.mp g1).1
          rw [g1] at r1;obtain rfl:=Option.some.inj r1;obtain ⟨p1,b2,q1,q2,_⟩:=r3 c (List.getElem?_eq_some_iff.mp g2).1;rw [g2] at q1;obtain rfl:=Option.some.inj q1;have:=(List.getElem?_eq_some_iff.mp q2).1;rw [List.length_cons] at this;right
          show m≤((m:Int)+(p1:Int)).toNat∧((m:Int)+(p1:Int)).toNat<_;omega
        · left
          show ((tt:Int)).toNat=tt;omega
      · rcases tZ.mp hx with rfl|⟨p,row,c,t,g1,g2,rfl⟩|⟨p,g1,rfl⟩
        · exact ⟨Int.natCast_nonneg _,Int.natCast_nonneg _⟩
        · obtain ⟨row',r1,r2,r3,_⟩:=hrows p (List.getElem?_eq_some_iff.mp g1).1
          rw [g1] at r1;obtain rfl:=Option.some.inj r1;obtain ⟨p1,b2,q1,q2,_⟩:=r3 c (List.getElem?_eq_some_iff.mp g2).1;rw [g2] at q1;obtain rfl:=Option.some.inj q1;exact ⟨by show 0≤(m:Int)+(p:Int);omega,by show 0≤(m:Int)+(p1:Int);omega⟩
        · exact ⟨by show 0≤(m:Int)+(p:Int);omega,Int.natCast_nonneg _⟩
      · rcases tZ.mp hx with rfl|⟨p,row,c,t,g1,g2,rfl⟩|⟨p,g1,rfl⟩
        · exact ⟨by show (-2:Int) ≤ -1;decide,by show (-1:Int)<_;omega⟩
        · obtain ⟨row',r1,r2,r3,_⟩:=hrows p (List.getElem?_eq_some_iff.mp g1).1
          rw [g1] at r1;obtain rfl:=Option.some.inj r1;have:=(List.getElem?_eq_some_iff.mp g2).1;exact ⟨by show (-2:Int)≤(c:Int);omega,by show (c:Int)<_;omega⟩
        · exact ⟨by show (-2:Int) ≤ -1;omega,by show (-1:Int)<_;omega⟩
      · obtain ⟨K2,c0,b',hc0,hHc,hb',hW,_⟩:=a_ (s:=0) (e:=1) A (by omega) (by omega) hw.2 hck' hw.1
        obtain rfl:c0=b0:=JL (by rw [hc0,hb0]) hHc hH;rw [frag_not hrows (by rw [hlen];rfl) hal rfl hW hw hf ht hft,d_ (s:=0) (by omega) hHc hW 1,← h6 w hw]
theorem d_ex {ns:Nat} (hns:ns≤4096) : ∃ d:St→Option (List (List Int) × List Bool),∀ a,wU (d a)∧(RA a.1 ns 0 1 a.2=0→Q9 ns a (d a)):=by
  have h : ∀ a:St,∃ o,wU o∧(RA a.1 ns 0 1 a.2=0→Q9 ns a o):=by
    intro a;by_cases hck:RA a.1 ns 0 1 a.2=0
    · obtain ⟨a1,a2⟩:=a
      obtain ⟨m,ns',e1,e2,h1,h2,h3,h4,_,hs,he,A,hsy⟩:=ck_ok hck;have h2:=Int.ofNat.inj h2;subst h1;subst h2;have hck':RA m ns ((0:Nat):Int) ((1:Nat):Int) a2=0:=hck;have e1':e1=0:=(by omega);have e2':e2=1:=(by omega);subst e1';subst e2';rcases p_ (s:=0) (e:=1) A hns hs he hck' with ⟨K,h7⟩|⟨K,n,ac,b0,ys,h7,hb0,hH,hlen,hal,hn,hrows⟩
      · have hd:wU none:=fun p hp=>absurd hp (by simp)
        exact ⟨none,hd,fun _=>⟨⟨K,(h7 K (Nat.le_refl _)).1⟩,hd,⟨K,(h7 K (Nat.le_refl _)).2⟩,fun p hp=>absurd hp (by simp)⟩⟩
      · have hrl : ∀ row∈n,row.length=ns∧∀ x∈row,0≤x∧x≤1024:=fun row hrow=>by
          obtain ⟨q,hq,rfl⟩:=List.mem_iff_getElem.mp hrow;obtain ⟨row',r1,r2,r3,_⟩:=hrows q hq;rw [List.getElem?_eq_getElem hq] at r1;obtain rfl:=Option.some.inj r1;refine ⟨by omega,fun x hx=>?_⟩;obtain ⟨c,hc,rfl⟩:=List.mem_iff_getElem.mp hx;obtain ⟨p1,b2,q1,q2,_⟩:=r3 c hc;rw [List.getElem?_eq_getElem hc] at q1;have:=(List.getElem?_eq_some_iff.mp q2).1;rw [List.length_cons] at this;have:=Option.some.inj q1;omega
        have hd:wU (some (n,ac)):=fun p hp=>by
          obtain rfl:=Option.some.inj hp;exact ⟨hn,hal,fun row hrow=>⟨by rw [(hrl row hrow).1];exact hns,(hrl row hrow).2⟩⟩
        refine ⟨some (n,ac),hd,fun _=>⟨⟨K,(h7 K (Nat.le_refl _)).1⟩,hd,⟨K,(h7 K (Nat.le_refl _)).2⟩,fun p hp row hrow=>?_⟩⟩;obtain rfl:=Option.some.inj hp;exact (hrl row hrow).1
    · exact ⟨none,fun p hp=>absurd hp (by simp),fun h=>absurd h hck⟩
  exact ⟨fun a=>Classical.choose (h a),fun a=>Classical.choose_spec (h a)⟩
theorem mk_all (hns:nm.length≤4096) (hnn:NNok nm.length nn) : ∀ (n:Nat) (r:gB),SizeOf.sizeOf r≤n→gX r=true→KL nm nn r:=by
  intro n;induction n with
  |zero=>intro r h;cases r;simp at h
  |succ n ih =>
    intro r h hr;obtain ⟨op,name,ks⟩:=r;have hk : ∀ k,k∈ks→gX k=true→KL nm nn k:=by
      intro k hk;apply ih;have:=List.sizeOf_lt_of_mem hk;simp at h;omega
    rw [oZ] at hr;by_cases h1:op=1
    · subst h1;exact mk_name name ks
    rw [if_neg h1] at hr;by_cases h2:op=2
    · subst h2;exact mk_any name ks
    by_cases h3:op=3
    · subst h3;exact mk_empty name ks
    by_cases h4:op=4
    · subst h4;exact mk_none 4 name ks (by decide)
    rw [if_neg (by omega)] at hr;by_cases h78:op=7∨op=8
    · rw [if_pos h78,Bool.and_eq_true,Bool.and_eq_true] at hr
      cases ks with
      |nil=>exact absurd hr.2 (by simp [R7])
      |cons k ks =>
        have hkk:=hk k (List.mem_cons_self ..) (by simpa [R7] using hr.2);rcases h78 with rfl|rfl
        · exact mk_star name k ks hkk
        · exact mk_not hns hnn name k ks hkk
    · rw [if_neg h78] at hr
      by_cases h56:op=5∨op=6
      · rw [if_pos h56,Bool.and_eq_true,Bool.and_eq_true,Bool.not_eq_true'] at hr
        have hall : ∀ k∈ks,gX k=true:=by
          have hb:=hr.2;clear hr hk h;induction ks with
          |nil=>exact fun _ h=>absurd h (by simp)
          |cons k ks ih =>
            rw [P5,Bool.or_eq_false_iff,Bool.or_eq_false_iff,Bool.not_eq_false'] at hb;intro q hq;rcases List.mem_cons.mp hq with rfl|hq
            · exact hb.1.2
            · exact ih hb.2 q hq
        have hne:ks≠[]:=by
          rintro rfl;simp at hr
        rcases h56 with rfl|rfl
        · intro fr tt m l s' hf ht hft hm hl h
          rw [rQ,if_neg (by decide),if_neg (by decide),if_neg (by decide),if_pos rfl] at h;rw [nN,if_neg (by decide),if_neg (by decide),if_neg (by decide),if_pos rfl];exact mk_seq name ks hne (fun k hq=>hk k hq (hall k hq)) fr tt m l s' hf ht hft hm hl h
        · intro fr tt m l s' hf ht hft hm hl h
          rw [rQ,if_neg (by decide),if_neg (by decide),if_neg (by decide),if_neg (by decide),if_pos rfl] at h;rw [nN,if_neg (by decide),if_neg (by decide),if_neg (by decide),if_neg (by decide),if_pos rfl];exact mk_alt name ks (fun k hq=>hk k hq (hall k hq)) fr tt m l s' hf ht hft hm hl h
      · rw [if_neg h56] at hr
        exact absurd hr (by simp)
end
end Go.Proofs.Ytapinbmkjkbkkaa.Pu
namespace Go.Proofs.Ytapinbmkjkbkkaa.Pu
open Go.RowKit Go.Proofs.aC.bE Go.Proofs.aC.bV Go.Proofs.aC.bY Lb Mk Ls
abbrev RS:=Int × List gV × Bool
def BN (s:RS):RS:=(s.1+1,s.2)
def nL (s:RS) (fr y tt:Int):RS:=(s.1,s.2.1 ++ [⟨fr,y,tt⟩],s.2.2)
mutual
def zA (nm:List (List UInt8)) (rn:RS→Int→Int→RS→RS):gB→Int→Int→RS→RS
  |⟨op,name,ks⟩,fr,tt,s =>
    if op=1 then (if nk name∈nm then nL s fr (nameAt nm (nk name)) tt else s)
    else if op=2 then nL s fr (-2) tt
    else if op=3 then nL s fr (-1) tt
    else if op=5 then uZ nm rn ks fr tt s
    else if op=6 then uA nm rn ks fr tt s
    else if op=7 then U0 nm rn ks fr tt s
    else if op=8 then DF nm rn ks fr tt s
    else s
def uZ (nm:List (List UInt8)) (rn:RS→Int→Int→RS→RS):List gB→Int→Int→RS→RS
  |[],_,_,s=>s
  |k :: ks,fr,tt,s=>if ks.isEmpty then zA nm rn k fr tt s else uZ nm rn ks s.1 tt (zA nm rn k fr s.1 (BN s))
def uA (nm:List (List UInt8)) (rn:RS→Int→Int→RS→RS):List gB→Int→Int→RS→RS
  |[],_,_,s=>s
  |k :: ks,fr,tt,s=>uA nm rn ks fr tt (nL (zA nm rn k s.1 (s.1+1) (nL (BN (BN s)) fr (-1) s.1)) (s.1+1) (-1) tt)
def U0 (nm:List (List UInt8)) (rn:RS→Int→Int→RS→RS):List gB→Int→Int→RS→RS
  |[],_,_,s=>s
  |k :: _,fr,tt,s=>nL (nL (zA nm rn k s.1 (s.1+1) (nL (BN (BN s)) fr (-1) s.1)) (s.1+1) (-1) s.1) s.1 (-1) tt
def DF (nm:List (List UInt8)) (rn:RS→Int→Int→RS→RS):List gB→Int→Int→RS→RS
  |[],_,_,s=>s
  |k :: _,fr,tt,s=>rn (zA nm rn k 0 1 (2,[],false)) fr tt s
end
def Over (s:RS):Bool:=s.2.2 || decide (4096<s.1) || decide (65536<s.2.1.length)
def wW (d:St→Option (List (List Int) × List Bool)) (a:RS) (fr tt:Int) (s:RS):RS :=
  if Over a=true then (s.1,s.2.1,true)
  else match d (a.1,a.2.1) with
    |none=>(s.1,s.2.1,true)
    |some p=>(s.1+p.1.length,s.2.1 ++ wR s.1 fr tt p.1 p.2,Over (s.1+p.1.length,s.2.1 ++ wR s.1 fr tt p.1 p.2,s.2.2))
mutual
def cnt:gB→Nat
  |⟨_,_,ks⟩=>1+rT ks
def rT:List gB→Nat
  |[]=>0
  |k :: ks=>cnt k+rT ks
end
theorem j6 (nm:List (List UInt8)) (rn:RS→Int→Int→RS→RS) (op:Int) (name:ByteArray) (ks:List gB) (fr tt:Int) (s:RS):zA nm rn ⟨op,name,ks⟩ fr tt s =
    (if op=1 then (if nk name∈nm then nL s fr (nameAt nm (nk name)) tt else s)
    else if op=2 then nL s fr (-2) tt
    else if op=3 then nL s fr (-1) tt
    else if op=5 then uZ nm rn ks fr tt s
    else if op=6 then uA nm rn ks fr tt s
    else if op=7 then U0 nm rn ks fr tt s
    else if op=8 then DF nm rn ks fr tt s
    else s):=by rw [zA]
def wI (s s':RS) (n:Nat):Prop:=s.1≤s'.1∧s'.1≤s.1+n∧s.2.1.length≤s'.2.1.length∧s'.2.1.length≤s.2.1.length+n∧(s.2.2=true→s'.2.2=true)
theorem BO (s:RS) (n:Nat):wI s s n:=⟨by omega,by omega,by omega,by omega,fun h=>h⟩
theorem lG (s:RS) (fr y tt:Int):wI s (nL s fr y tt) 1:=⟨by show s.1≤s.1;omega,by show s.1≤_;omega,by simp [nL],by simp [nL],fun h=>h⟩
theorem iW (s:RS):wI s (BN s) 1:=⟨by show s.1≤s.1+1;omega,by show s.1+1≤_;omega,Nat.le_refl _,by show s.2.1.length≤_;omega,fun h=>h⟩
theorem NV {s s':RS} {n m:Nat} (h:wI s s' n) (hnm:n≤m):wI s s' m:=⟨h.1,by have:=h.2.1;omega,h.2.2.1,by have:=h.2.2.2.1;omega,h.2.2.2.2⟩
theorem v_ (first fr:Int) : ∀ (xs:List Int) (j:Nat),(yI first fr j xs).length=xs.length
  |[],_=>rfl
  |_ :: xs,j=>by rw [yI,List.length_cons,v_ first fr xs (j+1),List.length_cons]
theorem TD (first:Int) : ∀ (next:List (List Int)) (i:Nat),(∀ row∈next,row.length≤4096)→(pO first i next).length≤4096 * next.length
  |[],_,_=>by simp [pO]
  |r :: rs,i,h=>by
    rw [pO,List.length_append,v_,List.length_cons];have:=TD first rs (i+1) (fun row hr=>h row (List.mem_cons_of_mem _ hr))
    have:=h r (List.mem_cons_self ..);omega
theorem w_ (first tt:Int) : ∀ (acc:List Bool) (i:Nat),(sU first tt i acc).length≤acc.length
  |[],_=>by simp [sU]
  |b :: bs,i=>by
    rw [sU,List.length_append,List.length_cons];have:=w_ first tt bs (i+1)
    cases b <;> simp <;> omega
theorem x_ {first fr tt:Int} {p:List (List Int) × List Bool} (h:wU (some p)):(wR first fr tt p.1 p.2).length≤4200000:=by
  obtain ⟨h1,h2,h3⟩:=h p rfl;unfold wR;rw [List.length_cons,List.length_append];have:=TD first p.1 0 (fun row hr=>(h3 row hr).1)
  have:=w_ first tt p.2 0
  omega
theorem DK {d:St→Option (List (List Int) × List Bool)} (hd : ∀ a,wU (d a)) (a:RS) (fr tt:Int) (s:RS):wI s (wW d a fr tt s) 4200000:=by
  unfold wW;by_cases h:Over a=true
  · rw [if_pos h]
    exact ⟨by show s.1≤s.1;omega,by show s.1≤_;omega,Nat.le_refl _,by show s.2.1.length≤_;omega,fun _=>rfl⟩
  · rw [if_neg h]
    cases hp:d (a.1,a.2.1) with
    |none=>exact ⟨by show s.1≤s.1;omega,by show s.1≤_;omega,Nat.le_refl _,by show s.2.1.length≤_;omega,fun _=>rfl⟩
    |some p =>
      have KM:=hd (a.1,a.2.1);rw [hp] at KM;have hl:=x_ (first:=s.1) (fr:=fr) (tt:=tt) KM;have h1:=(KM p rfl).1;refine ⟨by show s.1≤s.1+_;omega,by show s.1+_≤_;omega,by simp,?_,fun h=>?_⟩
      · show (s.2.1 ++ _).length≤_
        rw [List.length_append];omega
      · show Over _=true
        unfold Over;simp [h]
theorem eY {s1 s2 s3:RS} {n m:Nat} (h:wI s1 s2 n) (k:wI s2 s3 m):wI s1 s3 (n+m) :=
  ⟨by have:=h.1;have:=k.1;omega,by have:=h.2.1;have:=k.2.1;omega,by have:=h.2.2.1;have:=k.2.2.1;omega,by have:=h.2.2.2.1;have:=k.2.2.2.1;omega,fun e=>k.2.2.2.2 (h.2.2.2.2 e)⟩
section
variable {nm : List (List UInt8)} {rn : RS → Int → Int → RS → RS}
theorem wQ (op:Int) (name:ByteArray) (ks:List gB):cnt ⟨op,name,ks⟩=1+rT ks:=by rw [cnt]
theorem kI (k:gB) (ks:List gB):rT (k :: ks)=cnt k+rT ks:=by rw [rT]
def JG (nm:List (List UInt8)) (rn:RS→Int→Int→RS→RS) (r:gB):Prop:=∀ fr tt s,∃ n,wI s (zA nm rn r fr tt s) n∧n+100≤5000000 * cnt r
theorem NW : ∀ ks:List gB,(∀ k∈ks,JG nm rn k)→∀ fr tt s,wI s (uZ nm rn ks fr tt s) (5000000 * rT ks)
  |[],_,_,_,s=>by rw [uZ];exact BO s _
  |k :: ks,ih,fr,tt,s=>by
    rw [uZ,kI];by_cases hk:ks.isEmpty=true
    · rw [if_pos hk]
      obtain ⟨n,h1,h2⟩:=ih k (List.mem_cons_self ..) fr tt s;exact NV h1 (by omega)
    · rw [if_neg hk]
      obtain ⟨n,h1,h2⟩:=ih k (List.mem_cons_self ..) fr s.1 (BN s);have h3:=NW ks (fun k hk=>ih k (List.mem_cons_of_mem _ hk)) s.1 tt (zA nm rn k fr s.1 (BN s));exact NV (eY (eY (iW s) h1) h3) (by omega)
theorem NY : ∀ ks:List gB,(∀ k∈ks,JG nm rn k)→∀ fr tt s,wI s (uA nm rn ks fr tt s) (5000000 * rT ks)
  |[],_,_,_,s=>by rw [uA];exact BO s _
  |k :: ks,ih,fr,tt,s=>by
    rw [uA,kI];obtain ⟨n,h1,h2⟩:=ih k (List.mem_cons_self ..) s.1 (s.1+1) (nL (BN (BN s)) fr (-1) s.1);have h3:=NY ks (fun k hk=>ih k (List.mem_cons_of_mem _ hk)) fr tt (nL (zA nm rn k s.1 (s.1+1) (nL (BN (BN s)) fr (-1) s.1)) (s.1+1) (-1) tt);exact NV (eY (eY (eY (eY (eY (iW s) (iW _)) (lG _ _ _ _)) h1) (lG _ _ _ _)) h3) (by omega)
theorem DJ (hrn : ∀ a fr tt s,wI s (rn a fr tt s) 4200000) : ∀ (n:Nat) (r:gB),SizeOf.sizeOf r≤n→JG nm rn r:=by
  intro n;induction n with
  |zero=>intro r h;cases r;simp at h
  |succ n ih =>
    intro r h;obtain ⟨op,name,ks⟩:=r;have hk : ∀ k,k∈ks→JG nm rn k:=by
      intro k hk;apply ih;have:=List.sizeOf_lt_of_mem hk;simp at h;omega
    intro fr tt s;rw [j6,wQ];have harc : ∀ fr y tt,∃ n,wI s (nL s fr y tt) n∧n+100≤5000000 * (1+rT ks):=fun fr y tt=>⟨1,lG s fr y tt,by omega⟩;have hrefl : ∃ n,wI s s n∧n+100≤5000000 * (1+rT ks):=⟨0,BO s 0,by omega⟩;by_cases h1:op=1
    · rw [if_pos h1]
      split
      · exact harc _ _ _
      · exact hrefl
    rw [if_neg h1];by_cases h2:op=2
    · rw [if_pos h2];exact harc _ _ _
    rw [if_neg h2];by_cases h3:op=3
    · rw [if_pos h3];exact harc _ _ _
    rw [if_neg h3];by_cases h5:op=5
    · rw [if_pos h5];exact ⟨_,NW ks hk fr tt s,by omega⟩
    rw [if_neg h5];by_cases h6:op=6
    · rw [if_pos h6];exact ⟨_,NY ks hk fr tt s,by omega⟩
    rw [if_neg h6];by_cases h7:op=7
    · rw [if_pos h7]
      cases ks with
      |nil=>rw [U0];exact hrefl
      |cons k ks =>
        rw [U0,kI];obtain ⟨n,h1,h2⟩:=hk k (List.mem_cons_self ..) s.1 (s.1+1) (nL (BN (BN s)) fr (-1) s.1);exact ⟨_,eY (eY (eY (eY (eY (iW s) (iW _)) (lG _ _ _ _)) h1) (lG _ _ _ _)) (lG _ _ _ _),by omega⟩
    rw [if_neg h7];by_cases h8:op=8
    · rw [if_pos h8]
      cases ks with
      |nil=>rw [DF];exact hrefl
      |cons k ks=>rw [DF];exact ⟨_,hrn _ _ _ _,by omega⟩
    rw [if_neg h8];exact hrefl
end
theorem xU {s s':RS} {n:Nat} (h:wI s s' n) (ho:Over s=true):Over s'=true:=by
  obtain ⟨h1,_,h3,_,h5⟩:=h;unfold Over at ho ⊢;rw [Bool.or_eq_true,Bool.or_eq_true] at ho ⊢;rcases ho with (ho|ho)|ho
  · exact .inl (.inl (h5 ho))
  · exact .inl (.inr (decide_eq_true (by have:=of_decide_eq_true ho;omega)))
  · exact .inr (decide_eq_true (by have:=of_decide_eq_true ho;omega))
def Small (s:St):Prop:=s.1≤4096∧s.2.length≤65536
def Sim (b:Bool) (o:Option St) (s:RS):Prop:=match o with
  |some t=>s=(t.1,t.2,b)∧Small t
  |none=>Over s=true
theorem yN {s:St} {b:Bool} (hs:Small s) (fr y tt:Int):Sim b (qB s fr y tt) (nL (s.1,s.2,b) fr y tt):=by
  unfold qB;by_cases h:s.2.length<65536
  · rw [if_pos h]
    exact ⟨rfl,hs.1,by simp;omega⟩
  · rw [if_neg h]
    show Over (s.1,s.2 ++ [⟨fr,y,tt⟩],b)=true;unfold Over;rw [Bool.or_eq_true];exact .inr (decide_eq_true (by rw [List.length_append,List.length_singleton];omega))
theorem sim_st {s:St} {b:Bool} (hs:Small s):match kP s with
    |some p=>p.1=s.1∧p.2=(s.1+1,s.2)∧Small p.2∧BN (s.1,s.2,b)=(p.2.1,p.2.2,b)
    |none=>Over (BN (s.1,s.2,b))=true:=by
  unfold kP;by_cases h:s.1<4096
  · rw [if_pos h]
    exact ⟨rfl,rfl,⟨by show s.1+1≤_;omega,hs.2⟩,rfl⟩
  · rw [if_neg h]
    show Over (s.1+1,s.2,b)=true;unfold Over;rw [Bool.or_eq_true,Bool.or_eq_true];exact .inl (.inr (decide_eq_true (by show 4096<s.1+1;omega)))
theorem xV {b:Bool} {o:Option St} {s:RS} {f:St→Option St} {g:RS→RS} (h:Sim b o s) (hf : ∀ t:St,Small t→Sim b (f t) (g (t.1,t.2,b))) (hg : ∀ x,Over x=true→Over (g x)=true):Sim b (o.bind f) (g s):=by
  cases o with
  |none=>exact hg s h
  |some t =>
    obtain ⟨rfl,h2⟩:=h;exact hf t h2
theorem DW {b:Bool} {s:St} {f:Int × St→Option St} {g:RS→RS} (hs:Small s) (hf:Small (s.1+1,s.2)→Sim b (f (s.1,(s.1+1,s.2))) (g (s.1+1,s.2,b))) (hg : ∀ x,Over x=true→Over (g x)=true):Sim b ((kP s).bind f) (g (BN (s.1,s.2,b))):=by
  have h1:=sim_st (b:=b) hs;cases hp:kP s with
  |none =>
    rw [hp] at h1;exact hg _ h1
  |some p =>
    rw [hp] at h1;obtain ⟨e1,e2,h2,_⟩:=h1;obtain ⟨p1,p2⟩:=p;simp only at e1 e2;subst e1;subst e2;exact hf h2
theorem lS (fr y tt:Int) (x:RS) (h:Over x=true):Over (nL x fr y tt)=true:=xU (lG x fr y tt) h
theorem over_st (x:RS) (h:Over x=true):Over (BN x)=true:=xU (iW x) h
section
variable {nm : List (List UInt8)} {d : St → Option (List (List Int) × List Bool)}
def TE (nm:List (List UInt8)) (d:St→Option (List (List Int) × List Bool)) (r:gB):Prop :=
  ∀ fr tt (s:St),Small s→Sim false (R6 nm (fun a fr tt s=>MU (d a) fr tt s) r fr tt s) (zA nm (wW d) r fr tt (s.1,s.2,false))
theorem o6 (hd : ∀ a,wU (d a)) (r:gB) (fr tt:Int) (x:RS) (h:Over x=true):Over (zA nm (wW d) r fr tt x)=true:=by
  obtain ⟨n,gk,_⟩:=DJ (nm:=nm) (DK hd) _ r (Nat.le_refl _) fr tt x;exact xU gk h
theorem z_ (hd : ∀ a,wU (d a)) (ks:List gB) (fr tt:Int) (x:RS) (h:Over x=true):Over (uZ nm (wW d) ks fr tt x)=true :=
  xU (NW ks (fun k _=>DJ (nm:=nm) (DK hd) _ k (Nat.le_refl _)) fr tt x) h
theorem U1 (hd : ∀ a,wU (d a)) (ks:List gB) (fr tt:Int) (x:RS) (h:Over x=true):Over (uA nm (wW d) ks fr tt x)=true :=
  xU (NY ks (fun k _=>DJ (nm:=nm) (DK hd) _ k (Nat.le_refl _)) fr tt x) h
theorem sim_seq (hd : ∀ a,wU (d a)) : ∀ ks:List gB,(∀ k∈ks,TE nm d k)→∀ fr tt (s:St),Small s→Sim false (DV nm (fun a fr tt s=>MU (d a) fr tt s) ks fr tt s) (uZ nm (wW d) ks fr tt (s.1,s.2,false))
  |[],_,_,_,s,hs=>by rw [DV,uZ];exact ⟨rfl,hs⟩
  |k :: ks,ih,fr,tt,s,hs=>by
    rw [IG,uZ];by_cases hk:ks.isEmpty=true
    · rw [if_pos hk,if_pos hk]
      exact ih k (List.mem_cons_self ..) fr tt s hs
    · rw [if_neg hk,if_neg hk]
      refine DW (g:=fun x=>uZ nm (wW d) ks s.1 tt (zA nm (wW d) k fr s.1 x)) hs (fun h2=>?_) (fun x h=>z_ hd _ _ _ _ (o6 hd _ _ _ _ h));refine xV (g:=fun x=>uZ nm (wW d) ks s.1 tt x) (ih k (List.mem_cons_self ..) fr s.1 (s.1+1,s.2) h2) (fun t ht=>?_) (fun x h=>z_ hd _ _ _ _ h);exact sim_seq hd ks (fun k hk=>ih k (List.mem_cons_of_mem _ hk)) s.1 tt t ht
theorem sim_alt (hd : ∀ a,wU (d a)) : ∀ ks:List gB,(∀ k∈ks,TE nm d k)→∀ fr tt (s:St),Small s→Sim false (II nm (fun a fr tt s=>MU (d a) fr tt s) ks fr tt s) (uA nm (wW d) ks fr tt (s.1,s.2,false))
  |[],_,_,_,s,hs=>by rw [II,uA];exact ⟨rfl,hs⟩
  |k :: ks,ih,fr,tt,s,hs=>by
    rw [IJ,uA];refine DW (g:=fun x=>uA nm (wW d) ks fr tt (nL (zA nm (wW d) k s.1 (s.1+1) (nL (BN x) fr (-1) s.1)) (s.1+1) (-1) tt)) hs (fun h2=>?_) (fun x h=>U1 hd _ _ _ _ (lS _ _ _ _ (o6 hd _ _ _ _ (lS _ _ _ _ (over_st _ h)))));refine DW (s:=(s.1+1,s.2)) (g:=fun x=>uA nm (wW d) ks fr tt (nL (zA nm (wW d) k s.1 (s.1+1) (nL x fr (-1) s.1)) (s.1+1) (-1) tt)) h2 (fun h3=>?_) (fun x h=>U1 hd _ _ _ _ (lS _ _ _ _ (o6 hd _ _ _ _ (lS _ _ _ _ h))));refine xV (g:=fun x=>uA nm (wW d) ks fr tt (nL (zA nm (wW d) k s.1 (s.1+1) x) (s.1+1) (-1) tt)) (yN (s:=(s.1+1+1,s.2)) h3 fr (-1) s.1) (fun t ht=>?_) (fun x h=>U1 hd _ _ _ _ (lS _ _ _ _ (o6 hd _ _ _ _ h)));refine xV (g:=fun x=>uA nm (wW d) ks fr tt (nL x (s.1+1) (-1) tt)) (ih k (List.mem_cons_self ..) s.1 (s.1+1) t ht) (fun t ht=>?_) (fun x h=>U1 hd _ _ _ _ (lS _ _ _ _ h));refine xV (g:=fun x=>uA nm (wW d) ks fr tt x) (yN ht (s.1+1) (-1) tt) (fun t ht=>?_) (fun x h=>U1 hd _ _ _ _ h);exact sim_alt hd ks (fun k hk=>ih k (List.mem_cons_of_mem _ hk)) fr tt t ht
theorem sim_star (hd : ∀ a,wU (d a)) (k:gB) (ks:List gB) (ih:TE nm d k) (fr tt:Int) (s:St) (hs:Small s):Sim false (TF nm (fun a fr tt s=>MU (d a) fr tt s) (k :: ks) fr tt s) (U0 nm (wW d) (k :: ks) fr tt (s.1,s.2,false)):=by
  rw [BM,U0];refine DW (g:=fun x=>nL (nL (zA nm (wW d) k s.1 (s.1+1) (nL (BN x) fr (-1) s.1)) (s.1+1) (-1) s.1) s.1 (-1) tt) hs (fun h2=>?_) (fun x h=>lS _ _ _ _ (lS _ _ _ _ (o6 hd _ _ _ _ (lS _ _ _ _ (over_st _ h)))));refine DW (s:=(s.1+1,s.2)) (g:=fun x=>nL (nL (zA nm (wW d) k s.1 (s.1+1) (nL x fr (-1) s.1)) (s.1+1) (-1) s.1) s.1 (-1) tt) h2 (fun h3=>?_) (fun x h=>lS _ _ _ _ (lS _ _ _ _ (o6 hd _ _ _ _ (lS _ _ _ _ h))));refine xV (g:=fun x=>nL (nL (zA nm (wW d) k s.1 (s.1+1) x) (s.1+1) (-1) s.1) s.1 (-1) tt) (yN (s:=(s.1+1+1,s.2)) h3 fr (-1) s.1) (fun t ht=>?_) (fun x h=>lS _ _ _ _ (lS _ _ _ _ (o6 hd _ _ _ _ h)));refine xV (g:=fun x=>nL (nL x (s.1+1) (-1) s.1) s.1 (-1) tt) (ih s.1 (s.1+1) t ht) (fun t ht=>?_) (fun x h=>lS _ _ _ _ (lS _ _ _ _ h));refine xV (g:=fun x=>nL x s.1 (-1) tt) (yN ht (s.1+1) (-1) s.1) (fun t ht=>?_) (fun x h=>lS _ _ _ _ h);exact yN ht s.1 (-1) tt
theorem l6 {t:St} (h:Small t):Over (t.1,t.2,false)=false:=by
  unfold Over;rw [Bool.or_eq_false_iff,Bool.or_eq_false_iff];exact ⟨⟨rfl,decide_eq_false (by have:=h.1;show ¬ 4096<t.1;omega)⟩,decide_eq_false (by have:=h.2;show ¬ 65536<t.2.length;omega)⟩
theorem UH {n:Nat} : ∀ {s:St},Small s→lW n s=none→4096<s.1+n:=by
  induction n with
  |zero=>intro s _ h;exact absurd h (by simp [lW])
  |succ n ih =>
    intro s hs h;rw [lW] at h;unfold kP at h;by_cases h1:s.1<4096
    · rw [if_pos h1,Option.bind_some] at h
      have:=ih (s:=(s.1+1,s.2)) ⟨by show s.1+1≤4096;omega,hs.2⟩ h;simp only at this;omega
    · omega
theorem NZ : ∀ (xs:List gV) {s:St},s.2.length≤65536→tF xs s=none→65536<(s.2 ++ xs).length
  |[],s,_,h=>absurd h (by simp [tF])
  |x :: xs,s,hl,h=>by
    rw [tF] at h;unfold qB at h;by_cases h1:s.2.length<65536
    · rw [if_pos h1,Option.bind_some] at h
      have:=NZ xs (s:=(s.1,s.2 ++ [⟨x.f0,x.f1,x.f2⟩])) (by simp;omega) h;simpa using this
    · rw [List.length_append,List.length_cons]
      omega
theorem RB {n:Nat} : ∀ {s s1:St},Small s→lW n s=some s1→s1=(s.1+n,s.2)∧s.1+n≤4096:=by
  induction n with
  |zero =>
    intro s s1 hs h;obtain rfl:=Option.some.inj h;exact ⟨by simp,by have:=hs.1;simpa using this⟩
  |succ n ih =>
    intro s s1 hs h;rw [lW] at h;obtain ⟨q,hq,h⟩:=Option.bind_eq_some_iff.mp h;unfold kP at hq;by_cases h1:s.1<4096
    · rw [if_pos h1] at hq
      obtain rfl:=Option.some.inj hq;obtain ⟨e1,e2⟩:=ih (s:=(s.1+1,s.2)) ⟨by show s.1+1≤4096;omega,hs.2⟩ h;simp only at e1 e2;exact ⟨by rw [e1];simp only [Prod.mk.injEq,and_true];omega,by omega⟩
    · rw [if_neg h1] at hq
      exact absurd hq (by simp)
theorem A_ {a:RS} (h:Over a=true) (fr tt:Int) (s:RS):wW d a fr tt s=(s.1,s.2.1,true):=by unfold wW;rw [if_pos h]
theorem B_ {a:RS} (h:Over a=false) (hd:d (a.1,a.2.1)=none) (fr tt:Int) (s:RS):wW d a fr tt s=(s.1,s.2.1,true):=by unfold wW;rw [if_neg (by rw [h];simp),hd]
theorem C_ {a:RS} (h:Over a=false) {p:List (List Int) × List Bool} (hd:d (a.1,a.2.1)=some p) (fr tt:Int) (s:RS):wW d a fr tt s=(s.1+p.1.length,s.2.1 ++ wR s.1 fr tt p.1 p.2,Over (s.1+p.1.length,s.2.1 ++ wR s.1 fr tt p.1 p.2,s.2.2)):=by unfold wW;rw [if_neg (by rw [h];simp),hd]
theorem sim_not (k:gB) (ks:List gB) (ih:TE nm d k) (fr tt:Int) (s:St) (hs:Small s):Sim false (ZJ nm (fun a fr tt s=>MU (d a) fr tt s) (k :: ks) fr tt s) (DF nm (wW d) (k :: ks) fr tt (s.1,s.2,false)):=by
  rw [ZJ,DF];have h1:=ih 0 1 (2,[]) ⟨by decide,by simp⟩;cases ha:R6 nm (fun a fr tt s=>MU (d a) fr tt s) k 0 1 (2,[]) with
  |none =>
    rw [ha] at h1;rw [A_ h1];rfl
  |some a =>
    rw [ha] at h1;obtain ⟨e,h2⟩:=h1;rw [Option.bind_some];have e:zA nm (wW d) k 0 1 (2,[],false)=(a.1,a.2,false):=e;rw [e];cases hp:d a with
    |none =>
      rw [B_ (l6 h2) hp];rfl
    |some p =>
      rw [C_ (l6 h2) hp];show Sim false ((lW p.1.length s).bind (tF (wR s.1 fr tt p.1 p.2))) (s.1+(p.1.length:Int),s.2 ++ wR s.1 fr tt p.1 p.2,Over (s.1+(p.1.length:Int),s.2 ++ wR s.1 fr tt p.1 p.2,false));cases hst:lW p.1.length s with
      |none =>
        have:=UH hs hst;show Over (s.1+(p.1.length:Int),s.2 ++ wR s.1 fr tt p.1 p.2,_)=true;unfold Over;rw [Bool.or_eq_true,Bool.or_eq_true];exact .inl (.inr (decide_eq_true this))
      |some s1 =>
        obtain ⟨rfl,hle⟩:=RB hs hst;rw [Option.bind_some];cases har:tF (wR s.1 fr tt p.1 p.2) (s.1+(p.1.length:Int),s.2) with
        |none =>
          have:=NZ _ (s:=(s.1+(p.1.length:Int),s.2)) hs.2 har;show Over (s.1+(p.1.length:Int),s.2 ++ wR s.1 fr tt p.1 p.2,_)=true;unfold Over;rw [Bool.or_eq_true];exact .inr (decide_eq_true this)
        |some s2 =>
          obtain ⟨rfl,hl2⟩:=NQ _ (s.1+(p.1.length:Int),s.2) _ hs.2 har;have hsm:Small (s.1+(p.1.length:Int),s.2 ++ wR s.1 fr tt p.1 p.2):=⟨hle,hl2⟩;refine ⟨?_,hsm⟩;rw [show Over (s.1+(p.1.length:Int),s.2 ++ wR s.1 fr tt p.1 p.2,false)=false from l6 hsm]
theorem sim_all (hd : ∀ a,wU (d a)) : ∀ (n:Nat) (r:gB),SizeOf.sizeOf r≤n→TE nm d r:=by
  intro n;induction n with
  |zero=>intro r h;cases r;simp at h
  |succ n ih =>
    intro r h;obtain ⟨op,name,ks⟩:=r;have hk : ∀ k,k∈ks→TE nm d k:=by
      intro k hk;apply ih;have:=List.sizeOf_lt_of_mem hk;simp at h;omega
    intro fr tt s hs;rw [j6,rQ];by_cases h1:op=1
    · rw [if_pos h1,if_pos h1]
      split
      · exact yN hs _ _ _
      · exact ⟨rfl,hs⟩
    rw [if_neg h1,if_neg h1];by_cases h2:op=2
    · rw [if_pos h2,if_pos h2];exact yN hs _ _ _
    rw [if_neg h2,if_neg h2];by_cases h3:op=3
    · rw [if_pos h3,if_pos h3];exact yN hs _ _ _
    rw [if_neg h3,if_neg h3];by_cases h5:op=5
    · rw [if_pos h5,if_pos h5];exact sim_seq hd ks hk fr tt s hs
    rw [if_neg h5,if_neg h5];by_cases h6:op=6
    · rw [if_pos h6,if_pos h6];exact sim_alt hd ks hk fr tt s hs
    rw [if_neg h6,if_neg h6];by_cases h7:op=7
    · rw [if_pos h7,if_pos h7]
      cases ks with
      |nil=>rw [TF,U0];exact ⟨rfl,hs⟩
      |cons k ks=>exact sim_star hd k ks (hk k (List.mem_cons_self ..)) fr tt s hs
    rw [if_neg h7,if_neg h7];by_cases h8:op=8
    · rw [if_pos h8,if_pos h8]
      cases ks with
      |nil=>rw [ZJ,DF];exact ⟨rfl,hs⟩
      |cons k ks=>exact sim_not k ks (hk k (List.mem_cons_self ..)) fr tt s hs
    rw [if_neg h8,if_neg h8];exact ⟨rfl,hs⟩
end
end Go.Proofs.Ytapinbmkjkbkkaa.Pu
namespace Go.Proofs.Ytapinbmkjkbkkaa.Lb
open Go.RowKit Go.Proofs.aC.bE Go.Proofs.aC.bV Go.Proofs.aC.bY
theorem info9:(Try.prog.info? 9).map (fun i=>(i.zero,i.size,i.bytes))=some (some (.string ⟨#[]⟩),1,16):=by kernel_rfl
end Go.Proofs.Ytapinbmkjkbkkaa.Lb
