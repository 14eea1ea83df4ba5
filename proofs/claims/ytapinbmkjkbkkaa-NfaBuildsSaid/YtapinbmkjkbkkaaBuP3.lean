import Derived.Test.YtapinbmkjkbkkaaBuP2
import Derived.Test.YtapinbmkjkbkkaaBuLbx6
namespace Go.Proofs.Ytapinbmkjkbkkaa.Pu
open Go.RowKit Go.Proofs.aC.bE Go.Proofs.aC.bV Go.Proofs.aC.bY Lb
theorem in_ext {b b':List Bool} (hl:b.length=b'.length) (h : ∀ i,In b i↔In b' i):b=b':=by
  apply List.ext_getElem hl;intro i h1 h2;have:=h i;unfold In at this;rw [List.getD_eq_getElem?_getD,List.getD_eq_getElem?_getD,List.getElem?_eq_getElem h1,List.getElem?_eq_getElem h2] at this;simp only [Option.getD_some] at this;cases h3:b[i] <;> cases h4:b'[i] <;> simp_all
theorem NJ {l:List gV} {b:List Bool} (h : ∀ x∈l,Sat b x) {i j:Nat} (hi:In b i) (hp:ZF l i j):In b j:=by
  induction hp with
  |refl=>exact hi
  |step _ hx hs ih=>exact h _ hx hs ih
theorem YO {l:List gV} {b b':List Bool} (h:Hand l b b') (i:Nat):In b' i↔∃ j,In b j∧ZF l j i :=
  ⟨h.from_ i,fun ⟨j,hj,hp⟩=>NJ h.shut (h.sub j hj) hp⟩
theorem JL {l:List gV} {b b1 b2:List Bool} (hl:b1.length=b2.length) (h1:Hand l b b1) (h2:Hand l b b2):b1=b2 :=
  in_ext hl fun i=>(YO h1 i).trans (YO h2 i).symm
theorem X8 {l:List gV} {b b':List Bool} (h:Hand l b b'):Hand l b' b':=⟨fun _ h=>h,fun i hi=>⟨i,hi,.refl i⟩,h.shut⟩
section
variable {m : Nat} {l : List gV} {sy s e : Int}
theorem clone_f {B:List Int} {b:List Bool} (A:IC m l) (h:X9 m B b):jC.f B=some B:=by
  unfold jC.f;have:=h.lB;have:=A.m1;simp only [Option.bind_some,List.length_nil,Nat.zero_add,List.nil_append];rw [if_pos (by omega)]
theorem DU (A:IC m l) {B:List Int} {b:List Bool} (h:X9 m B b) :
    ∃ K B' b',(∀ k,K≤k→bP.f k m sy s e l B=some B'∧aT.f k m sy s e l b=some b')∧X9 m B' b'∧Hand l b b':=by
  obtain ⟨k,B',b',h1,h2,hR,hH⟩:=closed_step (sy:=sy) (s:=s) (e:=e) A _ B b false 0 rfl h (Nat.zero_le _) (fun _ q hq=>by omega);refine ⟨k+1,B',b',fun q hq=>⟨?_,?_⟩,hR,hH⟩
  · refine vH (fun k=>bP.mono _ _ _ _ _ _ k) hq ?_
    unfold bP.f;rw [clone_f A h,Option.bind_some];simp only [bP.l0,if_true];exact h1
  · refine vH (fun k=>aT.mono _ _ _ _ _ _ k) hq ?_
    unfold aT.f;simp only [aT.l0,if_true];exact h2
def Moves (sym:Int) (b:List Bool) (x:gV):Prop:=(x.f1=sym∨x.f1 = -2)∧In b x.f0.toNat
theorem step_l0 (A:IC m l) {sym:Int} {S:List Int} {b1:List Bool} (hS:X9 m S b1) : ∀ (d i:Nat) (out:List Int) (YP:List Bool),l.length - i=d→i≤l.length→X9 m out YP →
    ∃ K B' b' o,(∀ k,K≤k→eT.l0 k sym S out l (l.length:Int) (i:Int) m sy s e l=some B'∧bG.l0 k sym b1 YP (i:Int) m sy s e l=some b')∧X9 m B' b'∧o.length=m ∧
      (∀ j,In o j↔(In YP j∨∃ q:Nat,i≤q∧q<l.length∧Moves sym b1 (aG l (q:Int))∧j=(aG l (q:Int)).f2.toNat))∧Hand l o b':=by
  intro d;induction d with
  |zero =>
    intro i out YP hd hi hO;have hil:i=l.length:=(by omega);subst hil;obtain ⟨K,B',b',hk,hR,hH⟩:=DU (sy:=sy) (s:=s) (e:=e) A hO;refine ⟨K+1,B',b',YP,fun k hk'=>?_,hR,hO.lb,fun j=>⟨.inl,fun h=>h.elim id (fun ⟨q,h1,h2,_⟩=>by omega)⟩,hH⟩;obtain ⟨k,rfl⟩ : ∃ q,k=q+1:=⟨k - 1,by omega⟩;obtain ⟨g1,g2⟩:=hk k (by omega);constructor
    · simp only [eT.l0];rw [if_neg (by omega),g1];rfl
    · simp only [bG.l0];rw [if_neg (by omega),g2];rfl
  |succ d ih =>
    intro i out YP hd hi hO;have hlen:=A.len;have hlt:i<l.length:=(by omega);have hw:=xR (i:=i) (by omega);obtain ⟨⟨p0,p1⟩,⟨p2,p3⟩⟩:=A.st _ (YN hlt);obtain ⟨u,hu⟩:=Int.eq_ofNat_of_zero_le p0;obtain ⟨v,hv⟩:=Int.eq_ofNat_of_zero_le p2;have hu':u<m:=(by omega);have hv':v<m:=(by omega);have hub:=NP hS A.m1 u hu';have lb:=hS.lb;have lo:=hO.lb;obtain ⟨out1,hp,hO1⟩:=r_ hO A.m1 v hv';have e1:fF false b1 (u:Int)=b1.getD u false:=(by simp [fF]);by_cases hmv:Moves sym b1 (aG l (i:Int))
    · obtain ⟨K,B',b',o,hk,hR,ho,hin,hH⟩:=ih (i+1) out1 (YP.set v true) (by omega) (by omega) hO1
      have hbu:b1.getD u false=true:=(by have:=hmv.2;rw [hu,Int.toNat_natCast] at this;exact this);refine ⟨K+1,B',b',o,fun k hk'=>?_,hR,ho,fun j=>?_,hH⟩
      · obtain ⟨k,rfl⟩ : ∃ q,k=q+1:=⟨k - 1,by omega⟩
        obtain ⟨g1,g2⟩:=hk k (by omega);constructor
        · simp only [eT.l0]
          rw [if_pos (by omega),if_pos (by omega),if_pos (by omega),hw,hu,hub,hbu,hv,hp];simp only [Option.bind_some,if_true];by_cases q1:(aG l (i:Int)).f1=sym
          · rw [if_pos q1];exact g1
          · rw [if_neg q1,if_pos (hmv.1.resolve_left q1)];exact g1
        · simp only [bG.l0]
          rw [if_pos (by omega),if_pos (by omega),hw,hu,hv,e1,hbu];simp only [if_true];rw [if_pos (by omega:(0:Int)≤u),if_pos (by omega:(u:Int)<b1.length),if_pos (by omega:(0:Int)≤v),if_pos (by omega:(v:Int)<YP.length),Int.toNat_natCast];by_cases q1:(aG l (i:Int)).f1=sym
          · rw [if_pos q1];exact g2
          · rw [if_neg q1,if_pos (hmv.1.resolve_left q1)];exact g2
      · rw [hin j,UI (by omega)]
        constructor
        · rintro ((rfl|h)|⟨q,h1,h2,h3,h4⟩)
          · exact .inr ⟨i,Nat.le_refl _,hlt,hmv,by rw [hv,Int.toNat_natCast]⟩
          · exact .inl h
          · exact .inr ⟨q,by omega,h2,h3,h4⟩
        · rintro (h|⟨q,h1,h2,h3,h4⟩)
          · exact .inl (.inr h)
          · rcases Nat.eq_or_lt_of_le h1 with rfl|h1
            · exact .inl (.inl (by rw [h4,hv,Int.toNat_natCast]))
            · exact .inr ⟨q,h1,h2,h3,h4⟩
    · obtain ⟨K,B',b',o,hk,hR,ho,hin,hH⟩:=ih (i+1) out YP (by omega) (by omega) hO
      refine ⟨K+1,B',b',o,fun k hk'=>?_,hR,ho,fun j=>?_,hH⟩
      · obtain ⟨k,rfl⟩ : ∃ q,k=q+1:=⟨k - 1,by omega⟩
        obtain ⟨g1,g2⟩:=hk k (by omega);have hbu:(aG l (i:Int)).f1=sym∨(aG l (i:Int)).f1 = -2→b1.getD u false=false:=by
          intro h;cases hb:b1.getD u false with
          |false=>rfl
          |true=>exact absurd ⟨h,by rw [hu,Int.toNat_natCast];exact hb⟩ hmv
        constructor
        · simp only [eT.l0]
          rw [if_pos (by omega),if_pos (by omega),if_pos (by omega),hw,hu,hub];simp only [Option.bind_some];by_cases q1:(aG l (i:Int)).f1=sym
          · rw [if_pos q1,hbu (.inl q1),if_neg (by simp)];exact g1
          · rw [if_neg q1]
            by_cases q2:(aG l (i:Int)).f1 = -2
            · rw [if_pos q2,hbu (.inr q2),if_neg (by simp)];exact g1
            · rw [if_neg q2];exact g1
        · simp only [bG.l0]
          rw [if_pos (by omega),if_pos (by omega),hw,hu,e1];rw [if_pos (by omega:(0:Int)≤u),if_pos (by omega:(u:Int)<b1.length)];by_cases q1:(aG l (i:Int)).f1=sym
          · rw [if_pos q1,hbu (.inl q1),if_neg (by simp)];exact g2
          · rw [if_neg q1]
            by_cases q2:(aG l (i:Int)).f1 = -2
            · rw [if_pos q2,hbu (.inr q2),if_neg (by simp)];exact g2
            · rw [if_neg q2];exact g2
      · rw [hin j]
        constructor
        · rintro (h|⟨q,h1,h2,h3,h4⟩)
          · exact .inl h
          · exact .inr ⟨q,by omega,h2,h3,h4⟩
        · rintro (h|⟨q,h1,h2,h3,h4⟩)
          · exact .inl h
          · rcases Nat.eq_or_lt_of_le h1 with rfl|h1
            · exact absurd h3 hmv
            · exact .inr ⟨q,h1,h2,h3,h4⟩
structure By (m:Nat) (l:List gV) (sym:Int) (b b':List Bool):Prop where
  ex : ∃ o:List Bool,o.length=m∧(∀ j,In o j↔∃ x∈l,Moves sym b x∧j=x.f2.toNat)∧Hand l o b'
theorem by_in {sym:Int} {b b':List Bool} (h:By m l sym b b') (i:Nat):In b' i↔∃ x∈l,Moves sym b x∧ZF l x.f2.toNat i:=by
  obtain ⟨o,_,ho,hH⟩:=h;rw [YO hH];constructor
  · rintro ⟨j,hj,hp⟩
    obtain ⟨x,hx,hm,rfl⟩:=(ho j).mp hj;exact ⟨x,hx,hm,hp⟩
  · rintro ⟨x,hx,hm,hp⟩
    exact ⟨_,(ho _).mpr ⟨x,hx,hm,rfl⟩,hp⟩
theorem UD {sym:Int} {b b':List Bool} (h:By m l sym b b'):Hand l b' b':=by
  obtain ⟨o,_,_,hH⟩:=h;exact X8 hH
theorem TA {sym:Int} {b b1 b2:List Bool} (hl:b1.length=b2.length) (h1:By m l sym b b1) (h2:By m l sym b b2):b1=b2 :=
  in_ext hl fun i=>(by_in h1 i).trans (by_in h2 i).symm
theorem step_f (A:IC m l) {sym:Int} {B:List Int} {b b1:List Bool} (h:X9 m B b) (hb:Hand l b b1) (hl:b1.length=m) :
    ∃ K B' b',(∀ k,K≤k→eT.f k m sy s e l sym B=some B'∧bG.f k m sy s e l sym b1=some b')∧X9 m B' b'∧By m l sym b1 b':=by
  obtain ⟨K1,B1,b1',hk1,o5,hH1⟩:=DU (sy:=sy) (s:=s) (e:=e) A h;obtain rfl:b1'=b1:=JL (by rw [o5.lb,hl]) hH1 hb;obtain ⟨E,hE,hRE⟩:=DT (m:=m) A.m1;obtain ⟨K2,B',b',o,hk2,hR2,ho,hin,hH⟩:=step_l0 (sy:=sy) (s:=s) (e:=e) A (sym:=sym) o5 l.length 0 E (List.replicate m false) rfl (Nat.zero_le _) hRE;have hm1:=A.m1;refine ⟨K1+K2,B',b',fun k hk=>⟨?_,?_⟩,hR2,⟨o,ho,fun j=>?_,hH⟩⟩
  · unfold eT.f
    rw [(hk1 k (by omega)).1,Option.bind_some,hE,Option.bind_some];exact (hk2 k (by omega)).1
  · unfold bG.f
    rw [if_pos (by omega),Int.toNat_natCast,if_pos (by omega)];exact (hk2 k (by omega)).2
  · rw [hin j]
    have hno : ¬ In (List.replicate m false) j:=by
      unfold In;rw [List.getD_eq_getElem?_getD,List.getElem?_replicate];split <;> simp
    constructor
    · rintro (h|⟨q,_,h2,h3,h4⟩)
      · exact absurd h hno
      · exact ⟨_,YN h2,h3,h4⟩
    · rintro ⟨x,hx,h3,h4⟩
      obtain ⟨q,hq,rfl⟩:=List.mem_iff_getElem.mp hx;exact .inr ⟨q,Nat.zero_le _,hq,by rw [rd_eq hq];exact h3,by rw [rd_eq hq];exact h4⟩
end
end Go.Proofs.Ytapinbmkjkbkkaa.Pu
