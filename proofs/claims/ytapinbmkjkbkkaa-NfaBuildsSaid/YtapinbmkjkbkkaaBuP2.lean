import Derived.Test.YtapinbmkjkbkkaaBuP1
import Derived.Test.YtapinbmkjkbkkaaBuLbx5
namespace Go.Proofs.Ytapinbmkjkbkkaa.Pu
open Go.RowKit Go.Proofs.aC.bE Go.Proofs.aC.bV Go.Proofs.aC.bY Lb
structure IC (m:Nat) (l:List gV):Prop where
  m0:0<m
  m1:m≤4096
  len:l.length≤65536
  st : ∀ x∈l,(0≤x.f0∧x.f0<m)∧(0≤x.f2∧x.f2<m)
theorem YN {l:List gV} {i:Nat} (h:i<l.length):aG l (i:Int)∈l:=by
  unfold aG;simp [List.getElem?_eq_getElem h]
theorem rd_eq {l:List gV} {i:Nat} (h:i<l.length):aG l (i:Int)=l[i]:=by
  unfold aG;simp [List.getElem?_eq_getElem h]
theorem xR {i:Nat} (h:i<4611686018427387904):wrap64 ((i:Int)+1)=((i+1:Nat):Int):=by unfold wrap64;omega
def In (b:List Bool) (i:Nat):Prop:=b.getD i false=true
inductive ZF (l:List gV):Nat→Nat→Prop
  |refl (i:Nat):ZF l i i
  |step {i:Nat} {x:gV} (h:ZF l i x.f0.toNat) (hx:x∈l) (hs:x.f1 = -1):ZF l i x.f2.toNat
theorem ZF.trans {l:List gV} {i j q:Nat} (h:ZF l i j) (k:ZF l j q):ZF l i q:=by
  induction k with
  |refl=>exact h
  |step _ hx hs ih=>exact .step ih hx hs
def Sat (b:List Bool) (x:gV):Prop:=x.f1 = -1→In b x.f0.toNat→In b x.f2.toNat
structure Hand (l:List gV) (b b':List Bool):Prop where
  sub : ∀ i,In b i→In b' i
  from_ : ∀ i,In b' i→∃ j,In b j∧ZF l j i
  shut : ∀ x∈l,Sat b' x
def cf (b:List Bool):Nat:=b.count false
theorem UI {b:List Bool} {i j:Nat} (hi:i<b.length):In (b.set i true) j↔(j=i∨In b j):=by
  unfold In;rw [List.getD_eq_getElem?_getD,List.getD_eq_getElem?_getD,List.getElem?_set];by_cases e:i=j
  · subst e;simp [hi]
  · simp [e,Ne.symm e]
theorem cf_set {b:List Bool} {i:Nat} (hi:i<b.length) (h:b.getD i false=false):cf (b.set i true)+1=cf b:=by
  unfold cf;rw [List.count_set hi];have e:b[i]=false:=(by rw [List.getD_eq_getElem?_getD,List.getElem?_eq_getElem hi] at h;simpa using h);have hpos:0<b.count false:=List.count_pos_iff.mpr (by rw [←e];exact List.getElem_mem hi);simp [e];omega
def mu (len:Nat) (b:List Bool) (ch:Bool) (i:Nat):Nat:=(2 * cf b+(if ch then 1 else 0)) * (len+2)+(len - i)
section
variable {m : Nat} {l : List gV} {sy s e : Int}
theorem hand_done {b:List Bool} (h : ∀ q:Nat,q<l.length→Sat b (aG l (q:Int))):Hand l b b :=
  ⟨fun _ h=>h,fun i hi=>⟨i,hi,.refl i⟩,fun x hx=>by
    obtain ⟨q,hq,rfl⟩:=List.mem_iff_getElem.mp hx;have:=h q hq;rw [rd_eq hq] at this;exact this⟩
theorem closed_step (A:IC m l) : ∀ (M:Nat) (B:List Int) (b:List Bool) (ch:Bool) (i:Nat),mu l.length b ch i=M→X9 m B b→i≤l.length→(ch=false→∀ q:Nat,q<i→Sat b (aG l (q:Int))) →
    ∃ k B' b',bP.l1 k B ch l (l.length:Int) (i:Int) m sy s e l=some B'∧aT.l1 k b ch (i:Int) m sy s e l=some b'∧X9 m B' b'∧Hand l b b':=by
  intro M;induction M using Nat.strongRecOn with
  |_ M ih =>
  intro B b ch i hM hR hi hs;have hlen:=A.len;by_cases hlt:i<l.length
  · have hw:=xR (i:=i) (by omega)
    obtain ⟨⟨p0,p1⟩,⟨p2,p3⟩⟩:=A.st _ (YN hlt);obtain ⟨u,hu⟩:=Int.eq_ofNat_of_zero_le p0;obtain ⟨v,hv⟩:=Int.eq_ofNat_of_zero_le p2;have hu':u<m:=(by omega);have hv':v<m:=(by omega);have hub:=NP hR A.m1 u hu';have hvb:=NP hR A.m1 v hv';have lb:=hR.lb;have next:Sat b (aG l (i:Int))→∃ k B' b',bP.l1 k B ch l (l.length:Int) ((i+1:Nat):Int) m sy s e l=some B'∧aT.l1 k b ch ((i+1:Nat):Int) m sy s e l=some b'∧X9 m B' b'∧Hand l b b':=by
      intro hsat;refine ih (mu l.length b ch (i+1)) (by unfold mu at hM ⊢;omega) B b ch (i+1) rfl hR (by omega) (fun hc q hq=>?_);rcases Nat.lt_or_ge q i with h|h
      · exact hs hc q h
      · have:q=i:=by omega
        subst this;exact hsat
    have eN : ∀ k B' b',bP.l1 k B ch l (l.length:Int) ((i+1:Nat):Int) m sy s e l=some B'→aT.l1 k b ch ((i+1:Nat):Int) m sy s e l=some b'→(¬ ((aG l (i:Int)).f1 = -1∧b.getD u false=true∧b.getD v false=false)) →
        bP.l1 (k+1) B ch l (l.length:Int) (i:Int) m sy s e l=some B'∧aT.l1 (k+1) b ch (i:Int) m sy s e l=some b':=by
      intro k B' b' h1 h2 hn;constructor
      · simp only [bP.l1]
        rw [if_pos (by omega),if_pos (by omega),if_pos (by omega),hw];by_cases q1:(aG l (i:Int)).f1 = -1
        · rw [if_pos q1,hu,hub,hv,hvb]
          simp only [Option.bind_some];cases hbu:b.getD u false with
          |false=>rw [if_neg (by simp)];exact h1
          |true =>
            rw [if_pos rfl];cases hbv:b.getD v false with
            |false=>exact absurd ⟨q1,hbu,hbv⟩ hn
            |true=>rw [if_pos rfl];exact h1
        · rw [if_neg q1];exact h1
      · simp only [aT.l1]
        rw [if_pos (by omega),if_pos (by omega),hw];by_cases q1:(aG l (i:Int)).f1 = -1
        · rw [if_pos q1,hu,hv,if_pos (by omega),if_pos (by omega)]
          have e1:fF false b (u:Int)=b.getD u false:=(by simp [fF]);have e2:fF false b (v:Int)=b.getD v false:=(by simp [fF]);rw [e1,e2];cases hbu:b.getD u false with
          |false=>rw [if_neg (by simp)];exact h2
          |true =>
            rw [if_pos rfl,if_pos (by omega),if_pos (by omega)];cases hbv:b.getD v false with
            |false=>exact absurd ⟨q1,hbu,hbv⟩ hn
            |true=>rw [if_pos rfl];exact h2
        · rw [if_neg q1];exact h2
    by_cases q:(aG l (i:Int)).f1 = -1∧b.getD u false=true∧b.getD v false=false
    · obtain ⟨q1,q2,q3⟩:=q
      obtain ⟨B1,hp,o5⟩:=r_ hR A.m1 v hv';have hcf:=cf_set (b:=b) (i:=v) (by omega) q3;obtain ⟨k,B',b',h1,h2,hR',hH⟩:=ih (mu l.length (b.set v true) true (i+1)) (by
        unfold mu at hM ⊢;rw [←hM,← hcf];simp only [if_true];have:(2 * cf (b.set v true)+1) * (l.length+2)+(l.length - (i+1))<(2 * cf (b.set v true)+1) * (l.length+2)+(l.length+2):=(by omega);refine Nat.lt_of_lt_of_le this ?_;have e2:(2 * (cf (b.set v true)+1)+(if ch=true then 1 else 0)) * (l.length+2)=(2 * cf (b.set v true)+1) * (l.length+2)+(l.length+2)+(if ch=true then 1 else 0) * (l.length+2):=by
          rw [←Nat.succ_mul,← Nat.add_mul];congr 1
        rw [e2];omega) B1 (b.set v true) true (i+1) rfl o5 (by omega) (fun h=>by cases h)
      refine ⟨k+1,B',b',?_,?_,hR',?_⟩
      · simp only [bP.l1]
        rw [if_pos (by omega),if_pos (by omega),if_pos (by omega),hw,if_pos q1,hu,hub,hv,hvb,q2,q3];simp only [Option.bind_some,if_true];rw [if_neg (by simp),hp];exact h1
      · simp only [aT.l1]
        have e1:fF false b (u:Int)=b.getD u false:=(by simp [fF]);have e2:fF false b (v:Int)=b.getD v false:=(by simp [fF]);rw [if_pos (by omega),if_pos (by omega),hw,if_pos q1,hu,hv,if_pos (by omega),if_pos (by omega),e1,e2,q2,q3,if_pos rfl,if_pos (by omega),if_pos (by omega),if_neg (by simp)];exact h2
      · refine ⟨fun j hj=>hH.sub j ((UI (by omega)).mpr (.inr hj)),fun j hj=>?_,hH.shut⟩
        obtain ⟨a,ha,hp⟩:=hH.from_ j hj;rcases (UI (by omega)).mp ha with ha|ha
        · rw [ha] at hp
          have hst:ZF l u v:=by
            have:=ZF.step (l:=l) (i:=u) (x:=aG l (i:Int)) (by rw [hu,Int.toNat_natCast];exact .refl u) (YN hlt) q1;rw [hv,Int.toNat_natCast] at this;exact this
          exact ⟨u,q2,hst.trans hp⟩
        · exact ⟨a,ha,hp⟩
    · obtain ⟨k,B',b',h1,h2,hR',hH⟩:=next (fun hf hin=>by
        rw [hu,Int.toNat_natCast] at hin;rw [hv,Int.toNat_natCast];unfold In at hin ⊢;cases hbv:b.getD v false with
        |true=>rfl
        |false=>exact absurd ⟨hf,hin,hbv⟩ q)
      obtain ⟨g1,g2⟩:=eN k B' b' h1 h2 q;exact ⟨k+1,B',b',g1,g2,hR',hH⟩
  · have hil:i=l.length:=by omega
    cases ch with
    |false =>
      refine ⟨2,B,b,?_,?_,hR,hand_done (by rw [←hil];exact hs rfl)⟩
      · simp only [bP.l1,bP.l0]
        rw [if_neg (by omega),if_neg (by simp)]
      · simp only [aT.l1,aT.l0]
        rw [if_neg (by omega),if_neg (by simp)]
    |true =>
      obtain ⟨k,B',b',h1,h2,hR',hH⟩:=ih (mu l.length b false 0) (by
        unfold mu at hM ⊢;rw [←hM];simp only [if_true,Bool.false_eq_true,if_false,Nat.add_zero,Nat.sub_zero];rw [Nat.add_mul];omega) B b false 0 rfl hR (by omega) (fun _ q hq=>by omega)
      refine ⟨k+2,B',b',?_,?_,hR',hH⟩
      · simp only [bP.l1,bP.l0,if_true]
        rw [if_neg (by omega)];exact h1
      · simp only [aT.l1,aT.l0,if_true]
        rw [if_neg (by omega)];exact h2
end
end Go.Proofs.Ytapinbmkjkbkkaa.Pu
