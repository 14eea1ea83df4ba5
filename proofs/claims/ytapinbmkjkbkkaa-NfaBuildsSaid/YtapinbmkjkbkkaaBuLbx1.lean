import Derived.Test.YtapinbmkjkbkkaaBuP4
import Derived.Test.YtapinbmkjkbkkaaBuVi
import Derived.Test.YtapinbmkjkbkkaaBuLbx2
import Derived.Test.YtapinbmkjkbkkaaBuLbx7
import Derived.Test.YtapinbmkjkbkkaaBuLbx5
import Derived.Test.YtapinbmkjkbkkaaBuLbx6
import Derived.Test.YtapinbmkjkbkkaaBuLbx3
import Derived.Test.YtapinbmkjkbkkaaBuLbx4
import Derived.Test.YtapinbmkjkbkkaaBuLbx8
import Derived.Test.YtapinbmkjkbkkaaBuLbx9
namespace Go.Proofs.Ytapinbmkjkbkkaa.Pu
open Go.RowKit Go.Proofs.aC.bE Go.Proofs.aC.bV Go.Proofs.aC.bY Lb Mk Ls
def RA (aM aJ aV aW:Int) (l:List gV):Int:=if 65536<l.length then 3 else if mF aM aJ aV aW=true then (if l.all (iQ aM aJ)=true then 0 else 81) else 81
theorem check_f (aM aJ aV aW:Int) (l:List gV):jI.f aM aJ aV aW l=some (RA aM aJ aV aW l):=rfl
section
variable {aM aJ aV aW : Int} {l : List gV}
theorem KX (s:Int):cB.f aM aJ aV aW l s=some (decide (0≤s∧s<aM)):=by
  unfold cB.f;by_cases h:s ≥ 0
  · rw [if_pos h];congr 1;rw [decide_eq_decide];omega
  · rw [if_neg h];congr 1;rw [eq_comm,decide_eq_false_iff_not];omega
theorem all_drop {f:gV→Bool} {i:Nat} (h:i<l.length):(l.drop i).all f=(f (aG l (i:Int)) && (l.drop (i+1)).all f):=by
  rw [List.drop_eq_getElem_cons h,List.all_cons,rd_eq h]
theorem rcheck_l0 (hl:l.length≤65536) : ∀ (d i:Nat),l.length - i=d→i≤l.length→∀ k,d<k→aQ.l0 k (i:Int) aM aJ aV aW l=some (if (l.drop i).all (iQ aM aJ)=true then 0 else 81):=by
  intro d;induction d with
  |zero =>
    intro i hd hi k hk;obtain ⟨k,rfl⟩ : ∃ q,k=q+1:=⟨k - 1,by omega⟩;simp only [aQ.l0];rw [if_neg (by omega),List.drop_eq_nil_of_le (by omega)];rfl
  |succ d ih =>
    intro i hd hi k hk;obtain ⟨k,rfl⟩ : ∃ q,k=q+1:=⟨k - 1,by omega⟩;have hlt:i<l.length:=(by omega);have hw:=xR (i:=i) (by omega);have ih':=ih (i+1) (by omega) (by omega) k (by omega);simp only [aQ.l0];rw [if_pos (by omega),if_pos (by omega),KX,KX,hw,ih',all_drop hlt];simp only [Option.bind_some];generalize aG l (i:Int)=x;by_cases h0:0≤x.f0∧x.f0<aM
    · rw [decide_eq_true h0,if_pos rfl]
      by_cases h2:0≤x.f2∧x.f2<aM
      · rw [decide_eq_true h2,if_pos rfl]
        by_cases h3:x.f1 < -2
        · rw [if_pos h3,show iQ aM aJ x=false from decide_eq_false (fun q=>by omega)]
          rfl
        · rw [if_neg h3]
          by_cases h4:x.f1 ≥ aJ
          · rw [if_pos h4,show iQ aM aJ x=false from decide_eq_false (fun q=>by omega)]
            rfl
          · rw [if_neg h4,show iQ aM aJ x=true from decide_eq_true ⟨h0,h2,by omega,by omega⟩]
            rfl
      · rw [decide_eq_false h2,if_neg (by simp),show iQ aM aJ x=false from decide_eq_false (fun q=>h2 q.2.1)]
        rfl
    · rw [decide_eq_false h0,if_neg (by simp),show iQ aM aJ x=false from decide_eq_false (fun q=>h0 q.1)]
      rfl
theorem q_ : ∃ K,∀ k,K≤k→aQ.f k aM aJ aV aW l=some (RA aM aJ aV aW l):=by
  refine ⟨l.length+2,fun k hk=>?_⟩;obtain ⟨k,rfl⟩ : ∃ q,k=q+1:=⟨k - 1,by omega⟩;unfold aQ.f RA;by_cases h1:65536<l.length
  · rw [if_pos (by omega),if_pos h1]
  · rw [if_neg (by omega),if_neg h1]
    have hj : ∀ b,aQ.j0 (k+1) b aM aJ aV aW l=if b=true then some 81 else some (if l.all (iQ aM aJ)=true then 0 else 81):=by
      intro b;simp only [aQ.j0];have:=rcheck_l0 (aM:=aM) (aJ:=aJ) (aV:=aV) (aW:=aW) (l:=l) (by omega) l.length 0 rfl (by omega) k (by omega);rw [List.drop_zero] at this;have this:aQ.l0 k 0 aM aJ aV aW l=_:=this;rw [this]
    simp only [hj,KX,Option.bind_some];by_cases h2:mF aM aJ aV aW=true
    · obtain ⟨c1,c2,c3,c4,c5,c6⟩:=of_decide_eq_true h2
      rw [if_pos h2,if_neg (by omega),if_neg (by omega),if_neg (by omega),if_neg (by omega),decide_eq_true c5,decide_eq_true c6,if_pos rfl,if_neg (by simp)]
    · rw [if_neg h2]
      have h2':=of_decide_eq_false (by simpa using h2:mF aM aJ aV aW=false);by_cases c1:aM<1
      · rw [if_pos c1,if_pos trivial]
      · rw [if_neg c1]
        by_cases c2:aM > 4096
        · rw [if_pos c2,if_pos trivial]
        · rw [if_neg c2]
          by_cases c3:aJ<0
          · rw [if_pos c3,if_pos trivial]
          · rw [if_neg c3]
            by_cases c4:aJ > 4096
            · rw [if_pos c4,if_pos trivial]
            · rw [if_neg c4]
              by_cases c5:0≤aV∧aV<aM
              · rw [decide_eq_true c5,if_pos rfl,decide_eq_false (fun c6=>h2' ⟨by omega,by omega,by omega,by omega,c5,c6⟩)];simp
              · rw [decide_eq_false c5,if_neg (by simp)];simp
theorem ck_ok (h:RA aM aJ aV aW l=0) : ∃ m ns s e:Nat,aM=m∧aJ=ns∧aV=s∧aW=e∧ns≤4096∧s<m∧e<m∧IC m l∧∀ x∈l,-2≤x.f1∧x.f1<ns:=by
  unfold RA at h;by_cases h1:65536<l.length
  · rw [if_pos h1] at h;exact absurd h (by decide)
  · rw [if_neg h1] at h
    by_cases h2:mF aM aJ aV aW=true
    · rw [if_pos h2] at h
      by_cases h3:l.all (iQ aM aJ)=true
      · obtain ⟨c1,c2,c3,c4,c5,c6⟩:=of_decide_eq_true h2
        obtain ⟨m,rfl⟩:=Int.eq_ofNat_of_zero_le (show 0≤aM by omega);obtain ⟨ns,rfl⟩:=Int.eq_ofNat_of_zero_le c3;obtain ⟨s,rfl⟩:=Int.eq_ofNat_of_zero_le c5.1;obtain ⟨e,rfl⟩:=Int.eq_ofNat_of_zero_le c6.1;refine ⟨m,ns,s,e,rfl,rfl,rfl,rfl,by omega,by omega,by omega,⟨by omega,by omega,by omega,fun x hx=>?_⟩,fun x hx=>?_⟩
        · have:=of_decide_eq_true (List.all_eq_true.mp h3 x hx)
          exact ⟨this.1,this.2.1⟩
        · have:=of_decide_eq_true (List.all_eq_true.mp h3 x hx)
          exact this.2.2
      · rw [if_neg h3] at h;exact absurd h (by decide)
    · rw [if_neg h2] at h;exact absurd h (by decide)
end
def AR (n:Int) (ls:List Int):Bool:=ls.all fun x=>decide (0≤x) && decide (x<n)
theorem U2 {n:Int} {ls:List Int} {i:Nat} (h:i<ls.length):AR n (ls.drop i)=(decide (0≤rd ls (i:Int)) && decide (rd ls (i:Int)<n) && AR n (ls.drop (i+1))):=by
  unfold AR;have e:rd ls (i:Int)=ls[i]:=(by unfold rd;simp [List.getElem?_eq_getElem h]);rw [List.drop_eq_getElem_cons h,List.all_cons,e]
def l7 (b:List Bool) (ls:List Int):List Bool:=ls.foldl (fun b x=>b.set x.toNat true) b
theorem TG {b:List Bool} {ls:List Int} {i:Nat} (h:i<ls.length):l7 b (ls.drop i)=l7 (b.set (rd ls (i:Int)).toNat true) (ls.drop (i+1)):=by
  unfold l7;have e:rd ls (i:Int)=ls[i]:=(by unfold rd;simp [List.getElem?_eq_getElem h]);rw [List.drop_eq_getElem_cons h,List.foldl_cons,e]
def none0 (m:Nat):List Bool:=List.replicate m false
def asE (m ns:Nat) (ls ws:List Int):Int:=if AR m ls=true then (if AR ns ws=true then 0 else 102) else 101
section
variable {m ns : Nat} {s e : Int} {l : List gV}
theorem asked_l1 {ws:List Int} (hw:ws.length<4611686018427387904) : ∀ (d i:Nat),ws.length - i=d→i≤ws.length→∀ (B:List Int) k,d<k →
    gD.l1 k B ws (ws.length:Int) (i:Int) m ns s e l=some (if AR ns (ws.drop i)=true then (B,0) else ([],102)):=by
  intro d;induction d with
  |zero =>
    intro i hd hi B k hk;obtain ⟨k,rfl⟩ : ∃ q,k=q+1:=⟨k - 1,by omega⟩;simp only [gD.l1];rw [if_neg (by omega),List.drop_eq_nil_of_le (by omega)];rfl
  |succ d ih =>
    intro i hd hi B k hk;obtain ⟨k,rfl⟩ : ∃ q,k=q+1:=⟨k - 1,by omega⟩;have hlt:i<ws.length:=(by omega);have hwr:=xR (i:=i) (by omega);have ih':=ih (i+1) (by omega) (by omega) B k (by omega);simp only [gD.l1];rw [if_pos (by omega),if_pos (by omega),if_pos (by omega),hwr,ih',U2 hlt];generalize rd ws (i:Int)=x;by_cases h0:x<0
    · rw [if_pos h0,decide_eq_false (by omega : ¬ 0≤x)];rfl
    · rw [if_neg h0,decide_eq_true (by omega:0≤x)]
      by_cases h1:x ≥ ns
      · rw [if_pos h1,decide_eq_false (by omega : ¬ x<ns)];rfl
      · rw [if_neg h1,decide_eq_true (by omega:x<ns)];rfl
theorem asked_l0 (A:IC m l) {ls ws:List Int} (hl:ls.length<4611686018427387904) (hw:ws.length<4611686018427387904) : ∀ (d i:Nat),ls.length - i=d→i≤ls.length→∀ (B:List Int) (b:List Bool),X9 m B b →
    ∃ B',(AR m (ls.drop i)=true→X9 m B' (l7 b (ls.drop i)))∧∀ k,d+ws.length+1<k →
      gD.l0 k ws B ls (ls.length:Int) (i:Int) m ns s e l=some (if AR m (ls.drop i)=true then (if AR ns ws=true then (B',0) else ([],102)) else ([],101)):=by
  intro d;induction d with
  |zero =>
    intro i hd hi B b hR;refine ⟨B,fun _=>by rw [List.drop_eq_nil_of_le (by omega)];exact hR,fun k hk=>?_⟩;obtain ⟨k,rfl⟩ : ∃ q,k=q+1:=⟨k - 1,by omega⟩;simp only [gD.l0];have:=asked_l1 (m:=m) (ns:=ns) (s:=s) (e:=e) (l:=l) hw ws.length 0 rfl (by omega) B k (by omega);rw [List.drop_zero] at this;rw [if_neg (by omega),List.drop_eq_nil_of_le (by omega),show (0:Int)=((0:Nat):Int) from rfl,this];rfl
  |succ d ih =>
    intro i hd hi B b hR;have hlt:i<ls.length:=(by omega);have hwr:=xR (i:=i) (by omega);rw [U2 hlt,TG hlt];generalize hx:rd ls (i:Int)=x;by_cases h0:x<0
    · refine ⟨[],?_,?_⟩
      · intro h;rw [decide_eq_false (by omega : ¬ 0≤x)] at h;simp at h
      intro k hk;obtain ⟨k,rfl⟩ : ∃ q,k=q+1:=⟨k - 1,by omega⟩;simp only [gD.l0];rw [if_pos (by omega),if_pos (by omega),if_pos (by omega),hx,if_pos h0,decide_eq_false (by omega : ¬ 0≤x)];rfl
    · by_cases h1:x ≥ m
      · refine ⟨[],?_,?_⟩
        · intro h;rw [decide_eq_false (by omega : ¬ x<m)] at h;simp at h
        intro k hk;obtain ⟨k,rfl⟩ : ∃ q,k=q+1:=⟨k - 1,by omega⟩;simp only [gD.l0];rw [if_pos (by omega),if_pos (by omega),if_pos (by omega),hx,if_neg h0,if_pos h1,decide_eq_false (by omega : ¬ x<m)];simp
      · obtain ⟨u,rfl⟩:=Int.eq_ofNat_of_zero_le (show 0≤x by omega)
        obtain ⟨B1,hp,o5⟩:=r_ hR A.m1 u (by omega);obtain ⟨B',hB',hk'⟩:=ih (i+1) (by omega) (by omega) B1 (b.set u true) o5;rw [decide_eq_true (by omega:(0:Int)≤u),decide_eq_true (by omega:(u:Int)<m),Bool.true_and,Bool.true_and,Int.toNat_natCast];refine ⟨B',hB',fun k hk=>?_⟩;obtain ⟨k,rfl⟩ : ∃ q,k=q+1:=⟨k - 1,by omega⟩;simp only [gD.l0];rw [if_pos (by omega),if_pos (by omega),if_pos (by omega),hx,if_neg h0,if_neg h1,hp,Option.bind_some,hwr];exact hk' k (by omega)
theorem asked_f (A:IC m l) {ls ws:List Int} (hl:ls.length<4611686018427387904) (hw:ws.length<4611686018427387904) (hck:RA m ns s e l=0) :
    ∃ K B,(asE m ns ls ws=0→X9 m B (l7 (none0 m) ls))∧∀ k,K≤k→gD.f k m ns s e l ls ws=some (if asE m ns ls ws=0 then (B,0) else ([],asE m ns ls ws)):=by
  obtain ⟨E,hE,hRE⟩:=DT (m:=m) A.m1;obtain ⟨B,hB,hk⟩:=asked_l0 (ns:=ns) (s:=s) (e:=e) A hl hw ls.length 0 rfl (by omega) E _ hRE;rw [List.drop_zero] at hB hk;refine ⟨ls.length+ws.length+2,B,fun h=>?_,fun k hk'=>?_⟩
  · by_cases h1:AR m ls=true
    · exact hB h1
    · unfold asE at h;rw [if_neg h1] at h;exact absurd h (by decide)
  · unfold gD.f
    rw [check_f,hck,Option.bind_some,if_pos rfl,hE,Option.bind_some,show (0:Int)=((0:Nat):Int) from rfl,hk k (by omega)];unfold asE;by_cases h1:AR m ls=true
    · rw [if_pos h1,if_pos h1]
      by_cases h2:AR ns ws=true
      · rw [if_pos h2,if_pos h2];rfl
      · rw [if_neg h2,if_neg h2];rfl
    · rw [if_neg h1,if_neg h1];rfl
theorem rasked_l1 {ws:List Int} (hw:ws.length<4611686018427387904) : ∀ (d i:Nat),ws.length - i=d→i≤ws.length→∀ k,d<k →
    eP.l1 k ws (i:Int) m ns s e l=some (if AR ns (ws.drop i)=true then 0 else 102):=by
  intro d;induction d with
  |zero =>
    intro i hd hi k hk;obtain ⟨k,rfl⟩ : ∃ q,k=q+1:=⟨k - 1,by omega⟩;simp only [eP.l1];rw [if_neg (by omega),List.drop_eq_nil_of_le (by omega)];rfl
  |succ d ih =>
    intro i hd hi k hk;obtain ⟨k,rfl⟩ : ∃ q,k=q+1:=⟨k - 1,by omega⟩;have hlt:i<ws.length:=(by omega);have hwr:=xR (i:=i) (by omega);have ih':=ih (i+1) (by omega) (by omega) k (by omega);simp only [eP.l1];rw [if_pos (by omega),if_pos (by omega),hwr,ih',U2 hlt];generalize rd ws (i:Int)=x;by_cases h0:x<0
    · rw [if_pos h0,decide_eq_false (by omega : ¬ 0≤x)];rfl
    · rw [if_neg h0,decide_eq_true (by omega:0≤x)]
      by_cases h1:x ≥ ns
      · rw [if_pos h1,decide_eq_false (by omega : ¬ x<ns)];rfl
      · rw [if_neg h1,decide_eq_true (by omega:x<ns)];rfl
theorem rasked_l0 {ls ws:List Int} (hl:ls.length<4611686018427387904) (hw:ws.length<4611686018427387904) : ∀ (d i:Nat),ls.length - i=d→i≤ls.length→∀ k,d+ws.length+1<k →
    eP.l0 k ls ws (i:Int) m ns s e l=some (if AR m (ls.drop i)=true then (if AR ns ws=true then 0 else 102) else 101):=by
  intro d;induction d with
  |zero =>
    intro i hd hi k hk;obtain ⟨k,rfl⟩ : ∃ q,k=q+1:=⟨k - 1,by omega⟩;simp only [eP.l0];have:=rasked_l1 (m:=m) (ns:=ns) (s:=s) (e:=e) (l:=l) hw ws.length 0 rfl (by omega) k (by omega);rw [List.drop_zero] at this;rw [if_neg (by omega),List.drop_eq_nil_of_le (by omega),show (0:Int)=((0:Nat):Int) from rfl,this];rfl
  |succ d ih =>
    intro i hd hi k hk;obtain ⟨k,rfl⟩ : ∃ q,k=q+1:=⟨k - 1,by omega⟩;have hlt:i<ls.length:=(by omega);have hwr:=xR (i:=i) (by omega);have ih':=ih (i+1) (by omega) (by omega) k (by omega);simp only [eP.l0];rw [if_pos (by omega),if_pos (by omega),KX,Option.bind_some,hwr,ih',U2 hlt];generalize rd ls (i:Int)=x;by_cases h0:0≤x∧x<m
    · rw [decide_eq_true h0,if_pos rfl,decide_eq_true h0.1,decide_eq_true h0.2];rfl
    · rw [decide_eq_false h0,if_neg (by simp)]
      have:(decide (0≤x) && decide (x<(m:Int)))=false:=by
        rw [←Bool.decide_and];exact decide_eq_false h0
      rw [this];rfl
theorem rasked_f {ls ws:List Int} (hl:ls.length<4611686018427387904) (hw:ws.length<4611686018427387904) (hck:RA m ns s e l=0) :
    ∃ K,∀ k,K≤k→eP.f k m ns s e l ls ws=some (asE m ns ls ws):=by
  obtain ⟨K,hK⟩:=q_ (aM:=m) (aJ:=ns) (aV:=s) (aW:=e) (l:=l);refine ⟨K+(ls.length+ws.length+2),fun k hk=>?_⟩;unfold eP.f;have:=rasked_l0 (m:=m) (ns:=ns) (s:=s) (e:=e) (l:=l) hl hw ls.length 0 rfl (by omega) k (by omega);rw [List.drop_zero] at this;rw [hK k (by omega),hck,Option.bind_some,if_pos rfl,show (0:Int)=((0:Nat):Int) from rfl,this];rfl
theorem marks_l0 {ls:List Int} (hl:ls.length<4611686018427387904) (hm:m≤4096) {b':List Bool} {K:Nat} (hok:AR m ls=true)
    (hh : ∀ k,K≤k→aT.f k m ns s e l (l7 (none0 m) ls)=some b') : ∀ (d i:Nat) (b:List Bool),ls.length - i=d→i≤ls.length→b.length=m→l7 b (ls.drop i)=l7 (none0 m) ls→AR m (ls.drop i)=true→∀ k,K+d<k →
    bI.l0 k ls b (i:Int) m ns s e l=some b':=by
  intro d;induction d with
  |zero =>
    intro i b hd hi hb hs ho k hk;obtain ⟨k,rfl⟩ : ∃ q,k=q+1:=⟨k - 1,by omega⟩;simp only [bI.l0];rw [List.drop_eq_nil_of_le (by omega)] at hs;have hs':b=l7 (none0 m) ls:=hs;rw [if_neg (by omega),hs',hh k (by omega)];rfl
  |succ d ih =>
    intro i b hd hi hb hs ho k hk;obtain ⟨k,rfl⟩ : ∃ q,k=q+1:=⟨k - 1,by omega⟩;have hlt:i<ls.length:=(by omega);have hwr:=xR (i:=i) (by omega);rw [U2 hlt] at ho;rw [TG hlt] at hs;simp only [Bool.and_eq_true,decide_eq_true_eq] at ho;simp only [bI.l0];rw [if_pos (by omega),if_pos (by omega),if_pos ho.1.1,if_pos (by omega),hwr];exact ih (i+1) _ (by omega) (by omega) (by simp [hb]) hs ho.2 k (by omega)
theorem marks_f {ls:List Int} (hl:ls.length<4611686018427387904) (hm:m≤4096) {b':List Bool} {K:Nat} (hok:AR m ls=true)
    (hh : ∀ k,K≤k→aT.f k m ns s e l (l7 (none0 m) ls)=some b') : ∃ K,∀ k,K≤k→bI.f k m ns s e l ls=some b':=by
  refine ⟨K+ls.length+1,fun k hk=>?_⟩;unfold bI.f;rw [if_pos (by omega),Int.toNat_natCast,if_pos (by omega)];exact marks_l0 hl hm hok hh ls.length 0 (none0 m) rfl (by omega) (by simp [none0]) (by rw [List.drop_zero]) (by rw [List.drop_zero];exact hok) k (by omega)
end
end Go.Proofs.Ytapinbmkjkbkkaa.Pu
namespace Go.Proofs.Ytapinbmkjkbkkaa.Pu
open Go.RowKit Go.Proofs.aC.bE Go.Proofs.aC.bV Go.Proofs.aC.bY Lb Mk Ls
theorem rd_get {ls:List Int} {i:Nat} (h:i<ls.length):rd ls (i:Int)=ls[i]:=by unfold rd;simp [List.getElem?_eq_getElem h]
theorem okS_mem {n:Int} {ls:List Int} (h:AR n ls=true) {x:Int} (hx:x∈ls):0≤x∧x<n:=by
  have:=List.all_eq_true.mp h x hx;simp only [Bool.and_eq_true,decide_eq_true_eq] at this;exact this
theorem okS_of {n:Int} {ls:List Int} (h : ∀ x∈ls,0≤x∧x<n):AR n ls=true :=
  List.all_eq_true.mpr fun x hx=>by simp only [Bool.and_eq_true,decide_eq_true_eq];exact h x hx
theorem okS_one {m s:Nat} (h:s<m):AR m [(s:Int)]=true:=okS_of fun x hx=>by
  have:x=s:=(by simpa using hx);omega
theorem in_setB (i:Nat) : ∀ (ls:List Int) (b:List Bool),(∀ x∈ls,0≤x∧x<b.length)→(In (l7 b ls) i↔In b i∨(i:Int)∈ls)
  |[],b,_=>by simp [l7]
  |x :: ls,b,h=>by
    obtain ⟨h0,h1⟩:=h x List.mem_cons_self;show In (l7 (b.set x.toNat true) ls) i↔_;rw [in_setB i ls _ (fun y hy=>by have:=h y (List.mem_cons_of_mem _ hy);simpa using this),UI (by omega),List.mem_cons];constructor
    · rintro ((h|h)|h)
      · exact .inr (.inl (by omega))
      · exact .inl h
      · exact .inr (.inr h)
    · rintro (h|h|h)
      · exact .inl (.inr h)
      · exact .inl (.inl (by omega))
      · exact .inr h
theorem in_none (m i:Nat) : ¬ In (none0 m) i:=by
  unfold In none0;rw [List.getD_eq_getElem?_getD,List.getElem?_replicate];split <;> simp
inductive Walk (m:Nat) (l:List gV):List Bool→List Int→List Bool→Prop
  |nil (b:List Bool):Walk m l b [] b
  |cons {x:Int} {w:List Int} {b b1 b2:List Bool} (hb:By m l x b b1) (hl:b1.length=m) (h:Walk m l b1 w b2):Walk m l b (x :: w) b2
theorem asE_zero {m ns:Nat} {ls ws:List Int}:asE m ns ls ws=0↔AR m ls=true∧AR ns ws=true:=by
  unfold asE;by_cases h:AR m ls=true
  · by_cases h2:AR ns ws=true
    · simp [h,h2]
    · rw [if_pos h,if_neg h2];simp [h2]
  · rw [if_neg h];simp [h]
section
variable {m ns : Nat} {s e : Nat} {l : List gV}
theorem run_l0 (A:IC m l) (he:e<m) {ws:List Int} (hw:ws.length<4611686018427387904) : ∀ (d i:Nat),ws.length - i=d→i≤ws.length→∀ (S:List Int) (b:List Bool),X9 m S b→Hand l b b →
    ∃ K b',b'.length=m∧Walk m l b (ws.drop i) b'∧Hand l b' b'∧∀ k,K≤k→jX.l0 k S ws (ws.length:Int) (i:Int) m ns s e l=some (b'.getD e false,0)∧iG.l0 k ws b (i:Int) m ns s e l=some (b'.getD e false,0):=by
  intro d;induction d with
  |zero =>
    intro i hd hi S b hR hH;refine ⟨1,b,hR.lb,by rw [List.drop_eq_nil_of_le (by omega)];exact .nil b,hH,fun k hk=>?_⟩;obtain ⟨k,rfl⟩ : ∃ q,k=q+1:=⟨k - 1,by omega⟩;have hlb:=hR.lb;simp only [jX.l0,iG.l0];rw [if_neg (by omega),if_neg (by omega),NP hR A.m1 e he,if_pos (by omega),if_pos (by omega)];exact ⟨rfl,by simp [fF]⟩
  |succ d ih =>
    intro i hd hi S b hR hH;have hlt:i<ws.length:=(by omega);have hwr:=xR (i:=i) (by omega);obtain ⟨K1,S',b1,h1,o5,hBy⟩:=step_f (sy:=ns) (s:=s) (e:=e) A (sym:=rd ws (i:Int)) hR hH hR.lb;obtain ⟨K2,b',hl,hWk,hH',h2⟩:=ih (i+1) (by omega) (by omega) S' b1 o5 (UD hBy);refine ⟨K1+K2+1,b',hl,?_,hH',fun k hk=>?_⟩
    · rw [List.drop_eq_getElem_cons hlt]
      rw [rd_get hlt] at hBy;exact .cons hBy o5.lb hWk
    obtain ⟨k,rfl⟩ : ∃ q,k=q+1:=⟨k - 1,by omega⟩;simp only [jX.l0,iG.l0];rw [if_pos (by omega),if_pos (by omega),if_pos (by omega),if_pos (by omega),if_pos (by omega),(h1 k (by omega)).1,(h1 k (by omega)).2,Option.bind_some,Option.bind_some,hwr];exact h2 k (by omega)
theorem a_ (A:IC m l) (hs:s<m) (he:e<m) {ws:List Int} (hw:ws.length<4611686018427387904) (hck:RA m ns s e l=0) (has:AR ns ws=true) :
    ∃ K b0 b',b0.length=m∧Hand l (l7 (none0 m) [(s:Int)]) b0∧b'.length=m∧Walk m l b0 ws b'∧∀ k,K≤k→jX.f k m ns s e l ws=some (b'.getD e false,0)∧iG.f k m ns s e l ws=some (b'.getD e false,0):=by
  have hm:=A.m1;have has':asE m ns [] ws=0:=asE_zero.mpr ⟨rfl,has⟩;obtain ⟨K1,B,hB,h1⟩:=asked_f (ns:=ns) (s:=s) (e:=e) A (ls:=[]) (by simp) hw hck;obtain ⟨K2,h2⟩:=rasked_f (m:=m) (ns:=ns) (s:=s) (e:=e) (l:=l) (ls:=[]) (by simp) hw hck;obtain ⟨B1,hp,o5⟩:=r_ (hB has') A.m1 s hs;have o5:X9 m B1 (l7 (none0 m) [(s:Int)]):=o5;obtain ⟨K3,B',b0,h3,hR,hH⟩:=DU (sy:=ns) (s:=s) (e:=e) A o5;obtain ⟨K6,h6⟩:=marks_f (ls:=[(s:Int)]) (by simp) A.m1 (okS_one hs) (fun k hk=>(h3 k hk).2);obtain ⟨K7,b',hl',hWk,_,h7⟩:=run_l0 (ns:=ns) (s:=s) A he hw ws.length 0 rfl (by omega) B' b0 hR (X8 hH);rw [List.drop_zero] at hWk;refine ⟨K1+K2+K3+K6+K7,b0,b',hR.lb,hH,hl',hWk,fun k hk=>⟨?_,?_⟩⟩
  · unfold jX.f
    rw [h1 k (by omega),Option.bind_some,if_pos has'];show (if (0:Int)=0 then _ else _)=_;rw [if_pos rfl,hp,Option.bind_some,(h3 k (by omega)).1,Option.bind_some];exact (h7 k (by omega)).1
  · unfold iG.f
    rw [h2 k (by omega),Option.bind_some,if_pos has',h6 k (by omega),Option.bind_some];exact (h7 k (by omega)).2
end
section
variable {m ns : Nat} {s e : Nat} {l : List gV}
end
end Go.Proofs.Ytapinbmkjkbkkaa.Pu
namespace Go.Proofs.Ytapinbmkjkbkkaa.Lb
open Go.RowKit Go.Proofs.aC.bE Go.Proofs.aC.bV Go.Proofs.aC.bY
attribute [local go_sem] kY kZ nO nP kC kD lC lD
set_option linter.unusedVariables false
set_option linter.unusedSimpArgs false
theorem eqA78 (d:Nat) (w:World) (x0 y0:Int) (x1 y1:Int) (x2 y2:Int) :
    (Op.equalIn (d+2) 78 (.agg #[.int .i64 x0,.int .i64 x1,.int .i64 x2]) (.agg #[.int .i64 y0,.int .i64 y1,.int .i64 y2])).run Try.prog w = .ok (x0==y0 && (x1==y1 && (x2==y2))) w:=by
  refine eqA_of Try.underlying78 (by kernel_rfl) ?_;refine D_ (by rfl) (by go_simp;rfl) (by go_simp;rfl) (by go_simp) ?_;refine D_ (by rfl) (by go_simp;rfl) (by go_simp;rfl) (by go_simp) ?_;exact eqf_last (by rfl) (by go_simp;rfl) (by go_simp;rfl) (by go_simp)
end Go.Proofs.Ytapinbmkjkbkkaa.Lb
