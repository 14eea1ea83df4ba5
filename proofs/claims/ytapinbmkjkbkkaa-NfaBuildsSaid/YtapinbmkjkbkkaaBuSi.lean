import Derived.Test.YtapinbmkjkbkkaaBuLbx34
import Derived.StillTailTactics
import Derived.BigRegion
import Derived.Test.YtapinbmkjkbkkaaBuCl
namespace Go.Proofs.Ytapinbmkjkbkkaa.Mk
open Go.RowKit Go.Proofs.aC.bE Go.Proofs.aC.bV Go.Proofs.aC.bY Lb
structure iT (w:World) (base G:Nat) (B c:Nat→Nat) (L:Nat) (m:Nat→Nat→Bool):Prop where
  gb:base≤G
  g : ∃ cs,w.heap[G]?=some (.cells cs 44 (0,0))∧∀ i,i<L→cs[i]?=some (.slice (some ⟨B i,0,none⟩) L (c i))
  r : ∀ i,i<L→base≤B i∧∃ cs,w.heap[B i]?=some (.cells cs 4 (0,0))∧∀ j,j<L→cs[j]?=some (.bool (m i j))
  inj : ∀ i,i<L→∀ i',i'<L→B i=B i'→i=i'
theorem mat_of_S {w:World} {base L:Nat} {v:Value} {xs:List (List Bool)} (h:Kd.S (Kd.slice 4 Kd.bool) 44 w base (fun _=>True) v xs) (hL:xs.length=L) (hp:0<L) (hr : ∀ i,i<L→((xs[i]?).getD []).length=L) :
    ∃ G B c cap,v = .slice (some ⟨G,0,none⟩) L cap∧iT w base G B c L (fun i j=>(((xs[i]?).getD [])[j]?).getD false):=by
  obtain ⟨G,cap,rfl,hG,_,cs,hcs⟩:=Kd.S_form h (by omega);obtain ⟨f,h0,inner,ho,hi1,hi2⟩:=h;have key : ∀ i,∃ gi ci,i<L→base≤gi∧f gi=i∧cs[i]?=some (.slice (some ⟨gi,0,none⟩) L ci)∧∃ cs',w.heap[gi]?=some (.cells cs' 4 (0,0))∧∀ j,j<L→cs'[j]?=some (.bool ((((xs[i]?).getD [])[j]?).getD false)):=by
    intro i;by_cases hi:i<L
    · have hil:i<xs.length:=by omega
      obtain ⟨vi,hvi,hRi⟩:=hi2 i _ (Kd.O0 (List.getElem?_eq_getElem hil));have hrow:=hr i hi;rw [List.getElem?_eq_getElem hil,Option.getD_some] at hrow;have hRi:Kd.bool.R 4 w base _ vi xs[i]:=hRi;obtain ⟨gi,ci,rfl,hgi,_,cs',hcs'⟩:=Kd.uL hRi (by omega);refine ⟨gi,ci,fun _=>⟨hgi,(hRi.1 gi (by simp [Value.ownBlock])).2,?_,cs',hcs',fun j hj=>?_⟩⟩
      · have hu:inner[i]?=some (.slice (some ⟨gi,0,none⟩) xs[i].length ci):=by
          have e:(inner.drop (i * 1)).take 1=[.slice (some ⟨gi,0,none⟩) xs[i].length ci]:=hvi;have e2:((inner.drop (i * 1)).take 1)[0]?=some (.slice (some ⟨gi,0,none⟩) xs[i].length ci):=(by rw [e];rfl);rw [List.getElem?_take,if_pos (by omega),List.getElem?_drop] at e2;simpa using e2
        have:=ho.cells (g:=G) (by simp [Value.ownBlock]) _ _ hu;rw [add_plain,aD hcs] at this;rw [this,hrow]
      · obtain ⟨ad,had,hx⟩:=Kd.nZ (Kd.cO hRi).2.2 (j:Int) (by omega) (by omega)
        injection had with had;subst had;rw [Int.toNat_natCast,add_plain,aD hcs'] at hx;rw [hx,List.getElem?_eq_getElem hil,Option.getD_some];unfold fF;rw [Int.toNat_natCast,List.getD_eq_getElem?_getD]
    · exact ⟨0,0,fun h=>absurd h hi⟩
  refine ⟨G,fun i=>(key i).choose,fun i=>(key i).choose_spec.choose,cap,by rw [hL],hG,⟨cs,hcs,fun i hi=>((key i).choose_spec.choose_spec hi).2.2.1⟩,fun i hi=>⟨((key i).choose_spec.choose_spec hi).1,((key i).choose_spec.choose_spec hi).2.2.2⟩,fun i hi i' hi' e=>?_⟩;have h1:=((key i).choose_spec.choose_spec hi).2.1;have h2:=((key i').choose_spec.choose_spec hi').2.1;rw [←h1,← h2];exact congrArg f e
section
variable {w w1 : World} {base G : Nat} {B c : Nat → Nat} {L : Nat} {m : Nat → Nat → Bool}
theorem iT.row (h:iT w base G B c L m) {i:Nat} (hi:i<L):w.cell? ⟨G,i,none⟩=some (.slice (some ⟨B i,0,none⟩) L (c i)):=by
  obtain ⟨cs,hcs,hc⟩:=h.g;rw [aD hcs];exact hc i hi
theorem iT.at_ (h:iT w base G B c L m) {i j:Nat} (hi:i<L) (hj:j<L):w.cell? ⟨B i,j,none⟩=some (.bool (m i j)):=by
  obtain ⟨_,cs,hcs,hc⟩:=h.r i hi;rw [aD hcs];exact hc j hj
theorem iT.fz (h:iT w base G B c L m) {i:Nat} (hi:i<L) (j:Nat):w.frozen? ⟨B i,j,none⟩=false:=by
  obtain ⟨_,cs,hcs,_⟩:=h.r i hi;exact bF hcs j
theorem iT.move (h:iT w base G B c L m) (hm : ∀ k,base≤k→k<w.heap.size→w1.heap[k]?=w.heap[k]?):iT w1 base G B c L m:=by
  obtain ⟨hb,⟨cs,h1,h2⟩,hr,hj⟩:=h;refine ⟨hb,⟨cs,(hm _ hb (gL h1)).trans h1,h2⟩,fun i hi=>?_,hj⟩;obtain ⟨e,cs',h3,h4⟩:=hr i hi;exact ⟨e,cs',(hm _ e (gL h3)).trans h3,h4⟩
theorem iT.below (h:iT w base G B c L m) (hb:Below w.heap.size w w1):iT w1 base G B c L m:=h.move (fun k _ hk=>hb.block k hk)
theorem iT.lower {b':Nat} (h:iT w base G B c L m) (hb:b'≤base):iT w b' G B c L m:=⟨Nat.le_trans hb h.gb,h.g,fun i hi=>⟨Nat.le_trans hb (h.r i hi).1,(h.r i hi).2⟩,h.inj⟩
theorem iT.drew (h:iT w base G B c L m):iT w.drew base G B c L m:=h.below (bX (Below.refl _ _))
def upd (m:Nat→Nat→Bool) (i j:Nat) (b:Bool):Nat→Nat→Bool:=fun x y=>if x=i∧y=j then b else m x y
theorem iT.set (h:iT w base G B c L m) {i j:Nat} (hi:i<L) (hj:j<L) (b:Bool):iT (w.setCell ⟨B i,j,none⟩ (.bool b)) base G B c L (upd m i j b):=by
  obtain ⟨hb,⟨cs,h1,h2⟩,hr,hinj⟩:=h;obtain ⟨hbi,csi,h3,h4⟩:=hr i hi;refine ⟨hb,⟨cs,bR h1 (fun e=>?_) _,h2⟩,fun x hx=>?_,hinj⟩
  · have e:G=B i:=e
    rw [e,h3] at h1;injection h1 with h1;injection h1 with _ h1;exact absurd h1 (by decide)
  · by_cases hxi:x=i
    · subst hxi
      refine ⟨hbi,_,lN h3 j _,fun y hy=>?_⟩;rw [Array.getElem?_setIfInBounds];unfold upd;by_cases hyj:j=y
      · subst hyj
        have:j<csi.size:=by
          have:=h4 j hj;exact (Array.getElem?_eq_some_iff.mp this).1
        rw [if_pos rfl,if_pos this,if_pos ⟨rfl,rfl⟩]
      · rw [if_neg hyj,if_neg (fun e=>hyj e.2.symm)]
        exact h4 y hy
    · obtain ⟨hbx,csx,h5,h6⟩:=hr x hx
      refine ⟨hbx,csx,bR h5 (fun e=>hxi (hinj x hx i hi e)) _,fun y hy=>?_⟩;unfold upd;rw [if_neg (fun e=>hxi e.1)];exact h6 y hy
theorem iT.size (h:iT w base G B c L m) (hL:0<L):base<w.heap.size:=by
  obtain ⟨cs,h1,_⟩:=h.g;exact Nat.lt_of_le_of_lt h.gb (gL h1)
theorem iT.rowlt (h:iT w base G B c L m) {i:Nat} (hi:i<L):B i<w.heap.size:=by
  obtain ⟨_,cs,h1,_⟩:=h.r i hi;exact gL h1
end
theorem GH {n:Nat} (h:n≤1000000):wrap64 ((n:Int)+1)=((n+1:Nat):Int):=by unfold wrap64;omega
theorem blank_l0 (n:Nat) (hn:n≤1000) : ∀ (d i k:Nat) (xs:List (List Bool)),n+1 - i=d→i≤n+1→d<k→xs.length=n+1→(∀ x,x<i→xs[x]?=some (List.replicate (n+1) false)) →
    ∃ r,dG.l0 k (n:Int) xs (i:Int)=some r∧r.length=n+1∧∀ x,x<n+1→r[x]?=some (List.replicate (n+1) false):=by
  intro d;induction d with
  |zero =>
    intro i k xs hd hi hk hl hx;obtain ⟨k,rfl⟩ : ∃ m,k=m+1:=⟨k - 1,by omega⟩;exact ⟨xs,by rw [dG.l0,if_neg (by omega)],hl,fun x hx'=>hx x (by omega)⟩
  |succ d ih =>
    intro i k xs hd hi hk hl hx;obtain ⟨k,rfl⟩ : ∃ m,k=m+1:=⟨k - 1,by omega⟩;rw [dG.l0,if_pos (by omega),GH (by omega),if_pos (by omega),if_pos (by omega),if_pos (by omega),if_pos (by omega),GH (by omega)];simp only [Int.toNat_natCast];refine ih (i+1) k _ (by omega) (by omega) (by omega) (by simpa using hl) (fun x hx'=>?_);rw [List.getElem?_set];by_cases e:i=x
    · subst e
      rw [if_pos rfl,if_pos (by omega)]
    · rw [if_neg e]
      exact hx x (by omega)
theorem blank_f (n k:Nat) (hn:n≤1000) (hk:n+1<k) : ∃ r,dG.f k (n:Int)=some r∧r.length=n+1∧∀ x,x<n+1→r[x]?=some (List.replicate (n+1) false):=by
  unfold dG.f;rw [GH (by omega),if_pos (by omega),if_pos (by omega)];exact blank_l0 n hn (n+1) 0 k _ (by omega) (by omega) hk (by simp) (fun x hx=>absurd hx (by omega))
theorem empty_l0 (n:Nat) (hn:n≤1000) : ∀ (d i k:Nat) (xs:List (List Bool)),n+1 - i=d→i≤n+1→d<k→xs.length=n+1→(∀ x,x<n+1→xs[x]?=some (if x<i then (List.replicate (n+1) false).set x true else List.replicate (n+1) false)) →
    ∃ r,eG.l0 k (n:Int) xs (i:Int)=some r∧r.length=n+1∧∀ x,x<n+1→r[x]?=some ((List.replicate (n+1) false).set x true):=by
  intro d;induction d with
  |zero =>
    intro i k xs hd hi hk hl hx;obtain ⟨k,rfl⟩ : ∃ m,k=m+1:=⟨k - 1,by omega⟩;refine ⟨xs,by rw [eG.l0,if_neg (by omega)],hl,fun x hx'=>?_⟩;rw [hx x hx',if_pos (by omega)]
  |succ d ih =>
    intro i k xs hd hi hk hl hx;obtain ⟨k,rfl⟩ : ∃ m,k=m+1:=⟨k - 1,by omega⟩;have hrd:jJ xs (i:Int)=List.replicate (n+1) false:=by
      have h:=hx i (by omega);rw [if_neg (by omega)] at h;unfold jJ;simp [h]
    rw [eG.l0,if_pos (by omega),if_pos (by omega),if_pos (by omega),hrd,if_pos (by rw [List.length_replicate];omega),GH (by omega)];simp only [Int.toNat_natCast];refine ih (i+1) k _ (by omega) (by omega) (by omega) (by simpa using hl) (fun x hx'=>?_);rw [List.getElem?_set];by_cases e:i=x
    · subst e
      rw [if_pos rfl,if_pos (by omega),if_pos (by omega)]
    · rw [if_neg e,hx x hx']
      by_cases h:x<i
      · rw [if_pos h,if_pos (by omega)]
      · rw [if_neg h,if_neg (by omega)]
theorem DT (n k:Nat) (hn:n≤1000) (hk:n+1<k) : ∃ r,eG.f k (n:Int)=some r∧r.length=n+1∧∀ x,x<n+1→r[x]?=some ((List.replicate (n+1) false).set x true):=by
  obtain ⟨b,hb,hl,hx⟩:=blank_f n k hn hk;unfold eG.f;rw [hb,Option.bind_some];exact empty_l0 n hn (n+1) 0 k b (by omega) (by omega) hk hl (fun x hx'=>by rw [if_neg (by omega)];exact hx x hx')
def KS (W0:World) (L:Nat) (P:Nat→Nat→Prop) (e:Ending) (W:World):Prop :=
  ∃ G B c cap m,e = .returned (.slice (some ⟨G,0,none⟩) L cap)∧iT W W0.heap.size G B c L m∧(∀ i,i<L→∀ j,j<L→(m i j=true↔P i j))∧Below W0.heap.size W0 W
theorem rJ (n:Nat) (hn:n≤1000) (w:World):Calls Try.prog 74 #[.int .i64 (n:Int)] w (KS w (n+1) fun _ _=>False):=by
  obtain ⟨r,hr,hl,hx⟩:=blank_f n (n+2) hn (by omega);refine (dG.calls _ _ _ w hr).mono ?_;rintro e w' ⟨v,rfl,hS,hb⟩;obtain ⟨G,B,c,cap,rfl,hm⟩:=mat_of_S hS hl (by omega) (fun i hi=>by rw [hx i hi];simp);refine ⟨G,B,c,cap,_,rfl,hm,fun i hi j hj=>?_,hb⟩;simp only [hx i hi,Option.getD_some,iff_false];rw [List.getElem?_replicate];split <;> simp
theorem JB (n:Nat) (hn:n≤1000) (w:World):Calls Try.prog 75 #[.int .i64 (n:Int)] w (KS w (n+1) fun i j=>i=j):=by
  obtain ⟨r,hr,hl,hx⟩:=DT n (n+2) hn (by omega);refine (eG.calls _ _ _ w hr).mono ?_;rintro e w' ⟨v,rfl,hS,hb⟩;obtain ⟨G,B,c,cap,rfl,hm⟩:=mat_of_S hS hl (by omega) (fun i hi=>by rw [hx i hi];simp);refine ⟨G,B,c,cap,_,rfl,hm,fun i hi j hj=>?_,hb⟩;simp only [hx i hi,Option.getD_some];rw [List.getElem?_set,List.length_replicate,List.getElem?_replicate,if_pos hi,if_pos hj];by_cases e:i=j
  · subst e;simp
  · rw [if_neg e];simp [e]
end Go.Proofs.Ytapinbmkjkbkkaa.Mk
namespace Go.Proofs.Ytapinbmkjkbkkaa.Mk
open Go.RowKit Go.Proofs.aC.bE Go.Proofs.aC.bV Go.Proofs.aC.bY Lb
def Mid (a b:Nat→Nat→Bool) (x y K:Nat):Prop:=∃ k,x≤k∧k<K∧k≤y∧a x k=true∧b k y=true
theorem mid_succ {a b:Nat→Nat→Bool} {x y K:Nat} (hx:x≤K):Mid a b x y (K+1)↔Mid a b x y K∨(K≤y∧a x K=true∧b K y=true):=by
  constructor
  · rintro ⟨k,h1,h2,h3,h4,h5⟩
    by_cases e:k=K
    · subst e;exact .inr ⟨h3,h4,h5⟩
    · exact .inl ⟨k,h1,by omega,h3,h4,h5⟩
  · rintro (⟨k,h1,h2,h3,h4,h5⟩|⟨h3,h4,h5⟩)
    · exact ⟨k,h1,by omega,h3,h4,h5⟩
    · exact ⟨K,hx,by omega,h3,h4,h5⟩
def BT (a b:Nat→Nat→Bool) (L i K J:Nat) (m:Nat→Nat→Bool):Prop :=
  ∀ x,x<L→∀ y,y<L→(m x y=true↔(x<i∧Mid a b x y L)∨(x=i∧(Mid a b x y K∨(K≤y∧y<J∧a x K=true∧b K y=true))))
theorem mid_self {a b:Nat→Nat→Bool} {x y:Nat} : ¬ Mid a b x y x:=by rintro ⟨k,h1,h2,_⟩;omega
theorem bt_mid {a b m:Nat→Nat→Bool} {L i k j:Nat} (h:BT a b L i k j m) (hik:i≤k) (he:a i k=false∨j=L):BT a b L i (k+1) (k+1) m:=by
  intro x hx y hy;rw [h x hx y hy];by_cases hxi:x=i
  · subst hxi
    rw [mid_succ hik];constructor
    · rintro (⟨h1,_⟩|⟨_,h1|⟨h1,_,h2,h3⟩⟩)
      · omega
      · exact .inr ⟨rfl,.inl (.inl h1)⟩
      · exact .inr ⟨rfl,.inl (.inr ⟨h1,h2,h3⟩)⟩
    · rintro (⟨h1,_⟩|⟨_,(h1|⟨h1,h2,h3⟩)|⟨h1,h2,_⟩⟩)
      · omega
      · exact .inr ⟨rfl,.inl h1⟩
      · rcases he with he|he
        · rw [he] at h2;exact absurd h2 (by simp)
        · exact .inr ⟨rfl,.inr ⟨h1,by omega,h2,h3⟩⟩
      · omega
  · constructor
    · rintro (h1|⟨h1,_⟩)
      · exact .inl h1
      · exact absurd h1 hxi
    · rintro (h1|⟨h1,_⟩)
      · exact .inl h1
      · exact absurd h1 hxi
theorem bt_row {a b m:Nat→Nat→Bool} {L i k j:Nat} (h:BT a b L i k j m) (hk:k=L) (hj:j=L):BT a b L (i+1) (i+1) (i+1) m:=by
  intro x hx y hy;rw [h x hx y hy];subst hk;subst hj;constructor
  · rintro (⟨h1,h2⟩|⟨h1,h2|⟨h2,h3,_⟩⟩)
    · exact .inl ⟨by omega,h2⟩
    · exact .inl ⟨by omega,h2⟩
    · omega
  · rintro (⟨h1,h2⟩|⟨h1,h2|⟨h2,h3,_⟩⟩)
    · by_cases e:x=i
      · exact .inr ⟨e,.inl h2⟩
      · exact .inl ⟨by omega,h2⟩
    · subst h1;exact absurd h2 mid_self
    · omega
theorem bt_set {a b m:Nat→Nat→Bool} {L i k j:Nat} (h:BT a b L i k j m) (hi:i<L) (hkj:k≤j) (hj:j<L) (ha:a i k=true) {v:Bool} (hv:v=(m i j || b k j)):BT a b L i k (j+1) (upd m i j v):=by
  intro x hx y hy;unfold upd;by_cases hxy:x=i∧y=j
  · obtain ⟨rfl,rfl⟩:=hxy
    rw [if_pos ⟨rfl,rfl⟩,hv,Bool.or_eq_true,h x hx y hy];constructor
    · rintro ((⟨h1,_⟩|⟨_,h1|⟨_,h1,_⟩⟩)|h1)
      · omega
      · exact .inr ⟨rfl,.inl h1⟩
      · omega
      · exact .inr ⟨rfl,.inr ⟨hkj,by omega,ha,h1⟩⟩
    · rintro (⟨h1,_⟩|⟨_,h1|⟨_,_,_,h1⟩⟩)
      · omega
      · exact .inl (.inr ⟨rfl,.inl h1⟩)
      · exact .inr h1
  · rw [if_neg hxy,h x hx y hy]
    constructor
    · rintro (h1|⟨h1,h2|⟨h2,h3,h4⟩⟩)
      · exact .inl h1
      · exact .inr ⟨h1,.inl h2⟩
      · exact .inr ⟨h1,.inr ⟨h2,by omega,h4⟩⟩
    · rintro (h1|⟨h1,h2|⟨h2,h3,h4⟩⟩)
      · exact .inl h1
      · exact .inr ⟨h1,.inl h2⟩
      · exact .inr ⟨h1,.inr ⟨h2,by have:y≠j:=fun e=>hxy ⟨h1,e⟩;omega,h4⟩⟩
set_option maxRecDepth 100000 in
set_option maxHeartbeats 6400000 in
theorem behind_fin (n:Nat) (hn:n≤1000) (w:World) {ba bb Ga Gb:Nat} {Ba ca Bb cb:Nat→Nat} {a b:Nat→Nat→Bool} (cpa cpb:Nat) (hA:iT w ba Ga Ba ca (n+1) a) (hB:iT w bb Gb Bb cb (n+1) b) :
    Calls Try.prog 76 #[.slice (some ⟨Ga,0,none⟩) (n+1:Nat) cpa,.slice (some ⟨Gb,0,none⟩) (n+1:Nat) cpb] w (KS w (n+1) fun i j=>Mid a b i j (n+1)):=by
  have HA:=aA.mk hA;have HB:=aA.mk hB;clear hA hB;go_enter Try.func76,Try.ntmps76;go_wp2_with (fail)
  go_at_call 74;refine (rJ n hn w).mono ?_;rintro e w1 ⟨G,B,c,cap,m,rfl,hM,hP,hb1⟩;have HM:=aA.mk hM;have HB1:=aA.mk hb1;have HT:aA (BT a b (n+1) 0 0 0 m):=⟨fun x hx y hy=>by
    rw [hP x hx y hy];constructor
    · exact fun h=>h.elim
    · rintro (⟨h,_⟩|⟨_,⟨k,_,h,_⟩|⟨_,h,_⟩⟩) <;> omega⟩
  clear hM hP hb1;go_wp2_with (fail)
  go_loopg [6] (n+1) (fun q v6 wr=>∃ (i:Nat) (m:Nat→Nat→Bool),i≤n+1∧v6 = .int .i64 i∧q=n+1 - i∧aA (BT a b (n+1) i i i m)∧aA (iT wr w.heap.size G B c (n+1) m)∧aA (Below w.heap.size w wr))
  case atStart=>exact ⟨0,m,Nat.zero_le _,rfl,rfl,HT,HM,HB1⟩
  case round =>
    obtain ⟨i,m1,hi,rfl,rfl,HT1,GA,HB2⟩:=hrel;clear HT HM HB1;by_cases hlt:i<n+1
    · have hdi:decide ((i:Int)<((n:Int)+1))=true:=decide_eq_true (by omega)
      go_wp2_with (fail)
      go_loopg [7] (n+1 - i) (fun q v7 wr=>∃ (k:Nat) (m:Nat→Nat→Bool),i≤k∧k≤n+1∧v7 = .int .i64 k∧q=n+1 - k∧aA (BT a b (n+1) i k k m)∧aA (iT wr w.heap.size G B c (n+1) m)∧aA (Below w.heap.size w wr))
      case atStart=>exact ⟨i,m1,Nat.le_refl _,hi,rfl,rfl,HT1,GA,HB2⟩
      case round =>
        obtain ⟨k,m2,hik,hk,rfl,rfl,HT2,JV,HB3⟩:=hrel;clear HT1 GA HB2;by_cases hlk:k<n+1
        · have hdk:decide ((k:Int)<((n:Int)+1))=true:=decide_eq_true (by omega)
          go_wp2_with (fail)
          go_loopg [8] (n+1 - k) (fun q v8 wr=>∃ (j:Nat) (m:Nat→Nat→Bool),k≤j∧j≤n+1∧v8 = .int .i64 j∧q=n+1 - j∧aA (BT a b (n+1) i k j m)∧aA (iT wr w.heap.size G B c (n+1) m)∧aA (Below w.heap.size w wr))
          case atStart=>exact ⟨k,m2,Nat.le_refl _,hk,rfl,rfl,HT2,JV,HB3⟩
          case round =>
            obtain ⟨j,m3,hkj,hj,rfl,rfl,HT3,BC,wV⟩:=hrel;clear HT2 JV HB3;by_cases hlj:j<n+1
            · have HA4:=aA.mk (HA.out.below wV.out)
              have hga:=HA4.out.row hlt;have haik:=HA4.out.at_ hlt hlk;have hdj:decide ((j:Int)<((n:Int)+1))=true:=decide_eq_true (by omega);cases hak:a i k with
              |false =>
                rw [hak] at haik;have HAK:=aA.mk hak;clear hak;go_wp2;go_roundg (n+1 - (k+1))
                case measure=>omega
                case rel=>exact ⟨k+1,m3,by omega,by omega,by go_num,rfl,⟨bt_mid HT3.out hik (.inl HAK.out)⟩,BC,wV⟩
              |true =>
                rw [hak] at haik;have HAK:=aA.mk hak;have ZI:=aA.mk (HB.out.below wV.out);have hrow:=BC.out.row hlt;have hij:=BC.out.at_ hlt hlj;have hfz:=BC.out.fz hlt j;have hgb:=ZI.out.row hlk;have hbkj:=ZI.out.at_ hlk hlj;clear hak;go_wp2_with (fail)
                clear haik hga;cases zZ:m3 i j with
                |true =>
                  rw [zZ] at hij;have HMS:=aA.mk (BC.out.set hlt hlj true);have HTS:=aA.mk (bt_set HT3.out hlt hkj hlj HAK.out (v:=true) (by rw [zZ];rfl));have HBS:=aA.mk (wV.out.setCell (p:=⟨B i,j,none⟩) (BC.out.r i hlt).1 (.bool true));clear zZ hgb hbkj;go_big_region
                  all_goals (go_wp2;go_roundg (n+1 - (j+1)))
                  case measure=>omega
                  case rel=>exact ⟨j+1,_,by omega,by omega,by go_num,rfl,HTS,⟨HMS.out.drew⟩,⟨bX HBS.out⟩⟩
                |false =>
                  rw [zZ] at hij;have HMS:=aA.mk (BC.out.set hlt hlj (b k j));have HTS:=aA.mk (bt_set HT3.out hlt hkj hlj HAK.out (v:=b k j) (by rw [zZ];rfl));have HBS:=aA.mk (wV.out.setCell (p:=⟨B i,j,none⟩) (BC.out.r i hlt).1 (.bool (b k j)));clear zZ;go_big_region
                  all_goals (go_wp2;go_roundg (n+1 - (j+1)))
                  case measure=>omega
                  case rel=>exact ⟨j+1,_,by omega,by omega,by go_num,rfl,HTS,⟨HMS.out.drew⟩,⟨bX HBS.out⟩⟩
            · have HJ:=aA.mk (show j=n+1 by omega)
              have hdj:decide ((j:Int)<((n:Int)+1))=false:=decide_eq_false (by omega);go_wp2;go_roundg (n+1 - (k+1))
              case measure=>omega
              case rel=>exact ⟨k+1,m3,by omega,by omega,by go_num,rfl,⟨bt_mid HT3.out hik (.inr HJ.out)⟩,BC,wV⟩
        · have HK:=aA.mk (show k=n+1 by omega)
          have hdk:decide ((k:Int)<((n:Int)+1))=false:=decide_eq_false (by omega);go_wp2;go_roundg (n+1 - (i+1))
          case measure=>omega
          case rel=>exact ⟨i+1,m2,by omega,by go_num,rfl,⟨bt_row HT2.out HK.out HK.out⟩,JV,HB3⟩
    · have HI:=aA.mk (show i=n+1 by omega)
      have hdi:decide ((i:Int)<((n:Int)+1))=false:=decide_eq_false (by omega);go_wp2;go_ret;refine ⟨G,B,c,cap,m1,rfl,GA.out,fun x hx y hy=>?_,HB2.out⟩;rw [HT1.out x hx y hy];constructor
      · rintro (⟨_,h1⟩|⟨h1,_⟩)
        · exact h1
        · have:=HI.out;omega
      · exact fun h1=>.inl ⟨by have:=HI.out;omega,h1⟩
end Go.Proofs.Ytapinbmkjkbkkaa.Mk
namespace Go.Proofs.Ytapinbmkjkbkkaa.Mk
open Go.RowKit Go.Proofs.aC.bE Go.Proofs.aC.bV Go.Proofs.aC.bY Lb Pu
def sub (sym:List Int) (i j:Nat):List Int:=(sym.drop i).take (j - i)
def mM (nm:List (List UInt8)) (sym:List Int) (r:gB) (i j:Nat):Prop:=i≤j∧tV nm r (sub sym i j)
structure rM (nm:List (List UInt8)) (sym:List Int) (l1:List ByteArray):Prop where
  len:sym.length=l1.length
  at_ : ∀ (i:Nat) (x:ByteArray),l1[i]?=some x→sym[i]?=some (nameAt nm (nk x))∧nk x∈nm
  ns:l1.length≤100
def uT (nm:List (List UInt8)) (sym:List Int) (l1:List ByteArray) (r:gB):Prop :=
  ∀ (w:World) (A:Option Addr) (c:Nat) (Al:Option Addr) (cl:Nat),Kd.C k25 w A r.f2.length r.f2→r.f2.length≤c→Kd.C Kd.string w Al l1.length l1→l1.length≤cl →
    Calls Try.prog 45 #[.agg #[.int .i64 r.f0,.string r.f1,.slice A r.f2.length c],.slice Al l1.length cl] w (KS w (l1.length+1) (mM nm sym r))
theorem j4 {w:World} {base G G':Nat} {B c B' c':Nat→Nat} {L:Nat} {m m':Nat→Nat→Bool} {i:Nat} (h:iT w base G' B' c' L m') (hne : ∀ x,x<L→B i≠B' x) (hi:i<L) (hM:iT w base G B c L m) (u:Value) {j:Nat}:iT (w.setCell ⟨B i,j,none⟩ u) base G' B' c' L m':=by
  obtain ⟨hb,⟨cs,h1,h2⟩,hr,hinj⟩:=h;obtain ⟨_,csi,h3,_⟩:=hM.r i hi;refine ⟨hb,⟨cs,bR h1 (fun e=>?_) _,h2⟩,fun x hx=>?_,hinj⟩
  · have e:G'=B i:=e
    rw [e] at h1;exact mZ h1 h3 (by decide) rfl
  · obtain ⟨hbx,csx,h5,h6⟩:=hr x hx
    exact ⟨hbx,csx,bR h5 (fun e=>hne x hx e.symm) _,h6⟩
theorem mat_blk {w:World} {base G:Nat} {B c:Nat→Nat} {L:Nat} {m:Nat→Nat→Bool} {i j g t:Nat} {cs:Array Value} (hM:iT w base G B c L m) (hi:i<L) (hb:w.heap[g]?=some (.cells cs t (0,0))) (ht:t≠4) (u:Value):(w.setCell ⟨B i,j,none⟩ u).heap[g]?=some (.cells cs t (0,0)):=by
  obtain ⟨_,csi,h3,_⟩:=hM.r i hi;exact bR hb (fun e=>mZ hb h3 ht e) _
theorem AF {sym:List Int} {i j:Nat} (hj:j≤sym.length) (hij:i≤j):(sub sym i j).length=j - i:=by unfold sub;simp;omega
theorem sub_self (sym:List Int) (i:Nat):sub sym i i=[]:=by unfold sub;simp
theorem sub_one {sym:List Int} {i:Nat} {x:Int} (h:sym[i]?=some x):sub sym i (i+1)=[x]:=by
  unfold sub;obtain ⟨hl,rfl⟩:=List.getElem?_eq_some_iff.mp h;rw [List.drop_eq_getElem_cons hl,show i+1 - i=1 by omega];rfl
theorem sub_app {sym:List Int} {i k j:Nat} (h1:i≤k) (h2:k≤j):sub sym i j=sub sym i k ++ sub sym k j:=by
  unfold sub;rw [show j - i=(k - i)+(j - k) by omega,List.take_add,List.drop_drop,show i+(k - i)=k by omega]
theorem TQ {sym:List Int} {i j:Nat} {u v:List Int} (hij:i≤j) (hj:j≤sym.length) (h:sub sym i j=u ++ v) : ∃ k,i≤k∧k≤j∧u=sub sym i k∧v=sub sym k j:=by
  have hl:=congrArg List.length h;rw [AF hj hij,List.length_append] at hl;refine ⟨i+u.length,by omega,by omega,?_,?_⟩
  · have e:=congrArg (List.take u.length) h
    rw [List.take_left] at e;refine e.symm.trans ?_;unfold sub;rw [List.take_take,show min u.length (j - i)=u.length by omega,show i+u.length - i=u.length by omega]
  · have e:=congrArg (List.drop u.length) h
    rw [List.drop_left] at e;refine e.symm.trans ?_;unfold sub;rw [List.drop_take,List.drop_drop,show j - i - u.length=j - (i+u.length) by omega]
theorem NC {nm:List (List UInt8)} {s t:List UInt8} (hs:s∈nm) (ht:t∈nm) (h:nameAt nm s=nameAt nm t):s=t:=by
  unfold nameAt at h;rw [if_pos hs,if_pos ht] at h;have h:nm.idxOf s=nm.idxOf t:=(by omega);have h1:=List.getElem_idxOf (List.idxOf_lt_length_of_mem hs);have h2:=List.getElem_idxOf (List.idxOf_lt_length_of_mem ht);rw [←h1,← h2];simp only [h]
section
variable {nm : List (List UInt8)} {sym : List Int} {l1 : List ByteArray}
theorem RZ (hw:rM nm sym l1) (name:ByteArray) (ks:List gB) {i j:Nat} (hi:i<l1.length+1) (hj:j<l1.length+1):mM nm sym ⟨1,name,ks⟩ i j↔i<l1.length∧j=i+1∧((fF ByteArray.empty l1 (i:Int)).toList==name.toList)=true:=by
  unfold mM;rw [nN,if_pos rfl,beq_iff_eq,toList_data,toList_data];have hl:=hw.len;have key:i<l1.length→sym[i]?=some (nameAt nm (nk (fF ByteArray.empty l1 (i:Int))))∧nk (fF ByteArray.empty l1 (i:Int))∈nm:=fun h=>by
    have e:l1[i]?=some (fF ByteArray.empty l1 (i:Int)):=(by unfold fF;simp [List.getElem?_eq_getElem h]);exact hw.at_ i _ e
  constructor
  · rintro ⟨hij,h1,h2⟩
    have h3:=congrArg List.length h2;rw [AF (by omega) hij,List.length_singleton] at h3;have hil:i<l1.length:=(by omega);obtain ⟨h4,h5⟩:=key hil;obtain rfl:j=i+1:=(by omega);rw [sub_one h4] at h2;injection h2 with h2;exact ⟨hil,rfl,NC h5 h1 h2⟩
  · rintro ⟨hil,rfl,h1⟩
    obtain ⟨h4,h5⟩:=key hil;rw [h1] at h4 h5;exact ⟨by omega,h5,sub_one h4⟩
theorem YT (hw:rM nm sym l1) (name:ByteArray) (ks:List gB) {i j:Nat} (hi:i<l1.length+1) (hj:j<l1.length+1):mM nm sym ⟨2,name,ks⟩ i j↔i<l1.length∧j=i+1:=by
  unfold mM;rw [nN,if_neg (by decide),if_pos rfl];have hl:=hw.len;constructor
  · rintro ⟨hij,c,h2⟩
    have h3:=congrArg List.length h2;rw [AF (by omega) hij,List.length_singleton] at h3;exact ⟨by omega,by omega⟩
  · rintro ⟨hil,rfl⟩
    exact ⟨by omega,_,sub_one (List.getElem?_eq_getElem (show i<sym.length by omega))⟩
theorem QN (hw:rM nm sym l1) (name:ByteArray) (ks:List gB) {i j:Nat} (hi:i<l1.length+1) (hj:j<l1.length+1):mM nm sym ⟨3,name,ks⟩ i j↔i=j:=by
  unfold mM;rw [nN,if_neg (by decide),if_neg (by decide),if_pos rfl];have hl:=hw.len;constructor
  · rintro ⟨hij,h2⟩
    have h3:=congrArg List.length h2;rw [AF (by omega) hij,List.length_nil] at h3;omega
  · rintro rfl
    exact ⟨Nat.le_refl _,sub_self _ _⟩
set_option maxRecDepth 100000 in
set_option maxHeartbeats 6400000 in
theorem span_none (name:ByteArray) (ks:List gB) (hw:rM nm sym l1):uT nm sym l1 ⟨4,name,ks⟩:=by
  intro w A c Al cl hr hc hl hcl;have hr:Kd.C k25 w A (ks).length (ks):=hr;have hkm:(ks).length≤9223372036854775807:=hr.2.1;obtain ⟨W1,hW1⟩ : ∃ W1,W1=w.alloc (.cells #[.int .i64 4,.string name,.slice A (ks).length c] 25):=⟨_,rfl⟩;have HR:=aA.mk hr;have HC:aA ((ks).length≤c):=⟨hc⟩;have HL:=aA.mk hl;have HCL:=aA.mk hcl;have hn:=hw.ns;have HW:=aA.mk hw;have vG:aA (Below w.heap.size w W1):=⟨by rw [hW1];exact aN (Below.refl _ _) _⟩;have BX:aA (W1.heap[w.heap.size]?=some (.cells #[.int .i64 4,.string name,.slice A (ks).length c] 25 (0,0))):=⟨by rw [hW1];exact dX _ _⟩;show Calls Try.prog 45 #[.agg #[.int .i64 4,.string name,.slice A (ks).length c],.slice Al l1.length cl] w (KS w (l1.length+1) (mM nm sym ⟨4,name,ks⟩));obtain ⟨P,CX⟩ : ∃ P,P=mM nm sym ⟨4,name,ks⟩:=⟨_,rfl⟩;rw [←CX];have HP0:=aA.mk CX;clear hr hc hl hcl hw CX;go_enter Try.func45,Try.ntmps45;go_upto_region 1 with (fail)
  rw [←hW1];clear hW1;go_wp2_with (fail)
  go_at_call 74;refine (rJ l1.length (by omega) W1).mono ?_;rintro e w2 ⟨G,B,cc,cap,m,rfl,hM,hQ,hb⟩;have HM:=aA.mk (hM.lower vG.out.size);have HQ:=aA.mk hQ;have HB:=aA.mk (bU vG.out vG.out.size hb);have qJ:=aA.mk (bK BX.out hb);have hx0:=(aD qJ.out 0).trans rfl;have hx1:=(aD qJ.out 1).trans rfl;have hx2:=(aD qJ.out 2).trans rfl;clear hM hQ hb BX vG;go_wp2;go_ret;refine ⟨G,B,cc,cap,m,rfl,HM.out,fun i hi j hj=>?_,HB.out⟩;rw [HQ.out i hi j hj,HP0.out];unfold mM;rw [nN,if_neg (by decide),if_neg (by decide),if_neg (by decide),if_neg (by decide),if_neg (by decide),if_neg (by decide),if_neg (by decide)];exact ⟨fun h=>h.elim,fun h=>h.2⟩
set_option maxRecDepth 100000 in
set_option maxHeartbeats 6400000 in
theorem span_empty (name:ByteArray) (ks:List gB) (hw:rM nm sym l1):uT nm sym l1 ⟨3,name,ks⟩:=by
  intro w A c Al cl hr hc hl hcl;have hr:Kd.C k25 w A (ks).length (ks):=hr;have hkm:(ks).length≤9223372036854775807:=hr.2.1;obtain ⟨W1,hW1⟩ : ∃ W1,W1=w.alloc (.cells #[.int .i64 3,.string name,.slice A (ks).length c] 25):=⟨_,rfl⟩;have HR:=aA.mk hr;have HC:aA ((ks).length≤c):=⟨hc⟩;have HL:=aA.mk hl;have HCL:=aA.mk hcl;have hn:=hw.ns;have HW:=aA.mk hw;have vG:aA (Below w.heap.size w W1):=⟨by rw [hW1];exact aN (Below.refl _ _) _⟩;have BX:aA (W1.heap[w.heap.size]?=some (.cells #[.int .i64 3,.string name,.slice A (ks).length c] 25 (0,0))):=⟨by rw [hW1];exact dX _ _⟩;show Calls Try.prog 45 #[.agg #[.int .i64 3,.string name,.slice A (ks).length c],.slice Al l1.length cl] w (KS w (l1.length+1) (mM nm sym ⟨3,name,ks⟩));obtain ⟨P,CX⟩ : ∃ P,P=mM nm sym ⟨3,name,ks⟩:=⟨_,rfl⟩;rw [←CX];have HP0:=aA.mk CX;clear hr hc hl hcl hw CX;go_enter Try.func45,Try.ntmps45;go_upto_region 1 with (fail)
  rw [←hW1];clear hW1;go_wp2_with (fail)
  go_at_call 74;refine (rJ l1.length (by omega) W1).mono ?_;rintro e w2 ⟨G,B,cc,cap,m,rfl,hM,hQ,hb⟩;have HM:=aA.mk (hM.lower vG.out.size);have HQ:=aA.mk hQ;have HB:=aA.mk (bU vG.out vG.out.size hb);have qJ:=aA.mk (bK BX.out hb);have hx0:=(aD qJ.out 0).trans rfl;have hx1:=(aD qJ.out 1).trans rfl;have hx2:=(aD qJ.out 2).trans rfl;clear hM hQ hb BX vG;go_wp2_with (fail)
  go_at_call 75;refine (JB l1.length (by omega) w2).mono ?_;rintro e w3 ⟨G,B,cc,cap,m,rfl,hM,hQ,hb⟩;have BC:=aA.mk (hM.lower HB.out.size);have HQ3:=aA.mk hQ;have HB3:=aA.mk (bU HB.out HB.out.size hb);clear hM hQ hb hx0 hx1 hx2;go_wp2;go_ret;refine ⟨G,B,cc,cap,m,rfl,BC.out,fun i hi j hj=>?_,HB3.out⟩;rw [HQ3.out i hi j hj,HP0.out,QN HW.out name ks hi hj]
set_option maxRecDepth 100000 in
set_option maxHeartbeats 6400000 in
theorem span_name (name:ByteArray) (ks:List gB) (hw:rM nm sym l1):uT nm sym l1 ⟨1,name,ks⟩:=by
  intro w A c Al cl hr hc hl hcl;have hr:Kd.C k25 w A (ks).length (ks):=hr;have hkm:(ks).length≤9223372036854775807:=hr.2.1;obtain ⟨W1,hW1⟩ : ∃ W1,W1=w.alloc (.cells #[.int .i64 1,.string name,.slice A (ks).length c] 25):=⟨_,rfl⟩;have HR:=aA.mk hr;have HC:aA ((ks).length≤c):=⟨hc⟩;have HL:=aA.mk hl;have HCL:=aA.mk hcl;have hn:=hw.ns;have HW:=aA.mk hw;have vG:aA (Below w.heap.size w W1):=⟨by rw [hW1];exact aN (Below.refl _ _) _⟩;have BX:aA (W1.heap[w.heap.size]?=some (.cells #[.int .i64 1,.string name,.slice A (ks).length c] 25 (0,0))):=⟨by rw [hW1];exact dX _ _⟩;show Calls Try.prog 45 #[.agg #[.int .i64 1,.string name,.slice A (ks).length c],.slice Al l1.length cl] w (KS w (l1.length+1) (mM nm sym ⟨1,name,ks⟩));obtain ⟨P,CX⟩ : ∃ P,P=mM nm sym ⟨1,name,ks⟩:=⟨_,rfl⟩;rw [←CX];have HP0:=aA.mk CX;clear hr hc hl hcl hw CX;go_enter Try.func45,Try.ntmps45;go_upto_region 1 with (fail)
  rw [←hW1];clear hW1;go_wp2_with (fail)
  go_at_call 74;refine (rJ l1.length (by omega) W1).mono ?_;rintro e w2 ⟨G,B,cc,cap,m,rfl,hM,hQ,hb⟩;have HM:=aA.mk (hM.lower vG.out.size);have HQ:=aA.mk hQ;have HB:=aA.mk (bU vG.out vG.out.size hb);have qJ:=aA.mk (bK BX.out hb);have hx0:=(aD qJ.out 0).trans rfl;have hx1:=(aD qJ.out 1).trans rfl;have hx2:=(aD qJ.out 2).trans rfl;clear hM hQ hb BX vG;have HI0:aA (∀ x,x<l1.length+1→∀ y,y<l1.length+1→(m x y=true↔x<0∧y=x+1∧((fF ByteArray.empty l1 ((x:Nat):Int)).toList==name.toList)=true)):=⟨fun x hx y hy=>by rw [HQ.out x hx y hy];exact ⟨fun h=>h.elim,fun h=>absurd h.1 (by omega)⟩⟩;clear HQ;go_wp2_with (fail)
  clear hx0 hx1 hx2;go_loopg [7] l1.length (fun q v7 wr=>∃ (i:Nat) (m:Nat→Nat→Bool),i≤l1.length∧v7 = .int .i64 i∧q=l1.length - i∧aA (∀ x,x<l1.length+1→∀ y,y<l1.length+1→(m x y=true↔x<i∧y=x+1∧((fF ByteArray.empty l1 ((x:Nat):Int)).toList==name.toList)=true))∧aA (iT wr w.heap.size G B cc (l1.length+1) m)∧aA (Below w.heap.size w wr)∧aA (wr.heap[w.heap.size]?=some (.cells #[.int .i64 1,.string name,.slice A ks.length c] 25 (0,0))))
  case atStart=>exact ⟨0,m,Nat.zero_le _,rfl,rfl,⟨fun x hx y hy=>(HI0.out x hx y hy).trans (by simp)⟩,HM,HB,qJ⟩
  case round =>
    obtain ⟨i,m1,hi,rfl,rfl,HI1,GA,HB1,yH⟩:=hrel;clear HI0 HM HB qJ;by_cases hlt:i<l1.length
    · have hrow:=GA.out.row (i:=i) (by omega)
      have hfz:=GA.out.fz (i:=i) (by omega) (i+1);have hij:=GA.out.at_ (i:=i) (j:=i+1) (by omega) (by omega);have hx0:=(aD yH.out 0).trans rfl;have hx1:=(aD yH.out 1).trans rfl;obtain ⟨adw,haw,hwx⟩:=Kd.qN (Kd.dJ HL.out HB1.out) (i:Int) (by omega) (by omega);cases haw;rw [Int.toNat_natCast] at hwx;have HT1:=aA.mk (GA.out.set (i:=i) (j:=i+1) (by omega) (by omega) (((fF ByteArray.empty l1 ((i:Nat):Int)).toList==name.toList)));have HB2:=aA.mk (HB1.out.setCell (p:=⟨B i,i+1,none⟩) (GA.out.r i (by omega)).1 (.bool (((fF ByteArray.empty l1 ((i:Nat):Int)).toList==name.toList))));have qJ:aA ((wr.setCell ⟨B i,i+1,none⟩ (.bool (((fF ByteArray.empty l1 ((i:Nat):Int)).toList==name.toList)))).heap[w.heap.size]?=some (.cells #[.int .i64 1,.string name,.slice A ks.length c] 25 (0,0))):=⟨bR yH.out (by
        obtain ⟨_,cs,h1,_⟩:=GA.out.r i (by omega);intro e;have e:w.heap.size=B i:=e;rw [←e] at h1;exact mZ yH.out h1 (by decide) rfl) _⟩
      have HI2:aA (∀ x,x<l1.length+1→∀ y,y<l1.length+1→(upd m1 i (i+1) (((fF ByteArray.empty l1 ((i:Nat):Int)).toList==name.toList)) x y=true↔x<i+1∧y=x+1∧((fF ByteArray.empty l1 ((x:Nat):Int)).toList==name.toList)=true)):=⟨fun x hx y hy=>by
        unfold upd;by_cases hxy:x=i∧y=i+1
        · obtain ⟨rfl,rfl⟩:=hxy
          rw [if_pos ⟨rfl,rfl⟩];exact ⟨fun h=>⟨by omega,rfl,h⟩,fun h=>h.2.2⟩
        · rw [if_neg hxy,HI1.out x hx y hy]
          exact ⟨fun h=>⟨by omega,h.2⟩,fun h=>⟨by have:x≠i:=fun e=>hxy ⟨e,by have:=h.2.1;omega⟩;omega,h.2⟩⟩⟩
      go_wp2_with (fail)
      go_big_region
      all_goals (go_wp2;go_roundg (l1.length - (i+1)))
      case measure=>omega
      case rel=>exact ⟨i+1,_,by omega,by go_num,rfl,HI2,⟨HT1.out.drew⟩,⟨bX HB2.out⟩,⟨qJ.out⟩⟩
    · have hx0:=(aD yH.out 0).trans rfl
      have hx1:=(aD yH.out 1).trans rfl;have hx2:=(aD yH.out 2).trans rfl;go_wp2;go_ret;refine ⟨G,B,cc,cap,m1,rfl,GA.out,fun x hx y hy=>?_,HB1.out⟩;rw [HI1.out x hx y hy,HP0.out,RZ HW.out name ks hx hy];exact ⟨fun h=>⟨by omega,h.2⟩,fun h=>⟨by omega,h.2⟩⟩
set_option maxRecDepth 100000 in
set_option maxHeartbeats 6400000 in
theorem span_any (name:ByteArray) (ks:List gB) (hw:rM nm sym l1):uT nm sym l1 ⟨2,name,ks⟩:=by
  intro w A c Al cl hr hc hl hcl;have hr:Kd.C k25 w A (ks).length (ks):=hr;have hkm:(ks).length≤9223372036854775807:=hr.2.1;obtain ⟨W1,hW1⟩ : ∃ W1,W1=w.alloc (.cells #[.int .i64 2,.string name,.slice A (ks).length c] 25):=⟨_,rfl⟩;have HR:=aA.mk hr;have HC:aA ((ks).length≤c):=⟨hc⟩;have HL:=aA.mk hl;have HCL:=aA.mk hcl;have hn:=hw.ns;have HW:=aA.mk hw;have vG:aA (Below w.heap.size w W1):=⟨by rw [hW1];exact aN (Below.refl _ _) _⟩;have BX:aA (W1.heap[w.heap.size]?=some (.cells #[.int .i64 2,.string name,.slice A (ks).length c] 25 (0,0))):=⟨by rw [hW1];exact dX _ _⟩;show Calls Try.prog 45 #[.agg #[.int .i64 2,.string name,.slice A (ks).length c],.slice Al l1.length cl] w (KS w (l1.length+1) (mM nm sym ⟨2,name,ks⟩));obtain ⟨P,CX⟩ : ∃ P,P=mM nm sym ⟨2,name,ks⟩:=⟨_,rfl⟩;rw [←CX];have HP0:=aA.mk CX;clear hr hc hl hcl hw CX;go_enter Try.func45,Try.ntmps45;go_upto_region 1 with (fail)
  rw [←hW1];clear hW1;go_wp2_with (fail)
  go_at_call 74;refine (rJ l1.length (by omega) W1).mono ?_;rintro e w2 ⟨G,B,cc,cap,m,rfl,hM,hQ,hb⟩;have HM:=aA.mk (hM.lower vG.out.size);have HQ:=aA.mk hQ;have HB:=aA.mk (bU vG.out vG.out.size hb);have qJ:=aA.mk (bK BX.out hb);have hx0:=(aD qJ.out 0).trans rfl;have hx1:=(aD qJ.out 1).trans rfl;have hx2:=(aD qJ.out 2).trans rfl;clear hM hQ hb BX vG;have HI0:aA (∀ x,x<l1.length+1→∀ y,y<l1.length+1→(m x y=true↔x<0∧y=x+1∧true=true)):=⟨fun x hx y hy=>by rw [HQ.out x hx y hy];exact ⟨fun h=>h.elim,fun h=>absurd h.1 (by omega)⟩⟩;clear HQ;go_wp2_with (fail)
  clear hx0 hx1 hx2;go_loopg [7] l1.length (fun q v7 wr=>∃ (i:Nat) (m:Nat→Nat→Bool),i≤l1.length∧v7 = .int .i64 i∧q=l1.length - i∧aA (∀ x,x<l1.length+1→∀ y,y<l1.length+1→(m x y=true↔x<i∧y=x+1∧true=true))∧aA (iT wr w.heap.size G B cc (l1.length+1) m)∧aA (Below w.heap.size w wr)∧aA (wr.heap[w.heap.size]?=some (.cells #[.int .i64 2,.string name,.slice A ks.length c] 25 (0,0))))
  case atStart=>exact ⟨0,m,Nat.zero_le _,rfl,rfl,⟨fun x hx y hy=>(HI0.out x hx y hy).trans (by simp)⟩,HM,HB,qJ⟩
  case round =>
    obtain ⟨i,m1,hi,rfl,rfl,HI1,GA,HB1,yH⟩:=hrel;clear HI0 HM HB qJ;by_cases hlt:i<l1.length
    · have hrow:=GA.out.row (i:=i) (by omega)
      have hfz:=GA.out.fz (i:=i) (by omega) (i+1);have hij:=GA.out.at_ (i:=i) (j:=i+1) (by omega) (by omega);have hx0:=(aD yH.out 0).trans rfl;have hx1:=(aD yH.out 1).trans rfl;have HT1:=aA.mk (GA.out.set (i:=i) (j:=i+1) (by omega) (by omega) (true));have HB2:=aA.mk (HB1.out.setCell (p:=⟨B i,i+1,none⟩) (GA.out.r i (by omega)).1 (.bool (true)));have qJ:aA ((wr.setCell ⟨B i,i+1,none⟩ (.bool (true))).heap[w.heap.size]?=some (.cells #[.int .i64 2,.string name,.slice A ks.length c] 25 (0,0))):=⟨bR yH.out (by
        obtain ⟨_,cs,h1,_⟩:=GA.out.r i (by omega);intro e;have e:w.heap.size=B i:=e;rw [←e] at h1;exact mZ yH.out h1 (by decide) rfl) _⟩
      have HI2:aA (∀ x,x<l1.length+1→∀ y,y<l1.length+1→(upd m1 i (i+1) (true) x y=true↔x<i+1∧y=x+1∧true=true)):=⟨fun x hx y hy=>by
        unfold upd;by_cases hxy:x=i∧y=i+1
        · obtain ⟨rfl,rfl⟩:=hxy
          rw [if_pos ⟨rfl,rfl⟩];exact ⟨fun h=>⟨by omega,rfl,h⟩,fun h=>h.2.2⟩
        · rw [if_neg hxy,HI1.out x hx y hy]
          exact ⟨fun h=>⟨by omega,h.2⟩,fun h=>⟨by have:x≠i:=fun e=>hxy ⟨e,by have:=h.2.1;omega⟩;omega,h.2⟩⟩⟩
      go_wp2_with (fail)
      go_big_region
      all_goals (go_wp2;go_roundg (l1.length - (i+1)))
      case measure=>omega
      case rel=>exact ⟨i+1,_,by omega,by go_num,rfl,HI2,⟨HT1.out.drew⟩,⟨bX HB2.out⟩,⟨qJ.out⟩⟩
    · have hx0:=(aD yH.out 0).trans rfl
      have hx1:=(aD yH.out 1).trans rfl;have hx2:=(aD yH.out 2).trans rfl;go_wp2;go_ret;refine ⟨G,B,cc,cap,m1,rfl,GA.out,fun x hx y hy=>?_,HB1.out⟩;rw [HI1.out x hx y hy,HP0.out,YT HW.out name ks hx hy];exact ⟨fun h=>⟨by omega,h.2.1⟩,fun h=>⟨by omega,h.2,by simp⟩⟩
end
end Go.Proofs.Ytapinbmkjkbkkaa.Mk
namespace Go.Proofs.Ytapinbmkjkbkkaa.Mk
open Go.RowKit Go.Proofs.aC.bE Go.Proofs.aC.bV Go.Proofs.aC.bY Lb Pu
variable {nm : List (List UInt8)} {sym : List Int} {l1 : List ByteArray}
theorem O1 (k:gB) : ∀ (ks:List gB) (w:List Int),kM nm (ks ++ [k]) w↔∃ u v,w=u ++ v∧kM nm ks u∧tV nm k v
  |[],w=>by
    rw [List.nil_append,kM];show (∃ u v,w=u ++ v∧tV nm k u∧kM nm [] v)↔_;rw [kM];constructor
    · rintro ⟨u,v,rfl,h,rfl⟩
      exact ⟨[],u,by simp,rfl,h⟩
    · rintro ⟨u,v,rfl,rfl,h⟩
      exact ⟨v,[],by simp,h,rfl⟩
  |q :: ks,w=>by
    rw [List.cons_append,kM,kM];show (∃ u v,w=u ++ v∧tV nm q u∧kM nm (ks ++ [k]) v)↔(∃ u v,w=u ++ v∧(∃ u1 v1,u=u1 ++ v1∧tV nm q u1∧kM nm ks v1)∧tV nm k v);constructor
    · rintro ⟨u,v,rfl,h1,h2⟩
      obtain ⟨u2,v2,rfl,h3,h4⟩:=(O1 k ks v).mp h2;exact ⟨u ++ u2,v2,by simp,⟨u,u2,rfl,h1,h3⟩,h4⟩
    · rintro ⟨u,v,rfl,⟨u1,v1,rfl,h1,h2⟩,h3⟩
      exact ⟨u1,v1 ++ v,by simp,h1,(O1 k ks _).mpr ⟨v1,v,rfl,h2,h3⟩⟩
def QT (nm:List (List UInt8)) (sym:List Int) (L:Nat) (ks:List gB) (m:Nat→Nat→Bool):Prop:=∀ x,x<L→∀ y,y<L→(m x y=true↔x≤y∧kM nm ks (sub sym x y))
theorem qt_nil {L:Nat} {m:Nat→Nat→Bool} (hL:L=sym.length+1) (h : ∀ x,x<L→∀ y,y<L→(m x y=true↔x=y)):QT nm sym L [] m:=by
  intro x hx y hy;rw [h x hx y hy,kM];constructor
  · rintro rfl
    exact ⟨Nat.le_refl _,sub_self _ _⟩
  · rintro ⟨h1,h2⟩
    have h3:=congrArg List.length h2;rw [AF (by omega) h1,List.length_nil] at h3;omega
theorem qt_step {L:Nat} {m mk m':Nat→Nat→Bool} {ks:List gB} {k:gB} (hL:L=sym.length+1) (h:QT nm sym L ks m) (hk : ∀ x,x<L→∀ y,y<L→(mk x y=true↔mM nm sym k x y)) (hm : ∀ x,x<L→∀ y,y<L→(m' x y=true↔Mid m mk x y L)):QT nm sym L (ks ++ [k]) m':=by
  intro x hx y hy;rw [hm x hx y hy,O1];constructor
  · rintro ⟨q,h1,h2,h3,h4,h5⟩
    have h4:=(h x hx q h2).mp h4;have h5:=(hk q h2 y hy).mp h5;exact ⟨by omega,_,_,sub_app h1 h3,h4.2,h5.2⟩
  · rintro ⟨hxy,u,v,e,h1,h2⟩
    obtain ⟨q,h3,h4,rfl,rfl⟩:=TQ hxy (by omega) e;exact ⟨q,h3,by omega,h4,(h x hx q (by omega)).mpr ⟨h3,h1⟩,(hk q (by omega) y hy).mpr ⟨h4,h2⟩⟩
set_option maxRecDepth 100000 in
set_option maxHeartbeats 6400000 in
theorem span_seq (name:ByteArray) (ks:List gB) (hw:rM nm sym l1) (ih : ∀ k,k∈ks→uT nm sym l1 k):uT nm sym l1 ⟨5,name,ks⟩:=by
  intro w A c Al cl hr hc hl hcl;have hr:Kd.C k25 w A (ks).length (ks):=hr;have hkm:(ks).length≤9223372036854775807:=hr.2.1;obtain ⟨W1,hW1⟩ : ∃ W1,W1=w.alloc (.cells #[.int .i64 5,.string name,.slice A (ks).length c] 25):=⟨_,rfl⟩;have HR:=aA.mk hr;have HC:aA ((ks).length≤c):=⟨hc⟩;have HL:=aA.mk hl;have HCL:=aA.mk hcl;have hn:=hw.ns;have HW:=aA.mk hw;have vG:aA (Below w.heap.size w W1):=⟨by rw [hW1];exact aN (Below.refl _ _) _⟩;have BX:aA (W1.heap[w.heap.size]?=some (.cells #[.int .i64 5,.string name,.slice A (ks).length c] 25 (0,0))):=⟨by rw [hW1];exact dX _ _⟩;show Calls Try.prog 45 #[.agg #[.int .i64 5,.string name,.slice A (ks).length c],.slice Al l1.length cl] w (KS w (l1.length+1) (mM nm sym ⟨5,name,ks⟩));obtain ⟨P,CX⟩ : ∃ P,P=mM nm sym ⟨5,name,ks⟩:=⟨_,rfl⟩;rw [←CX];have HP0:=aA.mk CX;have YC:=aA.mk ih;clear ih;clear hr hc hl hcl hw CX;go_enter Try.func45,Try.ntmps45;go_upto_region 1 with (fail)
  rw [←hW1];clear hW1;go_wp2_with (fail)
  go_at_call 74;refine (rJ l1.length (by omega) W1).mono ?_;rintro e w2 ⟨G,B,cc,cap,m,rfl,hM,hQ,hb⟩;have HM:=aA.mk (hM.lower vG.out.size);have HQ:=aA.mk hQ;have HB:=aA.mk (bU vG.out vG.out.size hb);have qJ:=aA.mk (bK BX.out hb);have hx0:=(aD qJ.out 0).trans rfl;have hx1:=(aD qJ.out 1).trans rfl;have hx2:=(aD qJ.out 2).trans rfl;clear hM hQ hb BX vG;have HSL:aA (l1.length+1=sym.length+1):=⟨by rw [HW.out.len]⟩;clear HQ HM;go_wp2_with (fail)
  go_at_call 75;refine (JB l1.length (by omega) w2).mono ?_;rintro e w3 ⟨G1,B1,c1,cap1,m1,rfl,hM,hQ,hb⟩;have BC:=aA.mk (hM.lower HB.out.size);have HI0:aA (QT nm sym (l1.length+1) (ks.take 0) m1):=⟨qt_nil HSL.out hQ⟩;have HB3:=aA.mk (bU HB.out HB.out.size hb);have l5:=aA.mk (bK qJ.out hb);clear hM hQ hb hx0 hx1 hx2 qJ HB;go_wp2_with (fail)
  go_loopg [6,8] ks.length (fun q v6 v8 wr=>∃ (h G:Nat) (B cc:Nat→Nat) (cap:Nat) (m:Nat→Nat→Bool),h≤ks.length∧v6 = .slice (some ⟨G,0,none⟩) (l1.length+1:Nat) cap∧v8 = .int .i64 h∧q=ks.length - h∧aA (QT nm sym (l1.length+1) (ks.take h) m)∧aA (iT wr w.heap.size G B cc (l1.length+1) m)∧aA (Below w.heap.size w wr)∧aA (wr.heap[w.heap.size]?=some (.cells #[.int .i64 5,.string name,.slice A ks.length c] 25 (0,0))))
  case atStart=>exact ⟨0,G1,B1,c1,cap1,m1,Nat.zero_le _,rfl,rfl,rfl,HI0,BC,HB3,l5⟩
  case round =>
    obtain ⟨h,G,B,cc,cap,m0,hh,rfl,rfl,rfl,HIr,HMr,P9,BXr⟩:=hrel;clear HI0 BC HB3 l5;by_cases hlt:h<ks.length
    · have hbx:=(aD BXr.out 2).trans rfl
      obtain ⟨ad,A2,c2,had,hk0,hk1,hk2,hl2,hg2⟩:=mE HR.out (h:Int) (by omega) (by omega);rw [Int.toNat_natCast] at hk0 hk1 hk2;subst had;have HG:=aA.mk hg2;have HL2:=aA.mk hl2;have hmem:bL ks h∈ks:=(by unfold bL;simp [List.getElem?_eq_getElem hlt]);have HKK:=aA.mk (YC.out _ hmem);have hy0:=bJ P9.out hk0;have hy1:=bJ P9.out hk1;have hy2:=bJ P9.out hk2;clear hk0 hk1 hk2 hl2 hg2 hmem;go_wp2_with (fail)
      go_at_call 45;refine (HKK.out _ A2 c2 Al cl (Kd.dJ HG.out P9.out) HL2.out (Kd.dJ HL.out P9.out) HCL.out).mono ?_;rintro e w3 ⟨Gk,Bk,ck,capk,mk,rfl,hMk,hQk,hbk⟩;have HMK:=aA.mk (hMk.lower P9.out.size);have HQK:=aA.mk hQk;have BC:=aA.mk (HMr.out.below hbk);have HB3:=aA.mk (bU P9.out P9.out.size hbk);have l5:=aA.mk (bK BXr.out hbk);have HKR:aA (bL ks h=bL ks h∧ks[h]?=some (bL ks h)):=⟨rfl,by unfold bL;simp [List.getElem?_eq_getElem hlt]⟩;clear hMk hQk hbk hy0 hy1 hy2 hbx HMr P9 BXr;go_wp2_with (fail)
      go_at_call 76;refine (behind_fin l1.length (by omega) w3 _ _ BC.out HMK.out).mono ?_;rintro e w4 ⟨G4,B4,c4,cap4,m4,rfl,hM,hQ,hb⟩;have IQ:=aA.mk (hM.lower HB3.out.size);have wV:=aA.mk (bU HB3.out HB3.out.size hb);have GV:=aA.mk (bK l5.out hb);have HI4:aA (QT nm sym (l1.length+1) (ks.take (h+1)) m4):=⟨by
        rw [List.take_add_one,HKR.out.2];exact qt_step HSL.out HIr.out HQK.out hQ⟩
      clear hM hQ hb BC HMK HB3 l5;go_wp2;go_roundg (ks.length - (h+1))
      case measure=>omega
      case rel=>exact ⟨h+1,G4,B4,c4,cap4,m4,by omega,rfl,by go_num,rfl,HI4,IQ,wV,GV⟩
    · have hbx:=(aD BXr.out 2).trans rfl
      go_wp2;go_ret;refine ⟨G,B,cc,cap,m0,rfl,HMr.out,fun x hx y hy=>?_,P9.out⟩;rw [HIr.out x hx y hy,HP0.out,List.take_of_length_le (by omega)];unfold mM;rw [nN,if_neg (by decide),if_neg (by decide),if_neg (by decide),if_pos rfl]
end Go.Proofs.Ytapinbmkjkbkkaa.Mk
namespace Go.Proofs.Ytapinbmkjkbkkaa.Mk
open Go.RowKit Go.Proofs.aC.bE Go.Proofs.aC.bV Go.Proofs.aC.bY Lb Pu
variable {nm : List (List UInt8)} {sym : List Int} {l1 : List ByteArray}
def AT (mk m0:Nat→Nat→Bool) (L i j:Nat) (m:Nat→Nat→Bool):Prop:=∀ x,x<L→∀ y,y<L→(m x y=true↔m0 x y=true∨((x<i∨(x=i∧y<j))∧x≤y∧mk x y=true))
theorem at_set {mk m0 m:Nat→Nat→Bool} {L i j:Nat} (h:AT mk m0 L i j m) (hi:i<L) (hj:j<L) (hij:i≤j) {v:Bool} (hv:v=(m i j || mk i j)):AT mk m0 L i (j+1) (upd m i j v):=by
  intro x hx y hy;unfold upd;by_cases hxy:x=i∧y=j
  · obtain ⟨rfl,rfl⟩:=hxy
    rw [if_pos ⟨rfl,rfl⟩,hv,Bool.or_eq_true,h x hx y hy];constructor
    · rintro ((h1|⟨h1,_⟩)|h1)
      · exact .inl h1
      · omega
      · exact .inr ⟨.inr ⟨rfl,by omega⟩,hij,h1⟩
    · rintro (h1|⟨_,_,h1⟩)
      · exact .inl (.inl h1)
      · exact .inr h1
  · rw [if_neg hxy,h x hx y hy]
    constructor
    · rintro (h1|⟨h1,h2⟩)
      · exact .inl h1
      · exact .inr ⟨by omega,h2⟩
    · rintro (h1|⟨h1,h2⟩)
      · exact .inl h1
      · exact .inr ⟨by have : ¬ (x=i∧y=j):=hxy;omega,h2⟩
theorem at_row {mk m0 m:Nat→Nat→Bool} {L i j:Nat} (h:AT mk m0 L i j m) (hj:j=L):AT mk m0 L (i+1) (i+1) m:=by
  intro x hx y hy;rw [h x hx y hy];constructor
  · rintro (h1|⟨h1,h2⟩)
    · exact .inl h1
    · exact .inr ⟨by omega,h2⟩
  · rintro (h1|⟨h1,h2⟩)
    · exact .inl h1
    · exact .inr ⟨by omega,h2⟩
theorem S9 {ks:List gB} {w:List Int}:wB nm ks w↔∃ k∈ks,tV nm k w:=by
  induction ks with
  |nil=>rw [wB];simp
  |cons k ks ih =>
    rw [wB];show (tV nm k w∨wB nm ks w)↔_;rw [ih];simp
set_option maxRecDepth 100000 in
set_option maxHeartbeats 6400000 in
theorem span_alt (name:ByteArray) (ks:List gB) (hw:rM nm sym l1) (ih : ∀ k,k∈ks→uT nm sym l1 k):uT nm sym l1 ⟨6,name,ks⟩:=by
  intro w A c Al cl hr hc hl hcl;have hr:Kd.C k25 w A (ks).length (ks):=hr;have hkm:(ks).length≤9223372036854775807:=hr.2.1;obtain ⟨W1,hW1⟩ : ∃ W1,W1=w.alloc (.cells #[.int .i64 6,.string name,.slice A (ks).length c] 25):=⟨_,rfl⟩;have HR:=aA.mk hr;have HC:aA ((ks).length≤c):=⟨hc⟩;have HL:=aA.mk hl;have HCL:=aA.mk hcl;have hn:=hw.ns;have HW:=aA.mk hw;have vG:aA (Below w.heap.size w W1):=⟨by rw [hW1];exact aN (Below.refl _ _) _⟩;have BX:aA (W1.heap[w.heap.size]?=some (.cells #[.int .i64 6,.string name,.slice A (ks).length c] 25 (0,0))):=⟨by rw [hW1];exact dX _ _⟩;show Calls Try.prog 45 #[.agg #[.int .i64 6,.string name,.slice A (ks).length c],.slice Al l1.length cl] w (KS w (l1.length+1) (mM nm sym ⟨6,name,ks⟩));obtain ⟨P,CX⟩ : ∃ P,P=mM nm sym ⟨6,name,ks⟩:=⟨_,rfl⟩;rw [←CX];have HP0:=aA.mk CX;have YC:=aA.mk ih;clear ih;clear hr hc hl hcl hw CX;go_enter Try.func45,Try.ntmps45;go_upto_region 1 with (fail)
  rw [←hW1];clear hW1;go_wp2_with (fail)
  go_at_call 74;refine (rJ l1.length (by omega) W1).mono ?_;rintro e w2 ⟨G,B,cc,cap,m,rfl,hM,hQ,hb⟩;have HM:=aA.mk (hM.lower vG.out.size);have HQ:=aA.mk hQ;have HB:=aA.mk (bU vG.out vG.out.size hb);have qJ:=aA.mk (bK BX.out hb);have hx0:=(aD qJ.out 0).trans rfl;have hx1:=(aD qJ.out 1).trans rfl;have hx2:=(aD qJ.out 2).trans rfl;clear hM hQ hb BX vG;have HI0:aA (∀ x,x<l1.length+1→∀ y,y<l1.length+1→(m x y=true↔x≤y∧∃ k∈ks.take 0,tV nm k (sub sym x y))):=⟨fun x hx y hy=>by rw [HQ.out x hx y hy];simp⟩;clear HQ;go_wp2_with (fail)
  clear hx0 hx1 hx2;go_loopg [9] ks.length (fun q v9 wr=>∃ (h:Nat) (m:Nat→Nat→Bool),h≤ks.length∧v9 = .int .i64 h∧q=ks.length - h∧aA (∀ x,x<l1.length+1→∀ y,y<l1.length+1→(m x y=true↔x≤y∧∃ k∈ks.take h,tV nm k (sub sym x y)))∧aA (iT wr w.heap.size G B cc (l1.length+1) m)∧aA (Below w.heap.size w wr)∧aA (wr.heap[w.heap.size]?=some (.cells #[.int .i64 6,.string name,.slice A ks.length c] 25 (0,0))))
  case atStart=>exact ⟨0,m,Nat.zero_le _,rfl,rfl,HI0,HM,HB,qJ⟩
  case round =>
    obtain ⟨h,m0,hh,rfl,rfl,HIr,HMr,P9,BXr⟩:=hrel;clear HI0 HM HB qJ;by_cases hlt:h<ks.length
    · have hbx:=(aD BXr.out 2).trans rfl
      obtain ⟨ad,A2,c2,had,hk0,hk1,hk2,hl2,hg2⟩:=mE HR.out (h:Int) (by omega) (by omega);rw [Int.toNat_natCast] at hk0 hk1 hk2;subst had;have HG:=aA.mk hg2;have HL2:=aA.mk hl2;have hmem:bL ks h∈ks:=(by unfold bL;simp [List.getElem?_eq_getElem hlt]);have HKK:=aA.mk (YC.out _ hmem);have hy0:=bJ P9.out hk0;have hy1:=bJ P9.out hk1;have hy2:=bJ P9.out hk2;clear hk0 hk1 hk2 hl2 hg2 hmem;go_wp2_with (fail)
      go_at_call 45;refine (HKK.out _ A2 c2 Al cl (Kd.dJ HG.out P9.out) HL2.out (Kd.dJ HL.out P9.out) HCL.out).mono ?_;rintro e w3 ⟨Gk,Bk,ck,capk,mk,rfl,hMk,hQk,hbk⟩;have HMK:=aA.mk (hMk.lower P9.out.size);have HQK:=aA.mk hQk;have BC:=aA.mk (HMr.out.below hbk);have HB3:=aA.mk (bU P9.out P9.out.size hbk);have l5:=aA.mk (bK BXr.out hbk);have HAP:aA (∀ i,i<l1.length+1→∀ x,x<l1.length+1→B i≠Bk x):=⟨fun i hi x hx e=>by have:=(hMk.r x hx).1;have:=HMr.out.rowlt hi;omega⟩;have HKR:aA (bL ks h=bL ks h∧ks[h]?=some (bL ks h)):=⟨rfl,by unfold bL;simp [List.getElem?_eq_getElem hlt]⟩;have HA0:aA (AT mk m0 (l1.length+1) 0 0 m0):=⟨fun x hx y hy=>⟨fun h=>.inl h,fun h=>h.elim id (fun h=>absurd h.1 (by omega))⟩⟩;clear hMk hQk hbk hy0 hy1 hy2 hbx HMr P9 BXr;go_wp2_with (fail)
      go_loopg [11] (l1.length+1) (fun q v11 wr=>∃ (i:Nat) (m:Nat→Nat→Bool),i≤l1.length+1∧v11 = .int .i64 i∧q=l1.length+1 - i∧aA (AT mk m0 (l1.length+1) i i m)∧aA (iT wr w.heap.size G B cc (l1.length+1) m)∧aA (iT wr w.heap.size Gk Bk ck (l1.length+1) mk)∧aA (Below w.heap.size w wr)∧aA (wr.heap[w.heap.size]?=some (.cells #[.int .i64 6,.string name,.slice (some ad) ks.length c] 25 (0,0))))
      case atStart=>exact ⟨0,m0,Nat.zero_le _,rfl,rfl,HA0,BC,HMK,HB3,l5⟩
      case round =>
        obtain ⟨i,m1,hi,rfl,rfl,HI1,GA,HMK1,HB1,yH⟩:=hrel;clear HA0 BC HMK HB3 l5;by_cases hli:i<l1.length+1
        · have hdi:decide ((i:Int)≤(l1.length:Int))=true:=decide_eq_true (by omega)
          go_wp2_with (fail)
          go_loopg [12] (l1.length+1 - i) (fun q v12 wr=>∃ (j:Nat) (m:Nat→Nat→Bool),i≤j∧j≤l1.length+1∧v12 = .int .i64 j∧q=l1.length+1 - j∧aA (AT mk m0 (l1.length+1) i j m)∧aA (iT wr w.heap.size G B cc (l1.length+1) m)∧aA (iT wr w.heap.size Gk Bk ck (l1.length+1) mk)∧aA (Below w.heap.size w wr)∧aA (wr.heap[w.heap.size]?=some (.cells #[.int .i64 6,.string name,.slice (some ad) ks.length c] 25 (0,0))))
          case atStart=>exact ⟨i,m1,Nat.le_refl _,hi,rfl,rfl,HI1,GA,HMK1,HB1,yH⟩
          case round =>
            obtain ⟨j,m2,hij,hj,rfl,rfl,HI2,JV,SA,HB2,qJ⟩:=hrel;clear HI1 GA HMK1 HB1 yH;by_cases hlj:j<l1.length+1
            · have hdj:decide ((j:Int)≤(l1.length:Int))=true:=decide_eq_true (by omega)
              have hrow:=JV.out.row hli;have hfz:=JV.out.fz hli j;have hold:=JV.out.at_ hli hlj;have hkr:=SA.out.row hli;have hka:=SA.out.at_ hli hlj;cases zZ:m2 i j with
              |true =>
                rw [zZ] at hold;have HI3:=aA.mk (at_set HI2.out hli hlj hij (v:=true) (by rw [zZ];rfl));have IQ:=aA.mk (JV.out.set hli hlj (true));have wV:=aA.mk (HB2.out.setCell (p:=⟨B i,j,none⟩) (JV.out.r i hli).1 (.bool (true)));have HMK4:=aA.mk (j4 SA.out (HAP.out i hli) hli JV.out (.bool (true)) (j:=j));have GV:=aA.mk (mat_blk JV.out hli qJ.out (by decide) (.bool (true)) (j:=j));clear zZ;go_wp2_with (fail)
                go_big_region
                all_goals (go_wp2;go_roundg (l1.length+1 - (j+1)))
                case measure=>omega
                case rel=>exact ⟨j+1,_,by omega,by omega,by go_num,rfl,HI3,⟨IQ.out.drew⟩,⟨HMK4.out.drew⟩,⟨bX wV.out⟩,⟨GV.out⟩⟩
              |false =>
                rw [zZ] at hold;have HI3:=aA.mk (at_set HI2.out hli hlj hij (v:=mk i j) (by rw [zZ];rfl));have IQ:=aA.mk (JV.out.set hli hlj (mk i j));have wV:=aA.mk (HB2.out.setCell (p:=⟨B i,j,none⟩) (JV.out.r i hli).1 (.bool (mk i j)));have HMK4:=aA.mk (j4 SA.out (HAP.out i hli) hli JV.out (.bool (mk i j)) (j:=j));have GV:=aA.mk (mat_blk JV.out hli qJ.out (by decide) (.bool (mk i j)) (j:=j));clear zZ;go_wp2_with (fail)
                go_big_region
                all_goals (go_wp2;go_roundg (l1.length+1 - (j+1)))
                case measure=>omega
                case rel=>exact ⟨j+1,_,by omega,by omega,by go_num,rfl,HI3,⟨IQ.out.drew⟩,⟨HMK4.out.drew⟩,⟨bX wV.out⟩,⟨GV.out⟩⟩
            · have hdj:decide ((j:Int)≤(l1.length:Int))=false:=decide_eq_false (by omega)
              have HJ:=aA.mk (show j=l1.length+1 by omega);go_wp2;go_roundg (l1.length+1 - (i+1))
              case measure=>omega
              case rel=>exact ⟨i+1,m2,by omega,by go_num,rfl,⟨at_row HI2.out HJ.out⟩,JV,SA,HB2,qJ⟩
        · have hdi:decide ((i:Int)≤(l1.length:Int))=false:=decide_eq_false (by omega)
          have HII:=aA.mk (show i=l1.length+1 by omega);have HN:aA (∀ x,x<l1.length+1→∀ y,y<l1.length+1→(m1 x y=true↔x≤y∧∃ k∈ks.take (h+1),tV nm k (sub sym x y))):=⟨fun x hx y hy=>by
            rw [HI1.out x hx y hy,HIr.out x hx y hy,HQK.out x hx y hy,List.take_add_one,HKR.out.2];have:=HII.out;unfold mM;constructor
            · rintro (⟨h1,k,h2,h3⟩|⟨_,h1,_,h3⟩)
              · exact ⟨h1,k,List.mem_append.mpr (.inl h2),h3⟩
              · exact ⟨h1,_,List.mem_append.mpr (.inr (by simp)),h3⟩
            · rintro ⟨h1,k,h2,h3⟩
              rcases List.mem_append.mp h2 with h2|h2
              · exact .inl ⟨h1,k,h2,h3⟩
              · obtain rfl:k=bL ks h:=by simpa using h2
                exact .inr ⟨.inl (by omega),h1,h1,h3⟩⟩
          go_wp2;go_roundg (ks.length - (h+1))
          case measure=>omega
          case rel=>exact ⟨h+1,m1,by omega,by go_num,rfl,HN,GA,HB1,yH⟩
    · have hbx:=(aD BXr.out 2).trans rfl
      go_wp2;go_ret;refine ⟨G,B,cc,cap,m0,rfl,HMr.out,fun x hx y hy=>?_,P9.out⟩;rw [HIr.out x hx y hy,HP0.out,List.take_of_length_le (by omega)];unfold mM;rw [nN,if_neg (by decide),if_neg (by decide),if_neg (by decide),if_neg (by decide),if_pos rfl,S9]
end Go.Proofs.Ytapinbmkjkbkkaa.Mk
namespace Go.Proofs.Ytapinbmkjkbkkaa.Mk
open Go.RowKit Go.Proofs.aC.bE Go.Proofs.aC.bV Go.Proofs.aC.bY Lb Pu
variable {nm : List (List UInt8)} {sym : List Int} {l1 : List ByteArray}
def NT (mk:Nat→Nat→Bool) (L i j:Nat) (m:Nat→Nat→Bool):Prop:=∀ x,x<L→∀ y,y<L→(m x y=true↔(x<i∨(x=i∧y<j))∧x≤y∧mk x y=false)
theorem nt_set {mk m:Nat→Nat→Bool} {L i j:Nat} (h:NT mk L i j m) (hij:i≤j):NT mk L i (j+1) (upd m i j (!mk i j)):=by
  intro x hx y hy;unfold upd;by_cases hxy:x=i∧y=j
  · obtain ⟨rfl,rfl⟩:=hxy
    rw [if_pos ⟨rfl,rfl⟩,Bool.not_eq_true'];exact ⟨fun h=>⟨.inr ⟨rfl,by omega⟩,hij,h⟩,fun h=>h.2.2⟩
  · rw [if_neg hxy,h x hx y hy]
    exact ⟨fun h=>⟨by omega,h.2⟩,fun h=>⟨by have : ¬ (x=i∧y=j):=hxy;omega,h.2⟩⟩
theorem nt_row {mk m:Nat→Nat→Bool} {L i j:Nat} (h:NT mk L i j m) (hj:j=L):NT mk L (i+1) (i+1) m:=by
  intro x hx y hy;rw [h x hx y hy];exact ⟨fun h=>⟨by omega,h.2⟩,fun h=>⟨by omega,h.2⟩⟩
set_option maxRecDepth 100000 in
set_option maxHeartbeats 6400000 in
theorem span_not (name:ByteArray) (k:gB) (ks:List gB) (hw:rM nm sym l1) (ih:uT nm sym l1 k):uT nm sym l1 ⟨8,name,k :: ks⟩:=by
  intro w A c Al cl hr hc hl hcl;have hr:Kd.C k25 w A (k :: ks).length (k :: ks):=hr;have hkm:(k :: ks).length≤9223372036854775807:=hr.2.1;obtain ⟨ad,A2,c2,rfl,hk0,hk1,hk2,hl2,hg2⟩:=mE hr 0 (by omega) (by simp);have hrd:bL (k :: ks) 0=k:=rfl;rw [hrd] at hk0 hk1 hk2 hl2 hg2;have ha:ad.add 0=ad:=(by unfold Addr.add;simp);simp only [Int.toNat_zero,Nat.zero_mul,ha] at hk0 hk1 hk2;have HG:=aA.mk hg2;have HL2:=aA.mk hl2;have zK:=aA.mk hk0;have iC:=aA.mk hk1;have oQ:=aA.mk hk2;have HKK:=aA.mk ih;clear hl2 hg2 ha hrd hk0 hk1 hk2 ih;obtain ⟨W1,hW1⟩ : ∃ W1,W1=w.alloc (.cells #[.int .i64 8,.string name,.slice (some ad) (k :: ks).length c] 25):=⟨_,rfl⟩;have HR:=aA.mk hr;have HC:aA ((k :: ks).length≤c):=⟨hc⟩;have HL:=aA.mk hl;have HCL:=aA.mk hcl;have hn:=hw.ns;have HW:=aA.mk hw;have vG:aA (Below w.heap.size w W1):=⟨by rw [hW1];exact aN (Below.refl _ _) _⟩;have BX:aA (W1.heap[w.heap.size]?=some (.cells #[.int .i64 8,.string name,.slice (some ad) (k :: ks).length c] 25 (0,0))):=⟨by rw [hW1];exact dX _ _⟩;show Calls Try.prog 45 #[.agg #[.int .i64 8,.string name,.slice (some ad) (k :: ks).length c],.slice Al l1.length cl] w (KS w (l1.length+1) (mM nm sym ⟨8,name,k :: ks⟩));obtain ⟨P,CX⟩ : ∃ P,P=mM nm sym ⟨8,name,k :: ks⟩:=⟨_,rfl⟩;rw [←CX];have HP0:=aA.mk CX;simp only [List.length_cons] at hW1 BX;clear hr hc hl hcl hw CX;go_enter Try.func45,Try.ntmps45;go_upto_region 1 with (fail)
  rw [←hW1];clear hW1;go_wp2_with (fail)
  go_at_call 74;refine (rJ l1.length (by omega) W1).mono ?_;rintro e w2 ⟨G,B,cc,cap,m,rfl,hM,hQ,hb⟩;have HM:=aA.mk (hM.lower vG.out.size);have HQ:=aA.mk hQ;have HB:=aA.mk (bU vG.out vG.out.size hb);have qJ:=aA.mk (bK BX.out hb);have hx0:=(aD qJ.out 0).trans rfl;have hx1:=(aD qJ.out 1).trans rfl;have hx2:=(aD qJ.out 2).trans rfl;clear hM hQ hb BX vG;have hy0:=bJ HB.out zK.out;have hy1:=bJ HB.out iC.out;have hy2:=bJ HB.out oQ.out;go_wp2_with (fail)
  go_at_call 45;refine (HKK.out w2 A2 c2 Al cl (Kd.dJ HG.out HB.out) HL2.out (Kd.dJ HL.out HB.out) HCL.out).mono ?_;rintro e w3 ⟨Gk,Bk,ck,capk,mk,rfl,hMk,hQk,hbk⟩;have HMK:=aA.mk (hMk.lower HB.out.size);have HQK:=aA.mk hQk;have BC:=aA.mk (HM.out.below hbk);have HB3:=aA.mk (bU HB.out HB.out.size hbk);have l5:=aA.mk (bK qJ.out hbk);have HMKB:aA (∀ x,x<l1.length+1→∀ g,w2.heap.size≤Bk x∧(B g<w2.heap.size→B g≠Bk x)):=⟨fun x hx g=>⟨(hMk.r x hx).1,fun h e=>by have:=(hMk.r x hx).1;omega⟩⟩;have HML:aA (∀ x,x<l1.length+1→B x<w2.heap.size):=⟨fun x hx=>HM.out.rowlt hx⟩;clear hMk hQk hbk hy0 hy1 hy2 hx0 hx1 hx2 HM HB qJ;have HI0:aA (NT mk (l1.length+1) 0 0 m):=⟨fun x hx y hy=>by rw [HQ.out x hx y hy];exact ⟨fun h=>h.elim,fun h=>absurd h.1 (by omega)⟩⟩;clear HQ;go_wp2_with (fail)
  go_loopg [18] (l1.length+1) (fun q v18 wr=>∃ (i:Nat) (m:Nat→Nat→Bool),i≤l1.length+1∧v18 = .int .i64 i∧q=l1.length+1 - i∧aA (NT mk (l1.length+1) i i m)∧aA (iT wr w.heap.size G B cc (l1.length+1) m)∧aA (iT wr w.heap.size Gk Bk ck (l1.length+1) mk)∧aA (Below w.heap.size w wr))
  case atStart=>exact ⟨0,m,Nat.zero_le _,rfl,rfl,HI0,BC,HMK,HB3⟩
  case round =>
    obtain ⟨i,m1,hi,rfl,rfl,HI1,GA,HMK1,HB1⟩:=hrel;clear HI0 BC HMK HB3;by_cases hlt:i<l1.length+1
    · have hdi:decide ((i:Int)≤(l1.length:Int))=true:=decide_eq_true (by omega)
      go_wp2_with (fail)
      go_loopg [19] (l1.length+1 - i) (fun q v19 wr=>∃ (j:Nat) (m:Nat→Nat→Bool),i≤j∧j≤l1.length+1∧v19 = .int .i64 j∧q=l1.length+1 - j∧aA (NT mk (l1.length+1) i j m)∧aA (iT wr w.heap.size G B cc (l1.length+1) m)∧aA (iT wr w.heap.size Gk Bk ck (l1.length+1) mk)∧aA (Below w.heap.size w wr))
      case atStart=>exact ⟨i,m1,Nat.le_refl _,hi,rfl,rfl,HI1,GA,HMK1,HB1⟩
      case round =>
        obtain ⟨j,m2,hij,hj,rfl,rfl,HI2,JV,SA,HB2⟩:=hrel;clear HI1 GA HMK1 HB1;by_cases hlj:j<l1.length+1
        · have hdj:decide ((j:Int)≤(l1.length:Int))=true:=decide_eq_true (by omega)
          have hrow:=JV.out.row hlt;have hfz:=JV.out.fz hlt j;have hold:=JV.out.at_ hlt hlj;have hkr:=SA.out.row hlt;have hka:=SA.out.at_ hlt hlj;have HI3:=aA.mk (nt_set HI2.out hij);have IQ:=aA.mk (JV.out.set hlt hlj (!mk i j));have wV:=aA.mk (HB2.out.setCell (p:=⟨B i,j,none⟩) (JV.out.r i hlt).1 (.bool (!mk i j)));have HMK4:=aA.mk (j4 SA.out (fun x hx=>((HMKB.out x hx i).2 (HML.out i hlt))) hlt JV.out (.bool (!mk i j)) (j:=j));go_wp2_with (fail)
          go_big_region
          all_goals (go_wp2;go_roundg (l1.length+1 - (j+1)))
          case measure=>omega
          case rel=>exact ⟨j+1,_,by omega,by omega,by go_num,rfl,HI3,⟨IQ.out.drew⟩,⟨HMK4.out.drew⟩,⟨bX wV.out⟩⟩
        · have hdj:decide ((j:Int)≤(l1.length:Int))=false:=decide_eq_false (by omega)
          have HJ:=aA.mk (show j=l1.length+1 by omega);go_wp2;go_roundg (l1.length+1 - (i+1))
          case measure=>omega
          case rel=>exact ⟨i+1,m2,by omega,by go_num,rfl,⟨nt_row HI2.out HJ.out⟩,JV,SA,HB2⟩
    · have hdi:decide ((i:Int)≤(l1.length:Int))=false:=decide_eq_false (by omega)
      have HII:=aA.mk (show i=l1.length+1 by omega);go_wp2;go_ret;refine ⟨G,B,cc,cap,m1,rfl,GA.out,fun x hx y hy=>?_,HB1.out⟩;rw [HI1.out x hx y hy,HP0.out];unfold mM;rw [nN,if_neg (by decide),if_neg (by decide),if_neg (by decide),if_neg (by decide),if_neg (by decide),if_neg (by decide),if_pos rfl,tX];have hq:=HQK.out x hx y hy;unfold mM at hq;have:=HII.out;constructor
      · rintro ⟨_,h1,h2⟩
        exact ⟨h1,fun h3=>by rw [hq.mpr ⟨h1,h3⟩] at h2;exact absurd h2 (by simp)⟩
      · rintro ⟨h1,h2⟩
        refine ⟨.inl (by omega),h1,?_⟩;cases hm:mk x y with
        |false=>rfl
        |true=>exact absurd (hq.mp hm).2 h2
end Go.Proofs.Ytapinbmkjkbkkaa.Mk
namespace Go.Proofs.Ytapinbmkjkbkkaa.Mk
open Go.RowKit Go.Proofs.aC.bE Go.Proofs.aC.bV Go.Proofs.aC.bY Lb Pu
variable {nm : List (List UInt8)} {sym : List Int} {l1 : List ByteArray}
theorem star_cases {L:List Int→Prop} {w:List Int} (h:tC L w):w=[]∨∃ u v,u≠[]∧w=u ++ v∧L u∧tC L v:=by
  induction h with
  |nil=>exact .inl rfl
  |@app u v hu hv ih =>
    by_cases e:u=[]
    · subst e
      rw [List.nil_append];exact ih
    · exact .inr ⟨u,v,e,rfl,hu,hv⟩
def StarOk (mk:Nat→Nat→Bool) (L:Nat) (Sp:Nat→Nat→Prop):Prop:=∀ x,x<L→∀ y,y<L→(Sp x y↔x=y∨∃ q,x<q∧q≤y∧mk x q=true∧Sp q y)
theorem star_ok {L:Nat} {mk:Nat→Nat→Bool} {k:gB} (hL:L=sym.length+1) (hk : ∀ x,x<L→∀ y,y<L→(mk x y=true↔mM nm sym k x y)):StarOk mk L (fun x y=>x≤y∧tC (tV nm k) (sub sym x y)):=by
  intro x hx y hy;constructor
  · rintro ⟨h1,h2⟩
    rcases star_cases h2 with h3|⟨u,v,hne,e,hu,hv⟩
    · have h3:=congrArg List.length h3
      rw [AF (by omega) h1,List.length_nil] at h3;exact .inl (by omega)
    · obtain ⟨q,h3,h4,rfl,rfl⟩:=TQ h1 (by omega) e
      refine .inr ⟨q,?_,h4,(hk x hx q (by omega)).mpr ⟨h3,hu⟩,h4,hv⟩;rcases Nat.lt_or_ge x q with h|h
      · exact h
      · obtain rfl:x=q:=by omega
        exact absurd (sub_self _ _) hne
  · rintro (rfl|⟨q,h1,h2,h3,h4,h5⟩)
    · exact ⟨Nat.le_refl _,by rw [sub_self];exact .nil⟩
    · refine ⟨by omega,?_⟩
      rw [sub_app (Nat.le_of_lt h1) h2];exact .app ((hk x hx q (by omega)).mp h3).2 h5
def XR (L:Nat) (Sp:Nat→Nat→Prop) (b:Nat) (m:Nat→Nat→Bool):Prop:=∀ x,x<L→∀ y,y<L→(m x y=true↔(b≤x∧Sp x y)∨(x<b∧x=y))
def XT (mk:Nat→Nat→Bool) (L:Nat) (Sp:Nat→Nat→Prop) (i q J:Nat) (m:Nat→Nat→Bool):Prop :=
  ∀ x,x<L→∀ y,y<L→(m x y=true↔(i<x∧Sp x y)∨(x<i∧x=y)∨(x=i∧(x=y∨(∃ p,x<p∧p<q∧p≤y∧mk x p=true∧Sp p y)∨(q≤y∧y<J∧mk x q=true∧Sp q y))))
section
variable {mk m : Nat → Nat → Bool} {L : Nat} {Sp : Nat → Nat → Prop} {i q J b : Nat}
theorem xt_start (h:XR L Sp (i+1) m):XT mk L Sp i (i+1) (i+1) m:=by
  intro x hx y hy;rw [h x hx y hy];constructor
  · rintro (⟨h1,h2⟩|⟨h1,h2⟩)
    · exact .inl ⟨by omega,h2⟩
    · by_cases e:x=i
      · exact .inr (.inr ⟨e,.inl h2⟩)
      · exact .inr (.inl ⟨by omega,h2⟩)
  · rintro (⟨h1,h2⟩|⟨h1,h2⟩|⟨h1,h2|⟨p,h2,h3,_⟩|⟨h2,h3,_⟩⟩)
    · exact .inl ⟨by omega,h2⟩
    · exact .inr ⟨by omega,h2⟩
    · exact .inr ⟨by omega,h2⟩
    · omega
    · omega
theorem xt_row (hS:StarOk mk L Sp) (h:XT mk L Sp i q J m) (hq:q=L):XR L Sp i m:=by
  intro x hx y hy;rw [h x hx y hy];subst hq;constructor
  · rintro (⟨h1,h2⟩|h1|⟨h1,h2⟩)
    · exact .inl ⟨by omega,h2⟩
    · exact .inr h1
    · refine .inl ⟨by omega,(hS x hx y hy).mpr ?_⟩
      rcases h2 with h2|⟨p,h2,_,h3⟩|⟨h2,_⟩
      · exact .inl h2
      · exact .inr ⟨p,h2,h3⟩
      · omega
  · rintro (⟨h1,h2⟩|h1)
    · by_cases e:x=i
      · refine .inr (.inr ⟨e,?_⟩)
        rcases (hS x hx y hy).mp h2 with h3|⟨p,h3,h4,h5⟩
        · exact .inl h3
        · exact .inr (.inl ⟨p,h3,by omega,h4,h5⟩)
      · exact .inl ⟨by omega,h2⟩
    · exact .inr (.inl h1)
theorem xt_mid (h:XT mk L Sp i q J m) (hiq:i<q) (he:mk i q=false∨J=L):XT mk L Sp i (q+1) (q+1) m:=by
  intro x hx y hy;rw [h x hx y hy];constructor
  · rintro (h1|h1|⟨rfl,h2|⟨p,h2,h3,h4⟩|⟨h2,h3,h4,h5⟩⟩)
    · exact .inl h1
    · exact .inr (.inl h1)
    · exact .inr (.inr ⟨rfl,.inl h2⟩)
    · exact .inr (.inr ⟨rfl,.inr (.inl ⟨p,h2,by omega,h4⟩)⟩)
    · exact .inr (.inr ⟨rfl,.inr (.inl ⟨q,hiq,by omega,h2,h4,h5⟩)⟩)
  · rintro (h1|h1|⟨rfl,h2|⟨p,h2,h3,h4,h5,h6⟩|⟨h2,h3,h4⟩⟩)
    · exact .inl h1
    · exact .inr (.inl h1)
    · exact .inr (.inr ⟨rfl,.inl h2⟩)
    · by_cases e:p=q
      · subst e
        rcases he with he|he
        · rw [he] at h5;exact absurd h5 (by simp)
        · exact .inr (.inr ⟨rfl,.inr (.inr ⟨h4,by omega,h5,h6⟩)⟩)
      · exact .inr (.inr ⟨rfl,.inr (.inl ⟨p,h2,by omega,h4,h5,h6⟩)⟩)
    · omega
theorem xt_set (h:XT mk L Sp i q J m) (hi:i<L) (hiq:i<q) (hqJ:q≤J) (hJ:J<L) (ha:mk i q=true) {v:Bool} (hv:v=(m i J || m q J)):XT mk L Sp i q (J+1) (upd m i J v):=by
  intro x hx y hy;have hq:m q J=true↔Sp q J:=by
    rw [h q (by omega) J hJ];constructor
    · rintro (⟨_,h1⟩|⟨h1,_⟩|⟨h1,_⟩)
      · exact h1
      · omega
      · omega
    · exact fun h1=>.inl ⟨hiq,h1⟩
  unfold upd;by_cases hxy:x=i∧y=J
  · obtain ⟨rfl,rfl⟩:=hxy
    rw [if_pos ⟨rfl,rfl⟩,hv,Bool.or_eq_true,hq,h x hx y hy];constructor
    · rintro ((h1|h1|⟨_,h2|h2|⟨_,h3,_⟩⟩)|h1)
      · exact .inl h1
      · exact .inr (.inl h1)
      · exact .inr (.inr ⟨rfl,.inl h2⟩)
      · exact .inr (.inr ⟨rfl,.inr (.inl h2)⟩)
      · omega
      · exact .inr (.inr ⟨rfl,.inr (.inr ⟨hqJ,by omega,ha,h1⟩)⟩)
    · rintro (h1|h1|⟨_,h2|h2|⟨_,_,_,h3⟩⟩)
      · exact .inl (.inl h1)
      · exact .inl (.inr (.inl h1))
      · exact .inl (.inr (.inr ⟨rfl,.inl h2⟩))
      · exact .inl (.inr (.inr ⟨rfl,.inr (.inl h2)⟩))
      · exact .inr h3
  · rw [if_neg hxy,h x hx y hy]
    constructor
    · rintro (h1|h1|⟨h1,h2|h2|⟨h2,h3,h4⟩⟩)
      · exact .inl h1
      · exact .inr (.inl h1)
      · exact .inr (.inr ⟨h1,.inl h2⟩)
      · exact .inr (.inr ⟨h1,.inr (.inl h2)⟩)
      · exact .inr (.inr ⟨h1,.inr (.inr ⟨h2,by omega,h4⟩)⟩)
    · rintro (h1|h1|⟨h1,h2|h2|⟨h2,h3,h4⟩⟩)
      · exact .inl h1
      · exact .inr (.inl h1)
      · exact .inr (.inr ⟨h1,.inl h2⟩)
      · exact .inr (.inr ⟨h1,.inr (.inl h2)⟩)
      · exact .inr (.inr ⟨h1,.inr (.inr ⟨h2,by have:y≠J:=fun e=>hxy ⟨h1,e⟩;omega,h4⟩)⟩)
end
set_option maxRecDepth 100000 in
set_option maxHeartbeats 6400000 in
theorem span_star (name:ByteArray) (k:gB) (ks:List gB) (hw:rM nm sym l1) (ih:uT nm sym l1 k):uT nm sym l1 ⟨7,name,k :: ks⟩:=by
  intro w A c Al cl hr hc hl hcl;have hr:Kd.C k25 w A (k :: ks).length (k :: ks):=hr;have hkm:(k :: ks).length≤9223372036854775807:=hr.2.1;obtain ⟨ad,A2,c2,rfl,hk0,hk1,hk2,hl2,hg2⟩:=mE hr 0 (by omega) (by simp);have hrd:bL (k :: ks) 0=k:=rfl;rw [hrd] at hk0 hk1 hk2 hl2 hg2;have ha:ad.add 0=ad:=(by unfold Addr.add;simp);simp only [Int.toNat_zero,Nat.zero_mul,ha] at hk0 hk1 hk2;have HG:=aA.mk hg2;have HL2:=aA.mk hl2;have zK:=aA.mk hk0;have iC:=aA.mk hk1;have oQ:=aA.mk hk2;have HKK:=aA.mk ih;clear hl2 hg2 ha hrd hk0 hk1 hk2 ih;obtain ⟨W1,hW1⟩ : ∃ W1,W1=w.alloc (.cells #[.int .i64 7,.string name,.slice (some ad) (k :: ks).length c] 25):=⟨_,rfl⟩;have HR:=aA.mk hr;have HC:aA ((k :: ks).length≤c):=⟨hc⟩;have HL:=aA.mk hl;have HCL:=aA.mk hcl;have hn:=hw.ns;have HW:=aA.mk hw;have vG:aA (Below w.heap.size w W1):=⟨by rw [hW1];exact aN (Below.refl _ _) _⟩;have BX:aA (W1.heap[w.heap.size]?=some (.cells #[.int .i64 7,.string name,.slice (some ad) (k :: ks).length c] 25 (0,0))):=⟨by rw [hW1];exact dX _ _⟩;show Calls Try.prog 45 #[.agg #[.int .i64 7,.string name,.slice (some ad) (k :: ks).length c],.slice Al l1.length cl] w (KS w (l1.length+1) (mM nm sym ⟨7,name,k :: ks⟩));obtain ⟨P,CX⟩ : ∃ P,P=mM nm sym ⟨7,name,k :: ks⟩:=⟨_,rfl⟩;rw [←CX];have HP0:=aA.mk CX;simp only [List.length_cons] at hW1 BX;clear hr hc hl hcl hw CX;go_enter Try.func45,Try.ntmps45;go_upto_region 1 with (fail)
  rw [←hW1];clear hW1;go_wp2_with (fail)
  go_at_call 74;refine (rJ l1.length (by omega) W1).mono ?_;rintro e w2 ⟨G,B,cc,cap,m,rfl,hM,hQ,hb⟩;have HM:=aA.mk (hM.lower vG.out.size);have HQ:=aA.mk hQ;have HB:=aA.mk (bU vG.out vG.out.size hb);have qJ:=aA.mk (bK BX.out hb);have hx0:=(aD qJ.out 0).trans rfl;have hx1:=(aD qJ.out 1).trans rfl;have hx2:=(aD qJ.out 2).trans rfl;clear hM hQ hb BX vG;have hy0:=bJ HB.out zK.out;have hy1:=bJ HB.out iC.out;have hy2:=bJ HB.out oQ.out;go_wp2_with (fail)
  go_at_call 45;refine (HKK.out w2 A2 c2 Al cl (Kd.dJ HG.out HB.out) HL2.out (Kd.dJ HL.out HB.out) HCL.out).mono ?_;rintro e w3 ⟨Gk,Bk,ck,capk,mk,rfl,hMk,hQk,hbk⟩;have HMK:=aA.mk (hMk.lower HB.out.size);have HQK:=aA.mk hQk;have BC:=aA.mk (HM.out.below hbk);have HB3:=aA.mk (bU HB.out HB.out.size hbk);have l5:=aA.mk (bK qJ.out hbk);have HMKB:aA (∀ x,x<l1.length+1→∀ g,w2.heap.size≤Bk x∧(B g<w2.heap.size→B g≠Bk x)):=⟨fun x hx g=>⟨(hMk.r x hx).1,fun h e=>by have:=(hMk.r x hx).1;omega⟩⟩;have HML:aA (∀ x,x<l1.length+1→B x<w2.heap.size):=⟨fun x hx=>HM.out.rowlt hx⟩;clear hMk hQk hbk hy0 hy1 hy2 hx0 hx1 hx2 HM HB qJ;clear HQ BC HMKB HML;obtain ⟨Sp,hSp⟩ : ∃ Sp:Nat→Nat→Prop,Sp=fun x y=>x≤y∧tC (tV nm k) (sub sym x y):=⟨_,rfl⟩;have HSP:=aA.mk hSp;have HSO:aA (StarOk mk (l1.length+1) Sp):=⟨by rw [hSp];exact star_ok (by rw [HW.out.len]) HQK.out⟩;clear hSp;go_wp2_with (fail)
  go_at_call 75;refine (JB l1.length (by omega) w3).mono ?_;rintro e w4 ⟨G1,B1,c1,cap1,m1,rfl,hM,hQ,hb⟩;have IQ:=aA.mk (hM.lower HB3.out.size);have HMK4:=aA.mk (HMK.out.below hb);have HI0:aA (XR (l1.length+1) Sp (l1.length+1) m1):=⟨fun x hx y hy=>by rw [hQ x hx y hy];exact ⟨fun h=>.inr ⟨hx,h⟩,fun h=>h.elim (fun h=>absurd h.1 (by omega)) (fun h=>h.2)⟩⟩;have wV:=aA.mk (bU HB3.out HB3.out.size hb);have HAP:aA (∀ i,i<l1.length+1→∀ x,x<l1.length+1→B1 i≠Bk x):=⟨fun i hi x hx e=>by have:=(hM.r i hi).1;have:=HMK.out.rowlt hx;omega⟩;clear hM hQ hb HMK HB3 l5;go_wp2_with (fail)
  go_loopg [14] (l1.length+1) (fun q v14 wr=>∃ (b:Nat) (z:Int) (m:Nat→Nat→Bool),b≤l1.length+1∧z+1=b∧v14 = .int .i64 z∧q=b∧aA (XR (l1.length+1) Sp b m)∧aA (iT wr w.heap.size G1 B1 c1 (l1.length+1) m)∧aA (iT wr w.heap.size Gk Bk ck (l1.length+1) mk)∧aA (Below w.heap.size w wr))
  case atStart=>exact ⟨l1.length+1,(l1.length:Int),m1,Nat.le_refl _,by omega,rfl,rfl,HI0,IQ,HMK4,wV⟩
  case round =>
    obtain ⟨b,z,m2,hb,hzb,rfl,hgb,HIr,HMr,HKr,P9⟩:=hrel;have hgb:=hgb.symm;subst hgb;clear HI0 IQ HMK4 wV;by_cases hz:0≤z
    · obtain ⟨i,rfl⟩:=Int.eq_ofNat_of_zero_le hz
      obtain rfl:b=i+1:=(by omega);have hdz:decide ((0:Int)≤(i:Int))=true:=decide_eq_true (by omega);have hlt:i<l1.length+1:=(by omega);have HI2:aA (XT mk (l1.length+1) Sp i (i+1) (i+1) m2):=⟨xt_start HIr.out⟩;clear hz hzb;go_wp2_with (fail)
      go_loopg [15] (l1.length+1 - (i+1)) (fun p v15 wr=>∃ (q:Nat) (m:Nat→Nat→Bool),i+1≤q∧q≤l1.length+1∧v15 = .int .i64 q∧p=l1.length+1 - q∧aA (XT mk (l1.length+1) Sp i q q m)∧aA (iT wr w.heap.size G1 B1 c1 (l1.length+1) m)∧aA (iT wr w.heap.size Gk Bk ck (l1.length+1) mk)∧aA (Below w.heap.size w wr))
      case atStart=>exact ⟨i+1,m2,Nat.le_refl _,hb,by go_num,rfl,HI2,HMr,HKr,P9⟩
      case round =>
        obtain ⟨q,m3,hiq,hq,rfl,rfl,HI3,BC,RI,HB3⟩:=hrel;clear HIr HMr HKr P9 HI2;by_cases hlq:q<l1.length+1
        · have hdq:decide ((q:Int)≤(l1.length:Int))=true:=decide_eq_true (by omega)
          have hdq2:decide (q≤l1.length)=true:=decide_eq_true (by omega);go_wp2_with (fail)
          go_loopg [16] (l1.length+1 - q) (fun p v16 wr=>∃ (j:Nat) (m:Nat→Nat→Bool),q≤j∧j≤l1.length+1∧v16 = .int .i64 j∧p=l1.length+1 - j∧aA (XT mk (l1.length+1) Sp i q j m)∧aA (iT wr w.heap.size G1 B1 c1 (l1.length+1) m)∧aA (iT wr w.heap.size Gk Bk ck (l1.length+1) mk)∧aA (Below w.heap.size w wr))
          case atStart=>exact ⟨q,m3,Nat.le_refl _,hq,rfl,rfl,HI3,BC,RI,HB3⟩
          case round =>
            obtain ⟨j,m4,hqj,hj,rfl,rfl,HI4,IQ,XE,wV⟩:=hrel;clear HI3 BC RI HB3;by_cases hlj:j<l1.length+1
            · have hdj:decide ((j:Int)≤(l1.length:Int))=true:=decide_eq_true (by omega)
              have hkr:=XE.out.row hlt;have hka:=XE.out.at_ hlt hlq;cases hak:mk i q with
              |false =>
                rw [hak] at hka;have HAK:=aA.mk hak;clear hak;go_wp2;go_roundg (l1.length+1 - (q+1))
                case measure=>omega
                case rel=>exact ⟨q+1,m4,by omega,by omega,by go_num,rfl,⟨xt_mid HI4.out hiq (.inl HAK.out)⟩,IQ,XE,wV⟩
              |true =>
                rw [hak] at hka;have HAK:=aA.mk hak;have hrow:=IQ.out.row hlt;have hij:=IQ.out.at_ hlt hlj;have hfz:=IQ.out.fz hlt j;have hrq:=IQ.out.row hlq;have hqj2:=IQ.out.at_ hlq hlj;clear hak;go_wp2_with (fail)
                clear hka hkr;cases zZ:m4 i j with
                |true =>
                  rw [zZ] at hij;have HMS:=aA.mk (IQ.out.set hlt hlj (true));have HTS:=aA.mk (xt_set HI4.out hlt hiq hqj hlj HAK.out (v:=true) (by rw [zZ];rfl));have HBS:=aA.mk (wV.out.setCell (p:=⟨B1 i,j,none⟩) (IQ.out.r i hlt).1 (.bool (true)));have HKS:=aA.mk (j4 XE.out (HAP.out i hlt) hlt IQ.out (.bool (true)) (j:=j));clear zZ;go_big_region
                  all_goals (go_wp2;go_roundg (l1.length+1 - (j+1)))
                  case measure=>omega
                  case rel=>exact ⟨j+1,_,by omega,by omega,by go_num,rfl,HTS,⟨HMS.out.drew⟩,⟨HKS.out.drew⟩,⟨bX HBS.out⟩⟩
                |false =>
                  rw [zZ] at hij;have HMS:=aA.mk (IQ.out.set hlt hlj (m4 q j));have HTS:=aA.mk (xt_set HI4.out hlt hiq hqj hlj HAK.out (v:=m4 q j) (by rw [zZ];rfl));have HBS:=aA.mk (wV.out.setCell (p:=⟨B1 i,j,none⟩) (IQ.out.r i hlt).1 (.bool (m4 q j)));have HKS:=aA.mk (j4 XE.out (HAP.out i hlt) hlt IQ.out (.bool (m4 q j)) (j:=j));clear zZ;go_big_region
                  all_goals (go_wp2;go_roundg (l1.length+1 - (j+1)))
                  case measure=>omega
                  case rel=>exact ⟨j+1,_,by omega,by omega,by go_num,rfl,HTS,⟨HMS.out.drew⟩,⟨HKS.out.drew⟩,⟨bX HBS.out⟩⟩
            · have hdj:decide ((j:Int)≤(l1.length:Int))=false:=decide_eq_false (by omega)
              have HJ:=aA.mk (show j=l1.length+1 by omega);go_wp2;go_roundg (l1.length+1 - (q+1))
              case measure=>omega
              case rel=>exact ⟨q+1,m4,by omega,by omega,by go_num,rfl,⟨xt_mid HI4.out hiq (.inr HJ.out)⟩,IQ,XE,wV⟩
        · have hdq:decide ((q:Int)≤(l1.length:Int))=false:=decide_eq_false (by omega)
          have HQ:=aA.mk (show q=l1.length+1 by omega);go_wp2;go_roundg i
          case measure=>omega
          case rel=>exact ⟨i,_,m3,by omega,by (first|(unfold wrap64;omega)|(go_num;done)|(simp;done)),rfl,rfl,⟨xt_row HSO.out HI3.out HQ.out⟩,BC,RI,HB3⟩
    · have hdz:decide ((0:Int)≤z)=false:=decide_eq_false hz
      have HBZ:aA (b=0):=⟨by omega⟩;go_wp2;go_ret;refine ⟨G1,B1,c1,cap1,m2,rfl,HMr.out,fun x hx y hy=>?_,P9.out⟩;rw [HIr.out x hx y hy,HP0.out,HSP.out];unfold mM;rw [nN,if_neg (by decide),if_neg (by decide),if_neg (by decide),if_neg (by decide),if_neg (by decide),if_pos rfl,tX];have:=HBZ.out;exact ⟨fun h=>h.elim (fun h=>h.2) (fun h=>absurd h.1 (by omega)),fun h=>.inl ⟨by omega,h⟩⟩
end Go.Proofs.Ytapinbmkjkbkkaa.Mk
namespace Go.Proofs.Ytapinbmkjkbkkaa.Mk
open Go.RowKit Go.Proofs.aC.bE Go.Proofs.aC.bV Go.Proofs.aC.bY Lb Pu
theorem span_all {nm:List (List UInt8)} {sym:List Int} {l1:List ByteArray} (hw:rM nm sym l1) : ∀ (n:Nat) (r:gB),SizeOf.sizeOf r≤n→gX r=true→uT nm sym l1 r:=by
  intro n;induction n with
  |zero=>intro r h;cases r;simp at h
  |succ n ih =>
    intro r h hr;obtain ⟨op,name,ks⟩:=r;have hk : ∀ k,k∈ks→gX k=true→uT nm sym l1 k:=by
      intro k hk;apply ih;have:=List.sizeOf_lt_of_mem hk;simp at h;omega
    rw [oZ] at hr;by_cases h1:op=1
    · subst h1
      exact span_name name ks hw
    rw [if_neg h1] at hr;by_cases h2:op=2
    · subst h2;exact span_any name ks hw
    by_cases h3:op=3
    · subst h3;exact span_empty name ks hw
    by_cases h4:op=4
    · subst h4;exact span_none name ks hw
    rw [if_neg (by omega)] at hr;by_cases h78:op=7∨op=8
    · rw [if_pos h78,Bool.and_eq_true,Bool.and_eq_true] at hr
      cases ks with
      |nil=>exact absurd hr.2 (by simp [R7])
      |cons k ks =>
        have hrk:gX k=true:=(by simpa [R7] using hr.2);have hkk:=hk k (List.mem_cons_self ..) hrk;rcases h78 with rfl|rfl
        · exact span_star name k ks hw hkk
        · exact span_not name k ks hw hkk
    · rw [if_neg h78] at hr
      by_cases h56:op=5∨op=6
      · rw [if_pos h56,Bool.and_eq_true,Bool.and_eq_true,Bool.not_eq_true'] at hr
        have hall:=MV hr.2;rcases h56 with rfl|rfl
        · exact span_seq name ks hw (fun k hq=>hk k hq (hall k hq))
        · exact span_alt name ks hw (fun k hq=>hk k hq (hall k hq))
      · rw [if_neg h56] at hr
        exact absurd hr (by simp)
def nmW (l1:List ByteArray):List (List UInt8):=l1.map nk
def UC (l1:List ByteArray):List Int:=l1.map fun x=>nameAt (nmW l1) (nk x)
theorem wordsW {l1:List ByteArray} (h:l1.length≤100):rM (nmW l1) (UC l1) l1 where
  len:=List.length_map _
  at_:=fun i x hx=>by
    refine ⟨?_,?_⟩
    · unfold UC
      rw [List.getElem?_map,hx];rfl
    · unfold nmW
      exact List.mem_map_of_mem (List.mem_of_getElem? hx)
  ns:=h
noncomputable def kK.f (k:Nat) (aM:Int) (aJ:ByteArray) (bQ:List gB) (l1:List ByteArray):Option (Bool × Int) :=
  (bT.f k aM aJ bQ).bind fun e =>
    if e=0 then (if l1.length > 100 then some (false,3) else (if gX ⟨aM,aJ,bQ⟩=true then some (@decide (tV (nmW l1) ⟨aM,aJ,bQ⟩ (UC l1)) (Classical.propDecidable _),0) else none))
    else some (false,e)
set_option maxRecDepth 100000 in
set_option maxHeartbeats 6400000 in
theorem kK.calls (k:Nat) (aM:Int) (aJ:ByteArray) (jF:Option Addr) (iY:Nat) (bQ:List gB) (A1:Option Addr) (c1:Nat) (l1:List ByteArray) (r1:Bool) (r2:Int) (w:World) (mI:Kd.C k25 w jF bQ.length bQ) (mJ:bQ.length≤iY) (hr1:Kd.C Kd.string w A1 l1.length l1) (hc1:l1.length≤c1) (h:kK.f k aM aJ bQ l1=some (r1,r2)) :
    Calls Try.prog 15 #[.agg #[.int .i64 aM,.string aJ,.slice jF bQ.length iY],.slice A1 l1.length c1] w fun e w'=>e = .returned (.tuple #[.bool r1,.int .i64 r2])∧Below w.heap.size w w':=by
  obtain ⟨e,he,h⟩:=Option.bind_eq_some_iff.mp h;have hlm:l1.length≤9223372036854775807:=hr1.2.1;have P6:=aA.mk mI;have HC0:=aA.mk mJ;have HR1:=aA.mk hr1;have SH:=aA.mk hc1;have HE:=aA.mk he;have HH:=aA.mk h;obtain ⟨w2,hw2⟩ : ∃ w2,w2=w.alloc (.cells #[.int .i64 aM,.string aJ,.slice jF bQ.length iY] 25):=⟨_,rfl⟩;have HB2:aA (Below w.heap.size w w2):=⟨by rw [hw2];exact aN (Below.refl _ _) _⟩;have BX:aA (w2.heap[w.heap.size]?=some (.cells #[.int .i64 aM,.string aJ,.slice jF bQ.length iY] 25 (0,0))):=⟨by rw [hw2];exact dX _ _⟩;have hx0:=(aD BX.out 0).trans rfl;have hx1:=(aD BX.out 1).trans rfl;have hx2:=(aD BX.out 2).trans rfl;clear mI mJ hr1 hc1 he h;go_enter Try.func15,Try.ntmps15;go_upto_region 1 with (fail)
  rw [←hw2];clear hw2;go_wp2_with (fail)
  go_at_call 44;refine (bT.calls k aM aJ _ _ bQ e _ (Kd.dJ P6.out HB2.out) HC0.out HE.out).mono ?_;rintro e' w3 ⟨rfl,hb3⟩;have HB3:=aA.mk (bU HB2.out HB2.out.size hb3);have l5:=aA.mk (bK BX.out hb3);clear hx0 hx1 hx2 BX hb3 HB2;by_cases hz:e=0
  · subst hz
    have h:=HH.out;rw [if_pos rfl] at h;by_cases hl:l1.length > 100
    · rw [if_pos hl] at h
      obtain ⟨⟩:=h;go_wp2;exact bodyPost_ret (v:=.tuple #[.bool false,.int .i64 3]) (by simp [results,Try.results15,go_sem]) rfl ⟨rfl,HB3.out⟩
    · rw [if_neg hl] at h
      by_cases hrt:gX ⟨aM,aJ,bQ⟩=true
      · rw [if_pos hrt] at h
        have HRT:=aA.mk hrt;have HL:aA (l1.length≤100):=⟨by omega⟩;have H2:=aA.mk h;have hx0:=(aD l5.out 0).trans rfl;have hx1:=(aD l5.out 1).trans rfl;have hx2:=(aD l5.out 2).trans rfl;clear h hrt HH;go_wp2_with (fail)
        go_at_call 45;refine (span_all (wordsW HL.out) _ ⟨aM,aJ,bQ⟩ (Nat.le_refl _) HRT.out w3 _ _ _ _ (Kd.dJ P6.out HB3.out) HC0.out (Kd.dJ HR1.out HB3.out) SH.out).mono ?_;rintro e' w4 ⟨G,B,c,cap,m,rfl,hM,hQ,hb⟩;have wV:=aA.mk (bU HB3.out HB3.out.size hb);have hrow:=hM.row (i:=0) (by omega);have hat:=hM.at_ (i:=0) (j:=l1.length) (by omega) (by omega);have hq:=hQ 0 (by omega) l1.length (by omega);have hval:m 0 l1.length=r1∧r2=0:=by
          have h:=H2.out;injection h with h;injection h with h1 h2;refine ⟨?_,h2.symm⟩;rw [←h1];have e:sub (UC l1) 0 l1.length=UC l1:=by
            unfold sub;rw [List.drop_zero,Nat.sub_zero,List.take_of_length_le (by rw [(wordsW HL.out).len];exact Nat.le_refl _)]
          unfold mM at hq;rw [e] at hq;cases hm:m 0 l1.length with
          |true=>rw [hm] at hq;exact (@decide_eq_true _ (Classical.propDecidable _) (hq.mp rfl).2).symm
          |false=>rw [hm] at hq;exact (@decide_eq_false _ (Classical.propDecidable _) (fun h=>absurd (hq.mpr ⟨Nat.zero_le _,h⟩) (by simp))).symm
        obtain ⟨hv1,rfl⟩:=hval;rw [hv1] at hat;clear hM hQ hb hq hv1 hx0 hx1 hx2 H2;go_wp2;exact bodyPost_ret (v:=.tuple #[.bool r1,.int .i64 0]) (by simp [results,Try.results15,go_sem]) rfl ⟨rfl,wV.out⟩
      · rw [if_neg hrt] at h
        exact absurd h (by simp)
  · have hz0:(e==0)=false:=beq_eq_false_iff_ne.mpr hz
    have hz1:(e != 0)=true:=bne_iff_ne.mpr hz;have h:=HH.out;rw [if_neg hz] at h;obtain ⟨⟩:=h;go_wp2;exact bodyPost_ret (v:=.tuple #[.bool false,.int .i64 r2]) (by simp [results,Try.results15,go_sem]) rfl ⟨rfl,HB3.out⟩
end Go.Proofs.Ytapinbmkjkbkkaa.Mk
