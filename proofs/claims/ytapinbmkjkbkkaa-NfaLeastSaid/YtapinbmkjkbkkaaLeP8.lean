import Derived.Test.YtapinbmkjkbkkaaLeP7
import Derived.Test.YtapinbmkjkbkkaaLeLbx12
namespace Go.Proofs.Ytapinbmkjkbkkaa.Pu
open Go.RowKit Go.Proofs.YtapinbmkjkbkkaaW.PrintWords Go.Proofs.YtapinbmkjkbkkaaW.PrintLast Go.Proofs.YtapinbmkjkbkkaaW.PrintMore Lb Mk Ls
inductive Way (l : List S78) (ns e : Nat) : Nat → Nat → Prop
  | done : Way l ns e e 0
  | eps {x : S78} {n : Nat} (hx : x ∈ l) (h : x.f1 = -1) (w : Way l ns e x.f2.toNat n) : Way l ns e x.f0.toNat n
  | sym {x : S78} {n : Nat} (hx : x ∈ l) (h1 : x.f1 ≠ -1) (h2 : ¬ (x.f1 = -2 ∧ (ns : Int) = 0)) (w : Way l ns e x.f2.toNat n) : Way l ns e x.f0.toNat (n + 1)
def sumf (f : Int → Nat) (N : List Int) : Nat := (N.map f).sum
theorem sumf_set (f : Int → Nat) (v : Int) : ∀ (N : List Int) (i : Nat), i < N.length → sumf f (N.set i v) + f (rd N (i : Int)) = sumf f N + f v
  | a :: N, 0, _ => by simp [sumf, rd]; omega
  | a :: N, i + 1, h => by
    have := sumf_set f v N i (by simpa using h)
    have e : rd (a :: N) ((i + 1 : Nat) : Int) = rd N (i : Int) := by
      unfold rd
      rw [Int.toNat_natCast, Int.toNat_natCast]
      simp
    rw [e, List.set_cons_succ]
    simp only [sumf, List.map_cons, List.sum_cons] at this ⊢
    omega
theorem sumf_rep (f : Int → Nat) (v : Int) (h : f v = 0) : ∀ m, sumf f (List.replicate m v) = 0
  | 0 => rfl
  | m + 1 => by
    have := sumf_rep f v h m
    simp only [sumf, List.replicate_succ, List.map_cons, List.sum_cons] at this ⊢
    omega
theorem sumf_le (f : Int → Nat) (h : ∀ v, f v ≤ 1) : ∀ N : List Int, sumf f N ≤ N.length
  | [] => by simp [sumf]
  | a :: N => by
    have := sumf_le f h N
    have := h a
    simp only [sumf, List.map_cons, List.sum_cons, List.length_cons] at *
    omega
def one (v : Int) : Nat := if 0 ≤ v then 1 else 0
def mu5 (v : Int) : Nat := if 0 ≤ v then v.toNat else 5000
theorem one_le (v : Int) : one v ≤ 1 := by unfold one; split <;> omega
def cntN (N : List Int) : Nat := sumf one N
def smN (N : List Int) : Nat := sumf mu5 N
structure Near (m : Nat) (l : List S78) (ns e : Nat) (N : List Int) : Prop where
  len : N.length = m
  end0 : rd N (e : Int) = 0
  lt : ∀ i : Nat, i < m → rd N (i : Int) < cntN N
  way : ∀ i : Nat, i < m → 0 ≤ rd N (i : Int) → Way l ns e i (rd N (i : Int)).toNat
def Fix (ns : Nat) (N : List Int) (x : S78) : Prop := x.f1 = -2 ∧ (ns : Int) = 0 ∨ rd N x.f2 < 0 ∨ (0 ≤ rd N x.f0 ∧ rd N x.f0 ≤ rd N x.f2 + (if x.f1 = -1 then 0 else 1))
section
variable {m ns s e : Nat} {l : List S78}
theorem near_small {N : List Int} (h : Near m l ns e N) (A : Arcs m l) (i : Nat) (hi : i < m) : rd N (i : Int) < 4096 := by
  have := h.lt i hi
  have h2 := sumf_le one one_le N
  have := A.m1
  have := h.len
  unfold cntN at *
  omega
theorem relax_step (A : Arcs m l) (he : e < m) {p : List Int × Bool} (h : Near m l ns e p.1) {x : S78} (hx : x ∈ l) :
    (Fix ns p.1 x ∧ relax ns p x = p) ∨ (¬ (x.f1 = -2 ∧ (ns : Int) = 0) ∧ 0 ≤ rd p.1 x.f2 ∧ (rd p.1 x.f0 < 0 ∨ rd p.1 x.f2 + (if x.f1 = -1 then 0 else 1) < rd p.1 x.f0) ∧
      relax ns p x = (p.1.set x.f0.toNat (rd p.1 x.f2 + (if x.f1 = -1 then 0 else 1)), true) ∧ Near m l ns e (p.1.set x.f0.toNat (rd p.1 x.f2 + (if x.f1 = -1 then 0 else 1))) ∧ smN (p.1.set x.f0.toNat (rd p.1 x.f2 + (if x.f1 = -1 then 0 else 1))) < smN p.1) := by
  obtain ⟨⟨p0, p1⟩, ⟨p2, p3⟩⟩ := A.st x hx
  obtain ⟨u, hu⟩ := Int.eq_ofNat_of_zero_le p0
  obtain ⟨v, hv⟩ := Int.eq_ofNat_of_zero_le p2
  have hum : u < m := by omega
  have hvm : v < m := by omega
  have su := near_small h A u hum
  have sv := near_small h A v hvm
  rw [hu, hv]
  rw [hu] at p0 p1; rw [hv] at p2 p3
  generalize hc : (if x.f1 = -1 then (0 : Int) else 1) = c
  have hc2 : c = 0 ∨ c = 1 := by rw [← hc]; split <;> simp
  by_cases h1 : x.f1 = -2 ∧ (ns : Int) = 0
  · refine .inl ⟨.inl h1, ?_⟩
    unfold relax; rw [if_pos (.inl h1)]
  by_cases h2 : rd p.1 (v : Int) < 0
  · refine .inl ⟨.inr (.inl (by rw [hv]; exact h2)), ?_⟩
    unfold relax; rw [if_pos (.inr (by rw [hv]; exact h2))]
  have hw : wrap64 (rd p.1 (v : Int) + c) = rd p.1 (v : Int) + c := by unfold wrap64; omega
  have hno : ¬ (x.f1 = -2 ∧ (ns : Int) = 0 ∨ rd p.1 x.f2 < 0) := by rw [hv]; exact fun q => q.elim h1 h2
  by_cases h3 : rd p.1 (u : Int) < 0 ∨ rd p.1 (v : Int) + c < rd p.1 (u : Int)
  · right
    have hr : relax ns p x = (p.1.set u (rd p.1 (v : Int) + c), true) := by
      unfold relax
      rw [if_neg hno, hc, hu, hv, hw, if_pos h3, Int.toNat_natCast]
    rw [Int.toNat_natCast]
    refine ⟨h1, by omega, h3, hr, ?_, ?_⟩
    · have hul : u < p.1.length := by have := h.len; omega
      have hne : u ≠ e := by
        rintro rfl
        have := h.end0
        omega
      have hcnt := sumf_set one (rd p.1 (v : Int) + c) p.1 u hul
      have hone : one (rd p.1 (v : Int) + c) = 1 := by unfold one; rw [if_pos (by omega)]
      rw [hone] at hcnt
      have hou := one_le (rd p.1 (u : Int))
      refine ⟨by simp [h.len], ?_, fun i hi => ?_, fun i hi h0 => ?_⟩
      · rw [rd_set p.1 u _ e hul, if_neg (Ne.symm hne)]; exact h.end0
      · unfold cntN
        rw [rd_set p.1 u _ i hul]
        have hli := h.lt i hi
        have hlv := h.lt v hvm
        have hlu := h.lt u hum
        unfold cntN at hli hlv hlu
        by_cases hiu : i = u
        · rw [if_pos hiu]
          rcases h3 with h3 | h3
          · have : one (rd p.1 (u : Int)) = 0 := by unfold one; rw [if_neg (by omega)]
            omega
          · have : one (rd p.1 (u : Int)) = 1 := by unfold one; rw [if_pos (by omega)]
            omega
        · rw [if_neg hiu]
          omega
      · rw [rd_set p.1 u _ i hul] at h0 ⊢
        by_cases hiu : i = u
        · subst hiu
          rw [if_pos rfl] at h0 ⊢
          have hwv := h.way v hvm (by omega)
          have eu : x.f0.toNat = i := by rw [hu]; rfl
          have ev : x.f2.toNat = v := by rw [hv]; rfl
          by_cases hs : x.f1 = -1
          · rw [if_pos hs] at hc
            rw [← hc, Int.add_zero]
            rw [← ev] at hwv
            have := Way.eps hx hs hwv
            rw [eu, ev] at this
            exact this
          · rw [if_neg hs] at hc
            rw [← hc, show (rd p.1 (v : Int) + 1).toNat = (rd p.1 (v : Int)).toNat + 1 by omega]
            rw [← ev] at hwv
            have := Way.sym hx hs h1 hwv
            rw [eu, ev] at this
            exact this
        · rw [if_neg hiu] at h0 ⊢
          exact h.way i hi h0
    · have hul : u < p.1.length := by have := h.len; omega
      have hsm := sumf_set mu5 (rd p.1 (v : Int) + c) p.1 u hul
      unfold smN
      have h5 : mu5 (rd p.1 (v : Int) + c) = (rd p.1 (v : Int) + c).toNat := by unfold mu5; rw [if_pos (by omega)]
      rcases Int.lt_or_le (rd p.1 (u : Int)) 0 with h4 | h4
      · have : mu5 (rd p.1 (u : Int)) = 5000 := by unfold mu5; rw [if_neg (by omega)]
        omega
      · have : mu5 (rd p.1 (u : Int)) = (rd p.1 (u : Int)).toNat := by unfold mu5; rw [if_pos (by omega)]
        omega
  · refine .inl ⟨.inr (.inr ?_), ?_⟩
    · rw [hu, hv, hc]; omega
    · unfold relax
      rw [if_neg hno, hc, hu, hv, hw, if_neg h3]
theorem pass_inv (A : Arcs m l) (he : e < m) : ∀ (xs : List S78), (∀ x ∈ xs, x ∈ l) → ∀ p : List Int × Bool, Near m l ns e p.1 →
    Near m l ns e (passF ns xs p).1 ∧ ((passF ns xs p).2 = true ∧ (p.2 = true ∧ smN (passF ns xs p).1 ≤ smN p.1 ∨ smN (passF ns xs p).1 < smN p.1) ∨ (passF ns xs p) = p ∧ p.2 = false ∧ ∀ x ∈ xs, Fix ns p.1 x)
  | [], _, p, h => by
    refine ⟨h, ?_⟩
    cases hp : p.2 with
    | true => exact .inl ⟨hp, .inl ⟨rfl, Nat.le_refl _⟩⟩
    | false => exact .inr ⟨rfl, rfl, fun x hx => by cases hx⟩
  | x :: xs, hs, p, h => by
    have e1 : passF ns (x :: xs) p = passF ns xs (relax ns p x) := rfl
    rw [e1]
    rcases relax_step A he h (hs x List.mem_cons_self) with ⟨hf, hr⟩ | ⟨_, _, _, hr, hN, hsm⟩
    · rw [hr]
      obtain ⟨hN, h2⟩ := pass_inv A he xs (fun y hy => hs y (List.mem_cons_of_mem _ hy)) p h
      refine ⟨hN, ?_⟩
      rcases h2 with h2 | ⟨h2, h3, h4⟩
      · exact .inl h2
      · exact .inr ⟨h2, h3, fun y hy => by
          rcases List.mem_cons.mp hy with rfl | hy
          · exact hf
          · exact h4 y hy⟩
    · rw [hr]
      obtain ⟨hN, h2⟩ := pass_inv A he xs (fun y hy => hs y (List.mem_cons_of_mem _ hy)) (p.1.set x.f0.toNat (rd p.1 x.f2 + (if x.f1 = -1 then 0 else 1)), true) hN
      refine ⟨hN, ?_⟩
      rcases h2 with ⟨h2, h3⟩ | ⟨h2, h3, h4⟩
      · refine .inl ⟨h2, .inr ?_⟩
        rcases h3 with ⟨_, h3⟩ | h3
        · exact Nat.lt_of_le_of_lt h3 hsm
        · exact Nat.lt_trans h3 hsm
      · cases h3
theorem far_l2 (A : Arcs m l) (he : e < m) (k : Nat) : ∀ (d i : Nat), l.length - i = d → i ≤ l.length → ∀ (N : List Int) (ch : Bool), Near m l ns e N →
    stackyardref08_far.l2 (k + 2 * d + 1) N ch (i : Int) m ns s e l = stackyardref08_far.l1 k (passF ns (l.drop i) (N, ch)).1 (passF ns (l.drop i) (N, ch)).2 m ns s e l := by
  intro d
  have hlen := A.len
  induction d with
  | zero =>
    intro i hd hi N ch h
    rw [passF_end _ _ _ _ (by omega)]
    simp only [stackyardref08_far.l2]
    rw [if_neg (by omega)]
  | succ d ih =>
    intro i hd hi N ch h
    have hlt : i < l.length := by omega
    have hwr := wrap1 (i := i) (by omega)
    have hx := rd_mem hlt
    rw [passF_step _ _ _ _ hlt]
    obtain ⟨⟨p0, p1⟩, ⟨p2, p3⟩⟩ := A.st _ hx
    have hl := h.len
    have hs := relax_step A he (p := (N, ch)) h hx
    rw [show k + 2 * (d + 1) + 1 = (k + 2 * d + 1) + 1 + 1 by omega]
    generalize k + 2 * d + 1 = K at ih ⊢
    simp only [stackyardref08_far.l2, stackyardref08_far.j3]
    rw [if_pos (by omega), if_pos (by omega), if_pos (by omega), if_pos (by omega), hwr]
    generalize rd_T78 l (i : Int) = x at *
    have hgo : ∀ q : List Int × Bool, Near m l ns e q.1 → stackyardref08_far.l2 K q.1 q.2 ((i + 1 : Nat) : Int) m ns s e l = stackyardref08_far.l1 k (passF ns (l.drop (i + 1)) q).1 (passF ns (l.drop (i + 1)) q).2 m ns s e l := fun q hq => ih (i + 1) (by omega) (by omega) q.1 q.2 hq
    have sv : rd N x.f2 < 4096 := by
      obtain ⟨v, hv⟩ := Int.eq_ofNat_of_zero_le p2
      rw [hv]; exact near_small h A v (by omega)
    have hu0 : x.f0 < (N.length : Int) := by omega
    have hv0 : x.f2 < (N.length : Int) := by omega
    rcases hs with ⟨hf, hr⟩ | ⟨g1, g2, g3, hr, hN, _⟩
    · rw [hr, ← hgo (N, ch) h]
      rcases Int.lt_or_le (rd N x.f2) 0 with h2 | h2
      · rw [if_pos h2, if_pos trivial]
      · rw [if_neg (by omega)]
        by_cases h1 : x.f1 = -2
        · rw [if_pos h1]
          by_cases h3 : (ns : Int) = 0
          · rw [if_pos (by simpa using h3)]
          · rw [if_neg (by simpa using h3), if_pos p2, if_pos hv0, if_neg (by omega), if_pos p0, if_pos hu0]
            have hf' : 0 ≤ rd N x.f0 ∧ rd N x.f0 ≤ rd N x.f2 + 1 := by
              rcases hf with hf | hf | hf
              · exact absurd hf.2 h3
              · have : rd N x.f2 < 0 := hf
                omega
              · rw [if_neg (by omega)] at hf; exact hf
            have hw : wrap64 (rd N x.f2 + 1) = rd N x.f2 + 1 := by unfold wrap64; omega
            rw [hw, if_neg (by omega), if_neg (by omega)]
        · rw [if_neg h1, if_neg (by simp), if_pos p2, if_pos hv0]
          have hf' : 0 ≤ rd N x.f0 ∧ rd N x.f0 ≤ rd N x.f2 + (if x.f1 = -1 then 0 else 1) := by
            rcases hf with hf | hf | hf
            · exact absurd hf.1 h1
            · have : rd N x.f2 < 0 := hf
              omega
            · exact hf
          by_cases h4 : x.f1 = -1
          · rw [if_pos h4] at hf'
            rw [if_pos h4, if_pos p0, if_pos hu0, if_neg (by omega), if_neg (by omega)]
          · rw [if_neg h4] at hf'
            have hw : wrap64 (rd N x.f2 + 1) = rd N x.f2 + 1 := by unfold wrap64; omega
            rw [if_neg h4, if_pos p0, if_pos hu0, hw, if_neg (by omega), if_neg (by omega)]
    · rw [hr, ← hgo (_, true) hN]
      have g2 : 0 ≤ rd N x.f2 := g2
      have g3 : rd N x.f0 < 0 ∨ rd N x.f2 + (if x.f1 = -1 then 0 else 1) < rd N x.f0 := g3
      have hw : wrap64 (rd N x.f2 + 1) = rd N x.f2 + 1 := by unfold wrap64; omega
      rw [if_neg (by omega)]
      by_cases h4 : x.f1 = -1
      · rw [if_neg (by omega), if_neg (by simp), if_pos p2, if_pos hv0, if_pos h4, if_pos p0, if_pos hu0, if_pos h4, Int.add_zero]
        rw [if_pos h4, Int.add_zero] at g3
        by_cases h5 : rd N x.f0 < 0
        · rw [if_pos h5]
        · rw [if_neg h5, if_pos (by omega)]
      · rw [if_neg h4] at g3
        have hj : ∀ b : Bool, b = false → ∀ (a c : Option (List Int)), (if b = true then a else c) = c := fun b hb a c => by rw [hb]; simp
        by_cases h1 : x.f1 = -2
        · rw [if_pos h1, hj _ (by simp; omega), if_pos p2, if_pos hv0, if_neg h4, if_pos p0, if_pos hu0, if_neg h4, hw]
          by_cases h5 : rd N x.f0 < 0
          · rw [if_pos h5]
          · rw [if_neg h5, if_pos (by omega)]
        · rw [if_neg h1, if_neg (by simp), if_pos p2, if_pos hv0, if_neg h4, if_pos p0, if_pos hu0, if_neg h4, hw]
          by_cases h5 : rd N x.f0 < 0
          · rw [if_pos h5]
          · rw [if_neg h5, if_pos (by omega)]
theorem near_pass (A : Arcs m l) (he : e < m) : ∀ (M : Nat) (N : List Int), smN N = M → Near m l ns e N →
    ∃ j k N', nearF ns l j N = some N' ∧ stackyardref08_far.l1 k N true m ns s e l = some N' ∧ Near m l ns e N' ∧ ∀ x ∈ l, Fix ns N' x := by
  intro M
  induction M using Nat.strongRecOn with
  | _ M ih =>
  intro N hM h
  obtain ⟨hN, h2⟩ := pass_inv A he l (fun _ h => h) (N, false) h
  have hl2 := fun k => far_l2 (ns := ns) (s := s) A he k l.length 0 rfl (Nat.zero_le _) N false h
  simp only [List.drop_zero] at hl2
  rcases h2 with ⟨h3, h4⟩ | ⟨h3, _, h5⟩
  · have hlt : smN (passF ns l (N, false)).1 < M := by
      rcases h4 with ⟨h4, _⟩ | h4
      · cases h4
      · exact hM ▸ h4
    obtain ⟨j, k, N', e1, e2, hN', hF⟩ := ih _ hlt _ rfl hN
    refine ⟨j + 1, k + 2 * l.length + 1 + 1, N', ?_, ?_, hN', hF⟩
    · simp only [nearF]
      rw [if_pos h3]
      exact e1
    · have : stackyardref08_far.l1 (k + 2 * l.length + 1 + 1) N true m ns s e l = stackyardref08_far.l2 (k + 2 * l.length + 1) N false 0 m ns s e l := by simp only [stackyardref08_far.l1, if_true]
      rw [this]
      have h6 := hl2 k
      rw [h3] at h6
      exact h6.trans e2
  · refine ⟨1, 1 + 2 * l.length + 1 + 1, N, ?_, ?_, h, h5⟩
    · simp only [nearF]
      rw [h3]
      simp
    · have : stackyardref08_far.l1 (1 + 2 * l.length + 1 + 1) N true m ns s e l = stackyardref08_far.l2 (1 + 2 * l.length + 1) N false 0 m ns s e l := by simp only [stackyardref08_far.l1, if_true]
      rw [this]
      have h6 := hl2 1
      rw [h3] at h6
      exact h6.trans (by simp [stackyardref08_far.l1])
theorem near_start (he : e < m) : Near m l ns e (nearS m e) := by
  have hl : e < (List.replicate m (-1 : Int)).length := by simpa using he
  have hr : ∀ i : Nat, i < m → rd (List.replicate m (-1 : Int)) (i : Int) = -1 := fun i hi => by unfold rd; simp [hi]
  have hn : nearS m e = (List.replicate m (-1 : Int)).set e 0 := by unfold nearS; rw [Int.toNat_natCast]
  have hc := sumf_set one 0 (List.replicate m (-1)) e hl
  rw [sumf_rep one (-1) (by decide), hr e he] at hc
  rw [hn]
  refine ⟨by simp, by rw [rd_set _ _ _ _ hl, if_pos rfl], fun i hi => ?_, fun i hi h0 => ?_⟩
  · unfold cntN
    have h1 : one (-1) = 0 := by decide
    have h2 : one 0 = 1 := by decide
    rw [h1, h2] at hc
    rw [rd_set _ _ _ _ hl]
    by_cases hie : i = e
    · rw [if_pos hie]; omega
    · rw [if_neg hie, hr i hi]; omega
  · rw [rd_set _ _ _ _ hl] at h0 ⊢
    by_cases hie : i = e
    · rw [if_pos hie]; subst hie; exact .done
    · rw [if_neg hie, hr i hi] at h0; omega
theorem far_l0 (hm : m ≤ 4096) (he : e < m) (k : Nat) : ∀ (d i : Nat), m - i = d → i ≤ m →
    stackyardref08_far.l0 (k + d + 1) (List.replicate i (-1) ++ List.replicate (m - i) 0) (i : Int) m ns s e l = stackyardref08_far.l1 k (nearS m e) true m ns s e l := by
  intro d
  induction d with
  | zero =>
    intro i hd hi
    obtain rfl : i = m := by omega
    simp only [stackyardref08_far.l0]
    rw [if_neg (by omega), if_pos (by omega), if_pos (by simp; omega)]
    rw [show i - i = 0 by omega, List.replicate_zero, List.append_nil]
    rfl
  | succ d ih =>
    intro i hd hi
    have hwr := wrap1 (i := i) (by omega)
    rw [show k + (d + 1) + 1 = (k + d + 1) + 1 by omega]
    simp only [stackyardref08_far.l0]
    rw [if_pos (by omega), if_pos (by omega), if_pos (by simp; omega), Int.toNat_natCast, fill_set m i (by omega), hwr]
    exact ih (i + 1) (by omega) (by omega)
theorem near_f (A : Arcs m l) (he : e < m) : ∃ K N, Near m l ns e N ∧ (∀ x ∈ l, Fix ns N x) ∧ ∀ k, K ≤ k → nearF ns l k (nearS m e) = some N ∧ stackyardref08_far.f k m ns s e l = some N := by
  have hm := A.m1
  obtain ⟨j, k, N, h1, h2, hN, hF⟩ := near_pass (s := s) A he _ (nearS m e) rfl (near_start (l := l) (ns := ns) he)
  refine ⟨j + (k + m + 1), N, hN, hF, fun q hq => ⟨?_, ?_⟩⟩
  · exact at_rounds (fun k => nearF_mono _ _ k _) (by omega) h1
  · refine at_rounds (fun k => stackyardref08_far.mono _ _ _ _ _ k) (show k + m + 1 ≤ q by omega) ?_
    unfold stackyardref08_far.f
    rw [if_pos (by omega), Int.toNat_natCast, if_pos (by omega)]
    have := far_l0 (ns := ns) (s := s) (l := l) hm he k m 0 rfl (Nat.zero_le _)
    rw [Nat.sub_zero, List.replicate_zero, List.nil_append] at this
    exact this.trans h2
theorem near_le (A : Arcs m l) {N : List Int} (h : Near m l ns e N) (hF : ∀ x ∈ l, Fix ns N x) {i n : Nat} (hw : Way l ns e i n) : 0 ≤ rd N (i : Int) ∧ rd N (i : Int) ≤ n := by
  have key : ∀ x ∈ l, ¬ (x.f1 = -2 ∧ (ns : Int) = 0) → 0 ≤ rd N (x.f2.toNat : Int) → 0 ≤ rd N (x.f0.toNat : Int) ∧ rd N (x.f0.toNat : Int) ≤ rd N (x.f2.toNat : Int) + (if x.f1 = -1 then 0 else 1) := by
    intro x hx h1 h2
    obtain ⟨⟨p0, _⟩, ⟨p2, _⟩⟩ := A.st x hx
    rw [Int.toNat_of_nonneg p0, Int.toNat_of_nonneg p2] at *
    rcases hF x hx with hf | hf | hf
    · exact absurd hf h1
    · omega
    · exact hf
  induction hw with
  | done => rw [h.end0]; omega
  | @eps x n hx h1 w ih =>
    have := key x hx (by omega) ih.1
    rw [if_pos h1] at this
    omega
  | @sym x n hx h1 h2 w ih =>
    have := key x hx h2 ih.1
    rw [if_neg h1] at this
    omega
end
end Go.Proofs.Ytapinbmkjkbkkaa.Pu
