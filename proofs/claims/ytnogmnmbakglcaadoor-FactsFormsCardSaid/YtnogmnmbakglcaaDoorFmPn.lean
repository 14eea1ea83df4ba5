import Derived.Test.YtnogmnmbakglcaaDoorFmPm
import Derived.Test.YtnogmnmbakglcaaDoorFmRSet
namespace Go.Proofs.YtnogmnmbakglcaaDoor.Pr
open Go.RowKit Go.Proofs.YtnogmnmbakglcaaDoorW.PrintWords Go.Proofs.YtnogmnmbakglcaaDoorW.PrintLast Go.Proofs.YtnogmnmbakglcaaDoorW.PrintMore
def caE (n g : Int) (l : List Int) : Int × List Int × Int := if outD n then (0, [], 31) else if okSh n g l = true then (g, cn g l, 0) else (0, [], 30)
theorem Canon_f {n g : Int} {l : List Int} {k : Nat} (hl : l.length ≤ 1000) (hk : 1100 ≤ k) : facts_Canon.f k n g l = some (caE n g l) := by
  unfold facts_Canon.f caE
  rw [shaped_f]
  simp only [Option.bind_some]
  by_cases h : outD n
  · simp [h]
  · by_cases h2 : okSh n g l = true
    · simp only [h, h2, if_false, if_true, canon_f hl hk, Option.bind_some]
    · simp [h, h2]
theorem rCanon_f {n g : Int} {l : List Int} {k : Nat} (hl : l.length ≤ 1000) (hk : 1100 ≤ k) : stackyardref03_Canon.f k n g l = some (caE n g l) := by
  unfold stackyardref03_Canon.f caE
  rw [rdim_f]
  simp only [Option.bind_some]
  by_cases h : outD n
  · simp [h]
  · have h0 : 0 ≤ n ∧ n ≤ 64 := by unfold outD at h; omega
    simp only [h, not_false_eq_true, decide_true, if_true, if_false, rshape_f h0.1 h0.2 (show 400 ≤ k by omega), Option.bind_some]
    by_cases h2 : okSh n g l = true
    · simp only [h2, if_true, rcanon_f hl hk, Option.bind_some]
    · simp [h2]
theorem caE_len {n g : Int} {l : List Int} (h1 : l.length ≤ 1000) : (caE n g l).2.1.length ≤ 1000 := by
  unfold caE
  split
  · simp
  · split
    · simpa [cn_length] using h1
    · simp
def ones (i : Nat) : Nat → List Int
  | 0 => []
  | d + 1 => ((2 ^ i : Nat) : Int) :: ones (i + 1) d
theorem ones_length (d : Nat) : ∀ i, (ones i d).length = d := by
  induction d with
  | zero => intro i; rfl
  | succ d ih => intro i; simp [ones, ih]
theorem shl_one {i : Nat} (hi : i < 64) : shl .u64 1 (IntKind.u64.wrap (i : Int)) = ((2 ^ i : Nat) : Int) := by
  have e : IntKind.u64.wrap (i : Int) = (i : Int) := by rw [IntKind.wrap_u64]; omega
  have h : 2 ^ i < 2 ^ 64 := Nat.pow_lt_pow_right (by omega) hi
  rw [e]
  unfold shl
  show IntKind.u64.wrap (1 * 2 ^ min (i : Int).toNat 64) = _
  rw [show min (i : Int).toNat 64 = i by omega, Int.one_mul, show ((2 : Int) ^ i) = ((2 ^ i : Nat) : Int) by push_cast; rfl, IntKind.wrap_u64]
  generalize 2 ^ i = p at *
  omega
theorem one_l0 {n : Nat} (hn : n ≤ 64) : ∀ (d i k : Nat) (out : List Int), n - i = d → i ≤ n → out.length = n → d < k → facts_One.l0 k (n : Int) (i : Int) 0 out = some (0, out.take i ++ ones i d, 0) := by
  intro d
  induction d with
  | zero =>
    intro i k out hd hi ho hk
    obtain ⟨k, rfl⟩ : ∃ m, k = m + 1 := ⟨k - 1, by omega⟩
    simp only [facts_One.l0]
    rw [if_neg (by omega), List.take_of_length_le (by omega)]
    simp [ones]
  | succ d ih =>
    intro i k out hd hi ho hk
    obtain ⟨k, rfl⟩ : ∃ m, k = m + 1 := ⟨k - 1, by omega⟩
    simp only [facts_One.l0]
    have e : IntKind.u64.wrap (i : Int) = (i : Int) := by rw [IntKind.wrap_u64]; omega
    rw [shl_one (by omega), e, if_pos (by omega), if_pos (by omega), if_pos (by omega), if_pos (by omega), w_step (by omega) (by omega), show ((i : Int) + 1) = ((i + 1 : Nat) : Int) by omega,
      ih (i + 1) k _ (by omega) (by omega) (by simpa using ho) (by omega), Int.toNat_natCast, take_set _ _ _ (by omega), List.append_assoc]; rfl
def onE (n : Int) : Int × List Int × Int := if outD n then (0, [], 31) else (0, ones 0 n.toNat, 0)
theorem one_f {n : Int} {k : Nat} (hk : 1100 ≤ k) : facts_One.f k n = some (onE n) := by
  unfold facts_One.f onE
  by_cases h : outD n
  · rw [full_out_f h]; simp [h]
  · have h0 : 0 ≤ n ∧ n ≤ 64 := by unfold outD at h; omega
    rw [full_in_f h0.1 h0.2]
    obtain ⟨m, rfl⟩ := Int.eq_ofNat_of_zero_le h0.1
    simp only [Option.bind_some, h, if_false, if_true]
    rw [if_pos (by omega), if_pos (by omega)]
    simp only [Int.toNat_natCast, List.length_replicate]
    have := one_l0 (n := m) (by omega) m 0 k (List.replicate m 0) (by omega) (by omega) (by simp) (by omega)
    simpa using this
theorem rone_l0 {n : Nat} (hn : n ≤ 64) : ∀ (d i k : Nat) (out : List Int), n - i = d → i ≤ n → out.length = i → d + 70 < k → stackyardref03_One.l0 k (n : Int) (i : Int) 0 out = some (0, out ++ ones i d, 0) := by
  intro d
  induction d with
  | zero =>
    intro i k out hd hi ho hk
    obtain ⟨k, rfl⟩ : ∃ m, k = m + 1 := ⟨k - 1, by omega⟩
    simp only [stackyardref03_One.l0]
    rw [if_neg (by omega)]
    simp [ones]
  | succ d ih =>
    intro i k out hd hi ho hk
    obtain ⟨k, rfl⟩ : ∃ m, k = m + 1 := ⟨k - 1, by omega⟩
    simp only [stackyardref03_One.l0]
    rw [if_pos (by omega), worth_f (by omega) (by omega)]
    simp only [Option.bind_some]
    rw [if_pos (by omega), w_step (by omega) (by omega), show ((i : Int) + 1) = ((i + 1 : Nat) : Int) by omega, ih (i + 1) k _ (by omega) (by omega) (by simp; omega) (by omega), List.append_assoc]; rfl
theorem rone_f {n : Int} {k : Nat} (hk : 1100 ≤ k) : stackyardref03_One.f k n = some (onE n) := by
  unfold stackyardref03_One.f onE
  rw [rdim_f]
  simp only [Option.bind_some]
  by_cases h : outD n
  · simp [h]
  · have h0 : 0 ≤ n ∧ n ≤ 64 := by unfold outD at h; omega
    obtain ⟨m, rfl⟩ := Int.eq_ofNat_of_zero_le h0.1
    simp only [h, not_false_eq_true, decide_true, if_true, if_false, Int.toNat_natCast]
    have := rone_l0 (n := m) (by omega) m 0 k [] (by omega) (by omega) rfl (by omega)
    simpa using this
theorem onE_len (n : Int) : (onE n).2.1.length ≤ 1000 := by
  unfold onE
  split
  · simp
  · rename_i h
    unfold outD at h
    simp only [ones_length]; omega
def seE (n x y : Int) : Int × List Int × Int :=
  if outD n then (0, [], 31) else if x < 0 ∨ n ≤ x ∨ y < -2 ∨ n ≤ y then (0, [], 5) else
    if y = -2 then (0, (ones 0 n.toNat).set x.toNat 0, 0) else if y = -1 then (((2 ^ x.toNat : Nat) : Int), (ones 0 n.toNat).set x.toNat 0, 0)
    else (0, ((ones 0 n.toNat).set x.toNat 0).set y.toNat (Go.bits .or .u64 (rd ((ones 0 n.toNat).set x.toNat 0) y) ((2 ^ x.toNat : Nat) : Int)), 0)
theorem set_f {n x y : Int} {k : Nat} (hk : 1200 ≤ k) : facts_Set.f k n x y = some (seE n x y) := by
  obtain ⟨k, rfl⟩ : ∃ j, k = j + 1 := ⟨k - 1, by omega⟩
  unfold facts_Set.f seE
  rw [one_f (by omega)]
  simp only [Option.bind_some]
  by_cases h : outD n
  · simp [onE, h]
  · simp only [onE, h, if_false, if_true]
    have h0 : 0 ≤ n ∧ n ≤ 64 := by unfold outD at h; omega
    by_cases h1 : x < 0
    · simp [h1, facts_Set.j0]
    · by_cases h2 : x ≥ n
      · rw [if_neg h1, if_pos h2, if_pos (.inr (.inl h2))]; simp [facts_Set.j0]
      · by_cases h3 : y < -2
        · rw [if_neg h1, if_neg h2, if_pos h3, if_pos (.inr (.inr (.inl h3)))]; simp [facts_Set.j0]
        · by_cases h4 : y ≥ n
          · rw [if_neg h1, if_neg h2, if_neg h3, if_pos (.inr (.inr (.inr h4))), decide_eq_true h4]; simp [facts_Set.j0]
          · rw [if_neg h1, if_neg h2, if_neg h3, decide_eq_false h4, if_neg (show ¬ (x < 0 ∨ n ≤ x ∨ y < -2 ∨ n ≤ y) by omega)]
            have hx : shl .u64 1 (IntKind.u64.wrap x) = ((2 ^ x.toNat : Nat) : Int) := by
              have := shl_one (i := x.toNat) (by omega)
              rwa [show ((x.toNat : Nat) : Int) = x by omega] at this
            have hw : IntKind.u64.wrap x = x := by rw [IntKind.wrap_u64]; omega
            rw [hw] at hx
            simp only [facts_Set.j0, Option.bind_some, hw, hx]
            rw [if_neg (by simp), if_pos (by omega), if_pos (by rw [ones_length]; omega)]
            by_cases h5 : y = -2
            · rw [if_pos h5, if_pos h5]
            · rw [if_neg h5, if_neg h5]
              by_cases h6 : y = -1
              · rw [if_pos h6, if_pos h6, if_pos (by omega)]
              · rw [if_neg h6, if_neg h6, if_pos (by omega), if_pos (by rw [ones_length]; omega), if_pos (by omega)]
theorem rset_f {n x y : Int} {k : Nat} (hk : 1200 ≤ k) : stackyardref03_Set.f k n x y = some (seE n x y) := by
  obtain ⟨k, rfl⟩ : ∃ j, k = j + 1 := ⟨k - 1, by omega⟩
  unfold stackyardref03_Set.f seE
  rw [rdim_f]
  simp only [Option.bind_some]
  by_cases h : outD n
  · simp [h]
  · simp only [h, not_false_eq_true, decide_true, if_true, if_false]
    have h0 : 0 ≤ n ∧ n ≤ 64 := by unfold outD at h; omega
    by_cases h1 : x < 0
    · simp [h1, stackyardref03_Set.j0]
    · by_cases h2 : x ≥ n
      · rw [if_neg h1, if_pos h2, if_pos (.inr (.inl h2))]; simp [stackyardref03_Set.j0]
      · by_cases h3 : y < -2
        · rw [if_neg h1, if_neg h2, if_pos h3, if_pos (.inr (.inr (.inl h3)))]; simp [stackyardref03_Set.j0]
        · by_cases h4 : y ≥ n
          · rw [if_neg h1, if_neg h2, if_neg h3, if_pos (.inr (.inr (.inr h4))), decide_eq_true h4]; simp [stackyardref03_Set.j0]
          · rw [if_neg h1, if_neg h2, if_neg h3, decide_eq_false h4, if_neg (show ¬ (x < 0 ∨ n ≤ x ∨ y < -2 ∨ n ≤ y) by omega)]
            have hx : stackyardref01_Worth.f k x = some ((2 ^ x.toNat : Nat) : Int) := by
              have := worth_f (i := x.toNat) (k := k) (by omega) (by omega)
              rwa [show ((x.toNat : Nat) : Int) = x by omega] at this
            simp only [stackyardref03_Set.j0, rone_f (show 1100 ≤ k by omega), onE, h, if_false, Option.bind_some, hx, stackyardref03_or.f]
            rw [if_neg (by simp), if_pos (by omega), if_pos (by rw [ones_length]; omega)]
            by_cases h5 : y = -2
            · rw [if_neg (by omega), if_neg (by omega), if_pos h5]
            · by_cases h6 : y = -1
              · rw [if_neg (by omega), if_pos h6, if_neg h5, if_pos h6]
              · rw [if_pos (by omega), if_pos (by omega), if_pos (by rw [ones_length]; omega), if_neg h6, if_neg h5, if_neg h6]
theorem seE_len (n x y : Int) : (seE n x y).2.1.length ≤ 1000 := by
  unfold seE
  by_cases h : outD n
  · simp [h]
  · have h0 : 0 ≤ n ∧ n ≤ 64 := by unfold outD at h; omega
    simp only [h, if_false]
    split
    · simp
    · split
      · simp only [List.length_set, ones_length]; omega
      · split
        · simp only [List.length_set, ones_length]; omega
        · simp only [List.length_set, ones_length]; omega
end Go.Proofs.YtnogmnmbakglcaaDoor.Pr
