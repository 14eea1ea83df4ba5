import Derived.Test.YtnogmnmbakglcaaDoorRgPm
import Derived.Test.YtnogmnmbakglcaaDoorRgPrx4
import Derived.Outline
namespace Go.Proofs.YtnogmnmbakglcaaDoor.Pr
open Go.RowKit Go.Proofs.YtnogmnmbakglcaaDoorW.PrintWords Go.Proofs.YtnogmnmbakglcaaDoorW.PrintLast Go.Proofs.YtnogmnmbakglcaaDoorW.PrintMore
def ones (i : Nat) : Nat → List Int
  | 0 => []
  | d + 1 => ((2 ^ i : Nat) : Int) :: ones (i + 1) d
theorem ones_length (d : Nat) : ∀ i, (ones i d).length = d := by
  induction d with
  | zero => intro i; rfl
  | succ d ih => intro i; simp [ones, ih]
theorem shl_one {i : Nat} (hi : i < 64) : shl .u64 1 (IntKind.u64.wrap (i : Int)) = ((2 ^ i : Nat) : Int) := by
  have e : IntKind.u64.wrap (i : Int) = (i : Int) := by rw [IntKind.wrap_u64]; omega
  have h : 2 ^ i < 2 ^ 64 := Nat.pow_lt_pow_right (by omega) hi
  rw [e]
  unfold shl
  show IntKind.u64.wrap (1 * 2 ^ min (i : Int).toNat 64) = _
  rw [show min (i : Int).toNat 64 = i by omega, Int.one_mul, show ((2 : Int) ^ i) = ((2 ^ i : Nat) : Int) by push_cast; rfl, IntKind.wrap_u64]
  generalize 2 ^ i = p at *
  omega
theorem one_l0 {n : Nat} (hn : n ≤ 64) : ∀ (d i k : Nat) (out : List Int), n - i = d → i ≤ n → out.length = n → d < k → facts_One.l0 k (n : Int) (i : Int) 0 out = some (0, out.take i ++ ones i d, 0) := by
  intro d
  induction d with
  | zero =>
    intro i k out hd hi ho hk
    obtain ⟨k, rfl⟩ : ∃ m, k = m + 1 := ⟨k - 1, by omega⟩
    simp only [facts_One.l0]
    rw [if_neg (by omega), List.take_of_length_le (by omega)]
    simp [ones]
  | succ d ih =>
    intro i k out hd hi ho hk
    obtain ⟨k, rfl⟩ : ∃ m, k = m + 1 := ⟨k - 1, by omega⟩
    simp only [facts_One.l0]
    have e : IntKind.u64.wrap (i : Int) = (i : Int) := by rw [IntKind.wrap_u64]; omega
    rw [shl_one (by omega), e, if_pos (by omega), if_pos (by omega), if_pos (by omega), if_pos (by omega), w_step (by omega) (by omega), show ((i : Int) + 1) = ((i + 1 : Nat) : Int) by omega,
      ih (i + 1) k _ (by omega) (by omega) (by simpa using ho) (by omega), Int.toNat_natCast, take_set _ _ _ (by omega), List.append_assoc]; rfl
def onE (n : Int) : Int × List Int × Int := if outD n then (0, [], 31) else (0, ones 0 n.toNat, 0)
theorem one_f {n : Int} {k : Nat} (hk : 1100 ≤ k) : facts_One.f k n = some (onE n) := by
  unfold facts_One.f onE
  by_cases h : outD n
  · rw [full_out_f h]; simp [h]
  · have h0 : 0 ≤ n ∧ n ≤ 64 := by unfold outD at h; omega
    rw [full_in_f h0.1 h0.2]
    obtain ⟨m, rfl⟩ := Int.eq_ofNat_of_zero_le h0.1
    simp only [Option.bind_some, h, if_false, if_true]
    rw [if_pos (by omega), if_pos (by omega)]
    simp only [Int.toNat_natCast, List.length_replicate]
    have := one_l0 (n := m) (by omega) m 0 k (List.replicate m 0) (by omega) (by omega) (by simp) (by omega)
    simpa using this
end Go.Proofs.YtnogmnmbakglcaaDoor.Pr
