import Derived.Lib.TrailingZeros
namespace Go.Proofs.YtnogmnmbakglcaaDoor
def bfd (s : Nat) : Nat → List Nat
  | 0 => []
  | d + 1 => if s.testBit (63 - d) then (63 - d) :: bfd s d else bfd s d
def bitsFrom (s k : Nat) : List Nat := bfd s (64 - k)
theorem bitsFrom_step {s k : Nat} (hk : k < 64) : bitsFrom s k = if s.testBit k then k :: bitsFrom s (k + 1) else bitsFrom s (k + 1) := by
  unfold bitsFrom
  obtain ⟨d, hd⟩ : ∃ d, 64 - k = d + 1 := ⟨63 - k, by omega⟩
  have e1 : 63 - d = k := by omega
  have e2 : 64 - (k + 1) = d := by omega
  rw [hd, e2, bfd, e1]
theorem bitsFrom_end {s k : Nat} (hk : 64 ≤ k) : bitsFrom s k = [] := by
  unfold bitsFrom; rw [show 64 - k = 0 by omega]; rfl
theorem bitsFrom_skip {s : Nat} (d : Nat) : ∀ {k : Nat}, k + d ≤ 64 → (∀ j, k ≤ j → j < k + d → s.testBit j = false) → bitsFrom s k = bitsFrom s (k + d) := by
  induction d with
  | zero => intro k _ _; rfl
  | succ d ih =>
    intro k hk h
    rw [bitsFrom_step (by omega), h k (by omega) (by omega), if_neg (by simp), ih (k := k + 1) (by omega) (fun j h1 h2 => h j (by omega) (by omega))]
    congr 1; omega
theorem bitsFrom_mem {s : Nat} (d : Nat) : ∀ {k i : Nat}, 64 - k = d → (i ∈ bitsFrom s k ↔ k ≤ i ∧ i < 64 ∧ s.testBit i = true) := by
  induction d with
  | zero => intro k i h; rw [bitsFrom_end (by omega)]; simp; omega
  | succ d ih =>
    intro k i h
    rw [bitsFrom_step (by omega)]
    have := ih (k := k + 1) (i := i) (by omega)
    by_cases hb : s.testBit k = true
    · rw [if_pos hb, List.mem_cons, this]
      constructor
      · rintro (rfl | ⟨h1, h2, h3⟩)
        · exact ⟨Nat.le_refl _, by omega, hb⟩
        · exact ⟨by omega, h2, h3⟩
      · rintro ⟨h1, h2, h3⟩
        by_cases e : i = k
        · exact .inl e
        · exact .inr ⟨by omega, h2, h3⟩
    · rw [if_neg hb, this]
      constructor
      · rintro ⟨h1, h2, h3⟩; exact ⟨by omega, h2, h3⟩
      · rintro ⟨h1, h2, h3⟩
        have : i ≠ k := by rintro rfl; exact hb h3
        exact ⟨by omega, h2, h3⟩
def cutLow (s k : Nat) : Nat := s / 2 ^ k * 2 ^ k
theorem cutLow_bit (s k i : Nat) : (cutLow s k).testBit i = (decide (k ≤ i) && s.testBit i) := by
  unfold cutLow
  rw [Nat.testBit_mul_two_pow, Nat.testBit_div_two_pow]
  by_cases h : k ≤ i
  · simp only [h, decide_true, Bool.true_and]; rw [show i - k + k = i by omega]
  · simp [h]
theorem cutLow_le (s k : Nat) : cutLow s k ≤ s := Nat.div_mul_le_self _ _
theorem ctz_low {t : Nat} (h0 : t ≠ 0) (h : t < 2 ^ 64) : Go.Lib.ctz 64 t < 64 ∧ t.testBit (Go.Lib.ctz 64 t) = true ∧ ∀ j, j < Go.Lib.ctz 64 t → t.testBit j = false := by
  obtain ⟨m, hm, hk⟩ := Go.Lib.ctzFrom_spec 64 t (by omega) h
  have e : Go.Lib.ctz 64 t = Go.Lib.ctzFrom 64 t := by unfold Go.Lib.ctz; rw [if_neg h0]
  rw [e]
  generalize Go.Lib.ctzFrom 64 t = k at hm hk
  subst hm
  refine ⟨hk, ?_, fun j hj => ?_⟩
  · rw [Nat.mul_comm, Nat.testBit_mul_two_pow]; simp [Nat.testBit_zero]
  · rw [Nat.mul_comm, Nat.testBit_mul_two_pow]; simp; omega
theorem next_none {s k : Nat} (h : cutLow s k = 0) : bitsFrom s k = [] := by
  by_cases hk : 64 ≤ k
  · exact bitsFrom_end hk
  · have := bitsFrom_skip (s := s) (64 - k) (k := k) (by omega) (fun j h1 _ => by
      have hb := cutLow_bit s k j
      rw [h] at hb
      simpa [h1] using hb.symm)
    rw [this, bitsFrom_end (by omega)]
theorem next_some {s k : Nat} (hs : s < 2 ^ 64) (h : cutLow s k ≠ 0) : k ≤ Go.Lib.ctz 64 (cutLow s k) ∧ Go.Lib.ctz 64 (cutLow s k) < 64 ∧ bitsFrom s k = Go.Lib.ctz 64 (cutLow s k) :: bitsFrom s (Go.Lib.ctz 64 (cutLow s k) + 1) := by
  obtain ⟨h1, h2, h3⟩ := ctz_low h (Nat.lt_of_le_of_lt (cutLow_le s k) hs)
  generalize Go.Lib.ctz 64 (cutLow s k) = i at h1 h2 h3
  rw [cutLow_bit] at h2
  simp only [Bool.and_eq_true, decide_eq_true_eq] at h2
  refine ⟨h2.1, h1, ?_⟩
  have := bitsFrom_skip (s := s) (i - k) (k := k) (by omega) (fun j hj1 hj2 => by
    have := h3 j (by omega)
    rw [cutLow_bit] at this
    simpa [hj1] using this)
  rw [this, show k + (i - k) = i by omega, bitsFrom_step h1, if_pos h2.2]
theorem bitsFrom_cons {s : Nat} (d : Nat) : ∀ {k i : Nat} {rest : List Nat}, 64 - k = d → bitsFrom s k = i :: rest → i < 64 ∧ rest = bitsFrom s (i + 1) := by
  induction d with
  | zero => intro k i rest h e; rw [bitsFrom_end (by omega)] at e; cases e
  | succ d ih =>
    intro k i rest h e
    rw [bitsFrom_step (by omega)] at e
    by_cases hb : s.testBit k = true
    · rw [if_pos hb] at e
      injection e with e1 e2
      subst e1
      exact ⟨by omega, e2.symm⟩
    · rw [if_neg hb] at e
      exact ih (by omega) e
theorem bfd_length (s d : Nat) : (bfd s d).length ≤ d := by
  induction d with
  | zero => simp [bfd]
  | succ d ih =>
    unfold bfd
    split
    · rw [List.length_cons]; omega
    · omega
theorem bitsFrom_length (s : Nat) : (bitsFrom s 0).length ≤ 64 := bfd_length s 64
end Go.Proofs.YtnogmnmbakglcaaDoor
