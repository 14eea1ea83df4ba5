import Derived.Test.YtapinbmkjkbkkaaLeP3
import Derived.Test.YtapinbmkjkbkkaaLeLbx12
namespace Go.Proofs.Ytapinbmkjkbkkaa.Pu
open Go.RowKit Go.Proofs.YtapinbmkjkbkkaaW.PrintWords Go.Proofs.YtapinbmkjkbkkaaW.PrintLast Go.Proofs.YtapinbmkjkbkkaaW.PrintMore Lb
def bl (b : List Bool) : Nat → Nat → List Int
  | _, 0 => []
  | p, d + 1 => if b.getD p false = true then (p : Int) :: bl b (p + 1) d else bl b (p + 1) d
theorem bl_none (b : List Bool) : ∀ (d p : Nat), (∀ q, p ≤ q → q < p + d → b.getD q false = false) → bl b p d = []
  | 0, _, _ => rfl
  | d + 1, p, h => by
    rw [bl, h p (Nat.le_refl _) (by omega), if_neg (by simp)]
    exact bl_none b d (p + 1) (fun q h1 h2 => h q (by omega) (by omega))
theorem bl_app (b : List Bool) : ∀ (d p d' : Nat), bl b p (d + d') = bl b p d ++ bl b (p + d) d'
  | 0, p, d' => by simp [bl]
  | d + 1, p, d' => by
    rw [show d + 1 + d' = (d + d') + 1 by omega, bl, bl, bl_app b d (p + 1) d', show p + 1 + d = p + (d + 1) by omega]
    split <;> simp
def listB (b : List Bool) : List Int := bl b 0 b.length
theorem mem_bl (b : List Bool) : ∀ (d p : Nat) (i : Int), i ∈ bl b p d ↔ ∃ n : Nat, i = n ∧ p ≤ n ∧ n < p + d ∧ In b n
  | 0, p, i => by simp [bl]; intro n; omega
  | d + 1, p, i => by
    have ih := mem_bl b d (p + 1) i
    rw [bl]
    by_cases h : b.getD p false = true
    · rw [if_pos h, List.mem_cons, ih]
      constructor
      · rintro (rfl | ⟨n, h1, h2, h3, h4⟩)
        · exact ⟨p, rfl, Nat.le_refl _, by omega, h⟩
        · exact ⟨n, h1, by omega, by omega, h4⟩
      · rintro ⟨n, h1, h2, h3, h4⟩
        rcases Nat.eq_or_lt_of_le h2 with rfl | h2
        · exact .inl h1
        · exact .inr ⟨n, h1, by omega, by omega, h4⟩
    · rw [if_neg h, ih]
      constructor
      · rintro ⟨n, h1, h2, h3, h4⟩; exact ⟨n, h1, by omega, by omega, h4⟩
      · rintro ⟨n, h1, h2, h3, h4⟩
        rcases Nat.eq_or_lt_of_le h2 with rfl | h2
        · exact absurd h4 h
        · exact ⟨n, h1, by omega, by omega, h4⟩
theorem in_lt {b : List Bool} {n : Nat} (h : In b n) : n < b.length := by
  rcases Nat.lt_or_ge n b.length with h1 | h1
  · exact h1
  · unfold In at h; rw [List.getD_eq_getElem?_getD, List.getElem?_eq_none h1] at h; simp at h
theorem mem_listB (b : List Bool) (i : Int) : i ∈ listB b ↔ ∃ n : Nat, i = n ∧ In b n := by
  unfold listB
  rw [mem_bl]
  constructor
  · rintro ⟨n, h1, _, _, h4⟩; exact ⟨n, h1, h4⟩
  · rintro ⟨n, h1, h4⟩; exact ⟨n, h1, Nat.zero_le _, by have := in_lt h4; omega, h4⟩
section
variable {m : Nat}
def shn (x n : Nat) : Nat := x / 2 ^ n
theorem wrap_id (x : Int) (h0 : 0 ≤ x) (h1 : x < 4611686018427387904) : wrap64 x = x := by unfold wrap64; omega
theorem wrap_at (i n : Nat) (hi : i < 64) (hn : n < 64) : wrap64 (wrap64 ((i : Int) * 64) + (n : Int)) = ((i * 64 + n : Nat) : Int) := by
  rw [wrap_id ((i : Int) * 64) (by omega) (by omega), wrap_id _ (by omega) (by omega)]
  omega
theorem shn_lt {x : Nat} (n : Nat) (hx : x < 2 ^ 64) : shn x n < 2 ^ 64 := Nat.lt_of_le_of_lt (Nat.div_le_self _ _) hx
theorem shn_64 {x : Nat} (hx : x < 2 ^ 64) : shn x 64 = 0 := Nat.div_eq_of_lt hx
theorem shn_bit (x n : Nat) : x.testBit n = decide (shn x n % 2 = 1) := Nat.testBit_eq_decide_div_mod_eq
theorem shr64 (x n : Nat) (hn : n ≤ 64) : shr .u64 (x : Int) (n : Int) = (shn x n : Int) := by
  rcases Nat.lt_or_ge n 64 with h | h
  · exact shr_u64 x n h
  · obtain rfl : n = 64 := by omega
    unfold shr shn
    rw [show min ((64 : Nat) : Int).toNat IntKind.u64.bits = 64 by decide]
    norm_cast
theorem and_one (q : Nat) (hq : q < 2 ^ 64) : Go.bits .and .u64 (q : Int) 1 = ((q % 2 : Nat) : Int) := by
  have := and_nat q 1 hq (by decide)
  rw [Nat.and_one_is_mod] at this
  exact this
theorem zero_bits {x n : Nat} (h : shn x n = 0) : ∀ q, n ≤ q → x.testBit q = false := by
  intro q hq
  have hp := Nat.two_pow_pos n
  have hlt : x < 2 ^ n := by
    rcases Nat.div_eq_zero_iff.mp h with h | h
    · omega
    · exact h
  exact Nat.testBit_lt_two_pow (Nat.lt_of_lt_of_le hlt (Nat.pow_le_pow_right (by omega) hq))
theorem at_div (i n : Nat) (h : n < 64) : (i * 64 + n) / 64 = i ∧ (i * 64 + n) % 64 = n := by omega
theorem rep_bit {B : List Int} {b : List Bool} (h : Rep m B b) (i n : Nat) (hn : n < 64) : b.getD (i * 64 + n) false = decide (shn (wd B i) n % 2 = 1) := by
  obtain ⟨e1, e2⟩ := at_div i n hn
  rw [← h.bit (i * 64 + n), e1, e2, shn_bit]
theorem list_word {B : List Int} {b : List Bool} (h : Rep m B b) (hm : m ≤ 4096) (i d : Nat) (hi : i < B.length)
    (ih : ∀ acc : List Int, acc.length ≤ (i + 1) * 64 → ∃ K, ∀ k, K ≤ k → nfa_some_list.l0 k acc B (B.length : Int) ((i + 1 : Nat) : Int) = some (acc ++ bl b ((i + 1) * 64) (64 * d))) :
    ∀ (D n : Nat) (acc : List Int), 64 - n = D → n ≤ 64 → acc.length ≤ i * 64 + n → ∃ K, ∀ k, K ≤ k → nfa_some_list.l1 k acc (i : Int) (wd B i : Int) (n : Int) B (B.length : Int) (i : Int) = some (acc ++ bl b (i * 64 + n) (D + 64 * d)) := by
  have hlB := h.lB
  have hlt := (rd_word h i).2
  have hi4 : i < 4611686018427387904 := by omega
  have HWI := Aside0.mk (wrap1 hi4)
  have hi64 : i < 64 := by omega
  have nextw : ∀ (D n : Nat) (acc : List Int), 64 - n = D → n ≤ 64 → acc.length ≤ i * 64 + n → shn (wd B i) n = 0 → ∃ K, ∀ k, K ≤ k → nfa_some_list.l1 k acc (i : Int) (wd B i : Int) (n : Int) B (B.length : Int) (i : Int) = some (acc ++ bl b (i * 64 + n) (D + 64 * d)) := by
    intro D n acc hD hn ha hz
    obtain ⟨K, hK⟩ := ih acc (by omega)
    refine ⟨K + 2, fun k hk => ?_⟩
    obtain ⟨k, rfl⟩ : ∃ q, k = q + 2 := ⟨k - 2, by omega⟩
    have hnil : bl b (i * 64 + n) D = [] := bl_none b D _ (fun q h1 h2 => by
      obtain ⟨r, rfl⟩ : ∃ r, q = i * 64 + r := ⟨q - i * 64, by omega⟩
      rw [rep_bit h i r (by omega), ← shn_bit]
      exact zero_bits hz r (by omega))
    have hsk : bl b (i * 64 + n) (D + 64 * d) = bl b ((i + 1) * 64) (64 * d) := by
      rw [bl_app, hnil, List.nil_append, show i * 64 + n + D = (i + 1) * 64 by omega]
    simp only [nfa_some_list.l1, nfa_some_list.j2]
    rw [if_pos (by omega), shr64 _ _ hn, hz, if_pos (by omega), if_neg (by simp), HWI.out, hK k (by omega), hsk]
  intro D
  induction D with
  | zero =>
    intro n acc hD hn ha
    obtain rfl : n = 64 := by omega
    exact nextw 0 64 acc hD hn ha (shn_64 hlt)
  | succ D ihD =>
    intro n acc hD hn ha
    by_cases hz : shn (wd B i) n = 0
    · exact nextw (D + 1) n acc hD hn ha hz
    · have hn64 : n < 64 := by omega
      have HWR := Aside0.mk (wrap1 (i := n) (by omega))
      have hbit := rep_bit h i n hn64
      have hq2 := shn_lt n hlt
      have HVAL := Aside0.mk (wrap_at i n hi64 hn64)
      have hsplit : bl b (i * 64 + n) (D + 1 + 64 * d) = (if b.getD (i * 64 + n) false = true then ((i * 64 + n : Nat) : Int) :: bl b (i * 64 + (n + 1)) (D + 64 * d) else bl b (i * 64 + (n + 1)) (D + 64 * d)) := by
        rw [show D + 1 + 64 * d = (D + 64 * d) + 1 by omega, bl]
        rfl
      have hn0 : (0 : Int) ≤ (n : Int) := by omega
      have hdn : decide ((n : Int) < 64) = true := decide_eq_true (by omega)
      have hzi : ¬ ((shn (wd B i) n : Nat) : Int) = 0 := by omega
      have hand := and_one _ hq2
      by_cases hb : shn (wd B i) n % 2 = 1
      · obtain ⟨K, hK⟩ := ihD (n + 1) (acc ++ [((i * 64 + n : Nat) : Int)]) (by omega) (by omega) (by simp; omega)
        refine ⟨K + 2, fun k hk => ?_⟩
        obtain ⟨k, rfl⟩ : ∃ q, k = q + 2 := ⟨k - 2, by omega⟩
        have hacc : acc.length < 17592186044416 := by omega
        have hk' := hK k (by omega)
        rw [hb] at hand
        rw [hsplit, hbit, decide_eq_true hb, if_pos rfl]
        simp only [nfa_some_list.l1, nfa_some_list.j2]
        rw [if_pos hn0, shr64 _ _ hn, if_neg hzi, hdn, if_pos rfl, if_pos hn0, hand, if_pos (by decide), if_pos hacc, HVAL.out, HWR.out, hk']
        simp
      · obtain ⟨K, hK⟩ := ihD (n + 1) acc (by omega) (by omega) (by omega)
        refine ⟨K + 2, fun k hk => ?_⟩
        obtain ⟨k, rfl⟩ : ∃ q, k = q + 2 := ⟨k - 2, by omega⟩
        have hk' := hK k (by omega)
        rw [show shn (wd B i) n % 2 = 0 by omega] at hand
        rw [hsplit, hbit, decide_eq_false hb, if_neg (by simp)]
        simp only [nfa_some_list.l1, nfa_some_list.j2]
        rw [if_pos hn0, shr64 _ _ hn, if_neg hzi, hdn, if_pos rfl, if_pos hn0, hand, if_neg (by decide), HWR.out, hk']
theorem list_l0 {B : List Int} {b : List Bool} (h : Rep m B b) (hm : m ≤ 4096) : ∀ (d i : Nat) (acc : List Int), B.length - i = d → i ≤ B.length → acc.length ≤ i * 64 →
    ∃ K, ∀ k, K ≤ k → nfa_some_list.l0 k acc B (B.length : Int) (i : Int) = some (acc ++ bl b (i * 64) (64 * d)) := by
  intro d
  induction d with
  | zero =>
    intro i acc hd hi ha
    refine ⟨1, fun k hk => ?_⟩
    obtain ⟨k, rfl⟩ : ∃ q, k = q + 1 := ⟨k - 1, by omega⟩
    simp only [nfa_some_list.l0]
    rw [if_neg (by omega)]
    simp [bl]
  | succ d ih =>
    intro i acc hd hi ha
    obtain ⟨K, hK⟩ := list_word h hm i d (by omega) (fun acc ha => ih (i + 1) acc (by omega) (by omega) ha) 64 0 acc rfl (by omega) ha
    refine ⟨K + 1, fun k hk => ?_⟩
    obtain ⟨k, rfl⟩ : ∃ q, k = q + 1 := ⟨k - 1, by omega⟩
    simp only [nfa_some_list.l0]
    rw [if_pos (by omega), if_pos (by omega), if_pos (by omega), (rd_word h i).1]
    have := hK k (by omega)
    rw [show 64 * (d + 1) = 64 + 64 * d by omega]
    exact this
theorem list_f {B : List Int} {b : List Bool} (h : Rep m B b) (hm : m ≤ 4096) : ∃ K, ∀ k, K ≤ k → nfa_some_list.f k B = some (listB b) := by
  obtain ⟨K, hK⟩ := list_l0 h hm B.length 0 [] rfl (Nat.zero_le _) (by simp)
  refine ⟨K, fun k hk => ?_⟩
  unfold nfa_some_list.f
  have := hK k hk
  rw [List.nil_append, Nat.zero_mul] at this
  rw [show (0 : Int) = ((0 : Nat) : Int) from rfl, this]
  unfold listB
  have hl := h.lB
  have hb := h.lb
  have hz : bl b (0 + b.length) (64 * B.length - b.length) = [] := bl_none b _ _ (fun q h1 h2 => by
    rw [List.getD_eq_getElem?_getD, List.getElem?_eq_none (by omega)]
    rfl)
  rw [show 64 * B.length = b.length + (64 * B.length - b.length) by omega, bl_app, hz, List.append_nil]
end
end Go.Proofs.Ytapinbmkjkbkkaa.Pu
