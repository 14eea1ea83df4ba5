import Derived.Test.YtnogmnmbakglcaaDoorRgPrx0
import Derived.Test.YtnogmnmbakglcaaDoorRgPrx1
import Derived.Test.YtnogmnmbakglcaaDoorRgPrx2
import Derived.Test.YtnogmnmbakglcaaDoorRgPrx3
import Derived.Test.YtnogmnmbakglcaaDoorRgPrx4
import Derived.Test.YtnogmnmbakglcaaDoorRgPrx5
import Derived.Test.YtnogmnmbakglcaaDoorRgPrx6
import Derived.Test.YtnogmnmbakglcaaDoorRgPrx7
import Derived.Test.YtnogmnmbakglcaaDoorRgPrx8
import Derived.Test.YtnogmnmbakglcaaDoorRgPrx9
import Derived.Test.YtnogmnmbakglcaaDoorRgPrx11
import Derived.Test.YtnogmnmbakglcaaDoorRgPrx13
namespace Go.Proofs.YtnogmnmbakglcaaDoor.Pr
open Go.RowKit Go.Proofs.YtnogmnmbakglcaaDoorW.PrintWords Go.Proofs.YtnogmnmbakglcaaDoorW.PrintLast Go.Proofs.YtnogmnmbakglcaaDoorW.PrintMore
def U (x : Int) : Prop := 0 ≤ x ∧ x < 18446744073709551616
def UL (l : List Int) : Prop := ∀ x, x ∈ l → U x
theorem U_wrap (x : Int) : U (IntKind.u64.wrap x) := by
  rw [IntKind.wrap_u64]; unfold U; omega
theorem U_bits (op : BinOp) (a b : Int) : U (Go.bits op .u64 a b) := by cases op <;> exact U_wrap _
theorem w_step {i : Int} (h0 : 0 ≤ i) (h1 : i ≤ 1000) : wrap64 (i + 1) = i + 1 := by unfold wrap64; omega
theorem rd_at {l : List Int} {i : Nat} (h : i < l.length) : rd l (i : Int) = l[i] := by unfold rd; simp [List.getElem?_eq_getElem h]
theorem full_in_f {n : Int} (h0 : 0 ≤ n) (h1 : n ≤ 64) : bits_Full.f n = some (fullI n, 0) := by
  unfold bits_Full.f
  have e : IntKind.u64.wrap (wrap64 (64 - n)) = 64 - n := by rw [IntKind.wrap_u64]; unfold wrap64; omega
  rw [if_neg (by omega), if_neg (by omega), e, if_pos (by omega)]
  have e2 : min (64 - n).toNat 64 = (64 - n).toNat := by omega
  unfold shr fullI
  show some (18446744073709551615 / 2 ^ min (64 - n).toNat 64, (0 : Int)) = _
  rw [e2]
theorem full_out_f {n : Int} (h : n < 0 ∨ 64 < n) : bits_Full.f n = some (0, 10) := by
  unfold bits_Full.f
  rcases h with h | h
  · rw [if_pos h]
  · by_cases h' : n < 0
    · rw [if_pos h']
    · rw [if_neg h', if_pos (by omega)]
theorem fullI_tab : ∀ m : Fin 65, (18446744073709551615 : Nat) / 2 ^ (64 - m.val) = 2 ^ m.val - 1 := by decide +kernel
theorem fullI_pow (m : Nat) (hm : m ≤ 64) : fullI (m : Int) = ((2 ^ m - 1 : Nat) : Int) := by
  have h := fullI_tab ⟨m, by omega⟩
  have e : fullI (m : Int) = ((18446744073709551615 / 2 ^ (64 - m) : Nat) : Int) := by
    unfold fullI
    rw [show (64 - (m : Int)).toNat = 64 - m by omega]
    exact (Int.natCast_ediv _ _).symm
  rw [e]
  exact congrArg _ h
theorem worth_l0 : ∀ (x k : Nat) (v : Nat), x < k → x ≤ 1000 → v * 2 ^ x < 18446744073709551616 → stackyardref01_Worth.l0 k (x : Int) (v : Int) = some ((v * 2 ^ x : Nat) : Int) := by
  intro x
  induction x with
  | zero =>
    intro k v hk hx hv
    obtain ⟨k, rfl⟩ : ∃ m, k = m + 1 := ⟨k - 1, by omega⟩
    simp [stackyardref01_Worth.l0]
  | succ x ih =>
    intro k v hk hx hv
    obtain ⟨k, rfl⟩ : ∃ m, k = m + 1 := ⟨k - 1, by omega⟩
    have e : v * 2 * 2 ^ x = v * 2 ^ (x + 1) := by rw [Nat.pow_succ, Nat.mul_assoc, Nat.mul_comm 2]
    have hv' : v * 2 * 2 ^ x < 18446744073709551616 := by rw [e]; exact hv
    have h1 : v * 2 ≤ v * 2 * 2 ^ x := Nat.le_mul_of_pos_right _ (Nat.two_pow_pos x)
    have hv2 : v * 2 < 18446744073709551616 := Nat.lt_of_le_of_lt h1 hv'
    simp only [stackyardref01_Worth.l0]
    rw [if_pos (by omega)]
    rw [show wrap64 (((x + 1 : Nat) : Int) - 1) = ((x : Nat) : Int) by unfold wrap64; omega]
    have w2 : IntKind.u64.wrap ((v : Int) * 2) = ((v * 2 : Nat) : Int) := by rw [IntKind.wrap_u64]; omega
    rw [w2, ih k (v * 2) (by omega) (by omega) hv', e]
theorem worth_f {i k : Nat} (hi : i < 64) (hk : 64 ≤ k) : stackyardref01_Worth.f k (i : Int) = some ((2 ^ i : Nat) : Int) := by
  have h : 2 ^ i < 2 ^ 64 := Nat.pow_lt_pow_right (by omega) hi
  have := worth_l0 i k 1 (by omega) (by omega) (by rw [Nat.one_mul]; exact h)
  rw [Nat.one_mul] at this
  exact this
theorem rfull_l0 {n : Nat} (hn : n ≤ 64) : ∀ (d i k : Nat), n - i = d → i ≤ n → d + 70 < k → stackyardref01_Full.l0 k (n : Int) ((2 ^ i - 1 : Nat) : Int) (i : Int) = some (((2 ^ n - 1 : Nat) : Int), 0) := by
  intro d
  induction d with
  | zero =>
    intro i k hd hi hk
    obtain ⟨k, rfl⟩ : ∃ m, k = m + 1 := ⟨k - 1, by omega⟩
    obtain rfl : i = n := by omega
    simp only [stackyardref01_Full.l0]
    rw [if_neg (by omega)]
  | succ d ih =>
    intro i k hd hi hk
    obtain ⟨k, rfl⟩ : ∃ m, k = m + 1 := ⟨k - 1, by omega⟩
    simp only [stackyardref01_Full.l0]
    rw [if_pos (by omega), worth_f (by omega) (by omega)]
    simp only [Option.bind_some]
    have h1 : 2 ^ i < 2 ^ 64 := Nat.pow_lt_pow_right (by omega) (by omega)
    have h2 : 0 < 2 ^ i := Nat.two_pow_pos i
    have h3 : 2 ^ (i + 1) ≤ 2 ^ 64 := Nat.pow_le_pow_right (by omega) (by omega)
    have h4 : 2 ^ (i + 1) = 2 * 2 ^ i := by rw [Nat.pow_succ, Nat.mul_comm]
    have e : IntKind.u64.wrap (((2 ^ i - 1 : Nat) : Int) + ((2 ^ i : Nat) : Int)) = ((2 ^ (i + 1) - 1 : Nat) : Int) := by
      rw [h4, IntKind.wrap_u64]
      generalize 2 ^ i = p at *
      omega
    rw [e, w_step (by omega) (by omega)]
    exact ih (i + 1) k (by omega) (by omega) (by omega)
theorem rfull_in {n : Int} {k : Nat} (h0 : 0 ≤ n) (h1 : n ≤ 64) (hk : 150 ≤ k) : stackyardref01_Full.f k n = some (fullI n, 0) := by
  obtain ⟨m, rfl⟩ := Int.eq_ofNat_of_zero_le h0
  obtain ⟨k, rfl⟩ : ∃ j, k = j + 1 := ⟨k - 1, by omega⟩
  unfold stackyardref01_Full.f
  rw [if_neg (by omega), decide_eq_false (by omega)]
  simp only [stackyardref01_Full.j0]
  rw [if_neg (by simp), fullI_pow m (by omega)]
  exact rfull_l0 (by omega) m 0 k (by omega) (by omega) (by omega)
theorem inside_in {n s : Int} {k : Nat} (h0 : 0 ≤ n) (h1 : n ≤ 64) (hk : 150 ≤ k) : stackyardref03_Inside.f k n s = some (Go.bits .andNot .u64 s (fullI n) == 0) := by
  unfold stackyardref03_Inside.f
  rw [rfull_in h0 h1 hk]; rfl
def okSh (n g : Int) (l : List Int) : Bool := ((l.length : Int) == n) && (Go.bits .andNot .u64 g (fullI n) == 0) && !(badFrom (fullI n) l 0)
abbrev outD (n : Int) : Prop := n < 0 ∨ 64 < n
theorem shaped_f (n g : Int) (l : List Int) : facts_shaped.f n g l = some (if outD n then 31 else if okSh n g l = true then 0 else 30) := by
  unfold facts_shaped.f okSh
  by_cases h : n < 0 ∨ 64 < n
  · rw [if_pos h, if_pos h]
  · rw [if_neg h, if_neg h]
    cases hb : badFrom (fullI n) l 0 <;> by_cases h1 : (l.length : Int) = n <;> by_cases h2 : Go.bits .andNot .u64 g (fullI n) = 0 <;> simp [h1, h2]
theorem rshape_l0 {n g : Int} {l : List Int} (h0 : 0 ≤ n) (h1 : n ≤ 64) (hl : (l.length : Int) = n) : ∀ (d i k : Nat), l.length - i = d → i ≤ l.length → d + 200 < k → stackyardref03_shape.l0 k n (i : Int) g l = some (!(badFrom (fullI n) l i)) := by
  intro d
  induction d with
  | zero =>
    intro i k hd hi hk
    obtain ⟨k, rfl⟩ : ∃ m, k = m + 1 := ⟨k - 1, by omega⟩
    simp only [stackyardref03_shape.l0]
    rw [if_neg (by omega), badFrom_end (by omega)]; rfl
  | succ d ih =>
    intro i k hd hi hk
    obtain ⟨k, rfl⟩ : ∃ m, k = m + 1 := ⟨k - 1, by omega⟩
    simp only [stackyardref03_shape.l0]
    rw [if_pos (by omega), if_pos (by omega), if_pos (by omega), inside_in h0 h1 (by omega), badFrom_step (by omega)]
    simp only [Option.bind_some]
    unfold badB
    by_cases hb : Go.bits .andNot .u64 (rd l (i : Int)) (fullI n) = 0
    · rw [if_pos (by simp [hb]), w_step (by omega) (by omega)]
      have := ih (i + 1) k (by omega) (by omega) (by omega)
      rw [show ((i : Int) + 1) = ((i + 1 : Nat) : Int) by omega, this]
      simp [hb]
    · rw [if_neg (by simp [hb])]
      simp [hb]
theorem rshape_f {n g : Int} {l : List Int} {k : Nat} (h0 : 0 ≤ n) (h1 : n ≤ 64) (hk : 400 ≤ k) : stackyardref03_shape.f k n g l = some (okSh n g l) := by
  obtain ⟨k, rfl⟩ : ∃ j, k = j + 1 := ⟨k - 1, by omega⟩
  unfold stackyardref03_shape.f okSh
  by_cases hl : (l.length : Int) = n
  · rw [if_pos hl, inside_in h0 h1 (by omega)]
    simp only [Option.bind_some, stackyardref03_shape.j0]
    by_cases hg : Go.bits .andNot .u64 g (fullI n) = 0
    · rw [if_neg (by simp [hg]), show (0 : Int) = ((0 : Nat) : Int) from rfl, rshape_l0 h0 h1 hl l.length 0 k (by omega) (by omega) (by omega)]
      simp [hl, hg]
    · rw [if_pos (by simp [hg])]
      simp [hg]
  · rw [if_neg hl]
    simp only [stackyardref03_shape.j0]
    rw [if_pos trivial]
    simp [hl]
def cn (g : Int) (l : List Int) : List Int := l.map fun x => Go.bits .andNot .u64 x g
theorem cn_cons (g a : Int) (l : List Int) : cn g (a :: l) = Go.bits .andNot .u64 a g :: cn g l := rfl
theorem take_set (out : List Int) (i : Nat) (v : Int) (h : i < out.length) : (out.set i v).take (i + 1) = out.take i ++ [v] := by
  rw [List.take_add_one, List.take_set_of_le (Nat.le_refl i)]
  simp [h]
theorem cn_length (g : Int) (l : List Int) : (cn g l).length = l.length := by simp [cn]
theorem cn_UL (g : Int) (l : List Int) : UL (cn g l) := by
  intro x hx
  obtain ⟨y, _, rfl⟩ := List.mem_map.1 hx
  exact U_bits _ _ _
theorem canon_l0 {g : Int} {l : List Int} (hl : l.length ≤ 1000) : ∀ (d i k : Nat) (out : List Int), l.length - i = d → i ≤ l.length → out.length = l.length → d < k →
    facts_canon.l0 k l (l.length : Int) (i : Int) g l g out = some (g, out.take i ++ cn g (l.drop i)) := by
  intro d
  induction d with
  | zero =>
    intro i k out hd hi ho hk
    obtain ⟨k, rfl⟩ : ∃ m, k = m + 1 := ⟨k - 1, by omega⟩
    simp only [facts_canon.l0]
    rw [if_neg (by omega), List.drop_eq_nil_of_le (by omega), List.take_of_length_le (by omega)]
    simp [cn]
  | succ d ih =>
    intro i k out hd hi ho hk
    obtain ⟨k, rfl⟩ : ∃ m, k = m + 1 := ⟨k - 1, by omega⟩
    simp only [facts_canon.l0]
    rw [if_pos (by omega), if_pos (by omega), if_pos (by omega), if_pos (by omega), w_step (by omega) (by omega), show ((i : Int) + 1) = ((i + 1 : Nat) : Int) by omega,
      ih (i + 1) k _ (by omega) (by omega) (by simpa using ho) (by omega), Int.toNat_natCast]
    congr 2
    rw [List.drop_eq_getElem_cons (by omega : i < l.length), rd_at (by omega : i < l.length), cn_cons, take_set _ _ _ (by omega), List.append_assoc]; rfl
theorem canon_f {g : Int} {l : List Int} {k : Nat} (hl : l.length ≤ 1000) (hk : 1100 ≤ k) : facts_canon.f k g l = some (g, cn g l) := by
  unfold facts_canon.f
  rw [if_pos (by omega), if_pos (by omega), Int.toNat_natCast]
  have := canon_l0 (g := g) hl l.length 0 k (List.replicate l.length 0) (by omega) (by omega) (by simp) (by omega)
  simpa using this
theorem rcanon_l0 {g : Int} {l : List Int} (hl : l.length ≤ 1000) : ∀ (d i k : Nat) (out : List Int), l.length - i = d → i ≤ l.length → out.length = i → d < k →
    stackyardref03_canon.l0 k (i : Int) g l g out = some (g, out ++ cn g (l.drop i)) := by
  intro d
  induction d with
  | zero =>
    intro i k out hd hi ho hk
    obtain ⟨k, rfl⟩ : ∃ m, k = m + 1 := ⟨k - 1, by omega⟩
    simp only [stackyardref03_canon.l0]
    rw [if_neg (by omega), List.drop_eq_nil_of_le (by omega)]
    simp [cn]
  | succ d ih =>
    intro i k out hd hi ho hk
    obtain ⟨k, rfl⟩ : ∃ m, k = m + 1 := ⟨k - 1, by omega⟩
    simp only [stackyardref03_canon.l0]
    rw [if_pos (by omega), if_pos (by omega), if_pos (by omega), w_step (by omega) (by omega), show ((i : Int) + 1) = ((i + 1 : Nat) : Int) by omega,
      ih (i + 1) k _ (by omega) (by omega) (by simp; omega) (by omega)]
    rw [List.drop_eq_getElem_cons (by omega : i < l.length), rd_at (by omega : i < l.length), cn_cons, List.append_assoc]; rfl
theorem rcanon_f {g : Int} {l : List Int} {k : Nat} (hl : l.length ≤ 1000) (hk : 1100 ≤ k) : stackyardref03_canon.f k g l = some (g, cn g l) := by
  unfold stackyardref03_canon.f
  have := rcanon_l0 (g := g) hl l.length 0 k [] (by omega) (by omega) rfl (by omega)
  simpa using this
theorem drop_step {l m : List Int} {i : Nat} (hi : i < l.length) (hm : i < m.length) : (l.drop i = m.drop i) ↔ (rd l (i : Int) = rd m (i : Int) ∧ l.drop (i + 1) = m.drop (i + 1)) := by
  rw [List.drop_eq_getElem_cons hi, List.drop_eq_getElem_cons hm, rd_at hi, rd_at hm, List.cons.injEq]
theorem equal_l0 {l m : List Int} (hl : l.length ≤ 1000) (hm : l.length = m.length) : ∀ (d i k : Nat), l.length - i = d → i ≤ l.length → d < k → slices_Equal_uint64_uint64.l0 k l m (l.length : Int) (i : Int) = some (decide (l.drop i = m.drop i)) := by
  intro d
  induction d with
  | zero =>
    intro i k hd hi hk
    obtain ⟨k, rfl⟩ : ∃ m, k = m + 1 := ⟨k - 1, by omega⟩
    simp only [slices_Equal_uint64_uint64.l0]
    rw [if_neg (by omega), List.drop_eq_nil_of_le (by omega), List.drop_eq_nil_of_le (by omega)]; rfl
  | succ d ih =>
    intro i k hd hi hk
    obtain ⟨k, rfl⟩ : ∃ m, k = m + 1 := ⟨k - 1, by omega⟩
    simp only [slices_Equal_uint64_uint64.l0]
    rw [if_pos (by omega), if_pos (by omega), if_pos (by omega), if_pos (by omega)]
    by_cases he : rd l (i : Int) = rd m (i : Int)
    · rw [if_pos he, w_step (by omega) (by omega), show ((i : Int) + 1) = ((i + 1 : Nat) : Int) by omega, ih (i + 1) k (by omega) (by omega) (by omega)]
      congr 1
      rw [decide_eq_decide]
      have hs := drop_step (l := l) (m := m) (i := i) (by omega) (by omega)
      exact ⟨fun h => hs.2 ⟨he, h⟩, fun h => (hs.1 h).2⟩
    · rw [if_neg he]
      congr 1
      symm
      rw [decide_eq_false_iff_not]
      have hs := drop_step (l := l) (m := m) (i := i) (by omega) (by omega)
      exact fun h => he (hs.1 h).1
theorem same_f {g h : Int} {l m : List Int} {k : Nat} (hl : l.length ≤ 1000) (hk : 1100 ≤ k) : facts_Same.f k g l h m = some (decide (g = h ∧ l = m)) := by
  unfold facts_Same.f slices_Equal_uint64_uint64.f
  by_cases hg : g = h
  · rw [if_pos hg]
    by_cases hm : l.length = m.length
    · rw [if_pos (by omega)]
      have := equal_l0 hl hm l.length 0 k (by omega) (by omega) (by omega)
      simp only [List.drop_zero] at this
      rw [show (0 : Int) = ((0 : Nat) : Int) from rfl, this]
      simp [hg]
    · rw [if_neg (by omega)]
      have : ¬ l = m := fun h => hm (by rw [h])
      simp [this]
  · rw [if_neg hg]; simp [hg]
theorem rsame_l0 {g h : Int} {l m : List Int} (hl : l.length ≤ 1000) (hm : l.length = m.length) : ∀ (d i k : Nat), l.length - i = d → i ≤ l.length → d < k → stackyardref03_Same.l0 k (i : Int) g l h m = some (decide (l.drop i = m.drop i)) := by
  intro d
  induction d with
  | zero =>
    intro i k hd hi hk
    obtain ⟨k, rfl⟩ : ∃ m, k = m + 1 := ⟨k - 1, by omega⟩
    simp only [stackyardref03_Same.l0]
    rw [if_neg (by omega), List.drop_eq_nil_of_le (by omega), List.drop_eq_nil_of_le (by omega)]; rfl
  | succ d ih =>
    intro i k hd hi hk
    obtain ⟨k, rfl⟩ : ∃ m, k = m + 1 := ⟨k - 1, by omega⟩
    simp only [stackyardref03_Same.l0]
    rw [if_pos (by omega), if_pos (by omega), if_pos (by omega)]
    by_cases he : rd l (i : Int) = rd m (i : Int)
    · rw [if_pos he, w_step (by omega) (by omega), show ((i : Int) + 1) = ((i + 1 : Nat) : Int) by omega, ih (i + 1) k (by omega) (by omega) (by omega)]
      congr 1
      rw [decide_eq_decide]
      have hs := drop_step (l := l) (m := m) (i := i) (by omega) (by omega)
      exact ⟨fun h => hs.2 ⟨he, h⟩, fun h => (hs.1 h).2⟩
    · rw [if_neg he]
      congr 1
      symm
      rw [decide_eq_false_iff_not]
      have hs := drop_step (l := l) (m := m) (i := i) (by omega) (by omega)
      exact fun h => he (hs.1 h).1
theorem rsame_f {g h : Int} {l m : List Int} {k : Nat} (hl : l.length ≤ 1000) (hk : 1100 ≤ k) : stackyardref03_Same.f k g l h m = some (decide (g = h ∧ l = m)) := by
  obtain ⟨k, rfl⟩ : ∃ j, k = j + 1 := ⟨k - 1, by omega⟩
  unfold stackyardref03_Same.f
  simp only [stackyardref03_Same.j0]
  by_cases hg : g = h
  · rw [if_pos hg]
    by_cases hm : l.length = m.length
    · rw [if_neg (by simp [hm])]
      have := rsame_l0 (g := g) (h := h) hl hm l.length 0 k (by omega) (by omega) (by omega)
      simp only [List.drop_zero] at this
      rw [show (0 : Int) = ((0 : Nat) : Int) from rfl, this]
      simp [hg]
    · rw [if_pos (by simp; omega)]
      have : ¬ l = m := fun h => hm (by rw [h])
      simp [this]
  · rw [if_neg hg]; simp [hg]
def ckE (n g : Int) (l : List Int) : Int := if outD n then 31 else if okSh n g l = true ∧ cn g l = l then 0 else 30
theorem check_f {n g : Int} {l : List Int} {k : Nat} (hl : l.length ≤ 1000) (hk : 1100 ≤ k) : facts_Check.f k n g l = some (ckE n g l) := by
  unfold facts_Check.f ckE
  rw [shaped_f]
  simp only [Option.bind_some]
  by_cases h : outD n
  · simp [h]
  · by_cases h2 : okSh n g l = true
    · simp only [h, h2, if_false, if_true, canon_f hl hk, Option.bind_some]
      rw [same_f (by rw [cn_length]; exact hl) hk]
      by_cases h3 : cn g l = l <;> simp [h3]
    · simp [h, h2]
theorem rdim_f (n : Int) : stackyardref03_dim.f n = some (decide (¬ outD n)) := by
  unfold stackyardref03_dim.f
  by_cases h : n ≥ 0
  · rw [if_pos h]; congr 1; rw [decide_eq_decide]; unfold outD; omega
  · rw [if_neg h]; congr 1; symm; rw [decide_eq_false_iff_not]; unfold outD; omega
theorem rcheck_f {n g : Int} {l : List Int} {k : Nat} (hl : l.length ≤ 1000) (hk : 1100 ≤ k) : stackyardref03_Check.f k n g l = some (ckE n g l) := by
  unfold stackyardref03_Check.f ckE
  rw [rdim_f]
  simp only [Option.bind_some]
  by_cases h : outD n
  · simp [h]
  · have h0 : 0 ≤ n ∧ n ≤ 64 := by unfold outD at h; omega
    simp only [h, not_false_eq_true, decide_true, if_true, if_false, rshape_f h0.1 h0.2 (show 400 ≤ k by omega), Option.bind_some]
    by_cases h2 : okSh n g l = true
    · simp only [h2, if_true, rcanon_f hl hk, Option.bind_some]
      rw [rsame_f (by rw [cn_length]; exact hl) hk]
      by_cases h3 : cn g l = l <;> simp [h3]
    · simp [h2]
theorem ckE_ok {n g : Int} {l : List Int} (h : ckE n g l = 0) : ¬ outD n ∧ okSh n g l = true ∧ cn g l = l := by
  unfold ckE at h
  split at h
  · simp at h
  · split at h
    · rename_i h1 h2; exact ⟨h1, h2⟩
    · simp at h
def ck2 (n g1 : Int) (l1 : List Int) (g2 : Int) (l2 : List Int) : Int := if ckE n g1 l1 = 0 then ckE n g2 l2 else ckE n g1 l1
theorem checked_f {n g1 g2 : Int} {l1 l2 : List Int} {k : Nat} (h1 : l1.length ≤ 1000) (h2 : l2.length ≤ 1000) (hk : 1110 ≤ k) : facts_checked.f k n [⟨g1, l1⟩, ⟨g2, l2⟩] = some (ck2 n g1 l1 g2 l2) := by
  obtain ⟨k, rfl⟩ : ∃ j, k = j + 3 := ⟨k - 3, by omega⟩
  have e0 : rd_T25 [⟨g1, l1⟩, ⟨g2, l2⟩] 0 = ⟨g1, l1⟩ := rfl
  have e1 : rd_T25 [⟨g1, l1⟩, ⟨g2, l2⟩] 1 = ⟨g2, l2⟩ := rfl
  have w0 : wrap64 (0 + 1) = 1 := by unfold wrap64; omega
  have w1 : wrap64 (1 + 1) = 2 := by unfold wrap64; omega
  unfold facts_checked.f ck2
  simp only [facts_checked.l0, List.length_cons, List.length_nil, e0]
  rw [if_pos (by omega), if_pos (by omega), if_pos (by omega), check_f h1 (by omega)]
  simp only [Option.bind_some]
  by_cases hc : ckE n g1 l1 = 0
  · simp only [hc, if_true, w0, e1]
    rw [if_pos (by omega), if_pos (by omega), if_pos (by omega), check_f h2 (by omega)]
    simp only [Option.bind_some, w1]
    by_cases hd : ckE n g2 l2 = 0
    · simp [hd]
    · simp [hd]
  · simp [hc]
theorem okSh_len {n g : Int} {l : List Int} (h : okSh n g l = true) : (l.length : Int) = n := by
  unfold okSh at h; simp at h; exact h.1.1
def orL (l m : List Int) : List Int := List.zipWith (fun x y => Go.bits .or .u64 x y) l m
theorem orL_drop {l m : List Int} {i : Nat} (hl : i < l.length) (hm : i < m.length) : orL (l.drop i) (m.drop i) = Go.bits .or .u64 (rd l (i : Int)) (rd m (i : Int)) :: orL (l.drop (i + 1)) (m.drop (i + 1)) := by
  rw [List.drop_eq_getElem_cons hl, List.drop_eq_getElem_cons hm, rd_at hl, rd_at hm]; rfl
def coE (n g1 : Int) (l1 : List Int) (g2 : Int) (l2 : List Int) : Int × List Int × Int :=
  if ck2 n g1 l1 g2 l2 = 0 then (Go.bits .or .u64 g1 g2, cn (Go.bits .or .u64 g1 g2) (orL l1 l2), 0) else (0, [], ck2 n g1 l1 g2 l2)
theorem ck2_ok {n g1 g2 : Int} {l1 l2 : List Int} (h : ck2 n g1 l1 g2 l2 = 0) : ckE n g1 l1 = 0 ∧ ckE n g2 l2 = 0 := by
  unfold ck2 at h
  by_cases hc : ckE n g1 l1 = 0
  · rw [if_pos hc] at h; exact ⟨hc, h⟩
  · rw [if_neg hc] at h; exact absurd h hc
theorem combine_l0 {n : Nat} {g1 g2 g : Int} {l1 l2 : List Int} (hn : n ≤ 64) (h1 : l1.length = n) (h2 : l2.length = n) : ∀ (d i k : Nat) (out : List Int), n - i = d → i ≤ n → out.length = n → d + 1200 < k →
    facts_Combine.l0 k (n : Int) (i : Int) g1 l1 g2 l2 g out = some (g, cn g (out.take i ++ orL (l1.drop i) (l2.drop i)), 0) := by
  intro d
  induction d with
  | zero =>
    intro i k out hd hi ho hk
    obtain ⟨k, rfl⟩ : ∃ m, k = m + 1 := ⟨k - 1, by omega⟩
    simp only [facts_Combine.l0]
    rw [if_neg (by omega), canon_f (by omega) (by omega), List.drop_eq_nil_of_le (by omega), List.drop_eq_nil_of_le (by omega), List.take_of_length_le (by omega)]
    simp [orL]
  | succ d ih =>
    intro i k out hd hi ho hk
    obtain ⟨k, rfl⟩ : ∃ m, k = m + 1 := ⟨k - 1, by omega⟩
    simp only [facts_Combine.l0]
    rw [if_pos (by omega), if_pos (by omega), if_pos (by omega), if_pos (by omega), if_pos (by omega), w_step (by omega) (by omega), show ((i : Int) + 1) = ((i + 1 : Nat) : Int) by omega,
      ih (i + 1) k _ (by omega) (by omega) (by simpa using ho) (by omega), Int.toNat_natCast, orL_drop (l := l1) (m := l2) (i := i) (by omega) (by omega), take_set _ _ _ (by omega), List.append_assoc]; rfl
theorem combine_f {n g1 g2 : Int} {l1 l2 : List Int} {k : Nat} (h1 : l1.length ≤ 1000) (h2 : l2.length ≤ 1000) (hk : 1500 ≤ k) : facts_Combine.f k n g1 l1 g2 l2 = some (coE n g1 l1 g2 l2) := by
  unfold facts_Combine.f coE
  rw [checked_f h1 h2 (by omega)]
  simp only [Option.bind_some]
  by_cases hc : ck2 n g1 l1 g2 l2 = 0
  · obtain ⟨c1, c2⟩ := ck2_ok hc
    obtain ⟨d1, s1, _⟩ := ckE_ok c1
    obtain ⟨_, s2, _⟩ := ckE_ok c2
    have e1 := okSh_len s1
    have e2 := okSh_len s2
    unfold outD at d1
    obtain ⟨m, rfl⟩ := Int.eq_ofNat_of_zero_le (show 0 ≤ n by omega)
    simp only [hc, if_true]
    rw [if_pos (by omega), if_pos (by omega)]
    simp only [Int.toNat_natCast, List.length_replicate]
    have := combine_l0 (g1 := g1) (g2 := g2) (g := Go.bits .or .u64 g1 g2) (n := m) (by omega) (by omega : l1.length = m) (by omega : l2.length = m) m 0 k (List.replicate m 0) (by omega) (by omega) (by simp) (by omega)
    simpa using this
  · simp [hc]
theorem andNot_nat (a b : Nat) (ha : a < 18446744073709551616) (hb : b < 18446744073709551616) : Go.bits .andNot .u64 (a : Int) (b : Int) = ((a &&& (18446744073709551615 - b) : Nat) : Int) := by
  have hx : a &&& (18446744073709551615 - b) < 2 ^ 64 := Nat.and_lt_two_pow _ (by omega)
  have h1 : (BitVec.ofInt 64 (a : Int)).toNat = a := by
    rw [BitVec.ofInt_natCast, BitVec.toNat_ofNat]; exact Nat.mod_eq_of_lt (by omega)
  have h2 : (BitVec.ofInt 64 (b : Int)).toNat = b := by
    rw [BitVec.ofInt_natCast, BitVec.toNat_ofNat]; exact Nat.mod_eq_of_lt (by omega)
  show IntKind.u64.wrap ((BitVec.ofInt 64 (a : Int) &&& ~~~BitVec.ofInt 64 (b : Int)).toNat : Int) = _
  rw [BitVec.toNat_and, BitVec.toNat_not, h1, h2, IntKind.wrap_u64]
  have e : 2 ^ 64 - 1 - b = 18446744073709551615 - b := by omega
  rw [e]
  omega
theorem mem_lt {s n : Nat} (hs : s < 18446744073709551616) (hn : n ≤ 64) (h : Go.bits .andNot .u64 (s : Int) (fullI (n : Int)) = 0) {i : Nat} (hi : i ∈ bitsFrom s 0) : i < n := by
  rw [bitsFrom_mem _ rfl] at hi
  rw [fullI_pow n hn] at h
  have hp : 2 ^ n ≤ 2 ^ 64 := Nat.pow_le_pow_right (by omega) hn
  rw [andNot_nat s _ hs (by omega)] at h
  rcases Nat.lt_or_ge i n with hlt | hge
  · exact hlt
  · exfalso
    have hz : s &&& (18446744073709551615 - (2 ^ n - 1)) = 0 := by omega
    have hb := congrArg (fun z => z.testBit i) hz
    simp only [Nat.testBit_and, Nat.zero_testBit, hi.2.2, Bool.true_and] at hb
    have e : 18446744073709551615 - (2 ^ n - 1) = 2 ^ 64 - ((2 ^ n - 1) + 1) := by omega
    rw [e, Nat.testBit_two_pow_sub_succ (by have := Nat.two_pow_pos n; omega), Nat.testBit_two_pow_sub_one] at hb
    simp at hb
    omega
theorem makes_f {g : Int} {l : List Int} {s : Int} (hs : U s) (hin : ∀ i, i ∈ bitsFrom s.toNat 0 → i < l.length) : facts_makes.f g l s = some (madeI g l (bitsFrom s.toNat 0)) := by
  unfold facts_makes.f
  rw [if_pos ⟨hs.1, hs.2, List.all_eq_true.2 fun i hi => by simpa using hin i hi⟩]
theorem in_rows {n s : Int} {l : List Int} (h0 : 0 ≤ n) (h1 : n ≤ 64) (hl : (l.length : Int) = n) (hs : U s) (h : Go.bits .andNot .u64 s (fullI n) = 0) : ∀ i, i ∈ bitsFrom s.toNat 0 → i < l.length := by
  intro i hi
  obtain ⟨m, rfl⟩ := Int.eq_ofNat_of_zero_le h0
  obtain ⟨q, rfl⟩ := Int.eq_ofNat_of_zero_le hs.1
  rw [Int.toNat_natCast] at hi
  have h2 := hs.2
  have := mem_lt (by omega) (by omega) h hi
  omega
end Go.Proofs.YtnogmnmbakglcaaDoor.Pr
