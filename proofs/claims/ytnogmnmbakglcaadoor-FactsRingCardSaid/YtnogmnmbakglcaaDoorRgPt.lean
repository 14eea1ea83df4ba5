import Derived.Test.YtnogmnmbakglcaaDoorRgPm
import Derived.Test.YtnogmnmbakglcaaDoorRgPn
namespace Go.Proofs.YtnogmnmbakglcaaDoor.Pr
open Go.RowKit Go.Proofs.YtnogmnmbakglcaaDoorW.PrintWords Go.Proofs.YtnogmnmbakglcaaDoorW.PrintLast Go.Proofs.YtnogmnmbakglcaaDoorW.PrintMore
def tb (x : Int) (i : Nat) : Bool := x.toNat.testBit i
theorem tb_ext {x y : Int} (hx : U x) (hy : U y) (h : ∀ i, tb x i = tb y i) : x = y := by
  have : x.toNat = y.toNat := Nat.eq_of_testBit_eq h
  have h1 := hx.1; have h2 := hy.1
  omega
theorem tb_hi {x : Int} (hx : U x) {i : Nat} (hi : tb x i = true) : i < 64 := by
  rcases Nat.lt_or_ge i 64 with h | h
  · exact h
  · exfalso
    have h2 := hx.2
    have h1 := hx.1
    have hp : 2 ^ 64 ≤ 2 ^ i := Nat.pow_le_pow_right (by omega) h
    have := Nat.testBit_lt_two_pow (x := x.toNat) (i := i) (by omega)
    unfold tb at hi
    rw [this] at hi
    cases hi
theorem or_nat (a b : Nat) (ha : a < 18446744073709551616) (hb : b < 18446744073709551616) : Go.bits .or .u64 (a : Int) (b : Int) = ((a ||| b : Nat) : Int) := by
  have hx : a ||| b < 2 ^ 64 := Nat.or_lt_two_pow (by omega) (by omega)
  have h1 : (BitVec.ofInt 64 (a : Int)).toNat = a := by
    rw [BitVec.ofInt_natCast, BitVec.toNat_ofNat]; exact Nat.mod_eq_of_lt (by omega)
  have h2 : (BitVec.ofInt 64 (b : Int)).toNat = b := by
    rw [BitVec.ofInt_natCast, BitVec.toNat_ofNat]; exact Nat.mod_eq_of_lt (by omega)
  show IntKind.u64.wrap ((BitVec.ofInt 64 (a : Int) ||| BitVec.ofInt 64 (b : Int)).toNat : Int) = _
  rw [BitVec.toNat_or, h1, h2, IntKind.wrap_u64]
  omega
theorem tb_or {a b : Int} (ha : U a) (hb : U b) (i : Nat) : tb (Go.bits .or .u64 a b) i = (tb a i || tb b i) := by
  obtain ⟨a, rfl⟩ := Int.eq_ofNat_of_zero_le ha.1
  obtain ⟨b, rfl⟩ := Int.eq_ofNat_of_zero_le hb.1
  have h1 := ha.2; have h2 := hb.2
  rw [or_nat a b (by omega) (by omega)]
  simp [tb]
theorem tb_andNot {a b : Int} (ha : U a) (hb : U b) (i : Nat) : tb (Go.bits .andNot .u64 a b) i = (tb a i && !tb b i) := by
  have h3 := @tb_hi a ha i
  obtain ⟨a, rfl⟩ := Int.eq_ofNat_of_zero_le ha.1
  obtain ⟨b, rfl⟩ := Int.eq_ofNat_of_zero_le hb.1
  have h1 := ha.2; have h2 := hb.2
  rw [andNot_nat a b (by omega) (by omega)]
  simp only [tb, Int.toNat_natCast, Nat.testBit_and] at h3 ⊢
  cases hA : a.testBit i with
  | false => simp
  | true =>
    have hi := h3 hA
    have e : 18446744073709551615 - b = 2 ^ 64 - (b + 1) := by omega
    rw [e, Nat.testBit_two_pow_sub_succ (by omega)]
    simp [hi]
theorem fullI_U {m : Nat} (hm : m ≤ 64) : U (fullI (m : Int)) := by
  rw [fullI_pow m hm]
  have hp : 2 ^ m ≤ 2 ^ 64 := Nat.pow_le_pow_right (by omega) hm
  unfold U
  omega
theorem tb_full {m : Nat} (hm : m ≤ 64) (i : Nat) : tb (fullI (m : Int)) i = decide (i < m) := by
  rw [fullI_pow m hm]
  simp only [tb, Int.toNat_natCast, Nat.testBit_two_pow_sub_one]
theorem U_zero : U 0 := by unfold U; omega
theorem tb_zero (i : Nat) : tb 0 i = false := by simp [tb]
theorem in_iff {m : Nat} (hm : m ≤ 64) {s : Int} (hs : U s) : Go.bits .andNot .u64 s (fullI (m : Int)) = 0 ↔ ∀ i, tb s i = true → i < m := by
  constructor
  · intro h i hi
    have := tb_andNot hs (fullI_U hm) i
    rw [h, tb_zero, hi, tb_full hm] at this
    simpa using this
  · intro h
    refine tb_ext (U_bits _ _ _) U_zero fun i => ?_
    rw [tb_andNot hs (fullI_U hm), tb_zero, tb_full hm]
    cases hi : tb s i with
    | false => rfl
    | true => simp [h i hi]
structure Tr (m : Nat) (g : Int) (l : List Int) : Prop where
  le : m ≤ 64
  len : l.length = m
  ug : U g
  ul : ∀ i, U (rd l ((i : Nat) : Int))
  g_in : ∀ j, tb g j = true → j < m
  l_in : ∀ i j : Nat, tb (rd l (i : Int)) j = true → j < m
  canon : ∀ i j : Nat, tb (rd l (i : Int)) j = true → tb g j = false
theorem rd_out {l : List Int} {i : Nat} (h : l.length ≤ i) : rd l (i : Int) = 0 := by
  unfold rd; simp [List.getD_eq_getElem?_getD, List.getElem?_eq_none h]
theorem UL_rd {l : List Int} : UL l ↔ ∀ i : Nat, U (rd l (i : Int)) := by
  constructor
  · intro h i
    rcases Nat.lt_or_ge i l.length with hi | hi
    · exact rd_U h hi
    · rw [rd_out hi]; exact U_zero
  · intro h x hx
    obtain ⟨i, hi, rfl⟩ := List.getElem_of_mem hx
    rw [← rd_at hi]; exact h i
theorem list_ext {l m : List Int} (hl : l.length = m.length) (h : ∀ i : Nat, i < l.length → rd l (i : Int) = rd m (i : Int)) : l = m := by
  apply List.ext_getElem hl
  intro i h1 h2
  rw [← rd_at h1, ← rd_at h2]; exact h i h1
theorem badFrom_iff {all : Int} {l : List Int} : badFrom all l 0 = false ↔ ∀ i : Nat, i < l.length → Go.bits .andNot .u64 (rd l (i : Int)) all = 0 := by
  constructor
  · intro h i hi; exact badFrom_false h hi
  · intro h
    unfold badFrom
    rw [List.drop_zero, List.any_eq_false]
    intro x hx
    obtain ⟨i, hi, rfl⟩ := List.getElem_of_mem hx
    have := h i hi
    rw [rd_at hi] at this
    simp [badB, this]
theorem rd_cn {g : Int} {l : List Int} {i : Nat} (hi : i < l.length) : rd (cn g l) (i : Int) = Go.bits .andNot .u64 (rd l (i : Int)) g := by
  rw [rd_at (by rw [cn_length]; exact hi), rd_at hi]
  simp [cn]
theorem Tr.of_ck {m : Nat} {g : Int} {l : List Int} (h : ckE (m : Int) g l = 0) (hg : U g) (hl : UL l) : Tr m g l := by
  obtain ⟨d, hsh, hc⟩ := ckE_ok h
  have hm : m ≤ 64 := by unfold outD at d; omega
  have hlen := okSh_len hsh
  have hul := UL_rd.1 hl
  have hin : ∀ i j : Nat, tb (rd l (i : Int)) j = true → j < m := by
    intro i j hj
    rcases Nat.lt_or_ge i l.length with hi | hi
    · exact (in_iff hm (hul i)).1 (okSh_row hsh hi) j hj
    · rw [rd_out hi, tb_zero] at hj; cases hj
  refine ⟨hm, by omega, hg, hul, (in_iff hm hg).1 (okSh_gen hsh), hin, ?_⟩
  intro i j hj
  rcases Nat.lt_or_ge i l.length with hi | hi
  · have h1 := rd_cn (g := g) hi
    rw [hc] at h1
    rw [h1, tb_andNot (hul i) hg] at hj
    simp only [Bool.and_eq_true, Bool.not_eq_true'] at hj
    exact hj.2
  · rw [rd_out hi, tb_zero] at hj; cases hj
theorem Tr.ck {m : Nat} {g : Int} {l : List Int} (h : Tr m g l) : ckE (m : Int) g l = 0 := by
  have d : ¬ outD (m : Int) := by unfold outD; have := h.le; omega
  unfold ckE
  rw [if_neg d, if_pos]
  constructor
  · unfold okSh
    simp only [Bool.and_eq_true, beq_iff_eq, Bool.not_eq_true']
    refine ⟨⟨by have := h.len; omega, (in_iff h.le h.ug).2 h.g_in⟩, badFrom_iff.2 fun i hi => (in_iff h.le (h.ul i)).2 (h.l_in i)⟩
  · refine list_ext (cn_length g l) fun i hi => ?_
    rw [cn_length] at hi
    rw [rd_cn hi]
    refine tb_ext (U_bits _ _ _) (h.ul i) fun j => ?_
    rw [tb_andNot (h.ul i) h.ug]
    cases hj : tb (rd l (i : Int)) j with
    | false => rfl
    | true => simp [h.canon i j hj]
theorem Tr.rows {m : Nat} {g : Int} {l : List Int} (h : Tr m g l) : UL l := UL_rd.2 h.ul
def T (m : Nat) (g : Int) (l : List Int) (s : Nat → Prop) (j : Nat) : Prop := tb g j = true ∨ ∃ i, i < m ∧ s i ∧ tb (rd l ((i : Nat) : Int)) j = true
theorem T_congr {m : Nat} {g : Int} {l : List Int} {s t : Nat → Prop} (h : ∀ i, i < m → (s i ↔ t i)) (j : Nat) : T m g l s j ↔ T m g l t j := by
  unfold T
  constructor
  · rintro (h1 | ⟨i, hi, h2, h3⟩)
    · exact .inl h1
    · exact .inr ⟨i, hi, (h i hi).1 h2, h3⟩
  · rintro (h1 | ⟨i, hi, h2, h3⟩)
    · exact .inl h1
    · exact .inr ⟨i, hi, (h i hi).2 h2, h3⟩
theorem T_union {m : Nat} {g : Int} {l : List Int} {s t : Nat → Prop} (j : Nat) : T m g l (fun i => s i ∨ t i) j ↔ T m g l s j ∨ T m g l t j := by
  unfold T
  constructor
  · rintro (h1 | ⟨i, hi, h2 | h2, h3⟩)
    · exact .inl (.inl h1)
    · exact .inl (.inr ⟨i, hi, h2, h3⟩)
    · exact .inr (.inr ⟨i, hi, h2, h3⟩)
  · rintro ((h1 | ⟨i, hi, h2, h3⟩) | (h1 | ⟨i, hi, h2, h3⟩))
    · exact .inl h1
    · exact .inr ⟨i, hi, .inl h2, h3⟩
    · exact .inl h1
    · exact .inr ⟨i, hi, .inr h2, h3⟩
theorem T_in {m : Nat} {g : Int} {l : List Int} {s : Nat → Prop} (h : Tr m g l) {j : Nat} (hj : T m g l s j) : j < m := by
  rcases hj with h1 | ⟨i, _, _, h3⟩
  · exact h.g_in j h1
  · exact h.l_in i j h3
theorem Tr.ext {m : Nat} {g g' : Int} {l l' : List Int} (h : Tr m g l) (h' : Tr m g' l') (e : ∀ s j, T m g l s j ↔ T m g' l' s j) : g = g' ∧ l = l' := by
  have hg : ∀ j, tb g j = true ↔ tb g' j = true := by
    intro j
    have := e (fun _ => False) j
    simpa [T] using this
  refine ⟨tb_ext h.ug h'.ug fun j => Bool.eq_iff_iff.2 (hg j), list_ext (by rw [h.len, h'.len]) fun i hi => tb_ext (h.ul i) (h'.ul i) fun j => Bool.eq_iff_iff.2 ?_⟩
  rw [h.len] at hi
  have := e (fun x => x = i) j
  unfold T at this
  constructor
  · intro hj
    rcases this.1 (.inr ⟨i, hi, rfl, hj⟩) with h1 | ⟨x, _, rfl, h3⟩
    · have := h.canon i j hj
      rw [(hg j).2 h1] at this; cases this
    · exact h3
  · intro hj
    rcases this.2 (.inr ⟨i, hi, rfl, hj⟩) with h1 | ⟨x, _, rfl, h3⟩
    · have := h'.canon i j hj
      rw [(hg j).1 h1] at this; cases this
    · exact h3
theorem madeI_U {g : Int} {l : List Int} (hg : U g) (ix : List Nat) : U (madeI g l ix) := by
  unfold madeI
  induction ix generalizing g with
  | nil => exact hg
  | cons i ix ih => exact ih (U_bits _ _ _)
theorem tb_made {g : Int} {l : List Int} (hg : U g) (hl : ∀ i : Nat, U (rd l (i : Int))) (ix : List Nat) (j : Nat) : tb (madeI g l ix) j = true ↔ tb g j = true ∨ ∃ i, i ∈ ix ∧ tb (rd l ((i : Nat) : Int)) j = true := by
  unfold madeI
  induction ix generalizing g with
  | nil => simp
  | cons i ix ih =>
    rw [List.foldl_cons, ih (U_bits _ _ _), tb_or hg (hl i)]
    simp only [Bool.or_eq_true, List.mem_cons, exists_eq_or_imp]
    constructor
    · rintro ((h | h) | h)
      · exact .inl h
      · exact .inr (.inl h)
      · exact .inr (.inr h)
    · rintro (h | h | h)
      · exact .inl (.inl h)
      · exact .inl (.inr h)
      · exact .inr h
theorem mem_bits {s : Int} (hs : U s) (i : Nat) : i ∈ bitsFrom s.toNat 0 ↔ tb s i = true := by
  rw [bitsFrom_mem _ rfl]
  constructor
  · rintro ⟨_, _, h⟩; exact h
  · intro h; exact ⟨Nat.zero_le _, tb_hi hs h, h⟩
theorem tb_make {m : Nat} {g s : Int} {l : List Int} (hg : U g) (hl : ∀ i : Nat, U (rd l (i : Int))) (hn : l.length = m) (hs : U s) (j : Nat) : tb (madeI g l (bitsFrom s.toNat 0)) j = true ↔ T m g l (fun i => tb s i = true) j := by
  rw [tb_made hg hl]
  unfold T
  constructor
  · rintro (h | ⟨i, h1, h2⟩)
    · exact .inl h
    · rw [mem_bits hs] at h1
      rcases Nat.lt_or_ge i l.length with hi | hi
      · exact .inr ⟨i, by omega, h1, h2⟩
      · rw [rd_out hi, tb_zero] at h2; cases h2
  · rintro (h | ⟨i, _, h1, h2⟩)
    · exact .inl h
    · exact .inr ⟨i, (mem_bits hs i).2 h1, h2⟩
theorem rd_orL {l m : List Int} {i : Nat} (h1 : i < l.length) (h2 : i < m.length) : rd (orL l m) (i : Int) = Go.bits .or .u64 (rd l (i : Int)) (rd m (i : Int)) := by
  have h : i < (orL l m).length := by unfold orL; rw [List.length_zipWith]; omega
  rw [rd_at h, rd_at h1, rd_at h2]
  simp [orL]
def coG (g1 g2 : Int) : Int := Go.bits .or .u64 g1 g2
def coR (g1 : Int) (l1 : List Int) (g2 : Int) (l2 : List Int) : List Int := cn (Go.bits .or .u64 g1 g2) (orL l1 l2)
theorem ck2_zero {m : Nat} {g1 g2 : Int} {l1 l2 : List Int} (h1 : Tr m g1 l1) (h2 : Tr m g2 l2) : ck2 (m : Int) g1 l1 g2 l2 = 0 := by
  unfold ck2; rw [if_pos h1.ck]; exact h2.ck
theorem coE_ok {m : Nat} {g1 g2 : Int} {l1 l2 : List Int} (h1 : Tr m g1 l1) (h2 : Tr m g2 l2) : coE (m : Int) g1 l1 g2 l2 = (coG g1 g2, coR g1 l1 g2 l2, 0) := by
  unfold coE; rw [if_pos (ck2_zero h1 h2)]; rfl
theorem tb_coR {m : Nat} {g1 g2 : Int} {l1 l2 : List Int} (h1 : Tr m g1 l1) (h2 : Tr m g2 l2) {i : Nat} (hi : i < m) (j : Nat) :
    tb (rd (coR g1 l1 g2 l2) (i : Int)) j = ((tb (rd l1 (i : Int)) j || tb (rd l2 (i : Int)) j) && !tb (coG g1 g2) j) := by
  have e1 := h1.len; have e2 := h2.len
  have hlen : i < (orL l1 l2).length := by unfold orL; rw [List.length_zipWith]; omega
  unfold coR coG
  rw [rd_cn hlen, rd_orL (by omega) (by omega), tb_andNot (U_bits _ _ _) (U_bits _ _ _), tb_or (h1.ul i) (h2.ul i)]
theorem Tr.combine {m : Nat} {g1 g2 : Int} {l1 l2 : List Int} (h1 : Tr m g1 l1) (h2 : Tr m g2 l2) : Tr m (coG g1 g2) (coR g1 l1 g2 l2) := by
  have e1 := h1.len; have e2 := h2.len
  have hlen : (coR g1 l1 g2 l2).length = m := by unfold coR; rw [cn_length]; unfold orL; rw [List.length_zipWith]; omega
  have hz : ∀ i j : Nat, tb (rd (coR g1 l1 g2 l2) (i : Int)) j = true → i < m := by
    intro i j hj
    rcases Nat.lt_or_ge i m with hi | hi
    · exact hi
    · rw [rd_out (by omega), tb_zero] at hj; cases hj
  refine ⟨h1.le, hlen, U_bits _ _ _, UL_rd.1 (cn_UL _ _), ?_, ?_, ?_⟩
  · intro j hj
    unfold coG at hj
    rw [tb_or h1.ug h2.ug, Bool.or_eq_true] at hj
    rcases hj with h | h
    · exact h1.g_in j h
    · exact h2.g_in j h
  · intro i j hj
    have hi := hz i j hj
    rw [tb_coR h1 h2 hi, Bool.and_eq_true, Bool.or_eq_true] at hj
    rcases hj.1 with h | h
    · exact h1.l_in i j h
    · exact h2.l_in i j h
  · intro i j hj
    have hi := hz i j hj
    rw [tb_coR h1 h2 hi, Bool.and_eq_true, Bool.not_eq_true'] at hj
    exact hj.2
theorem T_combine {m : Nat} {g1 g2 : Int} {l1 l2 : List Int} (h1 : Tr m g1 l1) (h2 : Tr m g2 l2) (s : Nat → Prop) (j : Nat) :
    T m (coG g1 g2) (coR g1 l1 g2 l2) s j ↔ T m g1 l1 s j ∨ T m g2 l2 s j := by
  have hg : tb (coG g1 g2) j = true ↔ tb g1 j = true ∨ tb g2 j = true := by unfold coG; rw [tb_or h1.ug h2.ug, Bool.or_eq_true]
  constructor
  · rintro (h | ⟨i, hi, h3, h4⟩)
    · rcases hg.1 h with h | h
      · exact .inl (.inl h)
      · exact .inr (.inl h)
    · rw [tb_coR h1 h2 hi, Bool.and_eq_true, Bool.or_eq_true] at h4
      rcases h4.1 with h | h
      · exact .inl (.inr ⟨i, hi, h3, h⟩)
      · exact .inr (.inr ⟨i, hi, h3, h⟩)
  · intro h
    cases hG : tb (coG g1 g2) j with
    | true => exact .inl hG
    | false =>
      rcases h with (h | ⟨i, hi, h3, h4⟩) | (h | ⟨i, hi, h3, h4⟩)
      · rw [hg.2 (.inl h)] at hG; cases hG
      · exact .inr ⟨i, hi, h3, by rw [tb_coR h1 h2 hi, h4, hG]; rfl⟩
      · rw [hg.2 (.inr h)] at hG; cases hG
      · exact .inr ⟨i, hi, h3, by rw [tb_coR h1 h2 hi, h4, hG]; simp⟩
def exG (g1 g2 : Int) (l2 : List Int) : Int := madeI g2 l2 (bitsFrom g1.toNat 0)
def exR (g1 : Int) (l1 : List Int) (g2 : Int) (l2 : List Int) : List Int := cn (madeI g2 l2 (bitsFrom g1.toNat 0)) (exL g2 l2 l1)
theorem exE_ok {m : Nat} {g1 g2 : Int} {l1 l2 : List Int} (h1 : Tr m g1 l1) (h2 : Tr m g2 l2) : exE (m : Int) g1 l1 g2 l2 = (exG g1 g2 l2, exR g1 l1 g2 l2, 0) := by
  unfold exE; rw [if_pos (ck2_zero h1 h2)]; rfl
theorem rd_exL {g : Int} {l m : List Int} {i : Nat} (hi : i < m.length) : rd (exL g l m) (i : Int) = madeI g l (bitsFrom (rd m (i : Int)).toNat 0) := by
  have h : i < (exL g l m).length := by simp [exL, hi]
  rw [rd_at h, rd_at hi]
  simp [exL]
theorem tb_exG {m : Nat} {g1 g2 : Int} {l1 l2 : List Int} (h1 : Tr m g1 l1) (h2 : Tr m g2 l2) (j : Nat) : tb (exG g1 g2 l2) j = true ↔ T m g2 l2 (fun i => tb g1 i = true) j :=
  tb_make h2.ug h2.ul h2.len h1.ug j
theorem tb_exR {m : Nat} {g1 g2 : Int} {l1 l2 : List Int} (h1 : Tr m g1 l1) (h2 : Tr m g2 l2) {i : Nat} (hi : i < m) (j : Nat) :
    tb (rd (exR g1 l1 g2 l2) (i : Int)) j = true ↔ T m g2 l2 (fun x => tb (rd l1 (i : Int)) x = true) j ∧ tb (exG g1 g2 l2) j = false := by
  have e1 := h1.len; have e2 := h2.len
  have hlen : i < (exL g2 l2 l1).length := by simp [exL]; omega
  unfold exR exG
  rw [rd_cn hlen, rd_exL (by omega), tb_andNot (madeI_U h2.ug _) (madeI_U h2.ug _), Bool.and_eq_true, Bool.not_eq_true', tb_make h2.ug h2.ul h2.len (h1.ul i)]
theorem Tr.extend {m : Nat} {g1 g2 : Int} {l1 l2 : List Int} (h1 : Tr m g1 l1) (h2 : Tr m g2 l2) : Tr m (exG g1 g2 l2) (exR g1 l1 g2 l2) := by
  have e1 := h1.len
  have hlen : (exR g1 l1 g2 l2).length = m := by unfold exR; rw [cn_length]; simp [exL, e1]
  have hz : ∀ i j : Nat, tb (rd (exR g1 l1 g2 l2) (i : Int)) j = true → i < m := by
    intro i j hj
    rcases Nat.lt_or_ge i m with hi | hi
    · exact hi
    · rw [rd_out (by omega), tb_zero] at hj; cases hj
  refine ⟨h1.le, hlen, madeI_U h2.ug _, UL_rd.1 (cn_UL _ _), ?_, ?_, ?_⟩
  · intro j hj; exact T_in h2 ((tb_exG h1 h2 j).1 hj)
  · intro i j hj; exact T_in h2 ((tb_exR h1 h2 (hz i j hj) j).1 hj).1
  · intro i j hj; exact ((tb_exR h1 h2 (hz i j hj) j).1 hj).2
theorem T_extend {m : Nat} {g1 g2 : Int} {l1 l2 : List Int} (h1 : Tr m g1 l1) (h2 : Tr m g2 l2) (s : Nat → Prop) (j : Nat) :
    T m (exG g1 g2 l2) (exR g1 l1 g2 l2) s j ↔ T m g2 l2 (T m g1 l1 s) j := by
  constructor
  · rintro (h | ⟨i, hi, h3, h4⟩)
    · rcases (tb_exG h1 h2 j).1 h with h | ⟨x, hx, h5, h6⟩
      · exact .inl h
      · exact .inr ⟨x, hx, .inl h5, h6⟩
    · rcases ((tb_exR h1 h2 hi j).1 h4).1 with h | ⟨x, hx, h5, h6⟩
      · exact .inl h
      · exact .inr ⟨x, hx, .inr ⟨i, hi, h3, h5⟩, h6⟩
  · intro h
    cases hG : tb (exG g1 g2 l2) j with
    | true => exact .inl hG
    | false =>
      have hn : ¬ T m g2 l2 (fun i => tb g1 i = true) j := fun h' => by rw [(tb_exG h1 h2 j).2 h'] at hG; cases hG
      rcases h with h | ⟨x, hx, h5 | ⟨i, hi, h3, h5⟩, h6⟩
      · exact absurd (.inl h) hn
      · exact absurd (.inr ⟨x, hx, h5, h6⟩) hn
      · exact .inr ⟨i, hi, h3, (tb_exR h1 h2 hi j).2 ⟨.inr ⟨x, hx, h5, h6⟩, hG⟩⟩
theorem combine_w {m : Nat} {g1 g2 : Int} {l1 l2 : List Int} {k : Nat} (h1 : Tr m g1 l1) (h2 : Tr m g2 l2) (hk : 1500 ≤ k) : stackyardlaw03_combine.f k (m : Int) g1 l1 g2 l2 = some (coG g1 g2, coR g1 l1 g2 l2) := by
  have e1 := h1.len; have e2 := h2.len; have := h1.le
  unfold stackyardlaw03_combine.f
  rw [combine_f (by omega) (by omega) hk, coE_ok h1 h2]
  rfl
theorem extend_w {m : Nat} {g1 g2 : Int} {l1 l2 : List Int} {k : Nat} (h1 : Tr m g1 l1) (h2 : Tr m g2 l2) (hk : 1500 ≤ k) : stackyardlaw03_extend.f k (m : Int) g1 l1 g2 l2 = some (exG g1 g2 l2, exR g1 l1 g2 l2) := by
  have e1 := h1.len; have e2 := h2.len; have := h1.le
  unfold stackyardlaw03_extend.f
  rw [extend_f (by omega) (by omega) h1.ug h1.rows hk, exE_ok h1 h2]
  rfl
theorem same_w {m : Nat} {g g' : Int} {l l' : List Int} {k : Nat} (h : Tr m g l) (h' : Tr m g' l') (e : ∀ s j, T m g l s j ↔ T m g' l' s j) (hk : 1100 ≤ k) : stackyardref03_Same.f k g l g' l' = some true := by
  have e1 := h.len; have := h.le
  rw [rsame_f (by omega) hk]
  simp [h.ext h' e]
theorem good_l0 {n : Int} {xs : List S25} (hl : xs.length ≤ 10) (hx : ∀ x, x ∈ xs → x.f1.length ≤ 1000) : ∀ (d i k : Nat), xs.length - i = d → i ≤ xs.length → d + 1200 < k → stackyardlaw03_good.l0 k n xs (i : Int) = some ((xs.drop i).all fun x => decide (ckE n x.f0 x.f1 = 0)) := by
  intro d
  induction d with
  | zero =>
    intro i k hd hi hk
    obtain ⟨k, rfl⟩ : ∃ m, k = m + 1 := ⟨k - 1, by omega⟩
    simp only [stackyardlaw03_good.l0]
    rw [if_neg (by omega), List.drop_eq_nil_of_le (by omega)]
    rfl
  | succ d ih =>
    intro i k hd hi hk
    obtain ⟨k, rfl⟩ : ∃ m, k = m + 1 := ⟨k - 1, by omega⟩
    have hlt : i < xs.length := by omega
    have er : rd_T25 xs (i : Int) = xs[i] := by unfold rd_T25; simp [List.getD_eq_getElem?_getD, List.getElem?_eq_getElem hlt]
    simp only [stackyardlaw03_good.l0]
    rw [if_pos (by omega), if_pos (by omega), er, rcheck_f (hx _ (List.getElem_mem hlt)) (by omega)]
    simp only [Option.bind_some]
    rw [List.drop_eq_getElem_cons hlt, List.all_cons]
    by_cases hc : ckE n xs[i].f0 xs[i].f1 = 0
    · rw [if_pos hc, w_step (by omega) (by omega), show ((i : Int) + 1) = ((i + 1 : Nat) : Int) by push_cast; rfl, ih (i + 1) k (by omega) (by omega) (by omega)]
      simp [hc]
    · rw [if_neg hc]
      simp [hc]
theorem good_f {n : Int} {xs : List S25} {k : Nat} (hl : xs.length ≤ 10) (hx : ∀ x, x ∈ xs → x.f1.length ≤ 1000) (hk : 1300 ≤ k) : stackyardlaw03_good.f k n xs = some (xs.all fun x => decide (ckE n x.f0 x.f1 = 0)) :=
  good_l0 hl hx xs.length 0 k rfl (Nat.zero_le _) (by omega)
end Go.Proofs.YtnogmnmbakglcaaDoor.Pr
