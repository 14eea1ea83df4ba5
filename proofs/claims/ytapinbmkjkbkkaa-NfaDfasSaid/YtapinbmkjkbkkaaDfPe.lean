import Derived.Test.YtapinbmkjkbkkaaDfLbe
import Derived.Test.YtapinbmkjkbkkaaDfLbx18
namespace Go.Proofs.Ytapinbmkjkbkkaa.Pu
open Go.RowKit Go.Proofs.YtapinbmkjkbkkaaW.PrintWords Go.Proofs.YtapinbmkjkbkkaaW.PrintLast Go.Proofs.YtapinbmkjkbkkaaW.PrintMore Lb Mk
def R2 (m : Nat) (l : List S78) : List (List Int) → List (List Bool) → Prop
  | [], [] => True
  | B :: Bs, b :: bs => Rep m B b ∧ Hand l b b ∧ R2 m l Bs bs
  | _, _ => False
section
variable {m : Nat} {l : List S78}
theorem r2_len : ∀ {sets : List (List Int)} {bs : List (List Bool)}, R2 m l sets bs → sets.length = bs.length
  | [], [], _ => rfl
  | _ :: _, _ :: _, h => by rw [List.length_cons, List.length_cons, r2_len h.2.2]
  | [], _ :: _, h => h.elim
  | _ :: _, [], h => h.elim
theorem r2_get : ∀ {sets : List (List Int)} {bs : List (List Bool)}, R2 m l sets bs → ∀ i, i < bs.length → Rep m (sets.getD i []) (bs.getD i []) ∧ Hand l (bs.getD i []) (bs.getD i [])
  | _ :: _, _ :: _, h, 0, _ => ⟨h.1, h.2.1⟩
  | _ :: _, _ :: _, h, i + 1, hi => by
    have := r2_get h.2.2 i (by simpa using hi)
    simpa using this
  | [], [], _, i, hi => by simp at hi
  | [], _ :: _, h, _, _ => h.elim
  | _ :: _, [], h, _, _ => h.elim
theorem r2_snoc {B : List Int} {b : List Bool} (hR : Rep m B b) (hH : Hand l b b) : ∀ {sets : List (List Int)} {bs : List (List Bool)}, R2 m l sets bs → R2 m l (sets ++ [B]) (bs ++ [b])
  | [], [], _ => ⟨hR, hH, trivial⟩
  | _ :: _, _ :: _, h => ⟨h.1, h.2.1, r2_snoc hR hH h.2.2⟩
  | [], _ :: _, h => h.elim
  | _ :: _, [], h => h.elim
theorem r2_idx {B : List Int} {b : List Bool} (hR : Rep m B b) : ∀ {sets : List (List Int)} {bs : List (List Bool)}, R2 m l sets bs → (sets.map keyOf).idxOf (keyOf B) = bs.idxOf b ∧ (keyOf B ∈ sets.map keyOf ↔ b ∈ bs)
  | [], [], _ => by simp
  | B0 :: Bs, b0 :: bs, h => by
    obtain ⟨i1, i2⟩ := r2_idx hR h.2.2
    have hk := key_inj h.1 hR
    rw [List.map_cons, List.idxOf_cons, List.idxOf_cons, List.mem_cons, List.mem_cons, i1, i2]
    by_cases e : b0 = b
    · have e' := hk.mpr e
      rw [e', e]
      simp
    · have e' : keyOf B0 ≠ keyOf B := fun q => e (hk.mp q)
      have n1 : (keyOf B0 == keyOf B) = false := by simpa using e'
      have n2 : (b0 == b) = false := by simpa using e
      rw [n1, n2]
      refine ⟨rfl, ?_⟩
      constructor
      · rintro (q | q)
        · exact absurd q.symm e'
        · exact .inr q
      · rintro (q | q)
        · exact absurd q.symm e
        · exact .inr q
  | [], _ :: _, h => h.elim
  | _ :: _, [], h => h.elim
end
theorem idx_first {b : List Bool} : ∀ (bs : List (List Bool)) (p : Nat), p < bs.length → bs.getD p [] = b → (∀ q, q < p → bs.getD q [] ≠ b) → bs.idxOf b = p
  | x :: bs, 0, _, h, _ => by
    have : x = b := h
    rw [this, List.idxOf_cons]; simp
  | x :: bs, p + 1, hp, h, hq => by
    have hx : (x == b) = false := by
      have := hq 0 (by omega)
      simpa using this
    rw [List.idxOf_cons, hx, idx_first bs p (by simpa using hp) (by simpa using h) (fun q hq' => by have := hq (q + 1) (by omega); simpa using this)]
    rfl
  | [], _, hp, _, _ => by simp at hp
theorem alike_l0 {a b : List Bool} (hl : a.length = b.length) (hm : a.length ≤ 4096) : ∀ (d i : Nat), a.length - i = d → i ≤ a.length → ∀ k, d < k → stackyardref08_alike.l0 k a b (i : Int) = some (decide (a.drop i = b.drop i)) := by
  intro d
  induction d with
  | zero =>
    intro i hd hi k hk
    obtain ⟨k, rfl⟩ : ∃ q, k = q + 1 := ⟨k - 1, by omega⟩
    simp only [stackyardref08_alike.l0]
    rw [if_neg (by omega), List.drop_eq_nil_of_le (by omega), List.drop_eq_nil_of_le (by omega)]
    simp
  | succ d ih =>
    intro i hd hi k hk
    obtain ⟨k, rfl⟩ : ∃ q, k = q + 1 := ⟨k - 1, by omega⟩
    have h1 : i < a.length := by omega
    have h2 : i < b.length := by omega
    have e1 : rdOf false a (i : Int) = a[i] := by simp [rdOf, List.getD_eq_getElem?_getD, List.getElem?_eq_getElem h1]
    have e2 : rdOf false b (i : Int) = b[i] := by simp [rdOf, List.getD_eq_getElem?_getD, List.getElem?_eq_getElem h2]
    simp only [stackyardref08_alike.l0]
    rw [if_pos (by omega), if_pos (by omega), if_pos (by omega), e1, e2, wrap1 (by omega), ih (i + 1) (by omega) (by omega) k (by omega), List.drop_eq_getElem_cons h1, List.drop_eq_getElem_cons h2]
    by_cases h : a[i] = b[i]
    · rw [if_neg (by simp [h])]
      congr 1
      rw [decide_eq_decide, h]
      exact ⟨fun q => by rw [q], fun q => (List.cons.inj q).2⟩
    · rw [if_pos (by simpa using h)]
      congr 1
      exact (decide_eq_false (fun q => h (List.cons.inj q).1)).symm
theorem alike_f {a b : List Bool} (hl : a.length = b.length) (hm : a.length ≤ 4096) {k : Nat} (hk : a.length < k) : stackyardref08_alike.f k a b = some (decide (a = b)) := by
  unfold stackyardref08_alike.f
  have := alike_l0 hl hm a.length 0 rfl (Nat.zero_le _) k hk
  rw [List.drop_zero, List.drop_zero] at this
  exact this
section
variable {m ns : Nat} {s e : Nat} {l : List S78}
theorem dfa_l2 (hm : m ≤ 4096) {bs : List (List Bool)} {sets : List (List Int)} (hR : R2 m l sets bs) (hlen : bs.length ≤ 1024) {b' : List Bool} (hb : b'.length = m) {i j : Int} {row : List Int} {n1 : Int} {next : List (List Int)} {acc : List Bool} {r : Int × List (List Int) × List Bool × Int}
    (hr : ∃ k, stackyardref08_Dfa.j3 k bs i row j b' (bs.idxOf b' : Nat) m ns s e l n1 next acc = some r) : ∀ (d p : Nat), bs.length - p = d → p ≤ bs.length → (∀ q, q < p → bs.getD q [] ≠ b') →
    ∃ k, stackyardref08_Dfa.l2 k bs i row j b' (p : Int) m ns s e l n1 next acc = some r := by
  intro d
  obtain ⟨k, hk⟩ := hr
  induction d with
  | zero =>
    intro p hd hp hq
    obtain rfl : p = bs.length := by omega
    have hno : b' ∉ bs := fun hmem => by
      obtain ⟨q, hq1, hq2⟩ := List.mem_iff_getElem.mp hmem
      refine hq q hq1 ?_
      rw [List.getD_eq_getElem?_getD, List.getElem?_eq_getElem hq1]
      exact hq2
    rw [List.idxOf_eq_length hno] at hk
    refine ⟨k + 1, ?_⟩
    simp only [stackyardref08_Dfa.l2]
    rw [if_neg (by omega)]
    exact hk
  | succ d ih =>
    intro p hd hp hq
    have hlt : p < bs.length := by omega
    have hg := r2_get hR p hlt
    have e1 : rd_L7 bs (p : Int) = bs.getD p [] := by unfold rd_L7; rw [Int.toNat_natCast]
    have hal : ∀ k, m < k → stackyardref08_alike.f k (bs.getD p []) b' = some (decide (bs.getD p [] = b')) := fun k hk => alike_f (by rw [hg.1.lb, hb]) (by rw [hg.1.lb]; exact hm) (by rw [hg.1.lb]; exact hk)
    by_cases h : bs.getD p [] = b'
    · have hidx := idx_first bs p hlt h hq
      rw [hidx] at hk
      obtain ⟨q, hqd⟩ : ∃ q, q = k + m + 1 := ⟨_, rfl⟩
      refine ⟨q + 1, ?_⟩
      simp only [stackyardref08_Dfa.l2]
      rw [if_pos (by omega), if_pos (by omega), e1, hal q (by omega), Option.bind_some, decide_eq_true h, if_pos rfl]
      exact at_rounds (fun k => (stackyardref08_Dfa.mono_l k).2.2.1 _ _ _ _ _ _ _ _ _ _ _ _ _ _) (show k ≤ q by omega) hk
    · obtain ⟨k2, hk2⟩ := ih (p + 1) (by omega) (by omega) (fun q hq' => by
        rcases Nat.lt_succ_iff_lt_or_eq.mp hq' with hq' | rfl
        · exact hq q hq'
        · exact h)
      obtain ⟨q, hqd⟩ : ∃ q, q = k2 + m + 1 := ⟨_, rfl⟩
      refine ⟨q + 1, ?_⟩
      simp only [stackyardref08_Dfa.l2]
      rw [if_pos (by omega), if_pos (by omega), e1, hal q (by omega), Option.bind_some, decide_eq_false h, if_neg (by simp), wrap1 (by omega)]
      exact at_rounds (fun k => (stackyardref08_Dfa.mono_l k).2.2.2 _ _ _ _ _ _ _ _ _ _ _ _ _ _) (show k2 ≤ q by omega) hk2
theorem many_iff {n : Nat} (hn : n ≤ 5000) (hns : ns ≤ 4096) : manyF ns n = true ↔ (1024 < n ∨ 65536 < n * ns) := by
  unfold manyF
  have hle : n * ns ≤ 5000 * 4096 := Nat.mul_le_mul hn hns
  have e : ((n : Int) * (ns : Int)) = ((n * ns : Nat) : Int) := by norm_cast
  rw [e, show wrap64 ((n * ns : Nat) : Int) = ((n * ns : Nat) : Int) by generalize n * ns = q at hle; unfold wrap64; omega]
  generalize n * ns = q
  simp only [Bool.or_eq_true, decide_eq_true_eq]
  omega
theorem row_set (row : List Int) (d : Nat) (x : Int) : (row ++ List.replicate (d + 1) 0).set row.length x = (row ++ [x]) ++ List.replicate d 0 := by
  rw [List.set_append_right _ _ (Nat.le_refl _), Nat.sub_self, List.replicate_succ, List.set_cons_zero, List.append_assoc]
  rfl
def RowOk (m : Nat) (l : List S78) (bs : List (List Bool)) (bi : List Bool) (row : List Int) : Prop :=
  ∀ c, c < row.length → ∃ (p : Nat) (b : List Bool), row[c]? = some (p : Int) ∧ bs[p]? = some b ∧ By m l c bi b ∧ b.length = m
theorem rowOk_more {bs : List (List Bool)} {bi : List Bool} {row : List Int} (h : RowOk m l bs bi row) (ys : List (List Bool)) : RowOk m l (bs ++ ys) bi row := fun c hc => by
  obtain ⟨p, b, h1, h2, h3⟩ := h c hc
  refine ⟨p, b, h1, ?_, h3⟩
  obtain ⟨hp, _⟩ := List.getElem?_eq_some_iff.mp h2
  rw [List.getElem?_append_left hp]
  exact h2
theorem rowOk_snoc {bs : List (List Bool)} {bi : List Bool} {row : List Int} (h : RowOk m l bs bi row) {p : Nat} {b : List Bool} (hp : bs[p]? = some b) (hb : By m l (row.length : Nat) bi b) (hbm : b.length = m) : RowOk m l bs bi (row ++ [(p : Int)]) := fun c hc => by
  rw [List.length_append, List.length_singleton] at hc
  rcases Nat.lt_succ_iff_lt_or_eq.mp hc with hc | rfl
  · obtain ⟨p', b', h1, h2, h3⟩ := h c hc
    exact ⟨p', b', by rw [List.getElem?_append_left hc]; exact h1, h2, h3⟩
  · exact ⟨p, b, by simp, hp, hb, hbm⟩
theorem many_wrap {n : Nat} (hn : n ≤ 5000) (hns : ns ≤ 4096) : wrap64 ((n : Int) * (ns : Int)) = ((n * ns : Nat) : Int) := by
  have hle : n * ns ≤ 5000 * 4096 := Nat.mul_le_mul hn hns
  rw [show ((n : Int) * (ns : Int)) = ((n * ns : Nat) : Int) by norm_cast]
  generalize n * ns = q at hle
  unfold wrap64; omega
theorem many_test {n : Nat} (hn : n ≤ 5000) (hns : ns ≤ 4096) {α : Type} (x y : α) : (if (n : Int) > 1024 then x else if wrap64 ((n : Int) * (ns : Int)) > 65536 then x else y) = if manyF ns n = true then x else y := by
  rw [many_wrap hn hns]
  by_cases h : manyF ns n = true
  · rw [if_pos h]
    have := (many_iff hn hns).mp h
    generalize n * ns = q at this ⊢
    by_cases h2 : (n : Int) > 1024
    · rw [if_pos h2]
    · rw [if_neg h2, if_pos (by omega)]
  · rw [if_neg h]
    have h3 : ¬ (1024 < n ∨ 65536 < n * ns) := fun q => h ((many_iff hn hns).mpr q)
    generalize n * ns = q at h3 ⊢
    rw [if_neg (by omega), if_neg (by omega)]
theorem j3_known {bs : List (List Bool)} {i : Int} {row : List Int} {b' : List Bool} {n1 : Int} {next : List (List Int)} {acc : List Bool} {p j d k : Nat} (hlen : bs.length ≤ 1024) (hns : ns ≤ 4096) (hmany : manyF ns bs.length = false) (hp : p < bs.length) (hrow : row.length = j) (hj : j < ns) :
    stackyardref08_Dfa.j3 (k + 1) bs i (row ++ List.replicate (d + 1) 0) (j : Int) b' (p : Int) m ns s e l n1 next acc = stackyardref08_Dfa.l1 k bs i ((row ++ [(p : Int)]) ++ List.replicate d 0) ((j + 1 : Nat) : Int) m ns s e l n1 next acc := by
  have hs := row_set row d (p : Int)
  rw [hrow] at hs
  have hl : j < (row ++ List.replicate (d + 1) (0 : Int)).length := by simp [hrow]
  simp only [stackyardref08_Dfa.j3]
  rw [if_neg (by omega), many_test (by omega) hns, hmany, if_neg (by simp), if_pos (by omega), if_pos (by omega), Int.toNat_natCast, wrap1 (by omega), hs]
theorem j3_new {bs : List (List Bool)} {i : Int} {row : List Int} {b' : List Bool} {n1 : Int} {next : List (List Int)} {acc : List Bool} {j d k : Nat} (hlen : bs.length ≤ 1024) (hns : ns ≤ 4096) (hrow : row.length = j) (hj : j < ns) :
    stackyardref08_Dfa.j3 (k + 1) bs i (row ++ List.replicate (d + 1) 0) (j : Int) b' (bs.length : Nat) m ns s e l n1 next acc = if manyF ns (bs.length + 1 : Nat) = true then some (0, [], [], 3) else stackyardref08_Dfa.l1 k (bs ++ [b']) i ((row ++ [(bs.length : Int)]) ++ List.replicate d 0) ((j + 1 : Nat) : Int) m ns s e l n1 next acc := by
  have hs := row_set row d (bs.length : Int)
  rw [hrow] at hs
  have hl : j < (row ++ List.replicate (d + 1) (0 : Int)).length := by simp [hrow]
  have hll : (bs ++ [b']).length = bs.length + 1 := by simp
  simp only [stackyardref08_Dfa.j3]
  rw [if_pos trivial, if_pos (by omega), Option.bind_some, hll, many_test (by omega) hns]
  by_cases hq : manyF ns (bs.length + 1 : Nat) = true
  · rw [if_pos hq, if_pos hq]
  · rw [if_neg hq, if_neg hq, if_pos (by omega), if_pos (by omega), Int.toNat_natCast, wrap1 (by omega), hs]
theorem rowF_known {S : List Int} {sets : List (List Int)} {ks : List (List UInt8)} {row : List Int} {t : List Int} {k d j : Nat} (h1 : nfa_step.f k m ns s e l (j : Int) S = some t) (h2 : nfa_key.f k t = some (strOfNums (wbs t))) (hks : (strOfNums (wbs t)).size ≤ 4096) (hin : keyOf t ∈ ks) :
    rowF k m ns s e l S (d + 1) j sets ks row = rowF k m ns s e l S d (j + 1) sets ks (row ++ [((ks.idxOf (keyOf t) : Nat) : Int)]) := by
  have ekey : nk (strOfNums (wbs t)) = keyOf t := rfl
  simp only [rowF]
  rw [h1, Option.bind_some, h2, Option.bind_some, if_pos hks, ekey, if_pos hin]
  unfold nameAt
  rw [if_pos hin]
theorem rowF_new {S : List Int} {sets : List (List Int)} {ks : List (List UInt8)} {row : List Int} {t : List Int} {k d j : Nat} (h1 : nfa_step.f k m ns s e l (j : Int) S = some t) (h2 : nfa_key.f k t = some (strOfNums (wbs t))) (hks : (strOfNums (wbs t)).size ≤ 4096) (hin : keyOf t ∉ ks) :
    rowF k m ns s e l S (d + 1) j sets ks row = if manyF ns ((sets.length + 1 : Nat) : Int) = true then some none else rowF k m ns s e l S d (j + 1) (sets ++ [t]) (ks ++ [keyOf t]) (row ++ [(sets.length : Int)]) := by
  have ekey : nk (strOfNums (wbs t)) = keyOf t := rfl
  simp only [rowF]
  rw [h1, Option.bind_some, h2, Option.bind_some, if_pos hks, ekey, if_neg hin]
  rfl
set_option maxHeartbeats 1000000 in
theorem dfa_row (A : Arcs m l) (hns : ns ≤ 4096) {i : Nat} {n1 : Int} {next : List (List Int)} {acc : List Bool} {S : List Int} {bi : List Bool} (hS : Rep m S bi) (hSH : Hand l bi bi) : ∀ (d j : Nat), ns - j = d → j ≤ ns → ∀ (sets : List (List Int)) (bs : List (List Bool)) (row : List Int), R2 m l sets bs → row.length = j → manyF ns bs.length = false → bs.length ≤ 1024 →
    i < bs.length → bs.getD i [] = bi → RowOk m l bs bi row →
    (∃ K, (∀ k, K ≤ k → rowF k m ns s e l S d j sets (sets.map keyOf) row = some none) ∧ ∃ k, stackyardref08_Dfa.l1 k bs (i : Int) (row ++ List.replicate d 0) (j : Int) m ns s e l n1 next acc = some (0, [], [], 3)) ∨
    ∃ K sets' bs' row', (∀ k, K ≤ k → rowF k m ns s e l S d j sets (sets.map keyOf) row = some (some (sets', sets'.map keyOf, row'))) ∧ R2 m l sets' bs' ∧ row'.length = ns ∧ manyF ns bs'.length = false ∧ bs'.length ≤ 1024 ∧ (∃ ys, bs' = bs ++ ys) ∧ RowOk m l bs' bi row' ∧
      ∀ r, (∃ k, stackyardref08_Dfa.l1 k bs' (i : Int) row' (ns : Int) m ns s e l n1 next acc = some r) → ∃ k, stackyardref08_Dfa.l1 k bs (i : Int) (row ++ List.replicate d 0) (j : Int) m ns s e l n1 next acc = some r := by
  intro d
  have hm := A.m1
  induction d with
  | zero =>
    intro j hd hj sets bs row hR hrow hmany hlen hi hbi hok
    obtain rfl : j = ns := by omega
    refine .inr ⟨0, sets, bs, row, fun k _ => rfl, hR, hrow, hmany, hlen, ⟨[], by simp⟩, hok, fun r hr => ?_⟩
    rw [List.replicate_zero, List.append_nil]
    exact hr
  | succ d ih =>
    intro j hd hj sets bs row hR hrow hmany hlen hi hbi hok
    have hjlt : j < ns := by omega
    obtain ⟨K1, t, b', h1, hRt, hBy⟩ := step_f (sy := ns) (s := s) (e := e) A (sym := (j : Int)) hS hSH hS.lb
    obtain ⟨K2, h2⟩ := key_f (B := t) (by rw [hRt.lB]; omega)
    have hks : (strOfNums (wbs t)).size ≤ 4096 := by rw [strOfNums_size, wbs_len, hRt.lB]; omega
    have hlR := r2_len hR
    have ekey : nk (strOfNums (wbs t)) = keyOf t := rfl
    obtain ⟨x1, x2⟩ := r2_idx hRt hR
    have erd : rd_L7 bs (i : Int) = bi := by unfold rd_L7; rw [Int.toNat_natCast]; exact hbi
    have hl1 : ∀ r, (∃ k, stackyardref08_Dfa.j3 k bs (i : Int) (row ++ List.replicate (d + 1) 0) (j : Int) b' (bs.idxOf b' : Nat) m ns s e l n1 next acc = some r) → ∃ k, stackyardref08_Dfa.l1 k bs (i : Int) (row ++ List.replicate (d + 1) 0) (j : Int) m ns s e l n1 next acc = some r := by
      intro r hr
      obtain ⟨k, hk⟩ := dfa_l2 hm hR hlen hRt.lb hr bs.length 0 rfl (Nat.zero_le _) (fun q hq => absurd hq (by omega))
      obtain ⟨q, hqd⟩ : ∃ q, q = k + K1 := ⟨_, rfl⟩
      refine ⟨q + 1, ?_⟩
      simp only [stackyardref08_Dfa.l1]
      rw [if_pos (by omega), if_pos (by omega), if_pos (by omega), erd, (h1 q (by omega)).2, Option.bind_some]
      exact at_rounds (fun k => (stackyardref08_Dfa.mono_l k).2.2.2 _ _ _ _ _ _ _ _ _ _ _ _ _ _) (show k ≤ q by omega) hk
    by_cases hmem : b' ∈ bs
    ·
      obtain ⟨p, hp⟩ : ∃ p, p = bs.idxOf b' := ⟨_, rfl⟩
      have hpl : p < bs.length := by rw [hp]; exact List.idxOf_lt_length_of_mem hmem
      have hpb : bs[p]? = some b' := by rw [List.getElem?_eq_getElem hpl]; congr 1; subst hp; exact List.getElem_idxOf hpl
      have hrow1 : ∀ k, K1 + K2 ≤ k → rowF k m ns s e l S (d + 1) j sets (sets.map keyOf) row = rowF k m ns s e l S d (j + 1) sets (sets.map keyOf) (row ++ [(p : Int)]) := by
        intro k hk
        rw [rowF_known (h1 k (by omega)).1 (h2 k (by omega)) hks (x2.mpr hmem), x1, ← hp]
      have hj3 : ∀ r, (∃ k, stackyardref08_Dfa.l1 k bs (i : Int) ((row ++ [(p : Int)]) ++ List.replicate d 0) ((j + 1 : Nat) : Int) m ns s e l n1 next acc = some r) → ∃ k, stackyardref08_Dfa.l1 k bs (i : Int) (row ++ List.replicate (d + 1) 0) (j : Int) m ns s e l n1 next acc = some r := by
        rintro r ⟨k, hk⟩
        refine hl1 r ⟨k + 1, ?_⟩
        rw [← hp, j3_known hlen hns hmany hpl hrow hjlt]
        exact hk
      have hlen' : (row ++ [(p : Int)]).length = j + 1 := by simp [hrow]
      rcases ih (j + 1) (by omega) (by omega) sets bs (row ++ [(p : Int)]) hR hlen' hmany hlen hi hbi (rowOk_snoc hok hpb (by rw [hrow]; exact hBy) hRt.lb) with ⟨K, g1, g2⟩ | ⟨K, sets', bs', row', g1, g2, g3, g4, g5, g6, g7, g8⟩
      · exact .inl ⟨K + K1 + K2, fun k hk => (hrow1 k (by omega)).trans (g1 k (by omega)), hj3 _ g2⟩
      · exact .inr ⟨K + K1 + K2, sets', bs', row', fun k hk => (hrow1 k (by omega)).trans (g1 k (by omega)), g2, g3, g4, g5, g6, g7, fun r hr => hj3 r (g8 r hr)⟩
    ·
      have hidx : bs.idxOf b' = bs.length := List.idxOf_eq_length hmem
      have hkn : keyOf t ∉ sets.map keyOf := fun q => hmem (x2.mp q)
      by_cases hmn : manyF ns (bs.length + 1 : Nat) = true
      · refine .inl ⟨K1 + K2, fun k hk => ?_, hl1 _ ⟨1, ?_⟩⟩
        · rw [rowF_new (h1 k (by omega)).1 (h2 k (by omega)) hks hkn, hlR, if_pos hmn]
        · rw [hidx, j3_new hlen hns hrow hjlt, if_pos hmn]
      · have hmf : manyF ns (bs.length + 1 : Nat) = false := by simpa using hmn
        have hrow1 : ∀ k, K1 + K2 ≤ k → rowF k m ns s e l S (d + 1) j sets (sets.map keyOf) row = rowF k m ns s e l S d (j + 1) (sets ++ [t]) ((sets ++ [t]).map keyOf) (row ++ [(bs.length : Int)]) := by
          intro k hk
          rw [rowF_new (h1 k (by omega)).1 (h2 k (by omega)) hks hkn, hlR, if_neg hmn, List.map_append]
          rfl
        have hj3 : ∀ r, (∃ k, stackyardref08_Dfa.l1 k (bs ++ [b']) (i : Int) ((row ++ [(bs.length : Int)]) ++ List.replicate d 0) ((j + 1 : Nat) : Int) m ns s e l n1 next acc = some r) → ∃ k, stackyardref08_Dfa.l1 k bs (i : Int) (row ++ List.replicate (d + 1) 0) (j : Int) m ns s e l n1 next acc = some r := by
          rintro r ⟨k, hk⟩
          refine hl1 r ⟨k + 1, ?_⟩
          rw [hidx, j3_new hlen hns hrow hjlt, if_neg hmn]
          exact hk
        have hlen' : (row ++ [(bs.length : Int)]).length = j + 1 := by simp [hrow]
        have hbl : (bs ++ [b']).length = bs.length + 1 := by simp
        have h1024 : bs.length + 1 ≤ 1024 := by
          refine Nat.le_of_not_lt fun q => ?_
          exact hmn ((many_iff (by omega) hns).mpr (.inl q))
        have hgi : (bs ++ [b']).getD i [] = bi := by rw [List.getD_eq_getElem?_getD, List.getElem?_append_left hi, ← List.getD_eq_getElem?_getD]; exact hbi
        rcases ih (j + 1) (by omega) (by omega) (sets ++ [t]) (bs ++ [b']) (row ++ [(bs.length : Int)]) (r2_snoc hRt (by_shut hBy) hR) hlen' (by rw [hbl]; exact hmf) (by rw [hbl]; exact h1024) (by rw [hbl]; omega) hgi (rowOk_snoc (rowOk_more hok _) (by simp) (by rw [hrow]; exact hBy) hRt.lb) with ⟨K, g1, g2⟩ | ⟨K, sets', bs', row', g1, g2, g3, g4, g5, ⟨ys, g6⟩, g7, g8⟩
        · exact .inl ⟨K + K1 + K2, fun k hk => (hrow1 k (by omega)).trans (g1 k (by omega)), hj3 _ g2⟩
        · exact .inr ⟨K + K1 + K2, sets', bs', row', fun k hk => (hrow1 k (by omega)).trans (g1 k (by omega)), g2, g3, g4, g5, ⟨b' :: ys, by rw [g6]; simp⟩, g7, fun r hr => hj3 r (g8 r hr)⟩
end
end Go.Proofs.Ytapinbmkjkbkkaa.Pu
namespace Go.Proofs.Ytapinbmkjkbkkaa.Pu
open Go.RowKit Go.Proofs.YtapinbmkjkbkkaaW.PrintWords Go.Proofs.YtapinbmkjkbkkaaW.PrintLast Go.Proofs.YtapinbmkjkbkkaaW.PrintMore Lb Mk
section
variable {m ns : Nat} {s e : Nat} {l : List S78}
def Rows (m ns e : Nat) (l : List S78) (bs : List (List Bool)) (next : List (List Int)) (acc : List Bool) : Prop :=
  ∀ q, q < next.length → ∃ row, next[q]? = some row ∧ row.length = ns ∧ RowOk m l bs (bs.getD q []) row ∧ acc[q]? = some ((bs.getD q []).getD e false)
theorem rows_more {bs : List (List Bool)} {next : List (List Int)} {acc : List Bool} (h : Rows m ns e l bs next acc) (hl : next.length ≤ bs.length) (ys : List (List Bool)) : Rows m ns e l (bs ++ ys) next acc := fun q hq => by
  obtain ⟨row, h1, h2, h3, h4⟩ := h q hq
  have e1 : (bs ++ ys).getD q [] = bs.getD q [] := by rw [List.getD_eq_getElem?_getD, List.getElem?_append_left (by omega), ← List.getD_eq_getElem?_getD]
  rw [e1]
  exact ⟨row, h1, h2, rowOk_more h3 ys, h4⟩
theorem rows_snoc {bs : List (List Bool)} {next : List (List Int)} {acc : List Bool} (h : Rows m ns e l bs next acc) (ha : acc.length = next.length) {row : List Int} (hr : row.length = ns) (hok : RowOk m l bs (bs.getD next.length []) row) :
    Rows m ns e l bs (next ++ [row]) (acc ++ [(bs.getD next.length []).getD e false]) := fun q hq => by
  rw [List.length_append, List.length_singleton] at hq
  rcases Nat.lt_succ_iff_lt_or_eq.mp hq with hq | rfl
  · obtain ⟨row', h1, h2, h3, h4⟩ := h q hq
    exact ⟨row', by rw [List.getElem?_append_left hq]; exact h1, h2, h3, by rw [List.getElem?_append_left (by omega)]; exact h4⟩
  · exact ⟨row, by simp, hr, hok, by rw [← ha]; simp⟩
theorem dfa_loop (A : Arcs m l) (hns : ns ≤ 4096) (he : e < m) : ∀ (M i : Nat) (sets : List (List Int)) (bs : List (List Bool)) (next : List (List Int)) (acc : List Bool), 1024 - i = M → R2 m l sets bs → i ≤ bs.length → next.length = i → acc.length = i → manyF ns bs.length = false → bs.length ≤ 1024 → Rows m ns e l bs next acc →
    (∃ K J0, (∀ k J, K ≤ k → J0 ≤ J → dfaL k m ns s e l J i sets (sets.map keyOf) next acc = some none) ∧ ∃ k, stackyardref08_Dfa.l0 k bs (i : Int) m ns s e l ns next acc = some (0, [], [], 3)) ∨
    ∃ K J0 bsF n a, (∀ k J, K ≤ k → J0 ≤ J → dfaL k m ns s e l J i sets (sets.map keyOf) next acc = some (some (n, a))) ∧ (∃ k, stackyardref08_Dfa.l0 k bs (i : Int) m ns s e l ns next acc = some ((ns : Int), n, a, 0)) ∧ (∃ ys, bsF = bs ++ ys) ∧ n.length = bsF.length ∧ a.length = n.length ∧ n.length ≤ 1024 ∧ Rows m ns e l bsF n a := by
  intro M
  have hm := A.m1
  induction M using Nat.strongRecOn with
  | _ M ih =>
  intro i sets bs next acc hM hR hi hn ha hmany hlen hrows
  have hlR := r2_len hR
  by_cases hlt : i < bs.length
  · obtain ⟨hRi, hHi⟩ := r2_get hR i hlt
    have hrow := dfa_row (s := s) (e := e) A hns (i := i) (n1 := ns) (next := next) (acc := acc) hRi hHi ns 0 rfl (Nat.zero_le _) sets bs [] hR rfl hmany hlen hlt rfl (fun c hc => absurd hc (by simp))
    rw [List.nil_append] at hrow
    have hl0 : ∀ r, (∃ k, stackyardref08_Dfa.l1 k bs (i : Int) (List.replicate ns 0) ((0 : Nat) : Int) m ns s e l ns next acc = some r) → ∃ k, stackyardref08_Dfa.l0 k bs (i : Int) m ns s e l ns next acc = some r := by
      rintro r ⟨k, hk⟩
      refine ⟨k + 1, ?_⟩
      simp only [stackyardref08_Dfa.l0]
      rw [if_pos (by omega), if_pos (by omega), Int.toNat_natCast, if_pos (by omega)]
      exact hk
    rcases hrow with ⟨K, g1, g2⟩ | ⟨K, sets', bs', row', g1, g2, g3, g4, g5, ⟨ys, g6⟩, g7, g8⟩
    · refine .inl ⟨K, 1, fun k J hk hJ => ?_, hl0 _ g2⟩
      obtain ⟨J, rfl⟩ : ∃ q, J = q + 1 := ⟨J - 1, by omega⟩
      simp only [dfaL]
      rw [if_pos (by omega), has_f hRi hm e he, Option.bind_some, Int.toNat_natCast, g1 k hk, Option.bind_some]
    · have hlt' : i < bs'.length := by rw [g6, List.length_append]; omega
      have hgi : bs'.getD i [] = bs.getD i [] := by rw [g6, List.getD_eq_getElem?_getD, List.getElem?_append_left hlt, ← List.getD_eq_getElem?_getD]
      have hrows' : Rows m ns e l bs' (next ++ [row']) (acc ++ [(bs.getD i []).getD e false]) := by
        have h0 : Rows m ns e l bs' next acc := by rw [g6]; exact rows_more hrows (by omega) ys
        have := rows_snoc h0 (by omega) g3 (by rw [hn, hgi]; exact g7)
        rw [hn, hgi] at this
        exact this
      have hend : ∀ r, (∃ k, stackyardref08_Dfa.l0 k bs' ((i + 1 : Nat) : Int) m ns s e l ns (next ++ [row']) (acc ++ [(bs.getD i []).getD e false]) = some r) → ∃ k, stackyardref08_Dfa.l0 k bs (i : Int) m ns s e l ns next acc = some r := by
        rintro r ⟨k, hk⟩
        refine hl0 r (g8 r ⟨k + 1, ?_⟩)
        have erd : rd_L7 bs' (i : Int) = bs.getD i [] := by unfold rd_L7; rw [Int.toNat_natCast]; exact hgi
        have hlb := hRi.lb
        have e2 : rdOf false (bs.getD i []) (e : Int) = (bs.getD i []).getD e false := by simp [rdOf]
        simp only [stackyardref08_Dfa.l1]
        rw [if_neg (by omega), if_pos (by omega), if_pos (by omega), if_pos (by omega), if_pos (by omega), erd, if_pos (by omega), if_pos (by omega), wrap1 (by omega), e2]
        exact hk
      rcases ih (1024 - (i + 1)) (by omega) (i + 1) sets' bs' (next ++ [row']) (acc ++ [(bs.getD i []).getD e false]) rfl g2 (by omega) (by simp [hn]) (by simp [ha]) g4 g5 hrows' with ⟨K2, J2, f1, f2⟩ | ⟨K2, J2, bsF, n, a, f1, f2, ⟨zs, f3⟩, f4, f5, f6, f7⟩
      · refine .inl ⟨K + K2, J2 + 1, fun k J hk hJ => ?_, hend _ f2⟩
        obtain ⟨J, rfl⟩ : ∃ q, J = q + 1 := ⟨J - 1, by omega⟩
        simp only [dfaL]
        rw [if_pos (by omega), has_f hRi hm e he, Option.bind_some, Int.toNat_natCast, g1 k (by omega), Option.bind_some]
        exact f1 k J (by omega) (by omega)
      · refine .inr ⟨K + K2, J2 + 1, bsF, n, a, fun k J hk hJ => ?_, hend _ f2, ⟨ys ++ zs, by rw [f3, g6, List.append_assoc]⟩, f4, f5, f6, f7⟩
        obtain ⟨J, rfl⟩ : ∃ q, J = q + 1 := ⟨J - 1, by omega⟩
        simp only [dfaL]
        rw [if_pos (by omega), has_f hRi hm e he, Option.bind_some, Int.toNat_natCast, g1 k (by omega), Option.bind_some]
        exact f1 k J (by omega) (by omega)
  · refine .inr ⟨0, 1, bs, next, acc, fun k J _ hJ => ?_, ⟨1, ?_⟩, ⟨[], by simp⟩, by omega, by omega, by omega, hrows⟩
    · obtain ⟨J, rfl⟩ : ∃ q, J = q + 1 := ⟨J - 1, by omega⟩
      simp only [dfaL]
      rw [if_neg (by omega)]
    · simp only [stackyardref08_Dfa.l0]
      rw [if_neg (by omega)]
theorem dfa_good (A : Arcs m l) (hns : ns ≤ 4096) (hs : s < m) (he : e < m) (hck : ckA m ns s e l = 0) :
    (∃ K, ∀ k, K ≤ k → nfa_Dfa.f k m ns s e l = some (0, [], [], 3) ∧ stackyardref08_Dfa.f k m ns s e l = some (0, [], [], 3)) ∨
    ∃ K n a b0 ys, (∀ k, K ≤ k → nfa_Dfa.f k m ns s e l = some ((ns : Int), n, a, 0) ∧ stackyardref08_Dfa.f k m ns s e l = some ((ns : Int), n, a, 0)) ∧ b0.length = m ∧ Hand l (setB (none0 m) [(s : Int)]) b0 ∧ n.length = ys.length + 1 ∧ a.length = n.length ∧ n.length ≤ 1024 ∧ Rows m ns e l (b0 :: ys) n a := by
  have hm := A.m1
  obtain ⟨K2, h2⟩ := rcheck_f (a0_0 := m) (a0_1 := ns) (a0_2 := s) (a0_3 := e) (l := l)
  obtain ⟨E, hE, hRE⟩ := empty_f (m := m) A.m1
  obtain ⟨B1, hp, hR1⟩ := put_f hRE A.m1 s hs
  have hR1 : Rep m B1 (setB (none0 m) [(s : Int)]) := hR1
  obtain ⟨K3, B', b0, h3, hR, hH⟩ := closed_f (sy := ns) (s := s) (e := e) A hR1
  obtain ⟨K6, h6⟩ := marks_f (ls := [(s : Int)]) (by simp) A.m1 (okS_one hs) (fun k hk => (h3 k hk).2)
  obtain ⟨K7, h7⟩ := key_f (B := B') (by rw [hR.lB]; omega)
  have hks : (strOfNums (wbs B')).size ≤ 4096 := by rw [strOfNums_size, wbs_len, hR.lB]; omega
  have hmany : manyF ns ([b0] : List (List Bool)).length = false := by
    have h0 : ¬ manyF ns (1 : Nat) = true := fun h => by
      have := (many_iff (n := 1) (by omega) hns).mp h
      omega
    simpa using h0
  have hloop := dfa_loop (s := s) A hns he 1024 0 [B'] [b0] [] [] rfl ⟨hR, hand_self hH, trivial⟩ (by simp) rfl rfl hmany (by simp) (fun q hq => absurd hq (by simp))
  have hcode : ∀ k o, K3 + K7 ≤ k → dfaL k m ns s e l k 0 [B'] ([B'].map keyOf) [] [] = some o → nfa_Dfa.f k m ns s e l = some (match o with | none => ((0 : Int), [], [], (3 : Int)) | some (n, a) => ((ns : Int), n, a, 0)) := by
    intro k o hk ho
    unfold nfa_Dfa.f
    rw [check_f, hck, Option.bind_some, if_pos rfl, hE, Option.bind_some, hp, Option.bind_some, (h3 k (by omega)).1, Option.bind_some, h7 k (by omega), Option.bind_some, if_pos hks]
    have ho' : dfaL k m ns s e l k 0 [B'] [nk (strOfNums (wbs B'))] [] [] = some o := ho
    rw [ho']
    rfl
  have href : ∀ r, (∃ k, stackyardref08_Dfa.l0 k [b0] ((0 : Nat) : Int) m ns s e l ns [] [] = some r) → ∃ K, ∀ k, K ≤ k → stackyardref08_Dfa.f k m ns s e l = some r := by
    rintro r ⟨k, hk⟩
    refine ⟨k + K2 + K6, fun q hq => ?_⟩
    unfold stackyardref08_Dfa.f
    rw [h2 q (by omega), hck, Option.bind_some, if_pos rfl, h6 q (by omega), Option.bind_some]
    exact at_rounds (fun k => (stackyardref08_Dfa.mono_l k).1 _ _ _ _ _ _ _ _ _ _) (show k ≤ q by omega) hk
  rcases hloop with ⟨K, J0, g1, g2⟩ | ⟨K, J0, bsF, n, a, g1, g2, ⟨ys, g3⟩, g4, g5, g6, g7⟩
  · obtain ⟨K8, h8⟩ := href _ g2
    refine .inl ⟨K + J0 + K3 + K7 + K8, fun k hk => ⟨?_, h8 k (by omega)⟩⟩
    rw [hcode k none (by omega) (g1 k k (by omega) (by omega))]
  · obtain ⟨K8, h8⟩ := href _ g2
    refine .inr ⟨K + J0 + K3 + K7 + K8, n, a, b0, ys, fun k hk => ⟨?_, h8 k (by omega)⟩, hR.lb, hH, by rw [g4, g3]; simp, g5, g6, by rw [g3] at g7; exact g7⟩
    rw [hcode k (some (n, a)) (by omega) (g1 k k (by omega) (by omega))]
end
theorem dfa_no {a0_0 a0_1 a0_2 a0_3 : Int} {l : List S78} (hck : ckA a0_0 a0_1 a0_2 a0_3 l ≠ 0) :
    ∃ K, ∀ k, K ≤ k → nfa_Dfa.f k a0_0 a0_1 a0_2 a0_3 l = some (0, [], [], ckA a0_0 a0_1 a0_2 a0_3 l) ∧ stackyardref08_Dfa.f k a0_0 a0_1 a0_2 a0_3 l = some (0, [], [], ckA a0_0 a0_1 a0_2 a0_3 l) := by
  obtain ⟨K, h⟩ := rcheck_f (a0_0 := a0_0) (a0_1 := a0_1) (a0_2 := a0_2) (a0_3 := a0_3) (l := l)
  refine ⟨K, fun k hk => ⟨?_, ?_⟩⟩
  · unfold nfa_Dfa.f
    rw [check_f, Option.bind_some, if_neg hck]
  · unfold stackyardref08_Dfa.f
    rw [h k hk, Option.bind_some, if_neg hck]
end Go.Proofs.Ytapinbmkjkbkkaa.Pu
