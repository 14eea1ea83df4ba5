import Derived.Test.YtapinbmkjkbkkaaDfP4
import Derived.Test.YtapinbmkjkbkkaaDfVi
import Derived.Test.YtapinbmkjkbkkaaDfLbx2
import Derived.Test.YtapinbmkjkbkkaaDfLbx7
import Derived.Test.YtapinbmkjkbkkaaDfLbx3
import Derived.Test.YtapinbmkjkbkkaaDfLbx4
import Derived.Test.YtapinbmkjkbkkaaDfLbx5
import Derived.Test.YtapinbmkjkbkkaaDfLbx8
import Derived.Test.YtapinbmkjkbkkaaDfLbx9
import Derived.Test.YtapinbmkjkbkkaaDfLbx6
namespace Go.Proofs.Ytapinbmkjkbkkaa.Pu
open Go.RowKit Go.Proofs.YtapinbmkjkbkkaaW.PrintWords Go.Proofs.YtapinbmkjkbkkaaW.PrintLast Go.Proofs.YtapinbmkjkbkkaaW.PrintMore Lb Mk Ls
def ckA (a0_0 a0_1 a0_2 a0_3 : Int) (l : List S78) : Int := if 65536 < l.length then 3 else if nfa_headOk a0_0 a0_1 a0_2 a0_3 = true then (if l.all (nfa_arcOk a0_0 a0_1) = true then 0 else 81) else 81
theorem check_f (a0_0 a0_1 a0_2 a0_3 : Int) (l : List S78) : nfa_Check.f a0_0 a0_1 a0_2 a0_3 l = some (ckA a0_0 a0_1 a0_2 a0_3 l) := rfl
section
variable {a0_0 a0_1 a0_2 a0_3 : Int} {l : List S78}
theorem state_f (s : Int) : stackyardref08_State.f a0_0 a0_1 a0_2 a0_3 l s = some (decide (0 ≤ s ∧ s < a0_0)) := by
  unfold stackyardref08_State.f
  by_cases h : s ≥ 0
  · rw [if_pos h]; congr 1; rw [decide_eq_decide]; omega
  · rw [if_neg h]; congr 1; rw [eq_comm, decide_eq_false_iff_not]; omega
theorem all_drop {f : S78 → Bool} {i : Nat} (h : i < l.length) : (l.drop i).all f = (f (rd_T78 l (i : Int)) && (l.drop (i + 1)).all f) := by
  rw [List.drop_eq_getElem_cons h, List.all_cons, rd_eq h]
theorem rcheck_l0 (hl : l.length ≤ 65536) : ∀ (d i : Nat), l.length - i = d → i ≤ l.length → ∀ k, d < k → stackyardref08_Check.l0 k (i : Int) a0_0 a0_1 a0_2 a0_3 l = some (if (l.drop i).all (nfa_arcOk a0_0 a0_1) = true then 0 else 81) := by
  intro d
  induction d with
  | zero =>
    intro i hd hi k hk
    obtain ⟨k, rfl⟩ : ∃ q, k = q + 1 := ⟨k - 1, by omega⟩
    simp only [stackyardref08_Check.l0]
    rw [if_neg (by omega), List.drop_eq_nil_of_le (by omega)]
    rfl
  | succ d ih =>
    intro i hd hi k hk
    obtain ⟨k, rfl⟩ : ∃ q, k = q + 1 := ⟨k - 1, by omega⟩
    have hlt : i < l.length := by omega
    have hw := wrap1 (i := i) (by omega)
    have ih' := ih (i + 1) (by omega) (by omega) k (by omega)
    simp only [stackyardref08_Check.l0]
    rw [if_pos (by omega), if_pos (by omega), state_f, state_f, hw, ih', all_drop hlt]
    simp only [Option.bind_some]
    generalize rd_T78 l (i : Int) = x
    by_cases h0 : 0 ≤ x.f0 ∧ x.f0 < a0_0
    · rw [decide_eq_true h0, if_pos rfl]
      by_cases h2 : 0 ≤ x.f2 ∧ x.f2 < a0_0
      · rw [decide_eq_true h2, if_pos rfl]
        by_cases h3 : x.f1 < -2
        · rw [if_pos h3, show nfa_arcOk a0_0 a0_1 x = false from decide_eq_false (fun q => by omega)]
          rfl
        · rw [if_neg h3]
          by_cases h4 : x.f1 ≥ a0_1
          · rw [if_pos h4, show nfa_arcOk a0_0 a0_1 x = false from decide_eq_false (fun q => by omega)]
            rfl
          · rw [if_neg h4, show nfa_arcOk a0_0 a0_1 x = true from decide_eq_true ⟨h0, h2, by omega, by omega⟩]
            rfl
      · rw [decide_eq_false h2, if_neg (by simp), show nfa_arcOk a0_0 a0_1 x = false from decide_eq_false (fun q => h2 q.2.1)]
        rfl
    · rw [decide_eq_false h0, if_neg (by simp), show nfa_arcOk a0_0 a0_1 x = false from decide_eq_false (fun q => h0 q.1)]
      rfl
theorem rcheck_f : ∃ K, ∀ k, K ≤ k → stackyardref08_Check.f k a0_0 a0_1 a0_2 a0_3 l = some (ckA a0_0 a0_1 a0_2 a0_3 l) := by
  refine ⟨l.length + 2, fun k hk => ?_⟩
  obtain ⟨k, rfl⟩ : ∃ q, k = q + 1 := ⟨k - 1, by omega⟩
  unfold stackyardref08_Check.f ckA
  by_cases h1 : 65536 < l.length
  · rw [if_pos (by omega), if_pos h1]
  · rw [if_neg (by omega), if_neg h1]
    have hj : ∀ b, stackyardref08_Check.j0 (k + 1) b a0_0 a0_1 a0_2 a0_3 l = if b = true then some 81 else some (if l.all (nfa_arcOk a0_0 a0_1) = true then 0 else 81) := by
      intro b
      simp only [stackyardref08_Check.j0]
      have := rcheck_l0 (a0_0 := a0_0) (a0_1 := a0_1) (a0_2 := a0_2) (a0_3 := a0_3) (l := l) (by omega) l.length 0 rfl (by omega) k (by omega)
      rw [List.drop_zero] at this
      have this : stackyardref08_Check.l0 k 0 a0_0 a0_1 a0_2 a0_3 l = _ := this
      rw [this]
    simp only [hj, state_f, Option.bind_some]
    by_cases h2 : nfa_headOk a0_0 a0_1 a0_2 a0_3 = true
    · obtain ⟨c1, c2, c3, c4, c5, c6⟩ := of_decide_eq_true h2
      rw [if_pos h2, if_neg (by omega), if_neg (by omega), if_neg (by omega), if_neg (by omega), decide_eq_true c5, decide_eq_true c6, if_pos rfl, if_neg (by simp)]
    · rw [if_neg h2]
      have h2' := of_decide_eq_false (by simpa using h2 : nfa_headOk a0_0 a0_1 a0_2 a0_3 = false)
      by_cases c1 : a0_0 < 1
      · rw [if_pos c1, if_pos trivial]
      · rw [if_neg c1]
        by_cases c2 : a0_0 > 4096
        · rw [if_pos c2, if_pos trivial]
        · rw [if_neg c2]
          by_cases c3 : a0_1 < 0
          · rw [if_pos c3, if_pos trivial]
          · rw [if_neg c3]
            by_cases c4 : a0_1 > 4096
            · rw [if_pos c4, if_pos trivial]
            · rw [if_neg c4]
              by_cases c5 : 0 ≤ a0_2 ∧ a0_2 < a0_0
              · rw [decide_eq_true c5, if_pos rfl, decide_eq_false (fun c6 => h2' ⟨by omega, by omega, by omega, by omega, c5, c6⟩)]; simp
              · rw [decide_eq_false c5, if_neg (by simp)]; simp
theorem ck_ok (h : ckA a0_0 a0_1 a0_2 a0_3 l = 0) : ∃ m ns s e : Nat, a0_0 = m ∧ a0_1 = ns ∧ a0_2 = s ∧ a0_3 = e ∧ ns ≤ 4096 ∧ s < m ∧ e < m ∧ Arcs m l ∧ ∀ x ∈ l, -2 ≤ x.f1 ∧ x.f1 < ns := by
  unfold ckA at h
  by_cases h1 : 65536 < l.length
  · rw [if_pos h1] at h; exact absurd h (by decide)
  · rw [if_neg h1] at h
    by_cases h2 : nfa_headOk a0_0 a0_1 a0_2 a0_3 = true
    · rw [if_pos h2] at h
      by_cases h3 : l.all (nfa_arcOk a0_0 a0_1) = true
      · obtain ⟨c1, c2, c3, c4, c5, c6⟩ := of_decide_eq_true h2
        obtain ⟨m, rfl⟩ := Int.eq_ofNat_of_zero_le (show 0 ≤ a0_0 by omega)
        obtain ⟨ns, rfl⟩ := Int.eq_ofNat_of_zero_le c3
        obtain ⟨s, rfl⟩ := Int.eq_ofNat_of_zero_le c5.1
        obtain ⟨e, rfl⟩ := Int.eq_ofNat_of_zero_le c6.1
        refine ⟨m, ns, s, e, rfl, rfl, rfl, rfl, by omega, by omega, by omega, ⟨by omega, by omega, by omega, fun x hx => ?_⟩, fun x hx => ?_⟩
        · have := of_decide_eq_true (List.all_eq_true.mp h3 x hx)
          exact ⟨this.1, this.2.1⟩
        · have := of_decide_eq_true (List.all_eq_true.mp h3 x hx)
          exact this.2.2
      · rw [if_neg h3] at h; exact absurd h (by decide)
    · rw [if_neg h2] at h; exact absurd h (by decide)
end
def okS (n : Int) (ls : List Int) : Bool := ls.all fun x => decide (0 ≤ x) && decide (x < n)
theorem okS_drop {n : Int} {ls : List Int} {i : Nat} (h : i < ls.length) : okS n (ls.drop i) = (decide (0 ≤ rd ls (i : Int)) && decide (rd ls (i : Int) < n) && okS n (ls.drop (i + 1))) := by
  unfold okS
  have e : rd ls (i : Int) = ls[i] := by unfold rd; simp [List.getElem?_eq_getElem h]
  rw [List.drop_eq_getElem_cons h, List.all_cons, e]
def setB (b : List Bool) (ls : List Int) : List Bool := ls.foldl (fun b x => b.set x.toNat true) b
theorem setB_drop {b : List Bool} {ls : List Int} {i : Nat} (h : i < ls.length) : setB b (ls.drop i) = setB (b.set (rd ls (i : Int)).toNat true) (ls.drop (i + 1)) := by
  unfold setB
  have e : rd ls (i : Int) = ls[i] := by unfold rd; simp [List.getElem?_eq_getElem h]
  rw [List.drop_eq_getElem_cons h, List.foldl_cons, e]
def none0 (m : Nat) : List Bool := List.replicate m false
def asE (m ns : Nat) (ls ws : List Int) : Int := if okS m ls = true then (if okS ns ws = true then 0 else 102) else 101
section
variable {m ns : Nat} {s e : Int} {l : List S78}
theorem asked_l1 {ws : List Int} (hw : ws.length < 4611686018427387904) : ∀ (d i : Nat), ws.length - i = d → i ≤ ws.length → ∀ (B : List Int) k, d < k →
    nfa_asked.l1 k B ws (ws.length : Int) (i : Int) m ns s e l = some (if okS ns (ws.drop i) = true then (B, 0) else ([], 102)) := by
  intro d
  induction d with
  | zero =>
    intro i hd hi B k hk
    obtain ⟨k, rfl⟩ : ∃ q, k = q + 1 := ⟨k - 1, by omega⟩
    simp only [nfa_asked.l1]
    rw [if_neg (by omega), List.drop_eq_nil_of_le (by omega)]
    rfl
  | succ d ih =>
    intro i hd hi B k hk
    obtain ⟨k, rfl⟩ : ∃ q, k = q + 1 := ⟨k - 1, by omega⟩
    have hlt : i < ws.length := by omega
    have hwr := wrap1 (i := i) (by omega)
    have ih' := ih (i + 1) (by omega) (by omega) B k (by omega)
    simp only [nfa_asked.l1]
    rw [if_pos (by omega), if_pos (by omega), if_pos (by omega), hwr, ih', okS_drop hlt]
    generalize rd ws (i : Int) = x
    by_cases h0 : x < 0
    · rw [if_pos h0, decide_eq_false (by omega : ¬ 0 ≤ x)]; rfl
    · rw [if_neg h0, decide_eq_true (by omega : 0 ≤ x)]
      by_cases h1 : x ≥ ns
      · rw [if_pos h1, decide_eq_false (by omega : ¬ x < ns)]; rfl
      · rw [if_neg h1, decide_eq_true (by omega : x < ns)]; rfl
theorem asked_l0 (A : Arcs m l) {ls ws : List Int} (hl : ls.length < 4611686018427387904) (hw : ws.length < 4611686018427387904) : ∀ (d i : Nat), ls.length - i = d → i ≤ ls.length → ∀ (B : List Int) (b : List Bool), Rep m B b →
    ∃ B', (okS m (ls.drop i) = true → Rep m B' (setB b (ls.drop i))) ∧ ∀ k, d + ws.length + 1 < k →
      nfa_asked.l0 k ws B ls (ls.length : Int) (i : Int) m ns s e l = some (if okS m (ls.drop i) = true then (if okS ns ws = true then (B', 0) else ([], 102)) else ([], 101)) := by
  intro d
  induction d with
  | zero =>
    intro i hd hi B b hR
    refine ⟨B, fun _ => by rw [List.drop_eq_nil_of_le (by omega)]; exact hR, fun k hk => ?_⟩
    obtain ⟨k, rfl⟩ : ∃ q, k = q + 1 := ⟨k - 1, by omega⟩
    simp only [nfa_asked.l0]
    have := asked_l1 (m := m) (ns := ns) (s := s) (e := e) (l := l) hw ws.length 0 rfl (by omega) B k (by omega)
    rw [List.drop_zero] at this
    rw [if_neg (by omega), List.drop_eq_nil_of_le (by omega), show (0 : Int) = ((0 : Nat) : Int) from rfl, this]
    rfl
  | succ d ih =>
    intro i hd hi B b hR
    have hlt : i < ls.length := by omega
    have hwr := wrap1 (i := i) (by omega)
    rw [okS_drop hlt, setB_drop hlt]
    generalize hx : rd ls (i : Int) = x
    by_cases h0 : x < 0
    · refine ⟨[], ?_, ?_⟩
      · intro h; rw [decide_eq_false (by omega : ¬ 0 ≤ x)] at h; simp at h
      intro k hk
      obtain ⟨k, rfl⟩ : ∃ q, k = q + 1 := ⟨k - 1, by omega⟩
      simp only [nfa_asked.l0]
      rw [if_pos (by omega), if_pos (by omega), if_pos (by omega), hx, if_pos h0, decide_eq_false (by omega : ¬ 0 ≤ x)]
      rfl
    · by_cases h1 : x ≥ m
      · refine ⟨[], ?_, ?_⟩
        · intro h; rw [decide_eq_false (by omega : ¬ x < m)] at h; simp at h
        intro k hk
        obtain ⟨k, rfl⟩ : ∃ q, k = q + 1 := ⟨k - 1, by omega⟩
        simp only [nfa_asked.l0]
        rw [if_pos (by omega), if_pos (by omega), if_pos (by omega), hx, if_neg h0, if_pos h1, decide_eq_false (by omega : ¬ x < m)]
        simp
      · obtain ⟨u, rfl⟩ := Int.eq_ofNat_of_zero_le (show 0 ≤ x by omega)
        obtain ⟨B1, hp, hR1⟩ := put_f hR A.m1 u (by omega)
        obtain ⟨B', hB', hk'⟩ := ih (i + 1) (by omega) (by omega) B1 (b.set u true) hR1
        rw [decide_eq_true (by omega : (0 : Int) ≤ u), decide_eq_true (by omega : (u : Int) < m), Bool.true_and, Bool.true_and, Int.toNat_natCast]
        refine ⟨B', hB', fun k hk => ?_⟩
        obtain ⟨k, rfl⟩ : ∃ q, k = q + 1 := ⟨k - 1, by omega⟩
        simp only [nfa_asked.l0]
        rw [if_pos (by omega), if_pos (by omega), if_pos (by omega), hx, if_neg h0, if_neg h1, hp, Option.bind_some, hwr]
        exact hk' k (by omega)
theorem asked_f (A : Arcs m l) {ls ws : List Int} (hl : ls.length < 4611686018427387904) (hw : ws.length < 4611686018427387904) (hck : ckA m ns s e l = 0) :
    ∃ K B, (asE m ns ls ws = 0 → Rep m B (setB (none0 m) ls)) ∧ ∀ k, K ≤ k → nfa_asked.f k m ns s e l ls ws = some (if asE m ns ls ws = 0 then (B, 0) else ([], asE m ns ls ws)) := by
  obtain ⟨E, hE, hRE⟩ := empty_f (m := m) A.m1
  obtain ⟨B, hB, hk⟩ := asked_l0 (ns := ns) (s := s) (e := e) A hl hw ls.length 0 rfl (by omega) E _ hRE
  rw [List.drop_zero] at hB hk
  refine ⟨ls.length + ws.length + 2, B, fun h => ?_, fun k hk' => ?_⟩
  · by_cases h1 : okS m ls = true
    · exact hB h1
    · unfold asE at h; rw [if_neg h1] at h; exact absurd h (by decide)
  · unfold nfa_asked.f
    rw [check_f, hck, Option.bind_some, if_pos rfl, hE, Option.bind_some, show (0 : Int) = ((0 : Nat) : Int) from rfl, hk k (by omega)]
    unfold asE
    by_cases h1 : okS m ls = true
    · rw [if_pos h1, if_pos h1]
      by_cases h2 : okS ns ws = true
      · rw [if_pos h2, if_pos h2]; rfl
      · rw [if_neg h2, if_neg h2]; rfl
    · rw [if_neg h1, if_neg h1]; rfl
theorem asked_no {a0_0 a0_1 a0_2 a0_3 : Int} {ls ws : List Int} (hck : ckA a0_0 a0_1 a0_2 a0_3 l ≠ 0) (k : Nat) : nfa_asked.f k a0_0 a0_1 a0_2 a0_3 l ls ws = some ([], ckA a0_0 a0_1 a0_2 a0_3 l) := by
  unfold nfa_asked.f
  rw [check_f, Option.bind_some, if_neg hck]
theorem rasked_l1 {ws : List Int} (hw : ws.length < 4611686018427387904) : ∀ (d i : Nat), ws.length - i = d → i ≤ ws.length → ∀ k, d < k →
    stackyardref08_asked.l1 k ws (i : Int) m ns s e l = some (if okS ns (ws.drop i) = true then 0 else 102) := by
  intro d
  induction d with
  | zero =>
    intro i hd hi k hk
    obtain ⟨k, rfl⟩ : ∃ q, k = q + 1 := ⟨k - 1, by omega⟩
    simp only [stackyardref08_asked.l1]
    rw [if_neg (by omega), List.drop_eq_nil_of_le (by omega)]
    rfl
  | succ d ih =>
    intro i hd hi k hk
    obtain ⟨k, rfl⟩ : ∃ q, k = q + 1 := ⟨k - 1, by omega⟩
    have hlt : i < ws.length := by omega
    have hwr := wrap1 (i := i) (by omega)
    have ih' := ih (i + 1) (by omega) (by omega) k (by omega)
    simp only [stackyardref08_asked.l1]
    rw [if_pos (by omega), if_pos (by omega), hwr, ih', okS_drop hlt]
    generalize rd ws (i : Int) = x
    by_cases h0 : x < 0
    · rw [if_pos h0, decide_eq_false (by omega : ¬ 0 ≤ x)]; rfl
    · rw [if_neg h0, decide_eq_true (by omega : 0 ≤ x)]
      by_cases h1 : x ≥ ns
      · rw [if_pos h1, decide_eq_false (by omega : ¬ x < ns)]; rfl
      · rw [if_neg h1, decide_eq_true (by omega : x < ns)]; rfl
theorem rasked_l0 {ls ws : List Int} (hl : ls.length < 4611686018427387904) (hw : ws.length < 4611686018427387904) : ∀ (d i : Nat), ls.length - i = d → i ≤ ls.length → ∀ k, d + ws.length + 1 < k →
    stackyardref08_asked.l0 k ls ws (i : Int) m ns s e l = some (if okS m (ls.drop i) = true then (if okS ns ws = true then 0 else 102) else 101) := by
  intro d
  induction d with
  | zero =>
    intro i hd hi k hk
    obtain ⟨k, rfl⟩ : ∃ q, k = q + 1 := ⟨k - 1, by omega⟩
    simp only [stackyardref08_asked.l0]
    have := rasked_l1 (m := m) (ns := ns) (s := s) (e := e) (l := l) hw ws.length 0 rfl (by omega) k (by omega)
    rw [List.drop_zero] at this
    rw [if_neg (by omega), List.drop_eq_nil_of_le (by omega), show (0 : Int) = ((0 : Nat) : Int) from rfl, this]
    rfl
  | succ d ih =>
    intro i hd hi k hk
    obtain ⟨k, rfl⟩ : ∃ q, k = q + 1 := ⟨k - 1, by omega⟩
    have hlt : i < ls.length := by omega
    have hwr := wrap1 (i := i) (by omega)
    have ih' := ih (i + 1) (by omega) (by omega) k (by omega)
    simp only [stackyardref08_asked.l0]
    rw [if_pos (by omega), if_pos (by omega), state_f, Option.bind_some, hwr, ih', okS_drop hlt]
    generalize rd ls (i : Int) = x
    by_cases h0 : 0 ≤ x ∧ x < m
    · rw [decide_eq_true h0, if_pos rfl, decide_eq_true h0.1, decide_eq_true h0.2]; rfl
    · rw [decide_eq_false h0, if_neg (by simp)]
      have : (decide (0 ≤ x) && decide (x < (m : Int))) = false := by
        rw [← Bool.decide_and]; exact decide_eq_false h0
      rw [this]; rfl
theorem rasked_f {ls ws : List Int} (hl : ls.length < 4611686018427387904) (hw : ws.length < 4611686018427387904) (hck : ckA m ns s e l = 0) :
    ∃ K, ∀ k, K ≤ k → stackyardref08_asked.f k m ns s e l ls ws = some (asE m ns ls ws) := by
  obtain ⟨K, hK⟩ := rcheck_f (a0_0 := m) (a0_1 := ns) (a0_2 := s) (a0_3 := e) (l := l)
  refine ⟨K + (ls.length + ws.length + 2), fun k hk => ?_⟩
  unfold stackyardref08_asked.f
  have := rasked_l0 (m := m) (ns := ns) (s := s) (e := e) (l := l) hl hw ls.length 0 rfl (by omega) k (by omega)
  rw [List.drop_zero] at this
  rw [hK k (by omega), hck, Option.bind_some, if_pos rfl, show (0 : Int) = ((0 : Nat) : Int) from rfl, this]
  rfl
theorem rasked_no {a0_0 a0_1 a0_2 a0_3 : Int} {ls ws : List Int} (hck : ckA a0_0 a0_1 a0_2 a0_3 l ≠ 0) : ∃ K, ∀ k, K ≤ k → stackyardref08_asked.f k a0_0 a0_1 a0_2 a0_3 l ls ws = some (ckA a0_0 a0_1 a0_2 a0_3 l) := by
  obtain ⟨K, hK⟩ := rcheck_f (a0_0 := a0_0) (a0_1 := a0_1) (a0_2 := a0_2) (a0_3 := a0_3) (l := l)
  refine ⟨K, fun k hk => ?_⟩
  unfold stackyardref08_asked.f
  rw [hK k hk, Option.bind_some, if_neg hck]
theorem marks_l0 {ls : List Int} (hl : ls.length < 4611686018427387904) (hm : m ≤ 4096) {b' : List Bool} {K : Nat} (hok : okS m ls = true)
    (hh : ∀ k, K ≤ k → stackyardref08_hand.f k m ns s e l (setB (none0 m) ls) = some b') : ∀ (d i : Nat) (b : List Bool), ls.length - i = d → i ≤ ls.length → b.length = m → setB b (ls.drop i) = setB (none0 m) ls → okS m (ls.drop i) = true → ∀ k, K + d < k →
    stackyardref08_marks.l0 k ls b (i : Int) m ns s e l = some b' := by
  intro d
  induction d with
  | zero =>
    intro i b hd hi hb hs ho k hk
    obtain ⟨k, rfl⟩ : ∃ q, k = q + 1 := ⟨k - 1, by omega⟩
    simp only [stackyardref08_marks.l0]
    rw [List.drop_eq_nil_of_le (by omega)] at hs
    have hs' : b = setB (none0 m) ls := hs
    rw [if_neg (by omega), hs', hh k (by omega)]
    rfl
  | succ d ih =>
    intro i b hd hi hb hs ho k hk
    obtain ⟨k, rfl⟩ : ∃ q, k = q + 1 := ⟨k - 1, by omega⟩
    have hlt : i < ls.length := by omega
    have hwr := wrap1 (i := i) (by omega)
    rw [okS_drop hlt] at ho
    rw [setB_drop hlt] at hs
    simp only [Bool.and_eq_true, decide_eq_true_eq] at ho
    simp only [stackyardref08_marks.l0]
    rw [if_pos (by omega), if_pos (by omega), if_pos ho.1.1, if_pos (by omega), hwr]
    exact ih (i + 1) _ (by omega) (by omega) (by simp [hb]) hs ho.2 k (by omega)
theorem marks_f {ls : List Int} (hl : ls.length < 4611686018427387904) (hm : m ≤ 4096) {b' : List Bool} {K : Nat} (hok : okS m ls = true)
    (hh : ∀ k, K ≤ k → stackyardref08_hand.f k m ns s e l (setB (none0 m) ls) = some b') : ∃ K, ∀ k, K ≤ k → stackyardref08_marks.f k m ns s e l ls = some b' := by
  refine ⟨K + ls.length + 1, fun k hk => ?_⟩
  unfold stackyardref08_marks.f
  rw [if_pos (by omega), Int.toNat_natCast, if_pos (by omega)]
  exact marks_l0 hl hm hok hh ls.length 0 (none0 m) rfl (by omega) (by simp [none0]) (by rw [List.drop_zero]) (by rw [List.drop_zero]; exact hok) k (by omega)
theorem numbers_l0 {xs : List Int} (h : xs.length < 4611686018427387904) : ∀ (d i : Nat), xs.length - i = d → i ≤ xs.length → ∀ k, d < k → stackyardref08_Numbers.l0 k xs xs (i : Int) = some true := by
  intro d
  induction d with
  | zero =>
    intro i hd hi k hk
    obtain ⟨k, rfl⟩ : ∃ q, k = q + 1 := ⟨k - 1, by omega⟩
    simp only [stackyardref08_Numbers.l0]
    rw [if_neg (by omega)]
  | succ d ih =>
    intro i hd hi k hk
    obtain ⟨k, rfl⟩ : ∃ q, k = q + 1 := ⟨k - 1, by omega⟩
    simp only [stackyardref08_Numbers.l0]
    rw [if_pos (by omega), if_pos (by omega), if_pos (by omega), if_pos trivial, wrap1 (by omega)]
    exact ih (i + 1) (by omega) (by omega) k (by omega)
end
end Go.Proofs.Ytapinbmkjkbkkaa.Pu
namespace Go.Proofs.Ytapinbmkjkbkkaa.Pu
open Go.RowKit Go.Proofs.YtapinbmkjkbkkaaW.PrintWords Go.Proofs.YtapinbmkjkbkkaaW.PrintLast Go.Proofs.YtapinbmkjkbkkaaW.PrintMore Lb Mk Ls
theorem rd_get {ls : List Int} {i : Nat} (h : i < ls.length) : rd ls (i : Int) = ls[i] := by unfold rd; simp [List.getElem?_eq_getElem h]
theorem okS_mem {n : Int} {ls : List Int} (h : okS n ls = true) {x : Int} (hx : x ∈ ls) : 0 ≤ x ∧ x < n := by
  have := List.all_eq_true.mp h x hx
  simp only [Bool.and_eq_true, decide_eq_true_eq] at this
  exact this
theorem okS_of {n : Int} {ls : List Int} (h : ∀ x ∈ ls, 0 ≤ x ∧ x < n) : okS n ls = true :=
  List.all_eq_true.mpr fun x hx => by simp only [Bool.and_eq_true, decide_eq_true_eq]; exact h x hx
theorem okS_one {m s : Nat} (h : s < m) : okS m [(s : Int)] = true := okS_of fun x hx => by
  have : x = s := by simpa using hx
  omega
inductive Walk (m : Nat) (l : List S78) : List Bool → List Int → List Bool → Prop
  | nil (b : List Bool) : Walk m l b [] b
  | cons {x : Int} {w : List Int} {b b1 b2 : List Bool} (hb : By m l x b b1) (hl : b1.length = m) (h : Walk m l b1 w b2) : Walk m l b (x :: w) b2
theorem asE_zero {m ns : Nat} {ls ws : List Int} : asE m ns ls ws = 0 ↔ okS m ls = true ∧ okS ns ws = true := by
  unfold asE
  by_cases h : okS m ls = true
  · by_cases h2 : okS ns ws = true
    · simp [h, h2]
    · rw [if_pos h, if_neg h2]; simp [h2]
  · rw [if_neg h]; simp [h]
section
variable {m ns : Nat} {s e : Nat} {l : List S78}
theorem run_l0 (A : Arcs m l) (he : e < m) {ws : List Int} (hw : ws.length < 4611686018427387904) : ∀ (d i : Nat), ws.length - i = d → i ≤ ws.length → ∀ (S : List Int) (b : List Bool), Rep m S b → Hand l b b →
    ∃ K b', b'.length = m ∧ Walk m l b (ws.drop i) b' ∧ Hand l b' b' ∧ ∀ k, K ≤ k → nfa_Run.l0 k S ws (ws.length : Int) (i : Int) m ns s e l = some (b'.getD e false, 0) ∧ stackyardref08_Run.l0 k ws b (i : Int) m ns s e l = some (b'.getD e false, 0) := by
  intro d
  induction d with
  | zero =>
    intro i hd hi S b hR hH
    refine ⟨1, b, hR.lb, by rw [List.drop_eq_nil_of_le (by omega)]; exact .nil b, hH, fun k hk => ?_⟩
    obtain ⟨k, rfl⟩ : ∃ q, k = q + 1 := ⟨k - 1, by omega⟩
    have hlb := hR.lb
    simp only [nfa_Run.l0, stackyardref08_Run.l0]
    rw [if_neg (by omega), if_neg (by omega), has_f hR A.m1 e he, if_pos (by omega), if_pos (by omega)]
    exact ⟨rfl, by simp [rdOf]⟩
  | succ d ih =>
    intro i hd hi S b hR hH
    have hlt : i < ws.length := by omega
    have hwr := wrap1 (i := i) (by omega)
    obtain ⟨K1, S', b1, h1, hR1, hBy⟩ := step_f (sy := ns) (s := s) (e := e) A (sym := rd ws (i : Int)) hR hH hR.lb
    obtain ⟨K2, b', hl, hWk, hH', h2⟩ := ih (i + 1) (by omega) (by omega) S' b1 hR1 (by_shut hBy)
    refine ⟨K1 + K2 + 1, b', hl, ?_, hH', fun k hk => ?_⟩
    · rw [List.drop_eq_getElem_cons hlt]
      rw [rd_get hlt] at hBy
      exact .cons hBy hR1.lb hWk
    obtain ⟨k, rfl⟩ : ∃ q, k = q + 1 := ⟨k - 1, by omega⟩
    simp only [nfa_Run.l0, stackyardref08_Run.l0]
    rw [if_pos (by omega), if_pos (by omega), if_pos (by omega), if_pos (by omega), if_pos (by omega), (h1 k (by omega)).1, (h1 k (by omega)).2, Option.bind_some, Option.bind_some, hwr]
    exact h2 k (by omega)
theorem run_good (A : Arcs m l) (hs : s < m) (he : e < m) {ws : List Int} (hw : ws.length < 4611686018427387904) (hck : ckA m ns s e l = 0) (has : okS ns ws = true) :
    ∃ K b0 b', b0.length = m ∧ Hand l (setB (none0 m) [(s : Int)]) b0 ∧ b'.length = m ∧ Walk m l b0 ws b' ∧ ∀ k, K ≤ k → nfa_Run.f k m ns s e l ws = some (b'.getD e false, 0) ∧ stackyardref08_Run.f k m ns s e l ws = some (b'.getD e false, 0) := by
  have hm := A.m1
  have has' : asE m ns [] ws = 0 := asE_zero.mpr ⟨rfl, has⟩
  obtain ⟨K1, B, hB, h1⟩ := asked_f (ns := ns) (s := s) (e := e) A (ls := []) (by simp) hw hck
  obtain ⟨K2, h2⟩ := rasked_f (m := m) (ns := ns) (s := s) (e := e) (l := l) (ls := []) (by simp) hw hck
  obtain ⟨B1, hp, hR1⟩ := put_f (hB has') A.m1 s hs
  have hR1 : Rep m B1 (setB (none0 m) [(s : Int)]) := hR1
  obtain ⟨K3, B', b0, h3, hR, hH⟩ := closed_f (sy := ns) (s := s) (e := e) A hR1
  obtain ⟨K6, h6⟩ := marks_f (ls := [(s : Int)]) (by simp) A.m1 (okS_one hs) (fun k hk => (h3 k hk).2)
  obtain ⟨K7, b', hl', hWk, _, h7⟩ := run_l0 (ns := ns) (s := s) A he hw ws.length 0 rfl (by omega) B' b0 hR (hand_self hH)
  rw [List.drop_zero] at hWk
  refine ⟨K1 + K2 + K3 + K6 + K7, b0, b', hR.lb, hH, hl', hWk, fun k hk => ⟨?_, ?_⟩⟩
  · unfold nfa_Run.f
    rw [h1 k (by omega), Option.bind_some, if_pos has']
    show (if (0 : Int) = 0 then _ else _) = _
    rw [if_pos rfl, hp, Option.bind_some, (h3 k (by omega)).1, Option.bind_some]
    exact (h7 k (by omega)).1
  · unfold stackyardref08_Run.f
    rw [h2 k (by omega), Option.bind_some, if_pos has', h6 k (by omega), Option.bind_some]
    exact (h7 k (by omega)).2
theorem run_bad (A : Arcs m l) {ws : List Int} (hw : ws.length < 4611686018427387904) (hck : ckA m ns s e l = 0) (has : okS ns ws ≠ true) :
    ∃ K, ∀ k, K ≤ k → nfa_Run.f k m ns s e l ws = some (false, 102) ∧ stackyardref08_Run.f k m ns s e l ws = some (false, 102) := by
  have e0 : asE m ns [] ws = 102 := by
    unfold asE
    rw [show okS (m : Int) [] = true from rfl, if_pos rfl, if_neg has]
  obtain ⟨K1, B, hB, h1⟩ := asked_f (ns := ns) (s := s) (e := e) A (ls := []) (by simp) hw hck
  obtain ⟨K2, h2⟩ := rasked_f (m := m) (ns := ns) (s := s) (e := e) (l := l) (ls := []) (by simp) hw hck
  rw [e0] at h1 h2
  refine ⟨K1 + K2, fun k hk => ⟨?_, ?_⟩⟩
  · unfold nfa_Run.f
    rw [h1 k (by omega), Option.bind_some, if_neg (show ¬ ((102 : Int) = 0) by decide)]
    show (if (102 : Int) = 0 then _ else _) = _
    rw [if_neg (by decide)]
  · unfold stackyardref08_Run.f
    rw [h2 k (by omega), Option.bind_some, if_neg (by decide)]
end
theorem run_no {a0_0 a0_1 a0_2 a0_3 : Int} {l : List S78} {ws : List Int} (hck : ckA a0_0 a0_1 a0_2 a0_3 l ≠ 0) :
    ∃ K, ∀ k, K ≤ k → nfa_Run.f k a0_0 a0_1 a0_2 a0_3 l ws = some (false, ckA a0_0 a0_1 a0_2 a0_3 l) ∧ stackyardref08_Run.f k a0_0 a0_1 a0_2 a0_3 l ws = some (false, ckA a0_0 a0_1 a0_2 a0_3 l) := by
  obtain ⟨K, h⟩ := rasked_no (ls := []) (ws := ws) hck
  refine ⟨K, fun k hk => ⟨?_, ?_⟩⟩
  · unfold nfa_Run.f
    rw [asked_no hck, Option.bind_some]
    show (if ckA a0_0 a0_1 a0_2 a0_3 l = 0 then _ else _) = _
    rw [if_neg hck]
  · unfold stackyardref08_Run.f
    rw [h k hk, Option.bind_some, if_neg hck]
section
variable {m ns : Nat} {s e : Nat} {l : List S78}
end
end Go.Proofs.Ytapinbmkjkbkkaa.Pu
namespace Go.Proofs.Ytapinbmkjkbkkaa.Pu
open Go.RowKit Go.Proofs.YtapinbmkjkbkkaaW.PrintWords Go.Proofs.YtapinbmkjkbkkaaW.PrintLast Go.Proofs.YtapinbmkjkbkkaaW.PrintMore Lb Mk
theorem digits_eq : ∀ (n w1 w2 : Nat), w1 < 256 ^ n → w2 < 256 ^ n → (∀ i, i < n → w1 / 256 ^ i % 256 = w2 / 256 ^ i % 256) → w1 = w2
  | 0, w1, w2, h1, h2, _ => by simp at h1 h2; omega
  | n + 1, w1, w2, h1, h2, h => by
    have h0 := h 0 (by omega)
    simp only [Nat.pow_zero, Nat.div_one] at h0
    have := digits_eq n (w1 / 256) (w2 / 256) (by rw [Nat.pow_succ] at h1; omega) (by rw [Nat.pow_succ] at h2; omega) (fun i hi => by
      have := h (i + 1) (by omega)
      rw [Nat.pow_succ, Nat.mul_comm, ← Nat.div_div_eq_div_mul, ← Nat.div_div_eq_div_mul] at this
      exact this)
    omega
def wb (w : Int) : List Int := (List.range 8).map fun x : Nat => (shr .u64 w (8 * (x : Int))) % 256
def wbs (B : List Int) : List Int := B.flatMap wb
theorem wb_len (w : Int) : (wb w).length = 8 := by simp [wb]
theorem wbs_len : ∀ B : List Int, (wbs B).length = 8 * B.length
  | [] => rfl
  | w :: B => by
    have := wbs_len B
    simp only [wbs, List.flatMap_cons, List.length_append, wb_len, List.length_cons] at this ⊢
    omega
theorem key_l1 {B : List Int} {i : Nat} {v : Int} (hi : i < 4096) (hl : B.length ≤ 4096) : ∀ (d x : Nat), 8 - x = d → x ≤ 8 → ∀ (acc : List Int) k, acc.length ≤ 40000 + x →
    nfa_key.l1 (k + d + 1) acc v B (B.length : Int) (i : Int) (x : Int) = nfa_key.l0 k (acc ++ ((List.range' x d).map fun x : Nat => (shr .u64 v (8 * (x : Int))) % 256)) B (B.length : Int) ((i + 1 : Nat) : Int) := by
  intro d
  induction d with
  | zero =>
    intro x hd hx acc k ha
    simp only [nfa_key.l1]
    rw [if_neg (by omega), show wrap64 ((i : Int) + 1) = ((i + 1 : Nat) : Int) by unfold wrap64; omega]
    simp
  | succ d ih =>
    intro x hd hx acc k ha
    have e1 : wrap64 (8 * (x : Int)) = 8 * (x : Int) := by unfold wrap64; omega
    have e2 : wrap64 ((x : Int) + 1) = ((x + 1 : Nat) : Int) := by unfold wrap64; omega
    rw [show k + (d + 1) + 1 = (k + d + 1) + 1 by omega]
    generalize hK : k + d + 1 = K at ih ⊢
    simp only [nfa_key.l1]
    rw [if_pos (by omega), e1, if_pos (by omega), if_pos (by omega), e2, ← hK, ih (x + 1) (by omega) (by omega) _ k (by simp; omega), List.range'_succ]
    simp
theorem key_l0 {B : List Int} (hl : B.length ≤ 4096) : ∀ (d i : Nat), B.length - i = d → i ≤ B.length → ∀ (acc : List Int), acc.length ≤ 8 * i → ∃ K, ∀ k, K ≤ k → nfa_key.l0 k acc B (B.length : Int) (i : Int) = some (strOfNums (acc ++ wbs (B.drop i))) := by
  intro d
  induction d with
  | zero =>
    intro i hd hi acc ha
    refine ⟨1, fun k hk => ?_⟩
    obtain ⟨k, rfl⟩ : ∃ q, k = q + 1 := ⟨k - 1, by omega⟩
    simp only [nfa_key.l0]
    rw [if_neg (by omega), List.drop_eq_nil_of_le (by omega)]
    simp [wbs]
  | succ d ih =>
    intro i hd hi acc ha
    have hlt : i < B.length := by omega
    obtain ⟨K, hK⟩ := ih (i + 1) (by omega) (by omega) (acc ++ wb B[i]) (by simp [wb_len]; omega)
    refine ⟨K + 8 + 1 + 1, fun k hk => ?_⟩
    obtain ⟨k, rfl⟩ : ∃ q, k = q + 8 + 1 + 1 := ⟨k - 10, by omega⟩
    have e := key_l1 (B := B) (i := i) (v := B[i]) (by omega) hl 8 0 rfl (by omega) acc k (by omega)
    have hrd : rd B (i : Int) = B[i] := by unfold rd; simp [List.getElem?_eq_getElem hlt]
    have e0 : nfa_key.l0 (k + 8 + 1 + 1) acc B (B.length : Int) (i : Int) = nfa_key.l1 (k + 8 + 1) acc B[i] B (B.length : Int) (i : Int) ((0 : Nat) : Int) := by
      generalize k + 8 + 1 = q
      simp only [nfa_key.l0]
      rw [if_pos (by omega), if_pos (by omega), if_pos (by omega), hrd]
      rfl
    rw [e0, e, ← List.range_eq_range']
    have := hK k (by omega)
    rw [List.append_assoc] at this
    rw [List.drop_eq_getElem_cons hlt]
    exact this
theorem key_f {B : List Int} (hl : B.length ≤ 4096) : ∃ K, ∀ k, K ≤ k → nfa_key.f k B = some (strOfNums (wbs B)) := by
  obtain ⟨K, hK⟩ := key_l0 hl B.length 0 rfl (Nat.zero_le _) [] (by simp)
  refine ⟨K, fun k hk => ?_⟩
  unfold nfa_key.f
  exact hK k hk
theorem shr_byte (w : Nat) (x : Nat) (hx : x < 8) : shr .u64 (w : Int) (8 * (x : Int)) % 256 = ((w / 256 ^ x % 256 : Nat) : Int) := by
  have e := shr_u64 w (8 * x) (by omega)
  rw [show 8 * (x : Int) = ((8 * x : Nat) : Int) by omega, e, Nat.pow_mul, show (2 : Nat) ^ 8 = 256 from rfl]
  generalize w / 256 ^ x = q
  omega
theorem u8_inj {a b : Nat} (ha : a < 256) (hb : b < 256) (h : UInt8.ofNat a = UInt8.ofNat b) : a = b := by
  have := congrArg UInt8.toNat h
  rw [UInt8.toNat_ofNat', UInt8.toNat_ofNat', Nat.mod_eq_of_lt (by omega), Nat.mod_eq_of_lt (by omega)] at this
  exact this
theorem wb_inj {w1 w2 : Nat} (h1 : w1 < 2 ^ 64) (h2 : w2 < 2 ^ 64) (h : (wb w1).map (fun n => UInt8.ofNat n.toNat) = (wb w2).map (fun n => UInt8.ofNat n.toNat)) : w1 = w2 := by
  refine digits_eq 8 w1 w2 (by simpa using h1) (by simpa using h2) (fun i hi => ?_)
  have e : ∀ w : Nat, ((wb w).map (fun n => UInt8.ofNat n.toNat))[i]? = some (UInt8.ofNat (w / 256 ^ i % 256)) := fun w => by
    rw [List.getElem?_map]
    unfold wb
    rw [List.getElem?_map, List.getElem?_range hi, Option.map_some, Option.map_some, shr_byte w i hi, Int.toNat_natCast]
  have this := Option.some.inj ((e w1).symm.trans ((congrArg (fun l : List UInt8 => l[i]?) h).trans (e w2)))
  exact u8_inj (Nat.mod_lt _ (by omega)) (Nat.mod_lt _ (by omega)) this
theorem wbs_inj : ∀ (B1 B2 : List Int), B1.length = B2.length → (∀ x ∈ B1, 0 ≤ x ∧ x < 2 ^ 64) → (∀ x ∈ B2, 0 ≤ x ∧ x < 2 ^ 64) → (wbs B1).map (fun n => UInt8.ofNat n.toNat) = (wbs B2).map (fun n => UInt8.ofNat n.toNat) → B1 = B2
  | [], [], _, _, _, _ => rfl
  | [], _ :: _, h, _, _, _ => by simp at h
  | _ :: _, [], h, _, _, _ => by simp at h
  | x :: B1, y :: B2, h, h1, h2, he => by
    simp only [wbs, List.flatMap_cons, List.map_append] at he
    obtain ⟨e1, e2⟩ := List.append_inj he (by simp [wb_len])
    obtain ⟨a, rfl⟩ := Int.eq_ofNat_of_zero_le (h1 x List.mem_cons_self).1
    obtain ⟨b, rfl⟩ := Int.eq_ofNat_of_zero_le (h2 y List.mem_cons_self).1
    have ha := (h1 (a : Int) List.mem_cons_self).2
    have hb := (h2 (b : Int) List.mem_cons_self).2
    obtain rfl := wb_inj (by omega) (by omega) e1
    rw [wbs_inj B1 B2 (by simpa using h) (fun z hz => h1 z (List.mem_cons_of_mem _ hz)) (fun z hz => h2 z (List.mem_cons_of_mem _ hz)) e2]
section
variable {m : Nat}
theorem rep_mem {B : List Int} {b : List Bool} (h : Rep m B b) : ∀ x ∈ B, 0 ≤ x ∧ x < 2 ^ 64 := fun x hx => by
  obtain ⟨j, hj, rfl⟩ := List.mem_iff_getElem.mp hx
  have := h.small j
  rwa [show rd B (j : Int) = B[j] by unfold rd; simp [List.getElem?_eq_getElem hj]] at this
theorem rep_words {B B' : List Int} {b : List Bool} (h : Rep m B b) (h' : Rep m B' b) : B = B' := by
  refine List.ext_getElem (by rw [h.lB, h'.lB]) fun j hj hj' => ?_
  have e1 : rd B (j : Int) = B[j] := by unfold rd; simp [List.getElem?_eq_getElem hj]
  have e2 : rd B' (j : Int) = B'[j] := by unfold rd; simp [List.getElem?_eq_getElem hj']
  have w1 := rd_word h j
  have w2 := rd_word h' j
  have hw : wd B j = wd B' j := by
    refine Nat.eq_of_testBit_eq fun n => ?_
    by_cases hn : n < 64
    · have b1 := h.bit (j * 64 + n)
      have b2 := h'.bit (j * 64 + n)
      rw [(at_div j n hn).1, (at_div j n hn).2] at b1 b2
      rw [b1, b2]
    · have hp : 2 ^ 64 ≤ 2 ^ n := Nat.pow_le_pow_right (by omega) (by omega)
      rw [Nat.testBit_lt_two_pow (Nat.lt_of_lt_of_le w1.2 hp), Nat.testBit_lt_two_pow (Nat.lt_of_lt_of_le w2.2 hp)]
  rw [← e1, ← e2, w1.1, w2.1, hw]
theorem rep_sets {B : List Int} {b b' : List Bool} (h : Rep m B b) (h' : Rep m B b') : b = b' := by
  refine List.ext_getElem (by rw [h.lb, h'.lb]) fun i hi hi' => ?_
  have b1 := h.bit i
  have b2 := h'.bit i
  rw [b1] at b2
  simpa [List.getD_eq_getElem?_getD, List.getElem?_eq_getElem hi, List.getElem?_eq_getElem hi'] using b2
def keyOf (B : List Int) : List UInt8 := nk (strOfNums (wbs B))
theorem key_inj {B B' : List Int} {b b' : List Bool} (h : Rep m B b) (h' : Rep m B' b') : keyOf B = keyOf B' ↔ b = b' := by
  constructor
  · intro e
    have := wbs_inj B B' (by rw [h.lB, h'.lB]) (rep_mem h) (rep_mem h') e
    subst this
    exact rep_sets h h'
  · rintro rfl
    rw [rep_words h h']
end
end Go.Proofs.Ytapinbmkjkbkkaa.Pu
namespace Go.Proofs.Ytapinbmkjkbkkaa.Mk
open Go.RowKit Go.Proofs.YtapinbmkjkbkkaaW.PrintWords Go.Proofs.YtapinbmkjkbkkaaW.PrintLast Go.Proofs.YtapinbmkjkbkkaaW.PrintMore Lb
def manyF (ns n : Int) : Bool := decide (1024 < n) || decide (65536 < wrap64 (n * ns))
def rowF (k : Nat) (a0_0 a0_1 a0_2 a0_3 : Int) (l : List S78) (S : List Int) : Nat → Nat → List (List Int) → List (List UInt8) → List Int → Option (Option (List (List Int) × List (List UInt8) × List Int))
  | 0, _, sets, ks, row => some (some (sets, ks, row))
  | d + 1, j, sets, ks, row => (nfa_step.f k a0_0 a0_1 a0_2 a0_3 l (j : Int) S).bind fun t => (nfa_key.f k t).bind fun key =>
    if key.size ≤ 4096 then (if nk key ∈ ks then rowF k a0_0 a0_1 a0_2 a0_3 l S d (j + 1) sets ks (row ++ [nameAt ks (nk key)])
      else if manyF a0_1 (sets.length + 1) = true then some none else rowF k a0_0 a0_1 a0_2 a0_3 l S d (j + 1) (sets ++ [t]) (ks ++ [nk key]) (row ++ [(sets.length : Int)])) else none
def dfaL (k : Nat) (a0_0 a0_1 a0_2 a0_3 : Int) (l : List S78) : Nat → Nat → List (List Int) → List (List UInt8) → List (List Int) → List Bool → Option (Option (List (List Int) × List Bool))
  | 0, _, _, _, _, _ => none
  | J + 1, i, sets, ks, next, acc => if i < sets.length then (nfa_some_has.f (sets.getD i []) a0_3).bind fun b =>
      (rowF k a0_0 a0_1 a0_2 a0_3 l (sets.getD i []) a0_1.toNat 0 sets ks []).bind fun o => match o with
        | none => some none
        | some (sets', ks', row) => dfaL k a0_0 a0_1 a0_2 a0_3 l J (i + 1) sets' ks' (next ++ [row]) (acc ++ [b])
    else some (some (next, acc))
def nfa_Dfa.f (k : Nat) (a0_0 a0_1 a0_2 a0_3 : Int) (l : List S78) : Option (Int × List (List Int) × List Bool × Int) :=
  (nfa_Check.f a0_0 a0_1 a0_2 a0_3 l).bind fun c => if c = 0 then ((nfa_empty.f a0_0).bind fun b => (nfa_some_put.f b a0_2).bind fun b => (nfa_closed.f k a0_0 a0_1 a0_2 a0_3 l b).bind fun s => (nfa_key.f k s).bind fun key =>
    if key.size ≤ 4096 then ((dfaL k a0_0 a0_1 a0_2 a0_3 l k 0 [s] [nk key] [] []).map fun o => match o with
      | none => (0, [], [], 3)
      | some (n, a) => (a0_1, n, a, 0)) else none) else some (0, [], [], c)
theorem rowF_mono (k : Nat) (a0_0 a0_1 a0_2 a0_3 : Int) (l : List S78) (S : List Int) : ∀ (d j : Nat) (sets : List (List Int)) (ks : List (List UInt8)) (row : List Int), LeO (rowF k a0_0 a0_1 a0_2 a0_3 l S d j sets ks row) (rowF (k + 1) a0_0 a0_1 a0_2 a0_3 l S d j sets ks row)
  | 0, _, _, _, _ => LeO.refl _
  | d + 1, j, sets, ks, row => by
    simp only [rowF]
    refine LeO.bind (nfa_step.mono _ _ _ _ _ _ _ _) (fun t => LeO.bind (nfa_key.mono _ _) (fun key => LeO.ite (LeO.ite (rowF_mono k a0_0 a0_1 a0_2 a0_3 l S _ _ _ _ _) (LeO.ite (LeO.refl _) (rowF_mono k a0_0 a0_1 a0_2 a0_3 l S _ _ _ _ _))) (LeO.refl _)))
theorem dfaL_mono (k : Nat) (a0_0 a0_1 a0_2 a0_3 : Int) (l : List S78) : ∀ (J i : Nat) (sets : List (List Int)) (ks : List (List UInt8)) (next : List (List Int)) (acc : List Bool), LeO (dfaL k a0_0 a0_1 a0_2 a0_3 l J i sets ks next acc) (dfaL (k + 1) a0_0 a0_1 a0_2 a0_3 l (J + 1) i sets ks next acc)
  | 0, _, _, _, _, _ => LeO.none _
  | J + 1, i, sets, ks, next, acc => by
    simp only [dfaL]
    refine LeO.ite (LeO.bind (LeO.refl _) (fun b => LeO.bind (rowF_mono _ _ _ _ _ _ _ _ _ _ _ _) (fun o => ?_))) (LeO.refl _)
    cases o with
    | none => exact LeO.refl _
    | some p => exact dfaL_mono k a0_0 a0_1 a0_2 a0_3 l J (i + 1) p.1 p.2.1 _ _
theorem nfa_Dfa.mono : ∀ a0 a1 a2 a3 a4 k, LeO (nfa_Dfa.f k a0 a1 a2 a3 a4) (nfa_Dfa.f (k + 1) a0 a1 a2 a3 a4) := by
  intro a0 a1 a2 a3 a4 k
  unfold nfa_Dfa.f
  refine LeO.bind (LeO.refl _) (fun c => LeO.ite (LeO.bind (LeO.refl _) (fun b => LeO.bind (LeO.refl _) (fun b2 => LeO.bind (nfa_closed.mono _ _ _ _ _ _ _) (fun s => LeO.bind (nfa_key.mono _ _) (fun key => LeO.ite ?_ (LeO.refl _)))))) (LeO.refl _))
  intro r hr
  obtain ⟨o, ho, he⟩ := Option.map_eq_some_iff.mp hr
  rw [dfaL_mono k a0 a1 a2 a3 a4 k 0 _ _ _ _ o ho]
  exact congrArg some he
end Go.Proofs.Ytapinbmkjkbkkaa.Mk
namespace Go.Proofs.Ytapinbmkjkbkkaa.Lb
open Go.RowKit Go.Proofs.YtapinbmkjkbkkaaW.PrintWords Go.Proofs.YtapinbmkjkbkkaaW.PrintLast Go.Proofs.YtapinbmkjkbkkaaW.PrintMore
theorem info27 : (Try.prog.info? 27).map (fun i => (i.zero, i.size, i.bytes)) = some (some (.slice none 0 0), 1, 24) := by kernel_rfl
theorem info44 : (Try.prog.info? 44).map (fun i => (i.zero, i.size, i.bytes)) = some (some (.slice none 0 0), 1, 24) := by kernel_rfl
def rd_L7 (xs : List (List Bool)) (i : Int) : (List Bool) := xs.getD i.toNat ([] : List Bool)
theorem at_L7 {w : World} {A : Option Addr} {n : Nat} {xs : List (List Bool)} (h : Kd.C (Kd.slice 4 Kd.bool) w A n xs) (i : Int) (h0 : 0 ≤ i) (h1 : i < n) : ∃ ad A0 c0, A = some ad ∧ w.cell? (ad.add i.toNat) = some (.slice A0 (rd_L7 xs i).length c0) ∧ (rd_L7 xs i).length ≤ c0 ∧ Kd.bool.C w A0 (rd_L7 xs i).length (rd_L7 xs i) := by
  obtain ⟨ad, c, e, _, hK, hc0⟩ := Kd.C_get h ([] : List Bool) i h0 h1
  have hc : ∀ j u, c[j]? = some u → w.cell? (ad.add (i.toNat * 1 + j)) = some u := hc0
  obtain ⟨A0, c0, rfl, l0, g0⟩ := hK
  exact ⟨ad, A0, c0, e, by have hq := hc 0 _ rfl; rwa [Nat.mul_one, Nat.add_zero] at hq, l0, g0⟩
def rd_L8 (xs : List (List Int)) (i : Int) : (List Int) := xs.getD i.toNat ([] : List Int)
theorem at_L8 {w : World} {A : Option Addr} {n : Nat} {xs : List (List Int)} (h : Kd.C (Kd.slice 3 (Kd.int .i64)) w A n xs) (i : Int) (h0 : 0 ≤ i) (h1 : i < n) : ∃ ad A0 c0, A = some ad ∧ w.cell? (ad.add i.toNat) = some (.slice A0 (rd_L8 xs i).length c0) ∧ (rd_L8 xs i).length ≤ c0 ∧ (Kd.int .i64).C w A0 (rd_L8 xs i).length (rd_L8 xs i) := by
  obtain ⟨ad, c, e, _, hK, hc0⟩ := Kd.C_get h ([] : List Int) i h0 h1
  have hc : ∀ j u, c[j]? = some u → w.cell? (ad.add (i.toNat * 1 + j)) = some u := hc0
  obtain ⟨A0, c0, rfl, l0, g0⟩ := hK
  exact ⟨ad, A0, c0, e, by have hq := hc 0 _ rfl; rwa [Nat.mul_one, Nat.add_zero] at hq, l0, g0⟩
end Go.Proofs.Ytapinbmkjkbkkaa.Lb
