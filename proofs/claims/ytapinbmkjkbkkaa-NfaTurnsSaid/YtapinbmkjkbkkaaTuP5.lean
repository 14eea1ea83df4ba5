import Derived.Test.YtapinbmkjkbkkaaTuP4
import Derived.Test.YtapinbmkjkbkkaaTuLbx0
import Derived.Test.YtapinbmkjkbkkaaTuLbx2
import Derived.Test.YtapinbmkjkbkkaaTuLbx7
import Derived.Test.YtapinbmkjkbkkaaTuLbx5
import Derived.Test.YtapinbmkjkbkkaaTuLbx6
import Derived.Test.YtapinbmkjkbkkaaTuLbx3
import Derived.Test.YtapinbmkjkbkkaaTuLbx4
import Derived.Test.YtapinbmkjkbkkaaTuLbx8
import Derived.Test.YtapinbmkjkbkkaaTuLbx9
import Derived.Test.YtapinbmkjkbkkaaTuAw
namespace Go.Proofs.Ytapinbmkjkbkkaa.Pu
open Go.RowKit Go.Proofs.YtapinbmkjkbkkaaW.PrintWords Go.Proofs.YtapinbmkjkbkkaaW.PrintLast Go.Proofs.YtapinbmkjkbkkaaW.PrintMore Lb Mk Ls
def ckA (a0_0 a0_1 a0_2 a0_3 : Int) (l : List S78) : Int := if 65536 < l.length then 3 else if nfa_headOk a0_0 a0_1 a0_2 a0_3 = true then (if l.all (nfa_arcOk a0_0 a0_1) = true then 0 else 81) else 81
theorem check_f (a0_0 a0_1 a0_2 a0_3 : Int) (l : List S78) : nfa_Check.f a0_0 a0_1 a0_2 a0_3 l = some (ckA a0_0 a0_1 a0_2 a0_3 l) := rfl
section
variable {a0_0 a0_1 a0_2 a0_3 : Int} {l : List S78}
theorem state_f (s : Int) : stackyardref08_State.f a0_0 a0_1 a0_2 a0_3 l s = some (decide (0 ≤ s ∧ s < a0_0)) := by
  unfold stackyardref08_State.f
  by_cases h : s ≥ 0
  · rw [if_pos h]; congr 1; rw [decide_eq_decide]; omega
  · rw [if_neg h]; congr 1; rw [eq_comm, decide_eq_false_iff_not]; omega
theorem all_drop {f : S78 → Bool} {i : Nat} (h : i < l.length) : (l.drop i).all f = (f (rd_T78 l (i : Int)) && (l.drop (i + 1)).all f) := by
  rw [List.drop_eq_getElem_cons h, List.all_cons, rd_eq h]
theorem rcheck_l0 (hl : l.length ≤ 65536) : ∀ (d i : Nat), l.length - i = d → i ≤ l.length → ∀ k, d < k → stackyardref08_Check.l0 k (i : Int) a0_0 a0_1 a0_2 a0_3 l = some (if (l.drop i).all (nfa_arcOk a0_0 a0_1) = true then 0 else 81) := by
  intro d
  induction d with
  | zero =>
    intro i hd hi k hk
    obtain ⟨k, rfl⟩ : ∃ q, k = q + 1 := ⟨k - 1, by omega⟩
    simp only [stackyardref08_Check.l0]
    rw [if_neg (by omega), List.drop_eq_nil_of_le (by omega)]
    rfl
  | succ d ih =>
    intro i hd hi k hk
    obtain ⟨k, rfl⟩ : ∃ q, k = q + 1 := ⟨k - 1, by omega⟩
    have hlt : i < l.length := by omega
    have hw := wrap1 (i := i) (by omega)
    have ih' := ih (i + 1) (by omega) (by omega) k (by omega)
    simp only [stackyardref08_Check.l0]
    rw [if_pos (by omega), if_pos (by omega), state_f, state_f, hw, ih', all_drop hlt]
    simp only [Option.bind_some]
    generalize rd_T78 l (i : Int) = x
    by_cases h0 : 0 ≤ x.f0 ∧ x.f0 < a0_0
    · rw [decide_eq_true h0, if_pos rfl]
      by_cases h2 : 0 ≤ x.f2 ∧ x.f2 < a0_0
      · rw [decide_eq_true h2, if_pos rfl]
        by_cases h3 : x.f1 < -2
        · rw [if_pos h3, show nfa_arcOk a0_0 a0_1 x = false from decide_eq_false (fun q => by omega)]
          rfl
        · rw [if_neg h3]
          by_cases h4 : x.f1 ≥ a0_1
          · rw [if_pos h4, show nfa_arcOk a0_0 a0_1 x = false from decide_eq_false (fun q => by omega)]
            rfl
          · rw [if_neg h4, show nfa_arcOk a0_0 a0_1 x = true from decide_eq_true ⟨h0, h2, by omega, by omega⟩]
            rfl
      · rw [decide_eq_false h2, if_neg (by simp), show nfa_arcOk a0_0 a0_1 x = false from decide_eq_false (fun q => h2 q.2.1)]
        rfl
    · rw [decide_eq_false h0, if_neg (by simp), show nfa_arcOk a0_0 a0_1 x = false from decide_eq_false (fun q => h0 q.1)]
      rfl
theorem rcheck_f : ∃ K, ∀ k, K ≤ k → stackyardref08_Check.f k a0_0 a0_1 a0_2 a0_3 l = some (ckA a0_0 a0_1 a0_2 a0_3 l) := by
  refine ⟨l.length + 2, fun k hk => ?_⟩
  obtain ⟨k, rfl⟩ : ∃ q, k = q + 1 := ⟨k - 1, by omega⟩
  unfold stackyardref08_Check.f ckA
  by_cases h1 : 65536 < l.length
  · rw [if_pos (by omega), if_pos h1]
  · rw [if_neg (by omega), if_neg h1]
    have hj : ∀ b, stackyardref08_Check.j0 (k + 1) b a0_0 a0_1 a0_2 a0_3 l = if b = true then some 81 else some (if l.all (nfa_arcOk a0_0 a0_1) = true then 0 else 81) := by
      intro b
      simp only [stackyardref08_Check.j0]
      have := rcheck_l0 (a0_0 := a0_0) (a0_1 := a0_1) (a0_2 := a0_2) (a0_3 := a0_3) (l := l) (by omega) l.length 0 rfl (by omega) k (by omega)
      rw [List.drop_zero] at this
      have this : stackyardref08_Check.l0 k 0 a0_0 a0_1 a0_2 a0_3 l = _ := this
      rw [this]
    simp only [hj, state_f, Option.bind_some]
    by_cases h2 : nfa_headOk a0_0 a0_1 a0_2 a0_3 = true
    · obtain ⟨c1, c2, c3, c4, c5, c6⟩ := of_decide_eq_true h2
      rw [if_pos h2, if_neg (by omega), if_neg (by omega), if_neg (by omega), if_neg (by omega), decide_eq_true c5, decide_eq_true c6, if_pos rfl, if_neg (by simp)]
    · rw [if_neg h2]
      have h2' := of_decide_eq_false (by simpa using h2 : nfa_headOk a0_0 a0_1 a0_2 a0_3 = false)
      by_cases c1 : a0_0 < 1
      · rw [if_pos c1, if_pos trivial]
      · rw [if_neg c1]
        by_cases c2 : a0_0 > 4096
        · rw [if_pos c2, if_pos trivial]
        · rw [if_neg c2]
          by_cases c3 : a0_1 < 0
          · rw [if_pos c3, if_pos trivial]
          · rw [if_neg c3]
            by_cases c4 : a0_1 > 4096
            · rw [if_pos c4, if_pos trivial]
            · rw [if_neg c4]
              by_cases c5 : 0 ≤ a0_2 ∧ a0_2 < a0_0
              · rw [decide_eq_true c5, if_pos rfl, decide_eq_false (fun c6 => h2' ⟨by omega, by omega, by omega, by omega, c5, c6⟩)]; simp
              · rw [decide_eq_false c5, if_neg (by simp)]; simp
theorem ck_ok (h : ckA a0_0 a0_1 a0_2 a0_3 l = 0) : ∃ m ns s e : Nat, a0_0 = m ∧ a0_1 = ns ∧ a0_2 = s ∧ a0_3 = e ∧ ns ≤ 4096 ∧ s < m ∧ e < m ∧ Arcs m l ∧ ∀ x ∈ l, -2 ≤ x.f1 ∧ x.f1 < ns := by
  unfold ckA at h
  by_cases h1 : 65536 < l.length
  · rw [if_pos h1] at h; exact absurd h (by decide)
  · rw [if_neg h1] at h
    by_cases h2 : nfa_headOk a0_0 a0_1 a0_2 a0_3 = true
    · rw [if_pos h2] at h
      by_cases h3 : l.all (nfa_arcOk a0_0 a0_1) = true
      · obtain ⟨c1, c2, c3, c4, c5, c6⟩ := of_decide_eq_true h2
        obtain ⟨m, rfl⟩ := Int.eq_ofNat_of_zero_le (show 0 ≤ a0_0 by omega)
        obtain ⟨ns, rfl⟩ := Int.eq_ofNat_of_zero_le c3
        obtain ⟨s, rfl⟩ := Int.eq_ofNat_of_zero_le c5.1
        obtain ⟨e, rfl⟩ := Int.eq_ofNat_of_zero_le c6.1
        refine ⟨m, ns, s, e, rfl, rfl, rfl, rfl, by omega, by omega, by omega, ⟨by omega, by omega, by omega, fun x hx => ?_⟩, fun x hx => ?_⟩
        · have := of_decide_eq_true (List.all_eq_true.mp h3 x hx)
          exact ⟨this.1, this.2.1⟩
        · have := of_decide_eq_true (List.all_eq_true.mp h3 x hx)
          exact this.2.2
      · rw [if_neg h3] at h; exact absurd h (by decide)
    · rw [if_neg h2] at h; exact absurd h (by decide)
end
def okS (n : Int) (ls : List Int) : Bool := ls.all fun x => decide (0 ≤ x) && decide (x < n)
theorem okS_drop {n : Int} {ls : List Int} {i : Nat} (h : i < ls.length) : okS n (ls.drop i) = (decide (0 ≤ rd ls (i : Int)) && decide (rd ls (i : Int) < n) && okS n (ls.drop (i + 1))) := by
  unfold okS
  have e : rd ls (i : Int) = ls[i] := by unfold rd; simp [List.getElem?_eq_getElem h]
  rw [List.drop_eq_getElem_cons h, List.all_cons, e]
def setB (b : List Bool) (ls : List Int) : List Bool := ls.foldl (fun b x => b.set x.toNat true) b
theorem setB_drop {b : List Bool} {ls : List Int} {i : Nat} (h : i < ls.length) : setB b (ls.drop i) = setB (b.set (rd ls (i : Int)).toNat true) (ls.drop (i + 1)) := by
  unfold setB
  have e : rd ls (i : Int) = ls[i] := by unfold rd; simp [List.getElem?_eq_getElem h]
  rw [List.drop_eq_getElem_cons h, List.foldl_cons, e]
def none0 (m : Nat) : List Bool := List.replicate m false
def asE (m ns : Nat) (ls ws : List Int) : Int := if okS m ls = true then (if okS ns ws = true then 0 else 102) else 101
section
variable {m ns : Nat} {s e : Int} {l : List S78}
theorem asked_l1 {ws : List Int} (hw : ws.length < 4611686018427387904) : ∀ (d i : Nat), ws.length - i = d → i ≤ ws.length → ∀ (B : List Int) k, d < k →
    nfa_asked.l1 k B ws (ws.length : Int) (i : Int) m ns s e l = some (if okS ns (ws.drop i) = true then (B, 0) else ([], 102)) := by
  intro d
  induction d with
  | zero =>
    intro i hd hi B k hk
    obtain ⟨k, rfl⟩ : ∃ q, k = q + 1 := ⟨k - 1, by omega⟩
    simp only [nfa_asked.l1]
    rw [if_neg (by omega), List.drop_eq_nil_of_le (by omega)]
    rfl
  | succ d ih =>
    intro i hd hi B k hk
    obtain ⟨k, rfl⟩ : ∃ q, k = q + 1 := ⟨k - 1, by omega⟩
    have hlt : i < ws.length := by omega
    have hwr := wrap1 (i := i) (by omega)
    have ih' := ih (i + 1) (by omega) (by omega) B k (by omega)
    simp only [nfa_asked.l1]
    rw [if_pos (by omega), if_pos (by omega), if_pos (by omega), hwr, ih', okS_drop hlt]
    generalize rd ws (i : Int) = x
    by_cases h0 : x < 0
    · rw [if_pos h0, decide_eq_false (by omega : ¬ 0 ≤ x)]; rfl
    · rw [if_neg h0, decide_eq_true (by omega : 0 ≤ x)]
      by_cases h1 : x ≥ ns
      · rw [if_pos h1, decide_eq_false (by omega : ¬ x < ns)]; rfl
      · rw [if_neg h1, decide_eq_true (by omega : x < ns)]; rfl
theorem asked_l0 (A : Arcs m l) {ls ws : List Int} (hl : ls.length < 4611686018427387904) (hw : ws.length < 4611686018427387904) : ∀ (d i : Nat), ls.length - i = d → i ≤ ls.length → ∀ (B : List Int) (b : List Bool), Rep m B b →
    ∃ B', (okS m (ls.drop i) = true → Rep m B' (setB b (ls.drop i))) ∧ ∀ k, d + ws.length + 1 < k →
      nfa_asked.l0 k ws B ls (ls.length : Int) (i : Int) m ns s e l = some (if okS m (ls.drop i) = true then (if okS ns ws = true then (B', 0) else ([], 102)) else ([], 101)) := by
  intro d
  induction d with
  | zero =>
    intro i hd hi B b hR
    refine ⟨B, fun _ => by rw [List.drop_eq_nil_of_le (by omega)]; exact hR, fun k hk => ?_⟩
    obtain ⟨k, rfl⟩ : ∃ q, k = q + 1 := ⟨k - 1, by omega⟩
    simp only [nfa_asked.l0]
    have := asked_l1 (m := m) (ns := ns) (s := s) (e := e) (l := l) hw ws.length 0 rfl (by omega) B k (by omega)
    rw [List.drop_zero] at this
    rw [if_neg (by omega), List.drop_eq_nil_of_le (by omega), show (0 : Int) = ((0 : Nat) : Int) from rfl, this]
    rfl
  | succ d ih =>
    intro i hd hi B b hR
    have hlt : i < ls.length := by omega
    have hwr := wrap1 (i := i) (by omega)
    rw [okS_drop hlt, setB_drop hlt]
    generalize hx : rd ls (i : Int) = x
    by_cases h0 : x < 0
    · refine ⟨[], ?_, ?_⟩
      · intro h; rw [decide_eq_false (by omega : ¬ 0 ≤ x)] at h; simp at h
      intro k hk
      obtain ⟨k, rfl⟩ : ∃ q, k = q + 1 := ⟨k - 1, by omega⟩
      simp only [nfa_asked.l0]
      rw [if_pos (by omega), if_pos (by omega), if_pos (by omega), hx, if_pos h0, decide_eq_false (by omega : ¬ 0 ≤ x)]
      rfl
    · by_cases h1 : x ≥ m
      · refine ⟨[], ?_, ?_⟩
        · intro h; rw [decide_eq_false (by omega : ¬ x < m)] at h; simp at h
        intro k hk
        obtain ⟨k, rfl⟩ : ∃ q, k = q + 1 := ⟨k - 1, by omega⟩
        simp only [nfa_asked.l0]
        rw [if_pos (by omega), if_pos (by omega), if_pos (by omega), hx, if_neg h0, if_pos h1, decide_eq_false (by omega : ¬ x < m)]
        simp
      · obtain ⟨u, rfl⟩ := Int.eq_ofNat_of_zero_le (show 0 ≤ x by omega)
        obtain ⟨B1, hp, hR1⟩ := put_f hR A.m1 u (by omega)
        obtain ⟨B', hB', hk'⟩ := ih (i + 1) (by omega) (by omega) B1 (b.set u true) hR1
        rw [decide_eq_true (by omega : (0 : Int) ≤ u), decide_eq_true (by omega : (u : Int) < m), Bool.true_and, Bool.true_and, Int.toNat_natCast]
        refine ⟨B', hB', fun k hk => ?_⟩
        obtain ⟨k, rfl⟩ : ∃ q, k = q + 1 := ⟨k - 1, by omega⟩
        simp only [nfa_asked.l0]
        rw [if_pos (by omega), if_pos (by omega), if_pos (by omega), hx, if_neg h0, if_neg h1, hp, Option.bind_some, hwr]
        exact hk' k (by omega)
theorem asked_f (A : Arcs m l) {ls ws : List Int} (hl : ls.length < 4611686018427387904) (hw : ws.length < 4611686018427387904) (hck : ckA m ns s e l = 0) :
    ∃ K B, (asE m ns ls ws = 0 → Rep m B (setB (none0 m) ls)) ∧ ∀ k, K ≤ k → nfa_asked.f k m ns s e l ls ws = some (if asE m ns ls ws = 0 then (B, 0) else ([], asE m ns ls ws)) := by
  obtain ⟨E, hE, hRE⟩ := empty_f (m := m) A.m1
  obtain ⟨B, hB, hk⟩ := asked_l0 (ns := ns) (s := s) (e := e) A hl hw ls.length 0 rfl (by omega) E _ hRE
  rw [List.drop_zero] at hB hk
  refine ⟨ls.length + ws.length + 2, B, fun h => ?_, fun k hk' => ?_⟩
  · by_cases h1 : okS m ls = true
    · exact hB h1
    · unfold asE at h; rw [if_neg h1] at h; exact absurd h (by decide)
  · unfold nfa_asked.f
    rw [check_f, hck, Option.bind_some, if_pos rfl, hE, Option.bind_some, show (0 : Int) = ((0 : Nat) : Int) from rfl, hk k (by omega)]
    unfold asE
    by_cases h1 : okS m ls = true
    · rw [if_pos h1, if_pos h1]
      by_cases h2 : okS ns ws = true
      · rw [if_pos h2, if_pos h2]; rfl
      · rw [if_neg h2, if_neg h2]; rfl
    · rw [if_neg h1, if_neg h1]; rfl
theorem rasked_l1 {ws : List Int} (hw : ws.length < 4611686018427387904) : ∀ (d i : Nat), ws.length - i = d → i ≤ ws.length → ∀ k, d < k →
    stackyardref08_asked.l1 k ws (i : Int) m ns s e l = some (if okS ns (ws.drop i) = true then 0 else 102) := by
  intro d
  induction d with
  | zero =>
    intro i hd hi k hk
    obtain ⟨k, rfl⟩ : ∃ q, k = q + 1 := ⟨k - 1, by omega⟩
    simp only [stackyardref08_asked.l1]
    rw [if_neg (by omega), List.drop_eq_nil_of_le (by omega)]
    rfl
  | succ d ih =>
    intro i hd hi k hk
    obtain ⟨k, rfl⟩ : ∃ q, k = q + 1 := ⟨k - 1, by omega⟩
    have hlt : i < ws.length := by omega
    have hwr := wrap1 (i := i) (by omega)
    have ih' := ih (i + 1) (by omega) (by omega) k (by omega)
    simp only [stackyardref08_asked.l1]
    rw [if_pos (by omega), if_pos (by omega), hwr, ih', okS_drop hlt]
    generalize rd ws (i : Int) = x
    by_cases h0 : x < 0
    · rw [if_pos h0, decide_eq_false (by omega : ¬ 0 ≤ x)]; rfl
    · rw [if_neg h0, decide_eq_true (by omega : 0 ≤ x)]
      by_cases h1 : x ≥ ns
      · rw [if_pos h1, decide_eq_false (by omega : ¬ x < ns)]; rfl
      · rw [if_neg h1, decide_eq_true (by omega : x < ns)]; rfl
theorem rasked_l0 {ls ws : List Int} (hl : ls.length < 4611686018427387904) (hw : ws.length < 4611686018427387904) : ∀ (d i : Nat), ls.length - i = d → i ≤ ls.length → ∀ k, d + ws.length + 1 < k →
    stackyardref08_asked.l0 k ls ws (i : Int) m ns s e l = some (if okS m (ls.drop i) = true then (if okS ns ws = true then 0 else 102) else 101) := by
  intro d
  induction d with
  | zero =>
    intro i hd hi k hk
    obtain ⟨k, rfl⟩ : ∃ q, k = q + 1 := ⟨k - 1, by omega⟩
    simp only [stackyardref08_asked.l0]
    have := rasked_l1 (m := m) (ns := ns) (s := s) (e := e) (l := l) hw ws.length 0 rfl (by omega) k (by omega)
    rw [List.drop_zero] at this
    rw [if_neg (by omega), List.drop_eq_nil_of_le (by omega), show (0 : Int) = ((0 : Nat) : Int) from rfl, this]
    rfl
  | succ d ih =>
    intro i hd hi k hk
    obtain ⟨k, rfl⟩ : ∃ q, k = q + 1 := ⟨k - 1, by omega⟩
    have hlt : i < ls.length := by omega
    have hwr := wrap1 (i := i) (by omega)
    have ih' := ih (i + 1) (by omega) (by omega) k (by omega)
    simp only [stackyardref08_asked.l0]
    rw [if_pos (by omega), if_pos (by omega), state_f, Option.bind_some, hwr, ih', okS_drop hlt]
    generalize rd ls (i : Int) = x
    by_cases h0 : 0 ≤ x ∧ x < m
    · rw [decide_eq_true h0, if_pos rfl, decide_eq_true h0.1, decide_eq_true h0.2]; rfl
    · rw [decide_eq_false h0, if_neg (by simp)]
      have : (decide (0 ≤ x) && decide (x < (m : Int))) = false := by
        rw [← Bool.decide_and]; exact decide_eq_false h0
      rw [this]; rfl
theorem rasked_f {ls ws : List Int} (hl : ls.length < 4611686018427387904) (hw : ws.length < 4611686018427387904) (hck : ckA m ns s e l = 0) :
    ∃ K, ∀ k, K ≤ k → stackyardref08_asked.f k m ns s e l ls ws = some (asE m ns ls ws) := by
  obtain ⟨K, hK⟩ := rcheck_f (a0_0 := m) (a0_1 := ns) (a0_2 := s) (a0_3 := e) (l := l)
  refine ⟨K + (ls.length + ws.length + 2), fun k hk => ?_⟩
  unfold stackyardref08_asked.f
  have := rasked_l0 (m := m) (ns := ns) (s := s) (e := e) (l := l) hl hw ls.length 0 rfl (by omega) k (by omega)
  rw [List.drop_zero] at this
  rw [hK k (by omega), hck, Option.bind_some, if_pos rfl, show (0 : Int) = ((0 : Nat) : Int) from rfl, this]
  rfl
theorem marks_l0 {ls : List Int} (hl : ls.length < 4611686018427387904) (hm : m ≤ 4096) {b' : List Bool} {K : Nat} (hok : okS m ls = true)
    (hh : ∀ k, K ≤ k → stackyardref08_hand.f k m ns s e l (setB (none0 m) ls) = some b') : ∀ (d i : Nat) (b : List Bool), ls.length - i = d → i ≤ ls.length → b.length = m → setB b (ls.drop i) = setB (none0 m) ls → okS m (ls.drop i) = true → ∀ k, K + d < k →
    stackyardref08_marks.l0 k ls b (i : Int) m ns s e l = some b' := by
  intro d
  induction d with
  | zero =>
    intro i b hd hi hb hs ho k hk
    obtain ⟨k, rfl⟩ : ∃ q, k = q + 1 := ⟨k - 1, by omega⟩
    simp only [stackyardref08_marks.l0]
    rw [List.drop_eq_nil_of_le (by omega)] at hs
    have hs' : b = setB (none0 m) ls := hs
    rw [if_neg (by omega), hs', hh k (by omega)]
    rfl
  | succ d ih =>
    intro i b hd hi hb hs ho k hk
    obtain ⟨k, rfl⟩ : ∃ q, k = q + 1 := ⟨k - 1, by omega⟩
    have hlt : i < ls.length := by omega
    have hwr := wrap1 (i := i) (by omega)
    rw [okS_drop hlt] at ho
    rw [setB_drop hlt] at hs
    simp only [Bool.and_eq_true, decide_eq_true_eq] at ho
    simp only [stackyardref08_marks.l0]
    rw [if_pos (by omega), if_pos (by omega), if_pos ho.1.1, if_pos (by omega), hwr]
    exact ih (i + 1) _ (by omega) (by omega) (by simp [hb]) hs ho.2 k (by omega)
theorem marks_f {ls : List Int} (hl : ls.length < 4611686018427387904) (hm : m ≤ 4096) {b' : List Bool} {K : Nat} (hok : okS m ls = true)
    (hh : ∀ k, K ≤ k → stackyardref08_hand.f k m ns s e l (setB (none0 m) ls) = some b') : ∃ K, ∀ k, K ≤ k → stackyardref08_marks.f k m ns s e l ls = some b' := by
  refine ⟨K + ls.length + 1, fun k hk => ?_⟩
  unfold stackyardref08_marks.f
  rw [if_pos (by omega), Int.toNat_natCast, if_pos (by omega)]
  exact marks_l0 hl hm hok hh ls.length 0 (none0 m) rfl (by omega) (by simp [none0]) (by rw [List.drop_zero]) (by rw [List.drop_zero]; exact hok) k (by omega)
end
end Go.Proofs.Ytapinbmkjkbkkaa.Pu
