import Derived.Test.YtapinbmkjkbkkaaTuP5
import Derived.Test.YtapinbmkjkbkkaaTuLbx0
import Derived.Test.YtapinbmkjkbkkaaTuLbx4
import Derived.Test.YtapinbmkjkbkkaaTuLbx3
import Derived.Test.YtapinbmkjkbkkaaTuLbx5
import Derived.Test.YtapinbmkjkbkkaaTuLbx8
import Derived.Test.YtapinbmkjkbkkaaTuLbx9
import Derived.Test.YtapinbmkjkbkkaaTuLbx6
import Derived.Test.YtapinbmkjkbkkaaTuLbx7
import Derived.Test.YtapinbmkjkbkkaaTuAw
namespace Go.Proofs.Ytapinbmkjkbkkaa.Pu
open Go.RowKit Go.Proofs.YtapinbmkjkbkkaaW.PrintWords Go.Proofs.YtapinbmkjkbkkaaW.PrintLast Go.Proofs.YtapinbmkjkbkkaaW.PrintMore Lb Mk Ls
theorem rd_get {ls : List Int} {i : Nat} (h : i < ls.length) : rd ls (i : Int) = ls[i] := by unfold rd; simp [List.getElem?_eq_getElem h]
theorem okS_of {n : Int} {ls : List Int} (h : ∀ x ∈ ls, 0 ≤ x ∧ x < n) : okS n ls = true :=
  List.all_eq_true.mpr fun x hx => by simp only [Bool.and_eq_true, decide_eq_true_eq]; exact h x hx
theorem okS_one {m s : Nat} (h : s < m) : okS m [(s : Int)] = true := okS_of fun x hx => by
  have : x = s := by simpa using hx
  omega
theorem in_setB (i : Nat) : ∀ (ls : List Int) (b : List Bool), (∀ x ∈ ls, 0 ≤ x ∧ x < b.length) → (In (setB b ls) i ↔ In b i ∨ (i : Int) ∈ ls)
  | [], b, _ => by simp [setB]
  | x :: ls, b, h => by
    obtain ⟨h0, h1⟩ := h x List.mem_cons_self
    show In (setB (b.set x.toNat true) ls) i ↔ _
    rw [in_setB i ls _ (fun y hy => by have := h y (List.mem_cons_of_mem _ hy); simpa using this), in_set (by omega), List.mem_cons]
    constructor
    · rintro ((h | h) | h)
      · exact .inr (.inl (by omega))
      · exact .inl h
      · exact .inr (.inr h)
    · rintro (h | h | h)
      · exact .inl (.inr h)
      · exact .inl (.inl (by omega))
      · exact .inr h
theorem in_none (m i : Nat) : ¬ In (none0 m) i := by
  unfold In none0
  rw [List.getD_eq_getElem?_getD, List.getElem?_replicate]
  split <;> simp
inductive Walk (m : Nat) (l : List S78) : List Bool → List Int → List Bool → Prop
  | nil (b : List Bool) : Walk m l b [] b
  | cons {x : Int} {w : List Int} {b b1 b2 : List Bool} (hb : By m l x b b1) (hl : b1.length = m) (h : Walk m l b1 w b2) : Walk m l b (x :: w) b2
theorem asE_zero {m ns : Nat} {ls ws : List Int} : asE m ns ls ws = 0 ↔ okS m ls = true ∧ okS ns ws = true := by
  unfold asE
  by_cases h : okS m ls = true
  · by_cases h2 : okS ns ws = true
    · simp [h, h2]
    · rw [if_pos h, if_neg h2]; simp [h2]
  · rw [if_neg h]; simp [h]
section
variable {m ns : Nat} {s e : Nat} {l : List S78}
theorem run_l0 (A : Arcs m l) (he : e < m) {ws : List Int} (hw : ws.length < 4611686018427387904) : ∀ (d i : Nat), ws.length - i = d → i ≤ ws.length → ∀ (S : List Int) (b : List Bool), Rep m S b → Hand l b b →
    ∃ K b', b'.length = m ∧ Walk m l b (ws.drop i) b' ∧ Hand l b' b' ∧ ∀ k, K ≤ k → nfa_Run.l0 k S ws (ws.length : Int) (i : Int) m ns s e l = some (b'.getD e false, 0) ∧ stackyardref08_Run.l0 k ws b (i : Int) m ns s e l = some (b'.getD e false, 0) := by
  intro d
  induction d with
  | zero =>
    intro i hd hi S b hR hH
    refine ⟨1, b, hR.lb, by rw [List.drop_eq_nil_of_le (by omega)]; exact .nil b, hH, fun k hk => ?_⟩
    obtain ⟨k, rfl⟩ : ∃ q, k = q + 1 := ⟨k - 1, by omega⟩
    have hlb := hR.lb
    simp only [nfa_Run.l0, stackyardref08_Run.l0]
    rw [if_neg (by omega), if_neg (by omega), has_f hR A.m1 e he, if_pos (by omega), if_pos (by omega)]
    exact ⟨rfl, by simp [rdOf]⟩
  | succ d ih =>
    intro i hd hi S b hR hH
    have hlt : i < ws.length := by omega
    have hwr := wrap1 (i := i) (by omega)
    obtain ⟨K1, S', b1, h1, hR1, hBy⟩ := step_f (sy := ns) (s := s) (e := e) A (sym := rd ws (i : Int)) hR hH hR.lb
    obtain ⟨K2, b', hl, hWk, hH', h2⟩ := ih (i + 1) (by omega) (by omega) S' b1 hR1 (by_shut hBy)
    refine ⟨K1 + K2 + 1, b', hl, ?_, hH', fun k hk => ?_⟩
    · rw [List.drop_eq_getElem_cons hlt]
      rw [rd_get hlt] at hBy
      exact .cons hBy hR1.lb hWk
    obtain ⟨k, rfl⟩ : ∃ q, k = q + 1 := ⟨k - 1, by omega⟩
    simp only [nfa_Run.l0, stackyardref08_Run.l0]
    rw [if_pos (by omega), if_pos (by omega), if_pos (by omega), if_pos (by omega), if_pos (by omega), (h1 k (by omega)).1, (h1 k (by omega)).2, Option.bind_some, Option.bind_some, hwr]
    exact h2 k (by omega)
theorem run_good (A : Arcs m l) (hs : s < m) (he : e < m) {ws : List Int} (hw : ws.length < 4611686018427387904) (hck : ckA m ns s e l = 0) (has : okS ns ws = true) :
    ∃ K b0 b', b0.length = m ∧ Hand l (setB (none0 m) [(s : Int)]) b0 ∧ b'.length = m ∧ Walk m l b0 ws b' ∧ ∀ k, K ≤ k → nfa_Run.f k m ns s e l ws = some (b'.getD e false, 0) ∧ stackyardref08_Run.f k m ns s e l ws = some (b'.getD e false, 0) := by
  have hm := A.m1
  have has' : asE m ns [] ws = 0 := asE_zero.mpr ⟨rfl, has⟩
  obtain ⟨K1, B, hB, h1⟩ := asked_f (ns := ns) (s := s) (e := e) A (ls := []) (by simp) hw hck
  obtain ⟨K2, h2⟩ := rasked_f (m := m) (ns := ns) (s := s) (e := e) (l := l) (ls := []) (by simp) hw hck
  obtain ⟨B1, hp, hR1⟩ := put_f (hB has') A.m1 s hs
  have hR1 : Rep m B1 (setB (none0 m) [(s : Int)]) := hR1
  obtain ⟨K3, B', b0, h3, hR, hH⟩ := closed_f (sy := ns) (s := s) (e := e) A hR1
  obtain ⟨K6, h6⟩ := marks_f (ls := [(s : Int)]) (by simp) A.m1 (okS_one hs) (fun k hk => (h3 k hk).2)
  obtain ⟨K7, b', hl', hWk, _, h7⟩ := run_l0 (ns := ns) (s := s) A he hw ws.length 0 rfl (by omega) B' b0 hR (hand_self hH)
  rw [List.drop_zero] at hWk
  refine ⟨K1 + K2 + K3 + K6 + K7, b0, b', hR.lb, hH, hl', hWk, fun k hk => ⟨?_, ?_⟩⟩
  · unfold nfa_Run.f
    rw [h1 k (by omega), Option.bind_some, if_pos has']
    show (if (0 : Int) = 0 then _ else _) = _
    rw [if_pos rfl, hp, Option.bind_some, (h3 k (by omega)).1, Option.bind_some]
    exact (h7 k (by omega)).1
  · unfold stackyardref08_Run.f
    rw [h2 k (by omega), Option.bind_some, if_pos has', h6 k (by omega), Option.bind_some]
    exact (h7 k (by omega)).2
theorem run_bad (A : Arcs m l) {ws : List Int} (hw : ws.length < 4611686018427387904) (hck : ckA m ns s e l = 0) (has : okS ns ws ≠ true) :
    ∃ K, ∀ k, K ≤ k → nfa_Run.f k m ns s e l ws = some (false, 102) ∧ stackyardref08_Run.f k m ns s e l ws = some (false, 102) := by
  have e0 : asE m ns [] ws = 102 := by
    unfold asE
    rw [show okS (m : Int) [] = true from rfl, if_pos rfl, if_neg has]
  obtain ⟨K1, B, hB, h1⟩ := asked_f (ns := ns) (s := s) (e := e) A (ls := []) (by simp) hw hck
  obtain ⟨K2, h2⟩ := rasked_f (m := m) (ns := ns) (s := s) (e := e) (l := l) (ls := []) (by simp) hw hck
  rw [e0] at h1 h2
  refine ⟨K1 + K2, fun k hk => ⟨?_, ?_⟩⟩
  · unfold nfa_Run.f
    rw [h1 k (by omega), Option.bind_some, if_neg (show ¬ ((102 : Int) = 0) by decide)]
    show (if (102 : Int) = 0 then _ else _) = _
    rw [if_neg (by decide)]
  · unfold stackyardref08_Run.f
    rw [h2 k (by omega), Option.bind_some, if_neg (by decide)]
end
section
variable {m ns : Nat} {s e : Nat} {l : List S78}
end
end Go.Proofs.Ytapinbmkjkbkkaa.Pu
