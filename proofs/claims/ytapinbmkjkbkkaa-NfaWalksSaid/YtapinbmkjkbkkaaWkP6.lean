import Derived.Test.YtapinbmkjkbkkaaWkP5
namespace Go.Proofs.Ytapinbmkjkbkkaa.Pu
open Go.RowKit Go.Proofs.YtapinbmkjkbkkaaW.PrintWords Go.Proofs.YtapinbmkjkbkkaaW.PrintLast Go.Proofs.YtapinbmkjkbkkaaW.PrintMore Lb Mk Ls
theorem listB_len (b : List Bool) : (listB b).length ≤ b.length := bl_len b _ _
section
variable {m ns : Nat} {s e : Int} {l : List S78}
theorem close_good (A : Arcs m l) {ls : List Int} (hl : ls.length < 4611686018427387904) (hck : ckA m ns s e l = 0) (has : asE m ns ls [] = 0) :
    ∃ K b', b'.length = m ∧ Hand l (setB (none0 m) ls) b' ∧ ∀ k, K ≤ k → nfa_Close.f k m ns s e l ls = some (listB b', 0) ∧ stackyardref08_Close.f k m ns s e l ls = some (listB b', 0) := by
  have hm := A.m1
  have hok : okS m ls = true := by
    unfold asE at has
    by_cases h : okS m ls = true
    · exact h
    · rw [if_neg h] at has; exact absurd has (by decide)
  obtain ⟨K1, B, hB, h1⟩ := asked_f (ns := ns) (s := s) (e := e) A hl (ws := []) (by simp) hck
  obtain ⟨K2, h2⟩ := rasked_f (m := m) (ns := ns) (s := s) (e := e) (l := l) hl (ws := []) (by simp) hck
  obtain ⟨K3, B', b', h3, hR, hH⟩ := closed_f (sy := ns) (s := s) (e := e) A (hB has)
  obtain ⟨K4, h4⟩ := list_f hR A.m1
  obtain ⟨K5, h5⟩ := rlist_f (b := b') (by rw [hR.lb]; exact A.m1)
  obtain ⟨K6, h6⟩ := marks_f hl A.m1 hok (fun k hk => (h3 k hk).2)
  refine ⟨K1 + K2 + K3 + K4 + K5 + K6, b', hR.lb, hH, fun k hk => ⟨?_, ?_⟩⟩
  · unfold nfa_Close.f
    rw [h1 k (by omega), Option.bind_some, if_pos has]
    show (if (0 : Int) = 0 then _ else _) = _
    rw [if_pos rfl, (h3 k (by omega)).1, Option.bind_some, h4 k (by omega), Option.bind_some]
  · unfold stackyardref08_Close.f
    rw [h2 k (by omega), Option.bind_some, if_pos has, h6 k (by omega), Option.bind_some, h5 k (by omega), Option.bind_some]
theorem step_good (A : Arcs m l) {ls : List Int} {sym : Int} (hl : ls.length < 4611686018427387904) (hck : ckA m ns s e l = 0) (has : asE m ns ls [sym] = 0) :
    ∃ K b1 b', b1.length = m ∧ Hand l (setB (none0 m) ls) b1 ∧ b'.length = m ∧ By m l sym b1 b' ∧ ∀ k, K ≤ k → nfa_Step.f k m ns s e l sym ls = some (listB b', 0) ∧ stackyardref08_Step.f k m ns s e l sym ls = some (listB b', 0) := by
  have hm := A.m1
  have hok : okS m ls = true := by
    unfold asE at has
    by_cases h : okS m ls = true
    · exact h
    · rw [if_neg h] at has; exact absurd has (by decide)
  obtain ⟨K1, B, hB, h1⟩ := asked_f (ns := ns) (s := s) (e := e) A hl (ws := [sym]) (by simp) hck
  obtain ⟨K2, h2⟩ := rasked_f (m := m) (ns := ns) (s := s) (e := e) (l := l) hl (ws := [sym]) (by simp) hck
  obtain ⟨K3, B1, b1, h3, hR1, hH1⟩ := closed_f (sy := ns) (s := s) (e := e) A (hB has)
  obtain ⟨K7, B', b', h7, hR, hBy⟩ := step_f (sy := ns) (s := s) (e := e) A (sym := sym) (hB has) hH1 hR1.lb
  obtain ⟨K4, h4⟩ := list_f hR A.m1
  obtain ⟨K5, h5⟩ := rlist_f (b := b') (by rw [hR.lb]; exact A.m1)
  obtain ⟨K6, h6⟩ := marks_f hl A.m1 hok (fun k hk => (h3 k hk).2)
  refine ⟨K1 + K2 + K3 + K4 + K5 + K6 + K7, b1, b', hR1.lb, hH1, hR.lb, hBy, fun k hk => ⟨?_, ?_⟩⟩
  · unfold nfa_Step.f
    rw [h1 k (by omega), Option.bind_some, if_pos has]
    show (if (0 : Int) = 0 then _ else _) = _
    rw [if_pos rfl, (h7 k (by omega)).1, Option.bind_some, h4 k (by omega), Option.bind_some]
  · unfold stackyardref08_Step.f
    rw [h2 k (by omega), Option.bind_some, if_pos has, h6 k (by omega), Option.bind_some, (h7 k (by omega)).2, Option.bind_some, h5 k (by omega), Option.bind_some]
end
section
variable {a0_0 a0_1 a0_2 a0_3 : Int} {l : List S78}
end
end Go.Proofs.Ytapinbmkjkbkkaa.Pu
