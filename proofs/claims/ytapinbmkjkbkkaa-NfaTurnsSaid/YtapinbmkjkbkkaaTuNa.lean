import Derived.Test.YtapinbmkjkbkkaaProg
import Derived.Maps.OwnSet
import Derived.Maps.Views
import Derived.WalkKit
import Derived.KernelRfl
import Derived.Below
import Derived.StringKeys
namespace Go.Proofs.Ytapinbmkjkbkkaa.Mk
open Go.Maps Go.WideShapes Go.ChangeShapes Go.ChangeMaps Go.RowKit
theorem zero3 (w : World) : (zeroValue 3).run Try.prog w = .ok (.int .i64 0) w := by kernel_rfl
def nk (s : ByteArray) : List UInt8 := s.data.toList
def nameAt (l : List (List UInt8)) (s : List UInt8) : Int := if s ∈ l then (l.idxOf s : Nat) else 0
def NamesAt (w : World) (b : Nat) (l : List (List UInt8)) : Prop :=
  ∃ D : DataW Unit, w.ownsMap Try.prog 9 (plainElem Try.prog 3) b l.length D ∧ IsMap D ∧ l.length ≤ 4096 ∧
    ∀ s : List UInt8, has D (.string s) = decide (s ∈ l) ∧ D.atKey (.string s) (.lit (.int .i64 0)) = .lit (.int .i64 (nameAt l s))
theorem names_new (w : World) : NamesAt (w.alloc (.map #[] 0)) w.heap.size [] :=
  ⟨.map [], World.ownsMap_made _ _ _ _, isMap_empty, by simp, fun s => ⟨by simp [has_eq], by simp [nameAt, DataW.atKey]⟩⟩
theorem names_lt {w : World} {b : Nat} {l : List (List UInt8)} (h : NamesAt w b l) : b < w.heap.size := by
  obtain ⟨D, h, _⟩ := h
  exact h.lt
theorem names_kept {w w' : World} {b : Nat} {l : List (List UInt8)} (h : NamesAt w b l) (hb : w'.heap[b]? = w.heap[b]?) : NamesAt w' b l := by
  obtain ⟨D, ⟨es, clock, h1, h2⟩, h3⟩ := h
  exact ⟨D, ⟨es, clock, hb.trans h1, h2⟩, h3⟩
theorem names_below {w w' : World} {b : Nat} {l : List (List UInt8)} (h : NamesAt w b l) (hb : Below w.heap.size w w') : NamesAt w' b l := names_kept h (hb.block b (names_lt h))
theorem litKey (s : List UInt8) : WideAt.IsKeyLit (.string s) := by simp [WideAt.IsKeyLit]
theorem names_look {w : World} {b : Nat} {l : List (List UInt8)} (h : NamesAt w b l) (s : ByteArray) (hs : s.size ≤ maxLen) :
    (Instr.lookup 69 (.map (some b)) (.string s) true).run Try.prog w = .ok (.tuple #[.int .i64 (nameAt l (nk s)), .bool (decide (nk s ∈ l))]) w := by
  obtain ⟨D, ho, _, _, hD⟩ := h
  obtain ⟨v, ps, hrun, hv⟩ := ho.look_ok (string_keyed Try.underlying9) Try.underlying69 (zero3 w) (plainElem_int Try.underlying3 (by decide)) (Go.WideMaps.keyOf_string_mk Try.underlying9 hs)
  have hs1 := (hD (nk s)).1
  have hs2 := (hD (nk s)).2
  unfold nk at hs1 hs2
  rw [hs1] at hrun
  rw [hs2] at hv
  obtain ⟨a, rfl, hz, _⟩ := plainElem_int_inv Try.underlying3 hv
  simp only [Prod.mk.injEq, DataW.lit.injEq, Lit.int.injEq, true_and] at hz
  rw [hrun, ← hz.1]
  rfl
theorem names_put {w : World} {b : Nat} {l : List (List UInt8)} (h : NamesAt w b l) (s : ByteArray) (hs : s.size ≤ maxLen) (hn : nk s ∉ l) (hl : l.length < 4096) :
    ∃ w', (Instr.mapUpdate 69 (.map (some b)) (.string s) (.int .i64 l.length)).run Try.prog w = .ok () w' ∧ NamesAt w' b (l ++ [nk s]) ∧ w.grownBy w' (some b) := by
  obtain ⟨D, ho, hI, _, hD⟩ := h
  have hwf : (Lit.int .i64 (l.length : Int)).wf = true := by
    have h1 : IntKind.i64.min = -9223372036854775808 := by decide
    have h2 : IntKind.i64.max = 9223372036854775807 := by decide
    simp only [Lit.wf, h1, h2, Bool.and_eq_true, decide_eq_true_eq]
    omega
  obtain ⟨w', hrun, ho', hg⟩ := ho.update (string_keyed Try.underlying9) Try.underlying69 (by unfold maxLen; omega) (Go.WideMaps.keyOf_string_mk Try.underlying9 hs) (plainElem_int (H := Unit) Try.underlying3 (a := (l.length : Int)) hwf)
  refine ⟨w', hrun, ⟨_, by simpa using ho', hI.put _ _, by simp; omega, fun t => ?_⟩, hg⟩
  by_cases ht : t = nk s
  · subst ht
    refine ⟨(has_put_same hI (litKey _) _).trans (by simp), ?_⟩
    refine (atKey_put_same hI (litKey _) _ _).trans ?_
    simp [nameAt, List.idxOf_append, hn]
  · have hne : (Lit.string t) ≠ (.string s.data.toList) := by
      intro e
      apply ht
      injection e with e
    refine ⟨(has_put_other hne _).trans (by rw [(hD t).1]; simp [ht]), ?_⟩
    refine (atKey_put_other hne _ _).trans ?_
    rw [(hD t).2]
    unfold nameAt
    by_cases hm : t ∈ l
    · simp [hm, List.idxOf_append]
    · simp [hm, ht]
end Go.Proofs.Ytapinbmkjkbkkaa.Mk
