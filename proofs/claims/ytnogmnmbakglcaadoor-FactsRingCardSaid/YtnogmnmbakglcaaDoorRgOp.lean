import Derived.Test.YtnogmnmbakglcaaDoorCards
import Derived.Test.YtnogmnmbakglcaaDoorTie
import Derived.WalkKit
import Derived.ProofKit
import Derived.OpenShut
import Derived.Lib.SmallJoins
import Derived.Deep.DeepHandedRow
import Derived.Lib.LaidTab
import Derived.Below
import Derived.ChangeOld
import Derived.Test.YtnogmnmbakglcaaDoorRgPm
namespace Go.Proofs.YtnogmnmbakglcaaDoor
open Go.ChangeShapes Go.WideShapes Go.ChangeAt Go.RowKit Go.Joins Go.Proofs.YtnogmnmbakglcaaDoorW.PrintWords Go.Proofs.YtnogmnmbakglcaaDoorW.PrintLast Go.Proofs.YtnogmnmbakglcaaDoorW.PrintMore
theorem own : ownKnob Tryd.prog.godebug = none := by kernel_rfl
theorem laidOut : laidOutB Tryd.prog = true := by kernel_rfl
theorem gTab : Tryd.prog.globalNamed "math/bits.deBruijn64tab" = some 0 := by kernel_rfl
theorem gTabType : (Tryd.prog.globals[0]?).map (·.type) = some 78 := by kernel_rfl
theorem cells78 : Tryd.prog.cellsOf 78 = 64 := by kernel_rfl
theorem cells5 : Tryd.prog.cellsOf 5 = 1 := by kernel_rfl
theorem cells25 : Tryd.prog.cellsOf 25 = 2 := by kernel_rfl
theorem cells22 : Tryd.prog.cellsOf 22 = 1 := by kernel_rfl
theorem wf_U {x : Int} (h : (Lit.int .u64 x).wf = true) : Pr.U x := by
  have := bounds_u64 h
  unfold Pr.U; omega
section
variable {H : Type} {enc : TypeId × Value → H} {W : World} {base : Nat} {held : Bool} {r : Reach} {b0 : Nat}
theorem open_facts {v : Value} {d : DataW H} {p : List MemPlace} (hv : Value.okWide Tryd.prog W r b0 25 v) (h : DataW.Trod enc Tryd.prog W base (fun _ => true) held 25 v d p) :
    ∃ (g : Int) (A : Option Addr) (n c : Nat) (l : List Int), v = .agg #[.int .u64 g, .slice A n c] ∧ Pr.U g ∧ Pr.UL l ∧ l.length = n ∧ n ≤ c ∧ n ≤ 9223372036854775807 ∧ Kd.C (Kd.int .u64) W A l.length l := by
  obtain ⟨v0, v1, y0, y1, m, rfl, rfl, rfl, h0, h1⟩ := open_agg2 Tryd.underlying25 (by kernel_rfl) cells25 hv h
  obtain ⟨g, e0, _, hg⟩ := DataW.trod_int Tryd.underlying22 h0
  obtain rfl : v0 = .int .u64 g := by simpa using e0
  rcases open_ints Tryd.underlying23 Tryd.underlying22 cells22 h1 with ⟨e1, _⟩ | ⟨a, len, cap, zs, e1, _, hl, hm, hz, _, hcell, hwf⟩
  · obtain rfl : v1 = .slice none 0 0 := by simpa using e1
    exact ⟨g, none, 0, 0, [], rfl, wf_U hg, (fun x hx => by cases hx), rfl, Nat.le_refl _, by omega, Kd.C_nil _ _⟩
  · obtain rfl : v1 = .slice (some a) len cap := by simpa using e1
    have hz' : zs.length = cap := by simpa using hz
    have hm' : cap ≤ 9223372036854775807 := by simpa [maxLen] using hm
    have hlen : (zs.take len).length = len := by rw [List.length_take]; omega
    refine ⟨g, some a, len, cap, zs.take len, rfl, wf_U hg, fun x hx => wf_U (hwf x (List.mem_of_mem_take hx)), hlen, hl, by omega, ?_⟩
    refine ⟨rfl, by omega, fun hn => ⟨a, rfl, fun j x hj => ⟨[.int .u64 x], rfl, rfl, fun i u hi => ?_⟩⟩⟩
    have hjl : j < len := by
      have := (List.getElem?_eq_some_iff.1 hj).1
      omega
    have hx : zs.getD j 0 = x := by
      rw [List.getElem?_take_of_lt hjl] at hj
      simp [List.getD_eq_getElem?_getD, hj]
    have := hcell j (by omega)
    rw [hx] at this
    match i, hi with
    | 0, hi =>
      obtain rfl : Value.int .u64 x = u := by simpa using hi
      simpa [Kd.int, Kd.scalar] using this
end
theorem C_take100 {W : World} {A : Option Addr} {l : List Int} (h : Kd.C (Kd.int .u64) W A l.length l) : Kd.C (Kd.int .u64) W A (l.take 100).length (l.take 100) := by
  by_cases hl : 100 ≤ l.length
  · exact Kd.C_take h hl
  · rw [List.take_of_length_le (by omega)]; exact h
theorem tab_of {W : World} (h : laidMetH Tryd.prog [("math/bits.deBruijn64tab", Rows.laid_math_bits_deBruijn64tab)] W) : DB W := by
  have ht : Go.Lib.TabIs Tryd.prog W "math/bits.deBruijn64tab" .u8 (Go.Lib.deBruijn64tab.map Int.ofNat) :=
    Go.Lib.tabIs_of_head (rest := []) gTab gTabType Tryd.underlying78 Tryd.underlying5 cells5 cells78 h
  intro j hj
  have := ht.cell gTab j (by simpa using hj)
  rw [this]
  congr 2
  rw [List.getD_eq_getElem?_getD, List.getD_eq_getElem?_getD, List.getElem?_map, List.getElem?_eq_getElem hj]
  rfl
noncomputable def laidWorld (os : Os) : World :=
  { World.holding Tryd.prog os ⟨#[], #[], []⟩ with heap := (World.holding Tryd.prog os ⟨#[], #[], []⟩).heap.modify 0 fun
      | .cells _ t frozen => .cells ((Go.Lib.deBruijn64tab.map fun n => Value.int .u8 (Int.ofNat n)).toArray) t frozen
      | o => o }
end Go.Proofs.YtnogmnmbakglcaaDoor
