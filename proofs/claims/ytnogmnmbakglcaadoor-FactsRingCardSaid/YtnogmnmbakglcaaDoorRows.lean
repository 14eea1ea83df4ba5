/-
  NARROWER THAN 'FOR EVERY INPUT', by the rows' own cells (each row's printed sentence says how): FactsForms: laid · FactsOwn: laid · FactsRing: laid · FactsApply: laid · FactsMakes: laid.
  DERIVED. THE GIVEN ROWS OF THIS SEAT. 5 by the template 'for every input the law returns true; each argument reads behind the call as it read before'; 0 by the template 'total and deterministic' (their statements: YtnogmnmbakglcaaDoorTotals.lean).
  GIVEN WITH THE SEED: the statements are not yours to turn. If you find one false, say at which input.
  Laid BY PROGRAM, IN A SANDBOX (cutbox-rows.mjs): the forced cells as the released guide's own fill.sh prints them over the translation e6df5539d779f331… (all of the seat's roots in one cut). By AI agents, Wed Nov 11 2026. No macro, syntax, notation, axiom, sorry.
-/
import Derived.Test.YtnogmnmbakglcaaDoorChecked
import GoSem.Claim
import GoSem.ClaimJoined
import GoSem.ClaimMapViews
import Derived.JoinedTies
import Derived.KernelRfl
namespace Go.Proofs.YtnogmnmbakglcaaDoor
/- THE CELL 'sum', in the pinned program and in every row, IS THE sha256 OF THE DUMP (.gsa) THAT YtnogmnmbakglcaaDoorProg.lean LOADS. Nothing in Lean hashes anything: it is a label: what it is worth is what the hold of that sum in a sandbox is worth. -/
noncomputable def Tryd.pinned : Pinned := { name := "ytnogmnmbakglcaadoor", sum := "e6df5539d779f331f13db6c91ebb6a5c743396ddcd2a181b742e7a8e6e9cc553", checked := Tryd.checked }
namespace Rows
def none {H : Type} : Left H := { results := [], args := [] }

/- WHAT THE LISTED PACKAGE-LEVEL VARIABLES READ AS WHEN THE CALL BEGINS. Each datum BY PROGRAM (the guide's laid-datum.mjs) off the statement by which the dump's own 'gosem.cut.vars' lays the variable. In a bare row this is a premise. The card (YtnogmnmbakglcaaDoorCards.lean) ties it to the program's text. -/
def laid_math_bits_deBruijn64tab {H : Type} : DataW H := .agg [.lit (.int .u8 0), .lit (.int .u8 1), .lit (.int .u8 56), .lit (.int .u8 2), .lit (.int .u8 57), .lit (.int .u8 49), .lit (.int .u8 28), .lit (.int .u8 3), .lit (.int .u8 61), .lit (.int .u8 58), .lit (.int .u8 42), .lit (.int .u8 50), .lit (.int .u8 38), .lit (.int .u8 29), .lit (.int .u8 17), .lit (.int .u8 4), .lit (.int .u8 62), .lit (.int .u8 47), .lit (.int .u8 59), .lit (.int .u8 36), .lit (.int .u8 45), .lit (.int .u8 43), .lit (.int .u8 51), .lit (.int .u8 22), .lit (.int .u8 53), .lit (.int .u8 39), .lit (.int .u8 33), .lit (.int .u8 30), .lit (.int .u8 24), .lit (.int .u8 18), .lit (.int .u8 12), .lit (.int .u8 5), .lit (.int .u8 63), .lit (.int .u8 55), .lit (.int .u8 48), .lit (.int .u8 27), .lit (.int .u8 60), .lit (.int .u8 41), .lit (.int .u8 37), .lit (.int .u8 16), .lit (.int .u8 46), .lit (.int .u8 35), .lit (.int .u8 44), .lit (.int .u8 21), .lit (.int .u8 52), .lit (.int .u8 32), .lit (.int .u8 23), .lit (.int .u8 11), .lit (.int .u8 54), .lit (.int .u8 26), .lit (.int .u8 40), .lit (.int .u8 15), .lit (.int .u8 34), .lit (.int .u8 20), .lit (.int .u8 31), .lit (.int .u8 10), .lit (.int .u8 25), .lit (.int .u8 14), .lit (.int .u8 19), .lit (.int .u8 9), .lit (.int .u8 13), .lit (.int .u8 8), .lit (.int .u8 7), .lit (.int .u8 6)]

/-- 'stackyardlaw03.FactsForms': WHATEVER THE INPUT: true; the input reads as it did. -/
def factsFormsSpec : ChangeSpec := { name := "factsForms", fn := fun _ => fun
  | [d1, d2, d3, d4, d5] => { results := [.lit (.bool true)], args := [d1, d2, d3, d4, d5] }
  | _ => none }
def factsFormsRow : OpenClaim := { program := "ytnogmnmbakglcaadoor", sum := "e6df5539d779f331f13db6c91ebb6a5c743396ddcd2a181b742e7a8e6e9cc553", func := "stackyard/stackyardlaw03.FactsForms", spec := "factsForms", unfollowed := true, recurses := true, named := ["math/bits.deBruijn64tab"], apart := false, laid := [("math/bits.deBruijn64tab", laid_math_bits_deBruijn64tab)] }
def FactsFormsSaid : Prop := factsFormsRow.holds Tryd.pinned (OpenSpec.ofChange factsFormsSpec)

/-- ITS FALSE NEIGHBOUR: 'it returns false'. Refute it at one input. -/
def factsFormsWrong : ChangeSpec := { name := "factsForms", fn := fun _ => fun
  | [d1, d2, d3, d4, d5] => { results := [.lit (.bool false)], args := [d1, d2, d3, d4, d5] }
  | _ => none }
def FactsFormsWrongFalsely : Prop := factsFormsRow.holds Tryd.pinned (OpenSpec.ofChange factsFormsWrong)

/-- 'stackyardlaw03.FactsOwn': WHATEVER THE INPUT: true; the input reads as it did. -/
def factsOwnSpec : ChangeSpec := { name := "factsOwn", fn := fun _ => fun
  | [d1, d2, d3] => { results := [.lit (.bool true)], args := [d1, d2, d3] }
  | _ => none }
def factsOwnRow : OpenClaim := { program := "ytnogmnmbakglcaadoor", sum := "e6df5539d779f331f13db6c91ebb6a5c743396ddcd2a181b742e7a8e6e9cc553", func := "stackyard/stackyardlaw03.FactsOwn", spec := "factsOwn", unfollowed := true, recurses := true, named := ["math/bits.deBruijn64tab"], apart := false, laid := [("math/bits.deBruijn64tab", laid_math_bits_deBruijn64tab)] }
def FactsOwnSaid : Prop := factsOwnRow.holds Tryd.pinned (OpenSpec.ofChange factsOwnSpec)

/-- ITS FALSE NEIGHBOUR: 'it returns false'. Refute it at one input. -/
def factsOwnWrong : ChangeSpec := { name := "factsOwn", fn := fun _ => fun
  | [d1, d2, d3] => { results := [.lit (.bool false)], args := [d1, d2, d3] }
  | _ => none }
def FactsOwnWrongFalsely : Prop := factsOwnRow.holds Tryd.pinned (OpenSpec.ofChange factsOwnWrong)

/-- 'stackyardlaw03.FactsRing': WHATEVER THE INPUT: true; the input reads as it did. -/
def factsRingSpec : ChangeSpec := { name := "factsRing", fn := fun _ => fun
  | [d1, d2, d3, d4] => { results := [.lit (.bool true)], args := [d1, d2, d3, d4] }
  | _ => none }
def factsRingRow : OpenClaim := { program := "ytnogmnmbakglcaadoor", sum := "e6df5539d779f331f13db6c91ebb6a5c743396ddcd2a181b742e7a8e6e9cc553", func := "stackyard/stackyardlaw03.FactsRing", spec := "factsRing", unfollowed := true, recurses := true, named := ["math/bits.deBruijn64tab"], apart := false, laid := [("math/bits.deBruijn64tab", laid_math_bits_deBruijn64tab)] }
def FactsRingSaid : Prop := factsRingRow.holds Tryd.pinned (OpenSpec.ofChange factsRingSpec)

/-- ITS FALSE NEIGHBOUR: 'it returns false'. Refute it at one input. -/
def factsRingWrong : ChangeSpec := { name := "factsRing", fn := fun _ => fun
  | [d1, d2, d3, d4] => { results := [.lit (.bool false)], args := [d1, d2, d3, d4] }
  | _ => none }
def FactsRingWrongFalsely : Prop := factsRingRow.holds Tryd.pinned (OpenSpec.ofChange factsRingWrong)

/-- 'stackyardlaw03.FactsApply': WHATEVER THE INPUT: true; the input reads as it did. -/
def factsApplySpec : ChangeSpec := { name := "factsApply", fn := fun _ => fun
  | [d1, d2, d3, d4] => { results := [.lit (.bool true)], args := [d1, d2, d3, d4] }
  | _ => none }
def factsApplyRow : OpenClaim := { program := "ytnogmnmbakglcaadoor", sum := "e6df5539d779f331f13db6c91ebb6a5c743396ddcd2a181b742e7a8e6e9cc553", func := "stackyard/stackyardlaw03.FactsApply", spec := "factsApply", unfollowed := true, recurses := true, named := ["math/bits.deBruijn64tab"], apart := false, laid := [("math/bits.deBruijn64tab", laid_math_bits_deBruijn64tab)] }
def FactsApplySaid : Prop := factsApplyRow.holds Tryd.pinned (OpenSpec.ofChange factsApplySpec)

/-- ITS FALSE NEIGHBOUR: 'it returns false'. Refute it at one input. -/
def factsApplyWrong : ChangeSpec := { name := "factsApply", fn := fun _ => fun
  | [d1, d2, d3, d4] => { results := [.lit (.bool false)], args := [d1, d2, d3, d4] }
  | _ => none }
def FactsApplyWrongFalsely : Prop := factsApplyRow.holds Tryd.pinned (OpenSpec.ofChange factsApplyWrong)

/-- 'stackyardlaw03.FactsMakes': WHATEVER THE INPUT: true; the input reads as it did. -/
def factsMakesSpec : ChangeSpec := { name := "factsMakes", fn := fun _ => fun
  | [d1, d2, d3, d4] => { results := [.lit (.bool true)], args := [d1, d2, d3, d4] }
  | _ => none }
def factsMakesRow : OpenClaim := { program := "ytnogmnmbakglcaadoor", sum := "e6df5539d779f331f13db6c91ebb6a5c743396ddcd2a181b742e7a8e6e9cc553", func := "stackyard/stackyardlaw03.FactsMakes", spec := "factsMakes", unfollowed := true, recurses := true, named := ["math/bits.deBruijn64tab"], apart := false, laid := [("math/bits.deBruijn64tab", laid_math_bits_deBruijn64tab)] }
def FactsMakesSaid : Prop := factsMakesRow.holds Tryd.pinned (OpenSpec.ofChange factsMakesSpec)

/-- ITS FALSE NEIGHBOUR: 'it returns false'. Refute it at one input. -/
def factsMakesWrong : ChangeSpec := { name := "factsMakes", fn := fun _ => fun
  | [d1, d2, d3, d4] => { results := [.lit (.bool false)], args := [d1, d2, d3, d4] }
  | _ => none }
def FactsMakesWrongFalsely : Prop := factsMakesRow.holds Tryd.pinned (OpenSpec.ofChange factsMakesWrong)

/- THE SECOND FORM. 'bulk': how many values and letters a reading holds, each counted each time it is reached (what is shared counts as often as it is met; a slice's spare places count too). A statement '..UptoSaid' is the law's where the arguments, and the package variables that the reading takes, are together of bulk at most 1048576: NARROWER than '..Said'. Prove '..Said' where nothing that the law and all that it calls make is longer than what came in: it says more and counts as full. Else prove '..UptoSaid'. A law counts once. -/
mutual
def uptoBulk {H : Type} : DataW H → Nat
  | .lit (.string bytes) => bytes.length + 1
  | .lit _ => 1
  | .nil => 1
  | .ptr d => uptoBulk d + 1
  | .slice elems spare => uptoBulkAll elems + uptoBulkAll spare + 1
  | .agg parts => uptoBulkAll parts + 1
  | .iface _ d => uptoBulk d + 1
  | .map entries => uptoBulkEntries entries + 1
  | .held _ => 1
def uptoBulkAll {H : Type} : List (DataW H) → Nat
  | [] => 0
  | d :: r => uptoBulk d + uptoBulkAll r
def uptoBulkEntries {H : Type} : List (Lit × DataW H) → Nat
  | [] => 0
  | x :: r => uptoBulkEntry x + uptoBulkEntries r
def uptoBulkEntry {H : Type} : Lit × DataW H → Nat
  | (.string bytes, d) => bytes.length + uptoBulk d + 1
  | (_, d) => uptoBulk d + 1
 end
def uptoSmall : (H : Type) → List (DataW H) → Bool := fun _ ds => decide (uptoBulkAll ds ≤ 1048576)
def OpenSpec.upto (s : _root_.Go.ChangeSpec) : _root_.Go.OpenSpec := { _root_.Go.OpenSpec.ofChange s with cond := some uptoSmall }

/-- 'stackyardlaw03.FactsForms', WHERE WHAT IT READS IS OF BULK AT MOST 1048576: true; the input reads as it did. -/
def factsFormsUptoRow : OpenClaim := { program := "ytnogmnmbakglcaadoor", sum := "e6df5539d779f331f13db6c91ebb6a5c743396ddcd2a181b742e7a8e6e9cc553", func := "stackyard/stackyardlaw03.FactsForms", spec := "factsForms", unfollowed := true, recurses := true, named := ["math/bits.deBruijn64tab"], apart := false, laid := [("math/bits.deBruijn64tab", laid_math_bits_deBruijn64tab)], narrowed := true }
def FactsFormsUptoSaid : Prop := factsFormsUptoRow.holds Tryd.pinned (OpenSpec.upto factsFormsSpec)

/-- 'stackyardlaw03.FactsOwn', WHERE WHAT IT READS IS OF BULK AT MOST 1048576: true; the input reads as it did. -/
def factsOwnUptoRow : OpenClaim := { program := "ytnogmnmbakglcaadoor", sum := "e6df5539d779f331f13db6c91ebb6a5c743396ddcd2a181b742e7a8e6e9cc553", func := "stackyard/stackyardlaw03.FactsOwn", spec := "factsOwn", unfollowed := true, recurses := true, named := ["math/bits.deBruijn64tab"], apart := false, laid := [("math/bits.deBruijn64tab", laid_math_bits_deBruijn64tab)], narrowed := true }
def FactsOwnUptoSaid : Prop := factsOwnUptoRow.holds Tryd.pinned (OpenSpec.upto factsOwnSpec)

/-- 'stackyardlaw03.FactsRing', WHERE WHAT IT READS IS OF BULK AT MOST 1048576: true; the input reads as it did. -/
def factsRingUptoRow : OpenClaim := { program := "ytnogmnmbakglcaadoor", sum := "e6df5539d779f331f13db6c91ebb6a5c743396ddcd2a181b742e7a8e6e9cc553", func := "stackyard/stackyardlaw03.FactsRing", spec := "factsRing", unfollowed := true, recurses := true, named := ["math/bits.deBruijn64tab"], apart := false, laid := [("math/bits.deBruijn64tab", laid_math_bits_deBruijn64tab)], narrowed := true }
def FactsRingUptoSaid : Prop := factsRingUptoRow.holds Tryd.pinned (OpenSpec.upto factsRingSpec)

/-- 'stackyardlaw03.FactsApply', WHERE WHAT IT READS IS OF BULK AT MOST 1048576: true; the input reads as it did. -/
def factsApplyUptoRow : OpenClaim := { program := "ytnogmnmbakglcaadoor", sum := "e6df5539d779f331f13db6c91ebb6a5c743396ddcd2a181b742e7a8e6e9cc553", func := "stackyard/stackyardlaw03.FactsApply", spec := "factsApply", unfollowed := true, recurses := true, named := ["math/bits.deBruijn64tab"], apart := false, laid := [("math/bits.deBruijn64tab", laid_math_bits_deBruijn64tab)], narrowed := true }
def FactsApplyUptoSaid : Prop := factsApplyUptoRow.holds Tryd.pinned (OpenSpec.upto factsApplySpec)

/-- 'stackyardlaw03.FactsMakes', WHERE WHAT IT READS IS OF BULK AT MOST 1048576: true; the input reads as it did. -/
def factsMakesUptoRow : OpenClaim := { program := "ytnogmnmbakglcaadoor", sum := "e6df5539d779f331f13db6c91ebb6a5c743396ddcd2a181b742e7a8e6e9cc553", func := "stackyard/stackyardlaw03.FactsMakes", spec := "factsMakes", unfollowed := true, recurses := true, named := ["math/bits.deBruijn64tab"], apart := false, laid := [("math/bits.deBruijn64tab", laid_math_bits_deBruijn64tab)], narrowed := true }
def FactsMakesUptoSaid : Prop := factsMakesUptoRow.holds Tryd.pinned (OpenSpec.upto factsMakesSpec)

end Rows
end Go.Proofs.YtnogmnmbakglcaaDoor
