/-
  DERIVED. GIVEN WITH THE SEED: THE CARDS: each row of YtnogmnmbakglcaaDoorRows.lean that lists a variable, with what it lists TIED to the program's text (the seventh form; the later family's looks); each row that meets fmt, with fmt's text TOLD by the authors' own Lean function (tested against real Go, not proved from fmt's source: count such statements apart). THE CARD IS WHAT COUNTS. Prove the row's statement (the work); the ties are given (YtnogmnmbakglcaaDoorTie.lean); close each card by the builder's one call (the guide's Derived/Test/ToyasCard.lean, 'card_holds'). Laid BY PROGRAM, IN A SANDBOX (cutbox-door.mjs). By AI agents, Wed Nov 11 2026. No macro, syntax, notation, axiom, sorry.
-/
import Derived.Test.YtnogmnmbakglcaaDoorRows
import GoSem.ClaimSeven
namespace Go.Proofs.YtnogmnmbakglcaaDoor
namespace Rows

/-- THE TIED CARD OF 'stackyardlaw03.FactsForms'. -/
def factsFormsCard : Claim7 := { stood := { row := factsFormsRow, standIns := [], harness := (true, "5cf5668ba5636655e67625af1165acc69ec2cf09e9d4549960b16e32cd2942b2"), looks := false }, kinds := [], alts := [], laidByText := true, laidKinds := [.data], laidTests := true, laidLooks := .later }
def FactsFormsCardSaid : Prop := Claim7.holds Tryd.pinned (.plain (OpenSpec.ofChange factsFormsSpec)) factsFormsCard

/-- THE TIED CARD OF 'stackyardlaw03.FactsOwn'. -/
def factsOwnCard : Claim7 := { stood := { row := factsOwnRow, standIns := [], harness := (true, "5cf5668ba5636655e67625af1165acc69ec2cf09e9d4549960b16e32cd2942b2"), looks := false }, kinds := [], alts := [], laidByText := true, laidKinds := [.data], laidTests := true, laidLooks := .later }
def FactsOwnCardSaid : Prop := Claim7.holds Tryd.pinned (.plain (OpenSpec.ofChange factsOwnSpec)) factsOwnCard

/-- THE TIED CARD OF 'stackyardlaw03.FactsRing'. -/
def factsRingCard : Claim7 := { stood := { row := factsRingRow, standIns := [], harness := (true, "5cf5668ba5636655e67625af1165acc69ec2cf09e9d4549960b16e32cd2942b2"), looks := false }, kinds := [], alts := [], laidByText := true, laidKinds := [.data], laidTests := true, laidLooks := .later }
def FactsRingCardSaid : Prop := Claim7.holds Tryd.pinned (.plain (OpenSpec.ofChange factsRingSpec)) factsRingCard

/-- THE TIED CARD OF 'stackyardlaw03.FactsApply'. -/
def factsApplyCard : Claim7 := { stood := { row := factsApplyRow, standIns := [], harness := (true, "5cf5668ba5636655e67625af1165acc69ec2cf09e9d4549960b16e32cd2942b2"), looks := false }, kinds := [], alts := [], laidByText := true, laidKinds := [.data], laidTests := true, laidLooks := .later }
def FactsApplyCardSaid : Prop := Claim7.holds Tryd.pinned (.plain (OpenSpec.ofChange factsApplySpec)) factsApplyCard

/-- THE TIED CARD OF 'stackyardlaw03.FactsMakes'. -/
def factsMakesCard : Claim7 := { stood := { row := factsMakesRow, standIns := [], harness := (true, "5cf5668ba5636655e67625af1165acc69ec2cf09e9d4549960b16e32cd2942b2"), looks := false }, kinds := [], alts := [], laidByText := true, laidKinds := [.data], laidTests := true, laidLooks := .later }
def FactsMakesCardSaid : Prop := Claim7.holds Tryd.pinned (.plain (OpenSpec.ofChange factsMakesSpec)) factsMakesCard

/-- THE SECOND FORM's CARD OF 'stackyardlaw03.FactsForms'. -/
def factsFormsUptoCard : Claim7 := { stood := { row := factsFormsUptoRow, standIns := [], harness := (true, "5cf5668ba5636655e67625af1165acc69ec2cf09e9d4549960b16e32cd2942b2"), looks := false }, kinds := [], alts := [], laidByText := true, laidKinds := [.data], laidTests := true, laidLooks := .later }
def FactsFormsUptoCardSaid : Prop := Claim7.holds Tryd.pinned (.plain (OpenSpec.upto factsFormsSpec)) factsFormsUptoCard

/-- THE SECOND FORM's CARD OF 'stackyardlaw03.FactsOwn'. -/
def factsOwnUptoCard : Claim7 := { stood := { row := factsOwnUptoRow, standIns := [], harness := (true, "5cf5668ba5636655e67625af1165acc69ec2cf09e9d4549960b16e32cd2942b2"), looks := false }, kinds := [], alts := [], laidByText := true, laidKinds := [.data], laidTests := true, laidLooks := .later }
def FactsOwnUptoCardSaid : Prop := Claim7.holds Tryd.pinned (.plain (OpenSpec.upto factsOwnSpec)) factsOwnUptoCard

/-- THE SECOND FORM's CARD OF 'stackyardlaw03.FactsRing'. -/
def factsRingUptoCard : Claim7 := { stood := { row := factsRingUptoRow, standIns := [], harness := (true, "5cf5668ba5636655e67625af1165acc69ec2cf09e9d4549960b16e32cd2942b2"), looks := false }, kinds := [], alts := [], laidByText := true, laidKinds := [.data], laidTests := true, laidLooks := .later }
def FactsRingUptoCardSaid : Prop := Claim7.holds Tryd.pinned (.plain (OpenSpec.upto factsRingSpec)) factsRingUptoCard

/-- THE SECOND FORM's CARD OF 'stackyardlaw03.FactsApply'. -/
def factsApplyUptoCard : Claim7 := { stood := { row := factsApplyUptoRow, standIns := [], harness := (true, "5cf5668ba5636655e67625af1165acc69ec2cf09e9d4549960b16e32cd2942b2"), looks := false }, kinds := [], alts := [], laidByText := true, laidKinds := [.data], laidTests := true, laidLooks := .later }
def FactsApplyUptoCardSaid : Prop := Claim7.holds Tryd.pinned (.plain (OpenSpec.upto factsApplySpec)) factsApplyUptoCard

/-- THE SECOND FORM's CARD OF 'stackyardlaw03.FactsMakes'. -/
def factsMakesUptoCard : Claim7 := { stood := { row := factsMakesUptoRow, standIns := [], harness := (true, "5cf5668ba5636655e67625af1165acc69ec2cf09e9d4549960b16e32cd2942b2"), looks := false }, kinds := [], alts := [], laidByText := true, laidKinds := [.data], laidTests := true, laidLooks := .later }
def FactsMakesUptoCardSaid : Prop := Claim7.holds Tryd.pinned (.plain (OpenSpec.upto factsMakesSpec)) factsMakesUptoCard
end Rows
end Go.Proofs.YtnogmnmbakglcaaDoor
