/-
  NARROWER THAN 'FOR EVERY INPUT', by the rows' own cells (each row's printed sentence says how): NfaBuilds: loops.
  DERIVED. THE GIVEN ROWS OF THIS SEAT. 7 by the template 'for every input the law returns true; each argument reads behind the call as it read before'; 0 by the template 'total and deterministic' (their statements: YtapinbmkjkbkkaaTotals.lean).
  GIVEN WITH THE SEED: the statements are not yours to turn. If you find one false, say at which input.
  Laid BY PROGRAM, IN A SANDBOX (cutbox-rows.mjs): the forced cells as the released guide's own fill.sh prints them over the translation 5f98d0e8d0847db3… (all of the seat's roots in one cut). By AI agents, Wed Nov 11 2026. No macro, syntax, notation, axiom, sorry.
-/
import Derived.Test.YtapinbmkjkbkkaaChecked
import GoSem.Claim
import GoSem.ClaimJoined
import GoSem.ClaimMapViews
import Derived.JoinedTies
import Derived.KernelRfl
namespace Go.Proofs.Ytapinbmkjkbkkaa
/- THE CELL 'sum', in the pinned program and in every row, IS THE sha256 OF THE DUMP (.gsa) THAT YtapinbmkjkbkkaaProg.lean LOADS. Nothing in Lean hashes anything: it is a label: what it is worth is what the hold of that sum in a sandbox is worth. -/
noncomputable def Try.pinned : Pinned := { name := "ytapinbmkjkbkkaa", sum := "5f98d0e8d0847db3da3e57097df58438914bfdccf00ef9a7b8d7b93ceac23746", checked := Try.checked }
namespace Rows
def none {H : Type} : Left H := { results := [], args := [] }

/-- 'stackyardlaw08.NfaBuilds': WHATEVER THE INPUT: true; the input reads as it did. -/
def nfaBuildsSpec : ChangeSpec := { name := "nfaBuilds", fn := fun _ => fun
  | [d1, d2, d3] => { results := [.lit (.bool true)], args := [d1, d2, d3] }
  | _ => none }
def nfaBuildsRow : OpenClaim := { program := "ytapinbmkjkbkkaa", sum := "5f98d0e8d0847db3da3e57097df58438914bfdccf00ef9a7b8d7b93ceac23746", func := "stackyard/stackyardlaw08.NfaBuilds", spec := "nfaBuilds", unfollowed := true, recurses := true, loops := true, apart := false }
def NfaBuildsSaid : Prop := nfaBuildsRow.holds Try.pinned (OpenSpec.ofChange nfaBuildsSpec)

/-- ITS FALSE NEIGHBOUR: 'it returns false'. Refute it at one input. -/
def nfaBuildsWrong : ChangeSpec := { name := "nfaBuilds", fn := fun _ => fun
  | [d1, d2, d3] => { results := [.lit (.bool false)], args := [d1, d2, d3] }
  | _ => none }
def NfaBuildsWrongFalsely : Prop := nfaBuildsRow.holds Try.pinned (OpenSpec.ofChange nfaBuildsWrong)

/-- 'stackyardlaw08.NfaDfas': WHATEVER THE INPUT: true; the input reads as it did. -/
def nfaDfasSpec : ChangeSpec := { name := "nfaDfas", fn := fun _ => fun
  | [d1, d2] => { results := [.lit (.bool true)], args := [d1, d2] }
  | _ => none }
def nfaDfasRow : OpenClaim := { program := "ytapinbmkjkbkkaa", sum := "5f98d0e8d0847db3da3e57097df58438914bfdccf00ef9a7b8d7b93ceac23746", func := "stackyard/stackyardlaw08.NfaDfas", spec := "nfaDfas", unfollowed := true, recurses := true, apart := false }
def NfaDfasSaid : Prop := nfaDfasRow.holds Try.pinned (OpenSpec.ofChange nfaDfasSpec)

/-- ITS FALSE NEIGHBOUR: 'it returns false'. Refute it at one input. -/
def nfaDfasWrong : ChangeSpec := { name := "nfaDfas", fn := fun _ => fun
  | [d1, d2] => { results := [.lit (.bool false)], args := [d1, d2] }
  | _ => none }
def NfaDfasWrongFalsely : Prop := nfaDfasRow.holds Try.pinned (OpenSpec.ofChange nfaDfasWrong)

/-- 'stackyardlaw08.NfaRuns': WHATEVER THE INPUT: true; the input reads as it did. -/
def nfaRunsSpec : ChangeSpec := { name := "nfaRuns", fn := fun _ => fun
  | [d1, d2] => { results := [.lit (.bool true)], args := [d1, d2] }
  | _ => none }
def nfaRunsRow : OpenClaim := { program := "ytapinbmkjkbkkaa", sum := "5f98d0e8d0847db3da3e57097df58438914bfdccf00ef9a7b8d7b93ceac23746", func := "stackyard/stackyardlaw08.NfaRuns", spec := "nfaRuns", unfollowed := true, recurses := true, apart := false }
def NfaRunsSaid : Prop := nfaRunsRow.holds Try.pinned (OpenSpec.ofChange nfaRunsSpec)

/-- ITS FALSE NEIGHBOUR: 'it returns false'. Refute it at one input. -/
def nfaRunsWrong : ChangeSpec := { name := "nfaRuns", fn := fun _ => fun
  | [d1, d2] => { results := [.lit (.bool false)], args := [d1, d2] }
  | _ => none }
def NfaRunsWrongFalsely : Prop := nfaRunsRow.holds Try.pinned (OpenSpec.ofChange nfaRunsWrong)

/-- 'stackyardlaw08.NfaLeast': WHATEVER THE INPUT: true; the input reads as it did. -/
def nfaLeastSpec : ChangeSpec := { name := "nfaLeast", fn := fun _ => fun
  | [d1, d2] => { results := [.lit (.bool true)], args := [d1, d2] }
  | _ => none }
def nfaLeastRow : OpenClaim := { program := "ytapinbmkjkbkkaa", sum := "5f98d0e8d0847db3da3e57097df58438914bfdccf00ef9a7b8d7b93ceac23746", func := "stackyard/stackyardlaw08.NfaLeast", spec := "nfaLeast", unfollowed := true, recurses := true, apart := false }
def NfaLeastSaid : Prop := nfaLeastRow.holds Try.pinned (OpenSpec.ofChange nfaLeastSpec)

/-- ITS FALSE NEIGHBOUR: 'it returns false'. Refute it at one input. -/
def nfaLeastWrong : ChangeSpec := { name := "nfaLeast", fn := fun _ => fun
  | [d1, d2] => { results := [.lit (.bool false)], args := [d1, d2] }
  | _ => none }
def NfaLeastWrongFalsely : Prop := nfaLeastRow.holds Try.pinned (OpenSpec.ofChange nfaLeastWrong)

/-- 'stackyardlaw08.NfaTurns': WHATEVER THE INPUT: true; the input reads as it did. -/
def nfaTurnsSpec : ChangeSpec := { name := "nfaTurns", fn := fun _ => fun
  | [d1, d2] => { results := [.lit (.bool true)], args := [d1, d2] }
  | _ => none }
def nfaTurnsRow : OpenClaim := { program := "ytapinbmkjkbkkaa", sum := "5f98d0e8d0847db3da3e57097df58438914bfdccf00ef9a7b8d7b93ceac23746", func := "stackyard/stackyardlaw08.NfaTurns", spec := "nfaTurns", unfollowed := true, recurses := true, apart := false }
def NfaTurnsSaid : Prop := nfaTurnsRow.holds Try.pinned (OpenSpec.ofChange nfaTurnsSpec)

/-- ITS FALSE NEIGHBOUR: 'it returns false'. Refute it at one input. -/
def nfaTurnsWrong : ChangeSpec := { name := "nfaTurns", fn := fun _ => fun
  | [d1, d2] => { results := [.lit (.bool false)], args := [d1, d2] }
  | _ => none }
def NfaTurnsWrongFalsely : Prop := nfaTurnsRow.holds Try.pinned (OpenSpec.ofChange nfaTurnsWrong)

/-- 'stackyardlaw08.NfaSteps': WHATEVER THE INPUT: true; the input reads as it did. -/
def nfaStepsSpec : ChangeSpec := { name := "nfaSteps", fn := fun _ => fun
  | [d1, d2, d3] => { results := [.lit (.bool true)], args := [d1, d2, d3] }
  | _ => none }
def nfaStepsRow : OpenClaim := { program := "ytapinbmkjkbkkaa", sum := "5f98d0e8d0847db3da3e57097df58438914bfdccf00ef9a7b8d7b93ceac23746", func := "stackyard/stackyardlaw08.NfaSteps", spec := "nfaSteps", unfollowed := true, recurses := true, apart := false }
def NfaStepsSaid : Prop := nfaStepsRow.holds Try.pinned (OpenSpec.ofChange nfaStepsSpec)

/-- ITS FALSE NEIGHBOUR: 'it returns false'. Refute it at one input. -/
def nfaStepsWrong : ChangeSpec := { name := "nfaSteps", fn := fun _ => fun
  | [d1, d2, d3] => { results := [.lit (.bool false)], args := [d1, d2, d3] }
  | _ => none }
def NfaStepsWrongFalsely : Prop := nfaStepsRow.holds Try.pinned (OpenSpec.ofChange nfaStepsWrong)

/-- 'stackyardlaw08.NfaWalks': WHATEVER THE INPUT: true; the input reads as it did. -/
def nfaWalksSpec : ChangeSpec := { name := "nfaWalks", fn := fun _ => fun
  | [d1, d2] => { results := [.lit (.bool true)], args := [d1, d2] }
  | _ => none }
def nfaWalksRow : OpenClaim := { program := "ytapinbmkjkbkkaa", sum := "5f98d0e8d0847db3da3e57097df58438914bfdccf00ef9a7b8d7b93ceac23746", func := "stackyard/stackyardlaw08.NfaWalks", spec := "nfaWalks", unfollowed := true, recurses := true, apart := false }
def NfaWalksSaid : Prop := nfaWalksRow.holds Try.pinned (OpenSpec.ofChange nfaWalksSpec)

/-- ITS FALSE NEIGHBOUR: 'it returns false'. Refute it at one input. -/
def nfaWalksWrong : ChangeSpec := { name := "nfaWalks", fn := fun _ => fun
  | [d1, d2] => { results := [.lit (.bool false)], args := [d1, d2] }
  | _ => none }
def NfaWalksWrongFalsely : Prop := nfaWalksRow.holds Try.pinned (OpenSpec.ofChange nfaWalksWrong)

/- THE SECOND FORM. 'bulk': how many values and letters a reading holds, each counted each time it is reached (what is shared counts as often as it is met; a slice's spare places count too). A statement '..UptoSaid' is the law's where the arguments, and the package variables that the reading takes, are together of bulk at most 1048576: NARROWER than '..Said'. Prove '..Said' where nothing that the law and all that it calls make is longer than what came in: it says more and counts as full. Else prove '..UptoSaid'. A law counts once. -/
mutual
def uptoBulk {H : Type} : DataW H → Nat
  | .lit (.string bytes) => bytes.length + 1
  | .lit _ => 1
  | .nil => 1
  | .ptr d => uptoBulk d + 1
  | .slice elems spare => uptoBulkAll elems + uptoBulkAll spare + 1
  | .agg parts => uptoBulkAll parts + 1
  | .iface _ d => uptoBulk d + 1
  | .map entries => uptoBulkEntries entries + 1
  | .held _ => 1
def uptoBulkAll {H : Type} : List (DataW H) → Nat
  | [] => 0
  | d :: r => uptoBulk d + uptoBulkAll r
def uptoBulkEntries {H : Type} : List (Lit × DataW H) → Nat
  | [] => 0
  | x :: r => uptoBulkEntry x + uptoBulkEntries r
def uptoBulkEntry {H : Type} : Lit × DataW H → Nat
  | (.string bytes, d) => bytes.length + uptoBulk d + 1
  | (_, d) => uptoBulk d + 1
 end
def uptoSmall : (H : Type) → List (DataW H) → Bool := fun _ ds => decide (uptoBulkAll ds ≤ 1048576)
def OpenSpec.upto (s : _root_.Go.ChangeSpec) : _root_.Go.OpenSpec := { _root_.Go.OpenSpec.ofChange s with cond := some uptoSmall }

/-- 'stackyardlaw08.NfaBuilds', WHERE WHAT IT READS IS OF BULK AT MOST 1048576: true; the input reads as it did. -/
def nfaBuildsUptoRow : OpenClaim := { program := "ytapinbmkjkbkkaa", sum := "5f98d0e8d0847db3da3e57097df58438914bfdccf00ef9a7b8d7b93ceac23746", func := "stackyard/stackyardlaw08.NfaBuilds", spec := "nfaBuilds", unfollowed := true, recurses := true, loops := true, apart := false, narrowed := true }
def NfaBuildsUptoSaid : Prop := nfaBuildsUptoRow.holds Try.pinned (OpenSpec.upto nfaBuildsSpec)

/-- 'stackyardlaw08.NfaDfas', WHERE WHAT IT READS IS OF BULK AT MOST 1048576: true; the input reads as it did. -/
def nfaDfasUptoRow : OpenClaim := { program := "ytapinbmkjkbkkaa", sum := "5f98d0e8d0847db3da3e57097df58438914bfdccf00ef9a7b8d7b93ceac23746", func := "stackyard/stackyardlaw08.NfaDfas", spec := "nfaDfas", unfollowed := true, recurses := true, apart := false, narrowed := true }
def NfaDfasUptoSaid : Prop := nfaDfasUptoRow.holds Try.pinned (OpenSpec.upto nfaDfasSpec)

/-- 'stackyardlaw08.NfaRuns', WHERE WHAT IT READS IS OF BULK AT MOST 1048576: true; the input reads as it did. -/
def nfaRunsUptoRow : OpenClaim := { program := "ytapinbmkjkbkkaa", sum := "5f98d0e8d0847db3da3e57097df58438914bfdccf00ef9a7b8d7b93ceac23746", func := "stackyard/stackyardlaw08.NfaRuns", spec := "nfaRuns", unfollowed := true, recurses := true, apart := false, narrowed := true }
def NfaRunsUptoSaid : Prop := nfaRunsUptoRow.holds Try.pinned (OpenSpec.upto nfaRunsSpec)

/-- 'stackyardlaw08.NfaLeast', WHERE WHAT IT READS IS OF BULK AT MOST 1048576: true; the input reads as it did. -/
def nfaLeastUptoRow : OpenClaim := { program := "ytapinbmkjkbkkaa", sum := "5f98d0e8d0847db3da3e57097df58438914bfdccf00ef9a7b8d7b93ceac23746", func := "stackyard/stackyardlaw08.NfaLeast", spec := "nfaLeast", unfollowed := true, recurses := true, apart := false, narrowed := true }
def NfaLeastUptoSaid : Prop := nfaLeastUptoRow.holds Try.pinned (OpenSpec.upto nfaLeastSpec)

/-- 'stackyardlaw08.NfaTurns', WHERE WHAT IT READS IS OF BULK AT MOST 1048576: true; the input reads as it did. -/
def nfaTurnsUptoRow : OpenClaim := { program := "ytapinbmkjkbkkaa", sum := "5f98d0e8d0847db3da3e57097df58438914bfdccf00ef9a7b8d7b93ceac23746", func := "stackyard/stackyardlaw08.NfaTurns", spec := "nfaTurns", unfollowed := true, recurses := true, apart := false, narrowed := true }
def NfaTurnsUptoSaid : Prop := nfaTurnsUptoRow.holds Try.pinned (OpenSpec.upto nfaTurnsSpec)

/-- 'stackyardlaw08.NfaSteps', WHERE WHAT IT READS IS OF BULK AT MOST 1048576: true; the input reads as it did. -/
def nfaStepsUptoRow : OpenClaim := { program := "ytapinbmkjkbkkaa", sum := "5f98d0e8d0847db3da3e57097df58438914bfdccf00ef9a7b8d7b93ceac23746", func := "stackyard/stackyardlaw08.NfaSteps", spec := "nfaSteps", unfollowed := true, recurses := true, apart := false, narrowed := true }
def NfaStepsUptoSaid : Prop := nfaStepsUptoRow.holds Try.pinned (OpenSpec.upto nfaStepsSpec)

/-- 'stackyardlaw08.NfaWalks', WHERE WHAT IT READS IS OF BULK AT MOST 1048576: true; the input reads as it did. -/
def nfaWalksUptoRow : OpenClaim := { program := "ytapinbmkjkbkkaa", sum := "5f98d0e8d0847db3da3e57097df58438914bfdccf00ef9a7b8d7b93ceac23746", func := "stackyard/stackyardlaw08.NfaWalks", spec := "nfaWalks", unfollowed := true, recurses := true, apart := false, narrowed := true }
def NfaWalksUptoSaid : Prop := nfaWalksUptoRow.holds Try.pinned (OpenSpec.upto nfaWalksSpec)

end Rows
end Go.Proofs.Ytapinbmkjkbkkaa
