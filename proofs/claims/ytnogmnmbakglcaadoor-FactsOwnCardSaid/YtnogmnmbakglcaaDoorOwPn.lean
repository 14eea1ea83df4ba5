import Derived.Test.YtnogmnmbakglcaaDoorOwPm
import Derived.Test.YtnogmnmbakglcaaDoorOwPrx4
import Derived.Outline
namespace Go.Proofs.YtnogmnmbakglcaaDoor.Pr
open Go.RowKit Go.Proofs.YtnogmnmbakglcaaDoorW.PrintWords Go.Proofs.YtnogmnmbakglcaaDoorW.PrintLast Go.Proofs.YtnogmnmbakglcaaDoorW.PrintMore
def caE (n g : Int) (l : List Int) : Int × List Int × Int := if outD n then (0, [], 31) else if okSh n g l = true then (g, cn g l, 0) else (0, [], 30)
theorem Canon_f {n g : Int} {l : List Int} {k : Nat} (hl : l.length ≤ 1000) (hk : 1100 ≤ k) : facts_Canon.f k n g l = some (caE n g l) := by
  unfold facts_Canon.f caE
  rw [shaped_f]
  simp only [Option.bind_some]
  by_cases h : outD n
  · simp [h]
  · by_cases h2 : okSh n g l = true
    · simp only [h, h2, if_false, if_true, canon_f hl hk, Option.bind_some]
    · simp [h, h2]
theorem rCanon_f {n g : Int} {l : List Int} {k : Nat} (hl : l.length ≤ 1000) (hk : 1100 ≤ k) : stackyardref03_Canon.f k n g l = some (caE n g l) := by
  unfold stackyardref03_Canon.f caE
  rw [rdim_f]
  simp only [Option.bind_some]
  by_cases h : outD n
  · simp [h]
  · have h0 : 0 ≤ n ∧ n ≤ 64 := by unfold outD at h; omega
    simp only [h, not_false_eq_true, decide_true, if_true, if_false, rshape_f h0.1 h0.2 (show 400 ≤ k by omega), Option.bind_some]
    by_cases h2 : okSh n g l = true
    · simp only [h2, if_true, rcanon_f hl hk, Option.bind_some]
    · simp [h2]
theorem caE_len {n g : Int} {l : List Int} (h1 : l.length ≤ 1000) : (caE n g l).2.1.length ≤ 1000 := by
  unfold caE
  split
  · simp
  · split
    · simpa [cn_length] using h1
    · simp
end Go.Proofs.YtnogmnmbakglcaaDoor.Pr
