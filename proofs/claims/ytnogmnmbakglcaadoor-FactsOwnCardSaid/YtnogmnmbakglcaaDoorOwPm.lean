import Derived.Test.YtnogmnmbakglcaaDoorOwPl
namespace Go.Proofs.YtnogmnmbakglcaaDoor.Pr
open Go.RowKit Go.Proofs.YtnogmnmbakglcaaDoorW.PrintWords Go.Proofs.YtnogmnmbakglcaaDoorW.PrintLast Go.Proofs.YtnogmnmbakglcaaDoorW.PrintMore
theorem coE_len {n g1 g2 : Int} {l1 l2 : List Int} (h1 : l1.length ≤ 1000) : (coE n g1 l1 g2 l2).2.1.length ≤ 1000 := by
  unfold coE
  split
  · simp only [cn_length, orL, List.length_zipWith]; omega
  · simp
theorem alive_f {k : Nat} (hk : 1500 ≤ k) : stackyardlaw03_alive.f k = some true :=
  at_rounds (g := fun k => stackyardlaw03_alive.f k) (fun k => stackyardlaw03_alive.mono k) (show 200 ≤ k by omega) (by kernel_rfl)
end Go.Proofs.YtnogmnmbakglcaaDoor.Pr
