import Derived.Test.YtnogmnmbakglcaaDoorFmPl
namespace Go.Proofs.YtnogmnmbakglcaaDoor.Pr
open Go.RowKit Go.Proofs.YtnogmnmbakglcaaDoorW.PrintWords Go.Proofs.YtnogmnmbakglcaaDoorW.PrintLast Go.Proofs.YtnogmnmbakglcaaDoorW.PrintMore
theorem alive_f {k : Nat} (hk : 1500 ≤ k) : stackyardlaw03_alive.f k = some true :=
  at_rounds (g := fun k => stackyardlaw03_alive.f k) (fun k => stackyardlaw03_alive.mono k) (show 200 ≤ k by omega) (by kernel_rfl)
end Go.Proofs.YtnogmnmbakglcaaDoor.Pr
