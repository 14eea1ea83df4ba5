import Derived.Test.YtapinbmkjkbkkaaTuP3
import Derived.Test.YtapinbmkjkbkkaaTuLbx0
import Derived.Test.YtapinbmkjkbkkaaTuLbx3
import Derived.Test.YtapinbmkjkbkkaaTuLbx4
import Derived.Test.YtapinbmkjkbkkaaTuLbx5
import Derived.Test.YtapinbmkjkbkkaaTuLbx8
import Derived.Test.YtapinbmkjkbkkaaTuLbx9
import Derived.Test.YtapinbmkjkbkkaaTuLbx6
import Derived.Test.YtapinbmkjkbkkaaTuLbx7
import Derived.Test.YtapinbmkjkbkkaaTuAw
namespace Go.Proofs.Ytapinbmkjkbkkaa.Pu
open Go.RowKit Go.Proofs.YtapinbmkjkbkkaaW.PrintWords Go.Proofs.YtapinbmkjkbkkaaW.PrintLast Go.Proofs.YtapinbmkjkbkkaaW.PrintMore Lb
def bl (b : List Bool) : Nat → Nat → List Int
  | _, 0 => []
  | p, d + 1 => if b.getD p false = true then (p : Int) :: bl b (p + 1) d else bl b (p + 1) d
section
variable {m : Nat}
end
end Go.Proofs.Ytapinbmkjkbkkaa.Pu
