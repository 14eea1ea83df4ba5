import Derived.Test.YtnogmnmbakglcaaDoorProg
import Derived.Test.YtnogmnmbakglcaaDoorRgWLast
import Derived.Test.YtnogmnmbakglcaaDoorRgWMore
import Derived.Outline
import Derived.Lib.Hide
namespace Go.Proofs.YtnogmnmbakglcaaDoor
open Go.RowKit Go.Proofs.YtnogmnmbakglcaaDoorW.PrintWords Go.Proofs.YtnogmnmbakglcaaDoorW.PrintLast Go.Proofs.YtnogmnmbakglcaaDoorW.PrintMore
set_option maxHeartbeats 1000000 in
theorem cut_calls (g : Int) (A : Option Addr) (n m c : Nat) (w : World) (hnc : n ≤ c) (hm : m = min n 100) (hb : n ≤ 9223372036854775807) :
    Calls Tryd.prog 8 #[.agg #[.int .u64 g, .slice A n c]] w fun e w' => e = .returned (.agg #[.int .u64 g, .slice A m c]) ∧ Below w.heap.size w w' := by
  by_cases h : 100 < n
  · obtain rfl : m = 100 := by omega
    clear hm
    have h1 : decide ((100 : Int) < (n : Int)) = true := by simp; omega
    go_enter Tryd.func8, Tryd.ntmps8
    go_wp2
    refine bodyPost_ret (v := .agg #[.int .u64 g, .slice A 100 c]) (by simp [results, Tryd.results8, go_sem]) rfl ⟨rfl, ?_⟩
    exact below_alloc (below_alloc (Below.refl _ _) _) _
  · obtain rfl : m = n := by omega
    clear hm
    have h1 : decide ((100 : Int) < (m : Int)) = false := by simp; omega
    go_enter Tryd.func8, Tryd.ntmps8
    go_wp2
    refine bodyPost_ret (v := .agg #[.int .u64 g, .slice A m c]) (by simp [results, Tryd.results8, go_sem]) rfl ⟨rfl, ?_⟩
    exact below_alloc (below_alloc (Below.refl _ _) _) _
end Go.Proofs.YtnogmnmbakglcaaDoor
