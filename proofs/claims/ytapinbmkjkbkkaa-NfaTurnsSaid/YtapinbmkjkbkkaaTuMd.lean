import Derived.Test.YtapinbmkjkbkkaaProg
import Derived.WalkKit
import Derived.Tactics
import Derived.Tactics2
import Derived.Defers
import Derived.Recover
import Derived.Laws.Pointers
import Derived.Outline
import Derived.KernelRfl
import Derived.WalkLawsBesides
namespace Go.Proofs.Ytapinbmkjkbkkaa.Mk
open Go.RowKit
theorem caught_idle (p : Addr) (w : World) :
    CallsD Try.prog 34 #[.pointer (some p)] .returning w fun e u' w' => e = .returned (.tuple #[]) ∧ u' = .returning ∧ w' = w := by
  refine callsD_of_wpS Try.func34 rfl fun c₀ cs hu => ?_
  apply wpS_seq
  apply wpS_region
  simp [wpOpsS, go_sem, recoverD, hu, Try.ntmps34, Exit.thenS]
  rw [show (#[Value.pointer (some p)] ++ ((Array.replicate 18 undef).setIfInBounds 4 Value.nilIface).setIfInBounds 1 Value.nilIface : Array Value) = #[.pointer (some p), undef, .nilIface, undef, undef, .nilIface, undef, undef, undef, undef, undef, undef, undef, undef, undef, undef, undef, undef, undef] from by kernel_rfl]
  refine wpS_of_wp ?_
  go_wp2
  cases c₀
  simp_all [bodyPostS, results, Try.results34]
set_option maxRecDepth 100000 in
set_option maxHeartbeats 1000000 in
theorem caught_many (p : Addr) (x : Int) (older : List PanicEntry) (w : World) (hc : w.cell? p = some (.int .i64 x)) (hz : w.frozen? p = false) :
    CallsD Try.prog 34 #[.pointer (some p)] (.panicking ({ v := .iface 32 (.int .i64 3), recovered := false } :: older)) w fun e u' w' =>
      e = .returned (.tuple #[]) ∧ u' = .panicking ({ v := .iface 32 (.int .i64 3), recovered := true } :: older) ∧ w' = w.setCell p (.int .i64 3) := by
  have hta : ∀ w, (Instr.typeAssert (.iface 32 (.int .i64 3)) 20 32 true).run Try.prog w = .ok (.tuple #[.int .i64 3, .bool true]) w := fun _ => by kernel_rfl
  refine callsD_of_wpS Try.func34 rfl fun c₀ cs hu => ?_
  apply wpS_seq
  apply wpS_region
  simp [wpOpsS, go_sem, recoverD, hu, Try.ntmps34, Exit.thenS]
  rw [show (#[Value.pointer (some p)] ++ ((Array.replicate 18 undef).setIfInBounds 4 (.iface 32 (.int .i64 3))).setIfInBounds 1 (.iface 32 (.int .i64 3)) : Array Value) = #[.pointer (some p), undef, .iface 32 (.int .i64 3), undef, undef, .iface 32 (.int .i64 3), undef, undef, undef, undef, undef, undef, undef, undef, undef, undef, undef, undef, undef] from by kernel_rfl]
  refine wpS_of_wp ?_
  go_wp2
  simp [bodyPostS, results, Try.results34]
end Go.Proofs.Ytapinbmkjkbkkaa.Mk
