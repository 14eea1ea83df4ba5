import Derived.Test.YtnogmnmbakglcaaDoorRgRingGood
import Derived.Test.YtnogmnmbakglcaaDoorRgRingBad
namespace Go.Proofs.YtnogmnmbakglcaaDoor.Pr
open Go.RowKit Go.Proofs.YtnogmnmbakglcaaDoorW.PrintWords Go.Proofs.YtnogmnmbakglcaaDoorW.PrintLast Go.Proofs.YtnogmnmbakglcaaDoorW.PrintMore
theorem stackyardlaw03_FactsRing.calls (k : Nat) (a0 : Int) (a1_0 : Int) (P1_1_ : Nat → Prop) (A1_1 : Option Addr) (c1_1 : Nat) (l1_1 : List Int) (a2_0 : Int) (P2_1_ : Nat → Prop) (A2_1 : Option Addr) (c2_1 : Nat) (l2_1 : List Int) (a3_0 : Int) (P3_1_ : Nat → Prop) (A3_1 : Option Addr) (c3_1 : Nat) (l3_1 : List Int) (r : Bool) (w : World) (hs1_1 : Kd.V (Kd.int .u64) 22 w w.heap.size (fun k_ => P1_1_ k_) (.slice A1_1 l1_1.length c1_1) l1_1) (hs2_1 : Kd.V (Kd.int .u64) 22 w w.heap.size (fun k_ => P2_1_ k_) (.slice A2_1 l2_1.length c2_1) l2_1) (hs3_1 : Kd.V (Kd.int .u64) 22 w w.heap.size (fun k_ => P3_1_ k_) (.slice A3_1 l3_1.length c3_1) l3_1) (n1 : Nat) (hn1 : n1 ≤ c1_1) (hl1 : l1_1.length = min n1 100) (hb1 : n1 ≤ 9223372036854775807) (n2 : Nat) (hn2 : n2 ≤ c2_1) (hl2 : l2_1.length = min n2 100) (hb2 : n2 ≤ 9223372036854775807) (n3 : Nat) (hn3 : n3 ≤ c3_1) (hl3 : l3_1.length = min n3 100) (hb3 : n3 ≤ 9223372036854775807) (h : stackyardlaw03_FactsRing.f k a0 a1_0 l1_1 a2_0 l2_1 a3_0 l3_1 = some r) (hdb : DB w) :
    Calls Tryd.prog 5 #[.int .i64 a0, .agg #[.int .u64 a1_0, .slice A1_1 n1 c1_1], .agg #[.int .u64 a2_0, .slice A2_1 n2 c2_1], .agg #[.int .u64 a3_0, .slice A3_1 n3 c3_1]] w fun e w' => e = .returned (.bool r) ∧ Below w.heap.size w w' := by
  cases hx : stackyardlaw03_good.f k a0 (([(⟨a1_0, l1_1⟩ : S25), (⟨a2_0, l2_1⟩ : S25), (⟨a3_0, l3_1⟩ : S25)] : List (S25))) with
  | none => unfold stackyardlaw03_FactsRing.f at h; rw [hx] at h; cases h
  | some t => cases t with
    | true => exact stackyardlaw03_FactsRing.calls_good k a0 a1_0 P1_1_ A1_1 c1_1 l1_1 a2_0 P2_1_ A2_1 c2_1 l2_1 a3_0 P3_1_ A3_1 c3_1 l3_1 r w hs1_1 hs2_1 hs3_1 n1 hn1 hl1 hb1 n2 hn2 hl2 hb2 n3 hn3 hl3 hb3 h hdb hx
    | false => exact stackyardlaw03_FactsRing.calls_bad k a0 a1_0 P1_1_ A1_1 c1_1 l1_1 a2_0 P2_1_ A2_1 c2_1 l2_1 a3_0 P3_1_ A3_1 c3_1 l3_1 r w hs1_1 hs2_1 hs3_1 n1 hn1 hl1 hb1 n2 hn2 hl2 hb2 n3 hn3 hl3 hb3 h hdb hx
end Go.Proofs.YtnogmnmbakglcaaDoor.Pr
