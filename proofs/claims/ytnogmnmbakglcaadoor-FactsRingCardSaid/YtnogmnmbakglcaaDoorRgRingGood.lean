import Derived.Test.YtnogmnmbakglcaaDoorRgRingHd
import Derived.Test.YtnogmnmbakglcaaDoorRgCt
import Derived.Test.YtnogmnmbakglcaaDoorRgVi
import Derived.Deep.DeepCutAuto
import Derived.Outline
namespace Go.Proofs.YtnogmnmbakglcaaDoor.Pr
open Go.RowKit Go.Proofs.YtnogmnmbakglcaaDoorW.PrintWords Go.Proofs.YtnogmnmbakglcaaDoorW.PrintLast Go.Proofs.YtnogmnmbakglcaaDoorW.PrintMore
set_option linter.unusedVariables false
set_option linter.unusedSimpArgs false
private theorem viB {P : Prop} (h : P := by repeat (first | (with_reducible first | exact HB.out | apply below_alloc | apply pw_below_drewN | apply below_drew1 | refine below_set ?_ GE344.out | refine below_set ?_ GE345.out | refine below_set ?_ GE346.out | refine below_set ?_ GE357.out) | exact HB.out)) : P := h
private theorem viDB {P : Prop} (h : P := by first | exact HDB.out | exact DB_below HDB.out (by repeat (first | exact HB.out | apply below_alloc | apply pw_below_drewN | apply below_drew1 | (refine below_set ?_ (Aside0.out ?_); rotate_left; assumption)))) : P := h
set_option maxHeartbeats 40000000 in
set_option maxRecDepth 100000 in
theorem stackyardlaw03_FactsRing.calls_good (k : Nat) (a0 : Int) (a1_0 : Int) (P1_1_ : Nat → Prop) (A1_1 : Option Addr) (c1_1 : Nat) (l1_1 : List Int) (a2_0 : Int) (P2_1_ : Nat → Prop) (A2_1 : Option Addr) (c2_1 : Nat) (l2_1 : List Int) (a3_0 : Int) (P3_1_ : Nat → Prop) (A3_1 : Option Addr) (c3_1 : Nat) (l3_1 : List Int) (r : Bool) (w : World) (hs1_1 : Kd.V (Kd.int .u64) 22 w w.heap.size (fun k_ => P1_1_ k_) (.slice A1_1 l1_1.length c1_1) l1_1) (hs2_1 : Kd.V (Kd.int .u64) 22 w w.heap.size (fun k_ => P2_1_ k_) (.slice A2_1 l2_1.length c2_1) l2_1) (hs3_1 : Kd.V (Kd.int .u64) 22 w w.heap.size (fun k_ => P3_1_ k_) (.slice A3_1 l3_1.length c3_1) l3_1) (n1 : Nat) (hn1 : n1 ≤ c1_1) (hl1 : l1_1.length = min n1 100) (hb1 : n1 ≤ 9223372036854775807) (n2 : Nat) (hn2 : n2 ≤ c2_1) (hl2 : l2_1.length = min n2 100) (hb2 : n2 ≤ 9223372036854775807) (n3 : Nat) (hn3 : n3 ≤ c3_1) (hl3 : l3_1.length = min n3 100) (hb3 : n3 ≤ 9223372036854775807) (h : stackyardlaw03_FactsRing.f k a0 a1_0 l1_1 a2_0 l2_1 a3_0 l3_1 = some r) (hdb : DB w) (hx : stackyardlaw03_good.f k a0 (([(⟨a1_0, l1_1⟩ : S25), (⟨a2_0, l2_1⟩ : S25), (⟨a3_0, l3_1⟩ : S25)] : List (S25))) = some true) :
    Calls Tryd.prog 5 #[.int .i64 a0, .agg #[.int .u64 a1_0, .slice A1_1 n1 c1_1], .agg #[.int .u64 a2_0, .slice A2_1 n2 c2_1], .agg #[.int .u64 a3_0, .slice A3_1 n3 c3_1]] w fun e w' => e = .returned (.bool r) ∧ Below w.heap.size w w' := by
 have HDB := Aside0.mk hdb
 clear hdb
 have HL1 := Aside0.mk hl1
 clear hl1
 have HL2 := Aside0.mk hl2
 clear hl2
 have HL3 := Aside0.mk hl3
 clear hl3
 have hu25 := Tryd.underlying25
 have HO1_1 := Aside0.mk (show Kd.V (Kd.int .u64) 22 w w.heap.size (fun k_ => ((P1_1_ k_ ∨ P2_1_ k_ ∨ P3_1_ k_) ∨ w.heap.size ≤ k_)) (.slice A1_1 l1_1.length c1_1) l1_1 from Kd.V_mono hs1_1 (fun k_ hk => .inl (.inl hk)))
 have HO2_1 := Aside0.mk (show Kd.V (Kd.int .u64) 22 w w.heap.size (fun k_ => ((P1_1_ k_ ∨ P2_1_ k_ ∨ P3_1_ k_) ∨ w.heap.size ≤ k_)) (.slice A2_1 l2_1.length c2_1) l2_1 from Kd.V_mono hs2_1 (fun k_ hk => .inl (.inr (.inl hk))))
 have HO3_1 := Aside0.mk (show Kd.V (Kd.int .u64) 22 w w.heap.size (fun k_ => ((P1_1_ k_ ∨ P2_1_ k_ ∨ P3_1_ k_) ∨ w.heap.size ≤ k_)) (.slice A3_1 l3_1.length c3_1) l3_1 from Kd.V_mono hs3_1 (fun k_ hk => .inl (.inr (.inr hk))))
 have HB := Aside0.mk (Below.refl w.heap.size w)
 have H : ((stackyardlaw03_good.f k a0 (([(⟨a1_0, l1_1⟩ : S25), (⟨a2_0, l2_1⟩ : S25), (⟨a3_0, l3_1⟩ : S25)] : List (S25)))).bind fun t350 => (if t350 = true then ((facts_One.f k a0).bind fun bt352 => (if bt352.2.2 = 0 then ((stackyardlaw03_combine.f k a0 a1_0 l1_1 a2_0 l2_1).bind fun bt358 => ((stackyardlaw03_combine.f k a0 a2_0 l2_1 a1_0 l1_1).bind fun bt362 => ((stackyardref03_Same.f k bt358.1 bt358.2 bt362.1 bt362.2).bind fun t366 => (if t366 = true then ((stackyardlaw03_combine.f k a0 a1_0 l1_1 a1_0 l1_1).bind fun bt367 => ((stackyardref03_Same.f k bt367.1 bt367.2 a1_0 l1_1).bind fun t371 => (if t371 = true then ((stackyardlaw03_combine.f k a0 a1_0 l1_1 a2_0 l2_1).bind fun bt372 => ((stackyardlaw03_combine.f k a0 bt372.1 bt372.2 a3_0 l3_1).bind fun bt376 => ((stackyardlaw03_combine.f k a0 a2_0 l2_1 a3_0 l3_1).bind fun bt380 => ((stackyardlaw03_combine.f k a0 a1_0 l1_1 bt380.1 bt380.2).bind fun bt384 => ((stackyardref03_Same.f k bt376.1 bt376.2 bt384.1 bt384.2).bind fun t388 => (stackyardlaw03_FactsRing.j0 k a0 (!t388) a1_0 l1_1 a2_0 l2_1 a3_0 l3_1 bt352.1 bt352.2.1)))))) else (none)))) else (none))))) else (none))) else ((stackyardlaw03_alive.f k).bind fun t351 => (some t351)))) = some r := h
 clear h
 obtain ⟨y347, hy347⟩ : ∃ y_ : List (S25), y_ = (([(⟨a1_0, l1_1⟩ : S25), (⟨a2_0, l2_1⟩ : S25), (⟨a3_0, l3_1⟩ : S25)] : List (S25))) := ⟨_, rfl⟩
 replace H : ((stackyardlaw03_good.f k a0 y347).bind fun t350 => (if t350 = true then ((facts_One.f k a0).bind fun bt352 => (if bt352.2.2 = 0 then ((stackyardlaw03_combine.f k a0 a1_0 l1_1 a2_0 l2_1).bind fun bt358 => ((stackyardlaw03_combine.f k a0 a2_0 l2_1 a1_0 l1_1).bind fun bt362 => ((stackyardref03_Same.f k bt358.1 bt358.2 bt362.1 bt362.2).bind fun t366 => (if t366 = true then ((stackyardlaw03_combine.f k a0 a1_0 l1_1 a1_0 l1_1).bind fun bt367 => ((stackyardref03_Same.f k bt367.1 bt367.2 a1_0 l1_1).bind fun t371 => (if t371 = true then ((stackyardlaw03_combine.f k a0 a1_0 l1_1 a2_0 l2_1).bind fun bt372 => ((stackyardlaw03_combine.f k a0 bt372.1 bt372.2 a3_0 l3_1).bind fun bt376 => ((stackyardlaw03_combine.f k a0 a2_0 l2_1 a3_0 l3_1).bind fun bt380 => ((stackyardlaw03_combine.f k a0 a1_0 l1_1 bt380.1 bt380.2).bind fun bt384 => ((stackyardref03_Same.f k bt376.1 bt376.2 bt384.1 bt384.2).bind fun t388 => (stackyardlaw03_FactsRing.j0 k a0 (!t388) a1_0 l1_1 a2_0 l2_1 a3_0 l3_1 bt352.1 bt352.2.1)))))) else (none)))) else (none))))) else (none))) else ((stackyardlaw03_alive.f k).bind fun t351 => (some t351)))) = some r := by first | (rw [hy347]; with_reducible exact H) | (have H2_ := (Option.bind_some _ _).symm.trans H; rw [hy347]; with_reducible exact H2_) | (have H2_ := (Option.bind_some _ _).symm.trans H; with_reducible exact H2_) | with_reducible exact H | (rw [hy347]; exact H) | exact H
 have Ny347 := Aside0.mk hy347
 clear hy347
 replace H := Option.bind_eq_some_iff.mp H
 obtain ⟨t350, A50, H⟩ := H
 try dsimp only at H
 have A5 := Aside0.mk A50
 clear A50
 have c6 : t350 = true := Option.some.inj (A5.out.symm.trans ((congrArg (stackyardlaw03_good.f k a0) Ny347.out).trans hx))
 subst c6
 clear hx
 have H1 : ((facts_One.f k a0).bind fun bt352 => (if bt352.2.2 = 0 then ((stackyardlaw03_combine.f k a0 a1_0 l1_1 a2_0 l2_1).bind fun bt358 => ((stackyardlaw03_combine.f k a0 a2_0 l2_1 a1_0 l1_1).bind fun bt362 => ((stackyardref03_Same.f k bt358.1 bt358.2 bt362.1 bt362.2).bind fun t366 => (if t366 = true then ((stackyardlaw03_combine.f k a0 a1_0 l1_1 a1_0 l1_1).bind fun bt367 => ((stackyardref03_Same.f k bt367.1 bt367.2 a1_0 l1_1).bind fun t371 => (if t371 = true then ((stackyardlaw03_combine.f k a0 a1_0 l1_1 a2_0 l2_1).bind fun bt372 => ((stackyardlaw03_combine.f k a0 bt372.1 bt372.2 a3_0 l3_1).bind fun bt376 => ((stackyardlaw03_combine.f k a0 a2_0 l2_1 a3_0 l3_1).bind fun bt380 => ((stackyardlaw03_combine.f k a0 a1_0 l1_1 bt380.1 bt380.2).bind fun bt384 => ((stackyardref03_Same.f k bt376.1 bt376.2 bt384.1 bt384.2).bind fun t388 => (stackyardlaw03_FactsRing.j0 k a0 (!t388) a1_0 l1_1 a2_0 l2_1 a3_0 l3_1 bt352.1 bt352.2.1)))))) else (none)))) else (none))))) else (none))) = some r := by rw [if_pos rfl] at H; exact H
 clear H
 have H := H1
 clear H1
 replace H := Option.bind_eq_some_iff.mp H
 obtain ⟨⟨t352, t353, t356⟩, A70, H⟩ := H
 try dsimp only at H
 have A7 := Aside0.mk A70
 clear A70
 have HC8 := Aside0.mk H
 clear H
 go_enter Tryd.func5, Tryd.ntmps5
 go_upto_region 1 with (first | ((with_reducible refine gate_dst (N := 5) rfl ?_); refine box_event ?hg (N := 5) ?hd (cs := #[.int .u64 a1_0, .slice A1_1 n1 c1_1]) (t := 25) ?hr ?_; (case hd => rfl); (case hg => rfl); (case hr => first | (go_simp; done) | (go_simp; rfl)); intro gb344 hg w9 hbox hb; have n0_ := Aside0.mk (Kd.V_below (Kd.V_elderB (viV HO1_1.out) gb344 (Nat.le_of_eq hg.symm)) hb); have n1_ := Aside0.mk (Kd.V_below (Kd.V_elderB (viV HO2_1.out) gb344 (Nat.le_of_eq hg.symm)) hb); have n2_ := Aside0.mk (Kd.V_below (Kd.V_elderB (viV HO3_1.out) gb344 (Nat.le_of_eq hg.symm)) hb); have n3_ := Aside0.mk (below_step viB hb); have n4_ := Aside0.mk (hbox); have n5_ := Aside0.mk ((by rw [hg]; exact (below_size viB) : w.heap.size ≤ gb344)); have n6_ := Aside0.mk ((by rw [hg]; exact (below_size viB) : w.heap.size ≤ gb344)); clear HO1_1; clear HO2_1; clear HO3_1; clear HB; have HO1_1 := n0_; have HO2_1 := n1_; have HO3_1 := n2_; have HB := n3_; have BK344 := n4_; have GW344 := n5_; have GE344 := n6_; clear n0_ n1_ n2_ n3_ n4_ n5_ n6_; clear hb hbox hg) | ((with_reducible refine gate_dst (N := 6) rfl ?_); refine box_event ?hg (N := 6) ?hd (cs := #[.int .u64 a2_0, .slice A2_1 n2 c2_1]) (t := 25) ?hr ?_; (case hd => rfl); (case hg => rfl); (case hr => first | (go_simp; done) | (go_simp; rfl)); intro gb345 hg w10 hbox hb; have n0_ := Aside0.mk (Kd.V_below (Kd.V_elderB (viV HO1_1.out) gb345 (Nat.le_of_eq hg.symm)) hb); have n1_ := Aside0.mk (Kd.V_below (Kd.V_elderB (viV HO2_1.out) gb345 (Nat.le_of_eq hg.symm)) hb); have n2_ := Aside0.mk (Kd.V_below (Kd.V_elderB (viV HO3_1.out) gb345 (Nat.le_of_eq hg.symm)) hb); have n3_ := Aside0.mk (blk_below (g := gb344) (o := .cells #[.int .u64 a1_0, .slice A1_1 n1 c1_1] 25 (0, 0)) (viK BK344.out) hb); have n4_ := Aside0.mk (below_step viB hb); have n5_ := Aside0.mk (hbox); have n6_ := Aside0.mk ((by rw [hg]; exact (below_size viB) : w.heap.size ≤ gb345)); have n7_ := Aside0.mk ((by rw [hg]; exact (below_size viB) : w.heap.size ≤ gb345)); have n8_ := Aside0.mk ((by rw [hg]; exact Nat.ne_of_lt (blk_lt (g := gb344) (o := .cells #[.int .u64 a1_0, .slice A1_1 n1 c1_1] 25 (0, 0)) (viK BK344.out)) : gb344 ≠ gb345)); have n9_ := Aside0.mk ((by rw [hg]; exact Nat.ne_of_gt (blk_lt (g := gb344) (o := .cells #[.int .u64 a1_0, .slice A1_1 n1 c1_1] 25 (0, 0)) (viK BK344.out)) : gb345 ≠ gb344)); clear HO1_1; clear HO2_1; clear HO3_1; clear BK344; clear HB; have HO1_1 := n0_; have HO2_1 := n1_; have HO3_1 := n2_; have BK344 := n3_; have HB := n4_; have BK345 := n5_; have GW345 := n6_; have GE345 := n7_; have NB344_345 := n8_; have NB345_344 := n9_; clear n0_ n1_ n2_ n3_ n4_ n5_ n6_ n7_ n8_ n9_; clear hb hbox hg) | ((with_reducible refine gate_dst (N := 7) rfl ?_); refine box_event ?hg (N := 7) ?hd (cs := #[.int .u64 a3_0, .slice A3_1 n3 c3_1]) (t := 25) ?hr ?_; (case hd => rfl); (case hg => rfl); (case hr => first | (go_simp; done) | (go_simp; rfl)); intro gb346 hg w11 hbox hb; have n0_ := Aside0.mk (Kd.V_below (Kd.V_elderB (viV HO1_1.out) gb346 (Nat.le_of_eq hg.symm)) hb); have n1_ := Aside0.mk (Kd.V_below (Kd.V_elderB (viV HO2_1.out) gb346 (Nat.le_of_eq hg.symm)) hb); have n2_ := Aside0.mk (Kd.V_below (Kd.V_elderB (viV HO3_1.out) gb346 (Nat.le_of_eq hg.symm)) hb); have n3_ := Aside0.mk (blk_below (g := gb344) (o := .cells #[.int .u64 a1_0, .slice A1_1 n1 c1_1] 25 (0, 0)) (viK BK344.out) hb); have n4_ := Aside0.mk (blk_below (g := gb345) (o := .cells #[.int .u64 a2_0, .slice A2_1 n2 c2_1] 25 (0, 0)) (viK BK345.out) hb); have n5_ := Aside0.mk (below_step viB hb); have n6_ := Aside0.mk (hbox); have n7_ := Aside0.mk ((by rw [hg]; exact (below_size viB) : w.heap.size ≤ gb346)); have n8_ := Aside0.mk ((by rw [hg]; exact (below_size viB) : w.heap.size ≤ gb346)); have n9_ := Aside0.mk ((by rw [hg]; exact Nat.ne_of_lt (blk_lt (g := gb344) (o := .cells #[.int .u64 a1_0, .slice A1_1 n1 c1_1] 25 (0, 0)) (viK BK344.out)) : gb344 ≠ gb346)); have n10_ := Aside0.mk ((by rw [hg]; exact Nat.ne_of_gt (blk_lt (g := gb344) (o := .cells #[.int .u64 a1_0, .slice A1_1 n1 c1_1] 25 (0, 0)) (viK BK344.out)) : gb346 ≠ gb344)); have n11_ := Aside0.mk ((by rw [hg]; exact Nat.ne_of_lt (blk_lt (g := gb345) (o := .cells #[.int .u64 a2_0, .slice A2_1 n2 c2_1] 25 (0, 0)) (viK BK345.out)) : gb345 ≠ gb346)); have n12_ := Aside0.mk ((by rw [hg]; exact Nat.ne_of_gt (blk_lt (g := gb345) (o := .cells #[.int .u64 a2_0, .slice A2_1 n2 c2_1] 25 (0, 0)) (viK BK345.out)) : gb346 ≠ gb345)); clear HO1_1; clear HO2_1; clear HO3_1; clear BK344; clear BK345; clear HB; have HO1_1 := n0_; have HO2_1 := n1_; have HO3_1 := n2_; have BK344 := n3_; have BK345 := n4_; have HB := n5_; have BK346 := n6_; have GW346 := n7_; have GE346 := n8_; have NB344_346 := n9_; have NB346_344 := n10_; have NB345_346 := n11_; have NB346_345 := n12_; clear n0_ n1_ n2_ n3_ n4_ n5_ n6_ n7_ n8_ n9_ n10_ n11_ n12_; clear hb hbox hg; have hnb12 := NB344_345.out; have hnc12 := NB345_344.out; have hnb13 := NB344_346.out; have hnc13 := NB346_344.out; have hcz14_0 : w11.cell? ⟨gb344, 0, none⟩ = some (.int .u64 a1_0) := (blk_cell BK344.out 0).trans rfl; have hcz14_1 : w11.cell? ⟨gb344, 1, none⟩ = some (.slice A1_1 n1 c1_1) := (blk_cell BK344.out 1).trans rfl; have hfz14_0 := blk_frozen BK344.out 0; have hfz14_1 := blk_frozen BK344.out 1; have hnb15 := NB345_346.out; have hnc15 := NB346_345.out; have hcz16_0 : w11.cell? ⟨gb345, 0, none⟩ = some (.int .u64 a2_0) := (blk_cell BK345.out 0).trans rfl; have hcz16_1 : w11.cell? ⟨gb345, 1, none⟩ = some (.slice A2_1 n2 c2_1) := (blk_cell BK345.out 1).trans rfl; have hfz16_0 := blk_frozen BK345.out 0; have hfz16_1 := blk_frozen BK345.out 1; have hcz17_0 : w11.cell? ⟨gb346, 0, none⟩ = some (.int .u64 a3_0) := (blk_cell BK346.out 0).trans rfl; have hcz17_1 : w11.cell? ⟨gb346, 1, none⟩ = some (.slice A3_1 n3 c3_1) := (blk_cell BK346.out 1).trans rfl; have hfz17_0 := blk_frozen BK346.out 0; have hfz17_1 := blk_frozen BK346.out 1))
 have HCUT1 := fun W => cut_calls a1_0 A1_1 n1 l1_1.length c1_1 W hn1 HL1.out hb1
 have HCUT2 := fun W => cut_calls a2_0 A2_1 n2 l2_1.length c2_1 W hn2 HL2.out hb2
 have HCUT3 := fun W => cut_calls a3_0 A3_1 n3 l3_1.length c3_1 W hn3 HL3.out hb3
 go_cut [] (fun w_ => Aside0 (w_.heap[gb344]? = some (.cells #[.int .u64 a1_0, .slice A1_1 l1_1.length c1_1] 25 (0, 0))) ∧ Aside0 (w_.heap[gb345]? = some (.cells #[.int .u64 a2_0, .slice A2_1 l2_1.length c2_1] 25 (0, 0))) ∧ Aside0 (w_.heap[gb346]? = some (.cells #[.int .u64 a3_0, .slice A3_1 l3_1.length c3_1] 25 (0, 0))) ∧ Aside0 (Below w.heap.size w w_))
 case first =>
  have hqa344_0 := (blk_cell BK344.out 0).trans (rfl : _ = some (Value.int .u64 a1_0))
  have hqa344_1 := (blk_cell BK344.out 1).trans (rfl : _ = some (Value.slice A1_1 n1 c1_1))
  have hqb344_0 := blk_frozen BK344.out 0
  have hqb344_1 := blk_frozen BK344.out 1
  have hqa345_0 := (blk_cell BK345.out 0).trans (rfl : _ = some (Value.int .u64 a2_0))
  have hqa345_1 := (blk_cell BK345.out 1).trans (rfl : _ = some (Value.slice A2_1 n2 c2_1))
  have hqb345_0 := blk_frozen BK345.out 0
  have hqb345_1 := blk_frozen BK345.out 1
  have hqa346_0 := (blk_cell BK346.out 0).trans (rfl : _ = some (Value.int .u64 a3_0))
  have hqa346_1 := (blk_cell BK346.out 1).trans (rfl : _ = some (Value.slice A3_1 n3 c3_1))
  have hqb346_0 := blk_frozen BK346.out 0
  have hqb346_1 := blk_frozen BK346.out 1
  have hqn344_345 := NB344_345.out
  have hqn344_346 := NB344_346.out
  have hqn345_344 := NB345_344.out
  have hqn345_346 := NB345_346.out
  have hqn346_344 := NB346_344.out
  have hqn346_345 := NB346_345.out
  go_region_with (go_at_call 8; (first | (with_reducible refine (HCUT1 _).mono ?_) | (with_reducible refine (HCUT2 _).mono ?_) | (with_reducible refine (HCUT3 _).mono ?_)); rintro e wq ⟨rfl, hbq⟩; (try clear hqcgb344_0 hqcgb344_1 hqfgb344_0 hqfgb344_1); (try clear hqcgb345_0 hqcgb345_1 hqfgb345_0 hqfgb345_1); (try clear hqcgb346_0 hqcgb346_1 hqfgb346_0 hqfgb346_1); have n1_ : Aside0 (wq.heap[gb344]? = some (.cells #[.int .u64 a1_0, .slice A1_1 n1 c1_1] 25 (0, 0))) := ⟨blk_below (viK BK344.out) hbq⟩; have n2_ : Aside0 (wq.heap[gb345]? = some (.cells #[.int .u64 a2_0, .slice A2_1 n2 c2_1] 25 (0, 0))) := ⟨blk_below (viK BK345.out) hbq⟩; have n3_ : Aside0 (wq.heap[gb346]? = some (.cells #[.int .u64 a3_0, .slice A3_1 n3 c3_1] 25 (0, 0))) := ⟨blk_below (viK BK346.out) hbq⟩; have nb_ := Aside0.mk (below_step (by repeat (first | exact HB.out | apply below_alloc | apply pw_below_drewN | apply below_drew1)) hbq); clear HB; have HB := nb_; clear BK344; have BK344 := n1_; have hqcgb344_0 : wq.cell? ⟨gb344, 0, none⟩ = some (.int .u64 a1_0) := (blk_cell BK344.out 0).trans rfl; have hqcgb344_1 : wq.cell? ⟨gb344, 1, none⟩ = some (.slice A1_1 n1 c1_1) := (blk_cell BK344.out 1).trans rfl; have hqfgb344_0 := blk_frozen BK344.out 0; have hqfgb344_1 := blk_frozen BK344.out 1; clear BK345; have BK345 := n2_; have hqcgb345_0 : wq.cell? ⟨gb345, 0, none⟩ = some (.int .u64 a2_0) := (blk_cell BK345.out 0).trans rfl; have hqcgb345_1 : wq.cell? ⟨gb345, 1, none⟩ = some (.slice A2_1 n2 c2_1) := (blk_cell BK345.out 1).trans rfl; have hqfgb345_0 := blk_frozen BK345.out 0; have hqfgb345_1 := blk_frozen BK345.out 1; clear BK346; have BK346 := n3_; have hqcgb346_0 : wq.cell? ⟨gb346, 0, none⟩ = some (.int .u64 a3_0) := (blk_cell BK346.out 0).trans rfl; have hqcgb346_1 : wq.cell? ⟨gb346, 1, none⟩ = some (.slice A3_1 n3 c3_1) := (blk_cell BK346.out 1).trans rfl; have hqfgb346_0 := blk_frozen BK346.out 0; have hqfgb346_1 := blk_frozen BK346.out 1; clear hbq nb_ n1_ n2_ n3_)
  all_goals
   go_wp2
   go_meet
   case rel => exact ⟨⟨by refine viK ?_; refine blk_far ?_ NB344_346.out _; refine viK ?_; refine blk_far ?_ NB344_346.out _; refine viK ?_; refine blk_far ?_ NB344_345.out _; refine viK ?_; refine blk_far ?_ NB344_345.out _; refine viK ?_; refine blk_put (cs := #[.int .u64 a1_0, .slice A1_1 n1 c1_1]) ?_ 1 _ rfl; refine viK ?_; refine blk_put (cs := #[.int .u64 a1_0, .slice A1_1 n1 c1_1]) ?_ 0 _ rfl; refine viK ?_; exact BK344.out⟩, ⟨by refine viK ?_; refine blk_far ?_ NB345_346.out _; refine viK ?_; refine blk_far ?_ NB345_346.out _; refine viK ?_; refine blk_put (cs := #[.int .u64 a2_0, .slice A2_1 n2 c2_1]) ?_ 1 _ rfl; refine viK ?_; refine blk_put (cs := #[.int .u64 a2_0, .slice A2_1 n2 c2_1]) ?_ 0 _ rfl; refine viK ?_; refine blk_far ?_ NB345_344.out _; refine viK ?_; refine blk_far ?_ NB345_344.out _; refine viK ?_; exact BK345.out⟩, ⟨by refine viK ?_; refine blk_put (cs := #[.int .u64 a3_0, .slice A3_1 n3 c3_1]) ?_ 1 _ rfl; refine viK ?_; refine blk_put (cs := #[.int .u64 a3_0, .slice A3_1 n3 c3_1]) ?_ 0 _ rfl; refine viK ?_; refine blk_far ?_ NB346_345.out _; refine viK ?_; refine blk_far ?_ NB346_345.out _; refine viK ?_; refine blk_far ?_ NB346_344.out _; refine viK ?_; refine blk_far ?_ NB346_344.out _; refine viK ?_; exact BK346.out⟩, ⟨viB⟩⟩
 clear HB BK344 BK345 BK346
 obtain ⟨BK344, BK345, BK346, HB⟩ := hcut
 obtain ⟨w11c, hwc_⟩ : ∃ x_, x_ = wc := ⟨_, rfl⟩
 subst hwc_
 clear HO1_1
 have HO1_1 := Aside0.mk (show Kd.V (Kd.int .u64) 22 w11c w.heap.size (fun k_ => (((((P1_1_ k_ ∨ P2_1_ k_ ∨ P3_1_ k_) ∨ w.heap.size ≤ k_) ∧ k_ ≠ gb344) ∧ k_ ≠ gb345) ∧ k_ ≠ gb346)) (.slice A1_1 l1_1.length c1_1) l1_1 from Kd.V_mono (Kd.V_old hs1_1 HB.out) (fun k_ hk => ⟨⟨⟨.inl (.inl hk.1), Nat.ne_of_lt (Nat.lt_of_lt_of_le hk.2 GE344.out)⟩, Nat.ne_of_lt (Nat.lt_of_lt_of_le hk.2 GE345.out)⟩, Nat.ne_of_lt (Nat.lt_of_lt_of_le hk.2 GE346.out)⟩))
 clear HO2_1
 have HO2_1 := Aside0.mk (show Kd.V (Kd.int .u64) 22 w11c w.heap.size (fun k_ => (((((P1_1_ k_ ∨ P2_1_ k_ ∨ P3_1_ k_) ∨ w.heap.size ≤ k_) ∧ k_ ≠ gb344) ∧ k_ ≠ gb345) ∧ k_ ≠ gb346)) (.slice A2_1 l2_1.length c2_1) l2_1 from Kd.V_mono (Kd.V_old hs2_1 HB.out) (fun k_ hk => ⟨⟨⟨.inl (.inr (.inl hk.1)), Nat.ne_of_lt (Nat.lt_of_lt_of_le hk.2 GE344.out)⟩, Nat.ne_of_lt (Nat.lt_of_lt_of_le hk.2 GE345.out)⟩, Nat.ne_of_lt (Nat.lt_of_lt_of_le hk.2 GE346.out)⟩))
 clear HO3_1
 have HO3_1 := Aside0.mk (show Kd.V (Kd.int .u64) 22 w11c w.heap.size (fun k_ => (((((P1_1_ k_ ∨ P2_1_ k_ ∨ P3_1_ k_) ∨ w.heap.size ≤ k_) ∧ k_ ≠ gb344) ∧ k_ ≠ gb345) ∧ k_ ≠ gb346)) (.slice A3_1 l3_1.length c3_1) l3_1 from Kd.V_mono (Kd.V_old hs3_1 HB.out) (fun k_ hk => ⟨⟨⟨.inl (.inr (.inr hk.1)), Nat.ne_of_lt (Nat.lt_of_lt_of_le hk.2 GE344.out)⟩, Nat.ne_of_lt (Nat.lt_of_lt_of_le hk.2 GE345.out)⟩, Nat.ne_of_lt (Nat.lt_of_lt_of_le hk.2 GE346.out)⟩))
 have hqcgb344_0 : w11c.cell? ⟨gb344, 0, none⟩ = some (.int .u64 a1_0) := (blk_cell BK344.out 0).trans rfl
 have hqcgb344_1 : w11c.cell? ⟨gb344, 1, none⟩ = some (.slice A1_1 l1_1.length c1_1) := (blk_cell BK344.out 1).trans rfl
 have hqfgb344_0 := blk_frozen BK344.out 0
 have hqfgb344_1 := blk_frozen BK344.out 1
 have hqcgb345_0 : w11c.cell? ⟨gb345, 0, none⟩ = some (.int .u64 a2_0) := (blk_cell BK345.out 0).trans rfl
 have hqcgb345_1 : w11c.cell? ⟨gb345, 1, none⟩ = some (.slice A2_1 l2_1.length c2_1) := (blk_cell BK345.out 1).trans rfl
 have hqfgb345_0 := blk_frozen BK345.out 0
 have hqfgb345_1 := blk_frozen BK345.out 1
 have hqcgb346_0 : w11c.cell? ⟨gb346, 0, none⟩ = some (.int .u64 a3_0) := (blk_cell BK346.out 0).trans rfl
 have hqcgb346_1 : w11c.cell? ⟨gb346, 1, none⟩ = some (.slice A3_1 l3_1.length c3_1) := (blk_cell BK346.out 1).trans rfl
 have hqfgb346_0 := blk_frozen BK346.out 0
 have hqfgb346_1 := blk_frozen BK346.out 1
 go_upto_region 5 with (first | ((with_reducible refine gate_dst (N := 21) rfl ?_); refine Kd.N_lit k25 _ 25 ?hg (N' := 21) ?hd (xs := ([(⟨a1_0, l1_1⟩ : S25), (⟨a2_0, l2_1⟩ : S25), (⟨a3_0, l3_1⟩ : S25)] : List (S25))) (inner := [.int .u64 a1_0, .slice A1_1 l1_1.length c1_1, .int .u64 a2_0, .slice A2_1 l2_1.length c2_1, .int .u64 a3_0, .slice A3_1 l3_1.length c3_1]) (ok := (fun k_ => ((P1_1_ k_ ∨ P2_1_ k_ ∨ P3_1_ k_) ∨ w.heap.size ≤ k_) ∧ k_ ≠ gb344 ∧ k_ ≠ gb345 ∧ k_ ≠ gb346)) (okp := (fun k_ => ((P1_1_ k_ ∨ P2_1_ k_ ∨ P3_1_ k_) ∨ w.heap.size ≤ k_) ∧ k_ ≠ gb344 ∧ k_ ≠ gb345 ∧ k_ ≠ gb346)) ?hr ?hp (fun _ hk => hk) ((show ∀ k_, w11c.heap.size ≤ k_ → (fun k_ => ((P1_1_ k_ ∨ P2_1_ k_ ∨ P3_1_ k_) ∨ w.heap.size ≤ k_) ∧ k_ ≠ gb344 ∧ k_ ≠ gb345 ∧ k_ ≠ gb346) k_ from fun k_ hk => ⟨(.inr (Nat.le_trans (below_size viB) hk)), Kd.freshB (g := gb344) (o := .cells #[.int .u64 a1_0, .slice A1_1 l1_1.length c1_1] 25 (0, 0)) (viK BK344.out) k_ hk, Kd.freshB (g := gb345) (o := .cells #[.int .u64 a2_0, .slice A2_1 l2_1.length c2_1] 25 (0, 0)) (viK BK345.out) k_ hk, Kd.freshB (g := gb346) (o := .cells #[.int .u64 a3_0, .slice A3_1 l3_1.length c3_1] 25 (0, 0)) (viK BK346.out) k_ hk⟩) _ (Nat.le_refl _)) (Below.refl _ _) (Nat.le_refl _) (by simp) ?_; (case hd => rfl); (case hg => rfl); (case hr => first | (go_simp; done) | (go_simp; rfl)); (case hp => exact (Reps.c2 (show Kd.FK k25 _ _ (⟨a1_0, l1_1⟩ : S25) [.int .u64 a1_0, .slice A1_1 l1_1.length c1_1] from (k25_mkF _ _ (⟨a1_0, l1_1⟩ : S25) (Kd.V_reads' (Kd.V_mono (ok' := (fun k_ => ((P1_1_ k_ ∨ P2_1_ k_ ∨ P3_1_ k_) ∨ w.heap.size ≤ k_) ∧ k_ ≠ gb344 ∧ k_ ≠ gb345 ∧ k_ ≠ gb346)) (HO1_1.out) (fun k_ hk => ⟨hk.1.1.1, ⟨hk.1.1.2, ⟨hk.1.2, hk.2⟩⟩⟩))).2.1 (Kd.V_F (Kd.V_mono (ok' := (fun k_ => ((P1_1_ k_ ∨ P2_1_ k_ ∨ P3_1_ k_) ∨ w.heap.size ≤ k_) ∧ k_ ≠ gb344 ∧ k_ ≠ gb345 ∧ k_ ≠ gb346)) (HO1_1.out) (fun k_ hk => ⟨hk.1.1.1, ⟨hk.1.1.2, ⟨hk.1.2, hk.2⟩⟩⟩))))) (Reps.c2 (show Kd.FK k25 _ _ (⟨a2_0, l2_1⟩ : S25) [.int .u64 a2_0, .slice A2_1 l2_1.length c2_1] from (k25_mkF _ _ (⟨a2_0, l2_1⟩ : S25) (Kd.V_reads' (Kd.V_mono (ok' := (fun k_ => ((P1_1_ k_ ∨ P2_1_ k_ ∨ P3_1_ k_) ∨ w.heap.size ≤ k_) ∧ k_ ≠ gb344 ∧ k_ ≠ gb345 ∧ k_ ≠ gb346)) (HO2_1.out) (fun k_ hk => ⟨hk.1.1.1, ⟨hk.1.1.2, ⟨hk.1.2, hk.2⟩⟩⟩))).2.1 (Kd.V_F (Kd.V_mono (ok' := (fun k_ => ((P1_1_ k_ ∨ P2_1_ k_ ∨ P3_1_ k_) ∨ w.heap.size ≤ k_) ∧ k_ ≠ gb344 ∧ k_ ≠ gb345 ∧ k_ ≠ gb346)) (HO2_1.out) (fun k_ hk => ⟨hk.1.1.1, ⟨hk.1.1.2, ⟨hk.1.2, hk.2⟩⟩⟩))))) (Reps.c2 (show Kd.FK k25 _ _ (⟨a3_0, l3_1⟩ : S25) [.int .u64 a3_0, .slice A3_1 l3_1.length c3_1] from (k25_mkF _ _ (⟨a3_0, l3_1⟩ : S25) (Kd.V_reads' (Kd.V_mono (ok' := (fun k_ => ((P1_1_ k_ ∨ P2_1_ k_ ∨ P3_1_ k_) ∨ w.heap.size ≤ k_) ∧ k_ ≠ gb344 ∧ k_ ≠ gb345 ∧ k_ ≠ gb346)) (HO3_1.out) (fun k_ hk => ⟨hk.1.1.1, ⟨hk.1.1.2, ⟨hk.1.2, hk.2⟩⟩⟩))).2.1 (Kd.V_F (Kd.V_mono (ok' := (fun k_ => ((P1_1_ k_ ∨ P2_1_ k_ ∨ P3_1_ k_) ∨ w.heap.size ≤ k_) ∧ k_ ≠ gb344 ∧ k_ ≠ gb345 ∧ k_ ≠ gb346)) (HO3_1.out) (fun k_ hk => ⟨hk.1.1.1, ⟨hk.1.1.2, ⟨hk.1.2, hk.2⟩⟩⟩))))) (Reps.none _ _))))); intro v348 w18 ho19 hb hg_ hnew_; clear hg_ hnew_; (first | rw [← Ny347.out] at ho19 | (simp only [Int.reduceToNat] at ho19; rw [← Ny347.out] at ho19)); have n0_ := Aside0.mk (Kd.V_elder' (viV HO1_1.out) (Kd.N_base ho19) hb); have n1_ := Aside0.mk (Kd.V_elder' (viV HO2_1.out) (Kd.N_base ho19) hb); have n2_ := Aside0.mk (Kd.V_elder' (viV HO3_1.out) (Kd.N_base ho19) hb); have n3_ := Aside0.mk (Kd.N_lower ho19 (below_size viB)); have n4_ := Aside0.mk (blk_below (g := gb344) (o := .cells #[.int .u64 a1_0, .slice A1_1 l1_1.length c1_1] 25 (0, 0)) (viK BK344.out) hb); have n5_ := Aside0.mk (blk_below (g := gb345) (o := .cells #[.int .u64 a2_0, .slice A2_1 l2_1.length c2_1] 25 (0, 0)) (viK BK345.out) hb); have n6_ := Aside0.mk (blk_below (g := gb346) (o := .cells #[.int .u64 a3_0, .slice A3_1 l3_1.length c3_1] 25 (0, 0)) (viK BK346.out) hb); have n7_ := Aside0.mk (below_step viB hb); clear HO1_1; clear HO2_1; clear HO3_1; clear BK344; clear BK345; clear BK346; clear HB; have HO1_1 := n0_; have HO2_1 := n1_; have HO3_1 := n2_; have HO349 := n3_; have BK344 := n4_; have BK345 := n5_; have BK346 := n6_; have HB := n7_; clear n0_ n1_ n2_ n3_ n4_ n5_ n6_ n7_; clear hb ho19; obtain ⟨Ao20, co20, eo20⟩ := Kd.N_slice HO349.out; subst eo20) | ((with_reducible refine gate_callee (f := 22) rfl ?_); refine goesL_ (some 22) rfl rfl Tryd.func22 (by kernel_rfl) rfl #[.int .i64 a0, .slice Ao20 y347.length co20] rfl (by (try simp only [List.map_toArray, List.map_cons, List.map_nil]); first | done | rfl | (simp only [List.length_drop, List.length_take]; rfl)) ?_; (with_reducible refine (stackyardlaw03_good.calls k a0 _ _ y347 true _ ?side1 ?side2 A5.out).mono ?_); (case side1 => repeat (first | exact (Kd.N_reads' HO349.out).2.2 | (with_reducible refine Kd.C_alloc ?_ _) | (with_reducible refine Kd.C_drewN ?_ _) | (with_reducible refine Kd.C_drew ?_))); (case side2 => exact (Kd.N_reads' HO349.out).2.1); rintro e w21 ⟨rfl, hb⟩; refine ⟨_, rfl, ?_⟩; have n0_ := Aside0.mk (Kd.V_below (viV HO1_1.out) hb); have n1_ := Aside0.mk (Kd.V_below (viV HO2_1.out) hb); have n2_ := Aside0.mk (Kd.V_below (viV HO3_1.out) hb); have n3_ := Aside0.mk (Kd.N_below (viN HO349.out) hb); have n4_ := Aside0.mk (blk_below (g := gb344) (o := .cells #[.int .u64 a1_0, .slice A1_1 l1_1.length c1_1] 25 (0, 0)) (viK BK344.out) hb); have n5_ := Aside0.mk (blk_below (g := gb345) (o := .cells #[.int .u64 a2_0, .slice A2_1 l2_1.length c2_1] 25 (0, 0)) (viK BK345.out) hb); have n6_ := Aside0.mk (blk_below (g := gb346) (o := .cells #[.int .u64 a3_0, .slice A3_1 l3_1.length c3_1] 25 (0, 0)) (viK BK346.out) hb); have n7_ := Aside0.mk (below_step viB hb); clear HO1_1; clear HO2_1; clear HO3_1; clear HO349; clear BK344; clear BK345; clear BK346; clear HB; have HO1_1 := n0_; have HO2_1 := n1_; have HO3_1 := n2_; have HO349 := n3_; have BK344 := n4_; have BK345 := n5_; have BK346 := n6_; have HB := n7_; clear n0_ n1_ n2_ n3_ n4_ n5_ n6_ n7_; (try clear hb); (try clear hb2); (try clear hk); (try clear hi)) | ((with_reducible refine gate_callee (f := 11) rfl ?_); refine goesL_ (some 27) rfl rfl Tryd.func11 (by kernel_rfl) rfl #[.int .i64 a0] rfl (by (try simp only [List.map_toArray, List.map_cons, List.map_nil]); first | done | rfl | (simp only [List.length_drop, List.length_take]; rfl)) ?_; (with_reducible refine (facts_One.calls k a0 t352 t353 t356 _ A7.out).mono ?_); rintro e w22 ⟨v354, rfl, ho0, hb⟩; refine ⟨_, rfl, ?_⟩; have n0_ := Aside0.mk (Kd.V_elder' (viV HO1_1.out) (Kd.R_base ho0) hb); have n1_ := Aside0.mk (Kd.V_elder' (viV HO2_1.out) (Kd.R_base ho0) hb); have n2_ := Aside0.mk (Kd.V_elder' (viV HO3_1.out) (Kd.R_base ho0) hb); have n3_ := Aside0.mk (Kd.N_elder' (viN HO349.out) (Kd.R_base ho0) hb); have n4_ := Aside0.mk (Kd.R_lower (Kd.R_newM (M := fun k_ => (w.heap.size ≤ k_)) ho0 (below_size viB) (fun k_ h_ => h_)) (below_size viB)); have n5_ := Aside0.mk (blk_below (g := gb344) (o := .cells #[.int .u64 a1_0, .slice A1_1 l1_1.length c1_1] 25 (0, 0)) (viK BK344.out) hb); have n6_ := Aside0.mk (blk_below (g := gb345) (o := .cells #[.int .u64 a2_0, .slice A2_1 l2_1.length c2_1] 25 (0, 0)) (viK BK345.out) hb); have n7_ := Aside0.mk (blk_below (g := gb346) (o := .cells #[.int .u64 a3_0, .slice A3_1 l3_1.length c3_1] 25 (0, 0)) (viK BK346.out) hb); have n8_ := Aside0.mk (below_step viB hb); clear HO1_1; clear HO2_1; clear HO3_1; clear HO349; clear BK344; clear BK345; clear BK346; clear HB; have HO1_1 := n0_; have HO2_1 := n1_; have HO3_1 := n2_; have HO349 := n3_; have HO355 := n4_; have BK344 := n5_; have BK345 := n6_; have BK346 := n7_; have HB := n8_; clear n0_ n1_ n2_ n3_ n4_ n5_ n6_ n7_ n8_; (try clear hb); (try clear hb2); (try clear hk); (try clear hi); (try clear ho0)) | ((with_reducible refine gate_dst (N := 9) rfl ?_); refine box_event ?hg (N := 9) ?hd (cs := #[.int .u64 0, .slice none 0 0]) (t := 25) ?hr ?_; (case hd => rfl); (case hg => rfl); (case hr => first | (go_simp; done) | (go_simp; rfl)); intro gb357 hg w23 hbox hb; have n0_ := Aside0.mk (Kd.V_below (Kd.V_elderB (viV HO1_1.out) gb357 (Nat.le_of_eq hg.symm)) hb); have n1_ := Aside0.mk (Kd.V_below (Kd.V_elderB (viV HO2_1.out) gb357 (Nat.le_of_eq hg.symm)) hb); have n2_ := Aside0.mk (Kd.V_below (Kd.V_elderB (viV HO3_1.out) gb357 (Nat.le_of_eq hg.symm)) hb); have n3_ := Aside0.mk (Kd.N_below (Kd.N_elderB (viN HO349.out) gb357 (Nat.le_of_eq hg.symm)) hb); have n4_ := Aside0.mk (Kd.R_below (viR HO355.out) hb); have n5_ := Aside0.mk (blk_below (g := gb344) (o := .cells #[.int .u64 a1_0, .slice A1_1 l1_1.length c1_1] 25 (0, 0)) (viK BK344.out) hb); have n6_ := Aside0.mk (blk_below (g := gb345) (o := .cells #[.int .u64 a2_0, .slice A2_1 l2_1.length c2_1] 25 (0, 0)) (viK BK345.out) hb); have n7_ := Aside0.mk (blk_below (g := gb346) (o := .cells #[.int .u64 a3_0, .slice A3_1 l3_1.length c3_1] 25 (0, 0)) (viK BK346.out) hb); have n8_ := Aside0.mk (below_step viB hb); have n9_ := Aside0.mk (hbox); have n10_ := Aside0.mk ((by rw [hg]; exact (below_size viB) : w.heap.size ≤ gb357)); have n11_ := Aside0.mk ((by rw [hg]; exact (below_size viB) : w.heap.size ≤ gb357)); have n12_ := Aside0.mk ((by rw [hg]; exact Nat.ne_of_lt (blk_lt (g := gb344) (o := .cells #[.int .u64 a1_0, .slice A1_1 l1_1.length c1_1] 25 (0, 0)) (viK BK344.out)) : gb344 ≠ gb357)); have n13_ := Aside0.mk ((by rw [hg]; exact Nat.ne_of_gt (blk_lt (g := gb344) (o := .cells #[.int .u64 a1_0, .slice A1_1 l1_1.length c1_1] 25 (0, 0)) (viK BK344.out)) : gb357 ≠ gb344)); have n14_ := Aside0.mk ((by rw [hg]; exact Nat.ne_of_lt (blk_lt (g := gb345) (o := .cells #[.int .u64 a2_0, .slice A2_1 l2_1.length c2_1] 25 (0, 0)) (viK BK345.out)) : gb345 ≠ gb357)); have n15_ := Aside0.mk ((by rw [hg]; exact Nat.ne_of_gt (blk_lt (g := gb345) (o := .cells #[.int .u64 a2_0, .slice A2_1 l2_1.length c2_1] 25 (0, 0)) (viK BK345.out)) : gb357 ≠ gb345)); have n16_ := Aside0.mk ((by rw [hg]; exact Nat.ne_of_lt (blk_lt (g := gb346) (o := .cells #[.int .u64 a3_0, .slice A3_1 l3_1.length c3_1] 25 (0, 0)) (viK BK346.out)) : gb346 ≠ gb357)); have n17_ := Aside0.mk ((by rw [hg]; exact Nat.ne_of_gt (blk_lt (g := gb346) (o := .cells #[.int .u64 a3_0, .slice A3_1 l3_1.length c3_1] 25 (0, 0)) (viK BK346.out)) : gb357 ≠ gb346)); clear HO1_1; clear HO2_1; clear HO3_1; clear HO349; clear HO355; clear BK344; clear BK345; clear BK346; clear HB; have HO1_1 := n0_; have HO2_1 := n1_; have HO3_1 := n2_; have HO349 := n3_; have HO355 := n4_; have BK344 := n5_; have BK345 := n6_; have BK346 := n7_; have HB := n8_; have BK357 := n9_; have GW357 := n10_; have GE357 := n11_; have NB344_357 := n12_; have NB357_344 := n13_; have NB345_357 := n14_; have NB357_345 := n15_; have NB346_357 := n16_; have NB357_346 := n17_; clear n0_ n1_ n2_ n3_ n4_ n5_ n6_ n7_ n8_ n9_ n10_ n11_ n12_ n13_ n14_ n15_ n16_ n17_; clear hb hbox hg; have hnb24 := NB357_344.out; have hnc24 := NB344_357.out; have hnb25 := NB357_345.out; have hnc25 := NB345_357.out; have hnb26 := NB357_346.out; have hnc26 := NB346_357.out; have hcz27_0 : w23.cell? ⟨gb357, 0, none⟩ = some (.int .u64 0) := (blk_cell BK357.out 0).trans rfl; have hcz27_1 : w23.cell? ⟨gb357, 1, none⟩ = some (.slice none 0 0) := (blk_cell BK357.out 1).trans rfl; have hfz27_0 := blk_frozen BK357.out 0; have hfz27_1 := blk_frozen BK357.out 1; obtain ⟨Ao28, co28, eo28⟩ := Kd.R_slice HO355.out; subst eo28))
 (try simp only [Act.put, List.setIfInBounds_toArray, List.set_cons_zero, List.set_cons_succ])
 go_cut [70] (fun v70 wc => ∃ (kq : Nat) (x70_7 : Bool), v70 = .bool x70_7 ∧ Aside0 (stackyardlaw03_FactsRing.j0 kq a0 x70_7 a1_0 l1_1 a2_0 l2_1 a3_0 l3_1 t352 t353 = some r) ∧ Aside0 (kq ≤ k) ∧ Aside0 (Kd.V (Kd.int .u64) 22 wc w.heap.size (fun k_ => ((P1_1_ k_ ∨ P2_1_ k_ ∨ P3_1_ k_) ∨ w.heap.size ≤ k_) ∧ some k_ ≠ ((.slice Ao28 t353.length co28) : Value).ownBlock ∧ k_ ≠ gb344 ∧ k_ ≠ gb345 ∧ k_ ≠ gb346 ∧ k_ ≠ gb357) (.slice A1_1 l1_1.length c1_1) l1_1) ∧ Aside0 (Kd.V (Kd.int .u64) 22 wc w.heap.size (fun k_ => ((P1_1_ k_ ∨ P2_1_ k_ ∨ P3_1_ k_) ∨ w.heap.size ≤ k_) ∧ some k_ ≠ ((.slice Ao28 t353.length co28) : Value).ownBlock ∧ k_ ≠ gb344 ∧ k_ ≠ gb345 ∧ k_ ≠ gb346 ∧ k_ ≠ gb357) (.slice A2_1 l2_1.length c2_1) l2_1) ∧ Aside0 (Kd.V (Kd.int .u64) 22 wc w.heap.size (fun k_ => ((P1_1_ k_ ∨ P2_1_ k_ ∨ P3_1_ k_) ∨ w.heap.size ≤ k_) ∧ some k_ ≠ ((.slice Ao28 t353.length co28) : Value).ownBlock ∧ k_ ≠ gb344 ∧ k_ ≠ gb345 ∧ k_ ≠ gb346 ∧ k_ ≠ gb357) (.slice A3_1 l3_1.length c3_1) l3_1) ∧ Aside0 (Kd.R (Kd.int .u64) 22 wc w.heap.size (fun k_ => (w.heap.size ≤ k_)) (.slice Ao28 t353.length co28) t353) ∧ Aside0 (wc.heap[gb344]? = some (.cells #[.int .u64 a1_0, (.slice A1_1 l1_1.length c1_1)] 25 (0, 0))) ∧ Aside0 (wc.heap[gb345]? = some (.cells #[.int .u64 a2_0, (.slice A2_1 l2_1.length c2_1)] 25 (0, 0))) ∧ Aside0 (wc.heap[gb346]? = some (.cells #[.int .u64 a3_0, (.slice A3_1 l3_1.length c3_1)] 25 (0, 0))) ∧ Aside0 (wc.heap[gb357]? = some (.cells #[.int .u64 t352, (.slice Ao28 t353.length co28)] 25 (0, 0))) ∧ Aside0 (Below w.heap.size w wc))
 case first =>
  have H := HC8.out
  clear HC8
  by_cases c29 : t356 = 0
  ·rw [if_pos c29] at H
   have c29b0 : (t356 == 0) = true := beq_iff_eq.mpr c29
   have c29b1 : (t356 != 0) = false := bne_eq_false_iff_eq.mpr c29
   clear c29
   (first | rw [c29b0] | (simp only [i64_w, i32_w]; rw [c29b0]) | skip)
   replace H := Option.bind_eq_some_iff.mp H
   obtain ⟨⟨t358, t359⟩, A300, H⟩ := H
   try dsimp only at H
   have A30 := Aside0.mk A300
   clear A300
   replace H := Option.bind_eq_some_iff.mp H
   obtain ⟨⟨t362, t363⟩, A310, H⟩ := H
   try dsimp only at H
   have A31 := Aside0.mk A310
   clear A310
   replace H := Option.bind_eq_some_iff.mp H
   obtain ⟨t366, A320, H⟩ := H
   try dsimp only at H
   have A32 := Aside0.mk A320
   clear A320
   by_cases c33 : t366 = true
   ·subst c33
    have H1 : ((stackyardlaw03_combine.f k a0 a1_0 l1_1 a1_0 l1_1).bind fun bt367 => ((stackyardref03_Same.f k bt367.1 bt367.2 a1_0 l1_1).bind fun t371 => (if t371 = true then ((stackyardlaw03_combine.f k a0 a1_0 l1_1 a2_0 l2_1).bind fun bt372 => ((stackyardlaw03_combine.f k a0 bt372.1 bt372.2 a3_0 l3_1).bind fun bt376 => ((stackyardlaw03_combine.f k a0 a2_0 l2_1 a3_0 l3_1).bind fun bt380 => ((stackyardlaw03_combine.f k a0 a1_0 l1_1 bt380.1 bt380.2).bind fun bt384 => ((stackyardref03_Same.f k bt376.1 bt376.2 bt384.1 bt384.2).bind fun t388 => (stackyardlaw03_FactsRing.j0 k a0 (!t388) a1_0 l1_1 a2_0 l2_1 a3_0 l3_1 t352 t353)))))) else (none)))) = some r := by rw [if_pos rfl] at H; exact H
    clear H
    have H := H1
    clear H1
    replace H := Option.bind_eq_some_iff.mp H
    obtain ⟨⟨t367, t368⟩, A340, H⟩ := H
    try dsimp only at H
    have A34 := Aside0.mk A340
    clear A340
    replace H := Option.bind_eq_some_iff.mp H
    obtain ⟨t371, A350, H⟩ := H
    try dsimp only at H
    have A35 := Aside0.mk A350
    clear A350
    by_cases c36 : t371 = true
    ·subst c36
     have H1 : ((stackyardlaw03_combine.f k a0 a1_0 l1_1 a2_0 l2_1).bind fun bt372 => ((stackyardlaw03_combine.f k a0 bt372.1 bt372.2 a3_0 l3_1).bind fun bt376 => ((stackyardlaw03_combine.f k a0 a2_0 l2_1 a3_0 l3_1).bind fun bt380 => ((stackyardlaw03_combine.f k a0 a1_0 l1_1 bt380.1 bt380.2).bind fun bt384 => ((stackyardref03_Same.f k bt376.1 bt376.2 bt384.1 bt384.2).bind fun t388 => (stackyardlaw03_FactsRing.j0 k a0 (!t388) a1_0 l1_1 a2_0 l2_1 a3_0 l3_1 t352 t353)))))) = some r := by rw [if_pos rfl] at H; exact H
     clear H
     have H := H1
     clear H1
     replace H := Option.bind_eq_some_iff.mp H
     obtain ⟨⟨t372, t373⟩, A370, H⟩ := H
     try dsimp only at H
     have A37 := Aside0.mk A370
     clear A370
     replace H := Option.bind_eq_some_iff.mp H
     obtain ⟨⟨t376, t377⟩, A380, H⟩ := H
     try dsimp only at H
     have A38 := Aside0.mk A380
     clear A380
     replace H := Option.bind_eq_some_iff.mp H
     obtain ⟨⟨t380, t381⟩, A390, H⟩ := H
     try dsimp only at H
     have A39 := Aside0.mk A390
     clear A390
     replace H := Option.bind_eq_some_iff.mp H
     obtain ⟨⟨t384, t385⟩, A400, H⟩ := H
     try dsimp only at H
     have A40 := Aside0.mk A400
     clear A400
     replace H := Option.bind_eq_some_iff.mp H
     obtain ⟨t388, A410, H⟩ := H
     try dsimp only at H
     have A41 := Aside0.mk A410
     clear A410
     have H' := Aside0.mk H
     clear H
     try go_wp2
     have n0_ : Aside0 (Kd.V (Kd.int .u64) 22 ((w23.setCell ⟨gb357, 0, none⟩ (.int .u64 t352)).setCell ⟨gb357, 1, none⟩ (.slice Ao28 t353.length co28)) w.heap.size (fun k_ => ((P1_1_ k_ ∨ P2_1_ k_ ∨ P3_1_ k_) ∨ w.heap.size ≤ k_) ∧ some k_ ≠ (.slice Ao20 y347.length co20 : Value).ownBlock ∧ some k_ ≠ (.slice Ao28 t353.length co28 : Value).ownBlock ∧ k_ ≠ gb344 ∧ k_ ≠ gb345 ∧ k_ ≠ gb346 ∧ k_ ≠ gb357) (.slice A1_1 l1_1.length c1_1) l1_1) := ⟨by refine viV ?_; exact Kd.V_mono (Kd.V_far (p := ⟨gb357, 1, none⟩) (Kd.V_far (p := ⟨gb357, 0, none⟩) (Kd.V_mono HO1_1.out (fun k_ hk => (⟨hk, hk.2⟩ : _ ∧ k_ ≠ gb357))) (fun _ hk => hk.2) (.int .u64 t352)) (fun _ hk => hk.2) (.slice Ao28 t353.length co28)) (fun _ hk => ⟨hk.1.1.1.1.1.1.1, ⟨hk.1.1.1.2, ⟨hk.1.1.2, ⟨hk.1.1.1.1.1.1.2, ⟨hk.1.1.1.1.1.2, ⟨hk.1.1.1.1.2, hk.1.2⟩⟩⟩⟩⟩⟩)⟩
     have n1_ : Aside0 (Kd.V (Kd.int .u64) 22 ((w23.setCell ⟨gb357, 0, none⟩ (.int .u64 t352)).setCell ⟨gb357, 1, none⟩ (.slice Ao28 t353.length co28)) w.heap.size (fun k_ => ((P1_1_ k_ ∨ P2_1_ k_ ∨ P3_1_ k_) ∨ w.heap.size ≤ k_) ∧ some k_ ≠ (.slice Ao20 y347.length co20 : Value).ownBlock ∧ some k_ ≠ (.slice Ao28 t353.length co28 : Value).ownBlock ∧ k_ ≠ gb344 ∧ k_ ≠ gb345 ∧ k_ ≠ gb346 ∧ k_ ≠ gb357) (.slice A2_1 l2_1.length c2_1) l2_1) := ⟨by refine viV ?_; exact Kd.V_mono (Kd.V_far (p := ⟨gb357, 1, none⟩) (Kd.V_far (p := ⟨gb357, 0, none⟩) (Kd.V_mono HO2_1.out (fun k_ hk => (⟨hk, hk.2⟩ : _ ∧ k_ ≠ gb357))) (fun _ hk => hk.2) (.int .u64 t352)) (fun _ hk => hk.2) (.slice Ao28 t353.length co28)) (fun _ hk => ⟨hk.1.1.1.1.1.1.1, ⟨hk.1.1.1.2, ⟨hk.1.1.2, ⟨hk.1.1.1.1.1.1.2, ⟨hk.1.1.1.1.1.2, ⟨hk.1.1.1.1.2, hk.1.2⟩⟩⟩⟩⟩⟩)⟩
     have n2_ : Aside0 (Kd.V (Kd.int .u64) 22 ((w23.setCell ⟨gb357, 0, none⟩ (.int .u64 t352)).setCell ⟨gb357, 1, none⟩ (.slice Ao28 t353.length co28)) w.heap.size (fun k_ => ((P1_1_ k_ ∨ P2_1_ k_ ∨ P3_1_ k_) ∨ w.heap.size ≤ k_) ∧ some k_ ≠ (.slice Ao20 y347.length co20 : Value).ownBlock ∧ some k_ ≠ (.slice Ao28 t353.length co28 : Value).ownBlock ∧ k_ ≠ gb344 ∧ k_ ≠ gb345 ∧ k_ ≠ gb346 ∧ k_ ≠ gb357) (.slice A3_1 l3_1.length c3_1) l3_1) := ⟨by refine viV ?_; exact Kd.V_mono (Kd.V_far (p := ⟨gb357, 1, none⟩) (Kd.V_far (p := ⟨gb357, 0, none⟩) (Kd.V_mono HO3_1.out (fun k_ hk => (⟨hk, hk.2⟩ : _ ∧ k_ ≠ gb357))) (fun _ hk => hk.2) (.int .u64 t352)) (fun _ hk => hk.2) (.slice Ao28 t353.length co28)) (fun _ hk => ⟨hk.1.1.1.1.1.1.1, ⟨hk.1.1.1.2, ⟨hk.1.1.2, ⟨hk.1.1.1.1.1.1.2, ⟨hk.1.1.1.1.1.2, ⟨hk.1.1.1.1.2, hk.1.2⟩⟩⟩⟩⟩⟩)⟩
     have n3_ : Aside0 (Kd.N k25 25 ((w23.setCell ⟨gb357, 0, none⟩ (.int .u64 t352)).setCell ⟨gb357, 1, none⟩ (.slice Ao28 t353.length co28)) w.heap.size (fun k_ => ((P1_1_ k_ ∨ P2_1_ k_ ∨ P3_1_ k_) ∨ w.heap.size ≤ k_) ∧ some k_ ≠ (.slice Ao28 t353.length co28 : Value).ownBlock ∧ k_ ≠ gb344 ∧ k_ ≠ gb345 ∧ k_ ≠ gb346 ∧ k_ ≠ gb357) (.slice Ao20 y347.length co20) y347) := ⟨by refine viN ?_; exact Kd.N_mono (Kd.N_far (p := ⟨gb357, 1, none⟩) (Kd.N_far (p := ⟨gb357, 0, none⟩) (Kd.N_mono HO349.out (fun k_ hk => (⟨hk, hk.2⟩ : _ ∧ k_ ≠ gb357))) (fun _ hk => hk.2) (.int .u64 t352)) (fun _ hk => hk.2) (.slice Ao28 t353.length co28)) (fun _ hk => ⟨hk.1.1.1.1, ⟨hk.1.1.2, ⟨hk.1.1.1.2.1, ⟨hk.1.1.1.2.2.1, ⟨hk.1.1.1.2.2.2, hk.1.2⟩⟩⟩⟩⟩)⟩
     have n4_ : Aside0 (Kd.R (Kd.int .u64) 22 ((w23.setCell ⟨gb357, 0, none⟩ (.int .u64 t352)).setCell ⟨gb357, 1, none⟩ (.slice Ao28 t353.length co28)) w.heap.size (fun k_ => (w.heap.size ≤ k_)) (.slice Ao28 t353.length co28) t353) := ⟨by refine viR ?_; exact Kd.R_mono (Kd.R_far (p := ⟨gb357, 1, none⟩) (Kd.R_far (p := ⟨gb357, 0, none⟩) (Kd.R_types HO355.out BK357.out (by decide)) (fun _ hk => hk.2) (.int .u64 t352)) (fun _ hk => hk.2) (.slice Ao28 t353.length co28)) (fun _ hk => hk.1.1)⟩
     have n5_ : Aside0 (((w23.setCell ⟨gb357, 0, none⟩ (.int .u64 t352)).setCell ⟨gb357, 1, none⟩ (.slice Ao28 t353.length co28)).heap[gb344]? = some (.cells #[.int .u64 a1_0, .slice A1_1 l1_1.length c1_1] 25 (0, 0))) := ⟨by refine viK ?_; refine blk_far ?_ NB344_357.out _; refine viK ?_; refine blk_far ?_ NB344_357.out _; refine viK ?_; exact BK344.out⟩
     have n6_ : Aside0 (((w23.setCell ⟨gb357, 0, none⟩ (.int .u64 t352)).setCell ⟨gb357, 1, none⟩ (.slice Ao28 t353.length co28)).heap[gb345]? = some (.cells #[.int .u64 a2_0, .slice A2_1 l2_1.length c2_1] 25 (0, 0))) := ⟨by refine viK ?_; refine blk_far ?_ NB345_357.out _; refine viK ?_; refine blk_far ?_ NB345_357.out _; refine viK ?_; exact BK345.out⟩
     have n7_ : Aside0 (((w23.setCell ⟨gb357, 0, none⟩ (.int .u64 t352)).setCell ⟨gb357, 1, none⟩ (.slice Ao28 t353.length co28)).heap[gb346]? = some (.cells #[.int .u64 a3_0, .slice A3_1 l3_1.length c3_1] 25 (0, 0))) := ⟨by refine viK ?_; refine blk_far ?_ NB346_357.out _; refine viK ?_; refine blk_far ?_ NB346_357.out _; refine viK ?_; exact BK346.out⟩
     have n8_ : Aside0 (((w23.setCell ⟨gb357, 0, none⟩ (.int .u64 t352)).setCell ⟨gb357, 1, none⟩ (.slice Ao28 t353.length co28)).heap[gb357]? = some (.cells #[.int .u64 t352, .slice Ao28 t353.length co28] 25 (0, 0))) := ⟨by refine viK ?_; refine blk_put (cs := #[.int .u64 t352, .slice none 0 0]) ?_ 1 _ rfl; refine viK ?_; refine blk_put (cs := #[.int .u64 0, .slice none 0 0]) ?_ 0 _ rfl; refine viK ?_; exact BK357.out⟩
     have n9_ : Aside0 (Below w.heap.size w ((w23.setCell ⟨gb357, 0, none⟩ (.int .u64 t352)).setCell ⟨gb357, 1, none⟩ (.slice Ao28 t353.length co28))) := ⟨viB⟩
     (try clear HO1_1)
     (try clear HO2_1)
     (try clear HO3_1)
     (try clear HO349)
     (try clear HO355)
     (try clear BK344)
     (try clear BK345)
     (try clear BK346)
     (try clear BK357)
     (try clear HB)
     generalize ((w23.setCell ⟨gb357, 0, none⟩ (.int .u64 t352)).setCell ⟨gb357, 1, none⟩ (.slice Ao28 t353.length co28)) = w42 at n0_ n1_ n2_ n3_ n4_ n5_ n6_ n7_ n8_ n9_ ⊢
     have HO1_1 := n0_
     have HO2_1 := n1_
     have HO3_1 := n2_
     have HO349 := n3_
     have HO355 := n4_
     have BK344 := n5_
     have BK345 := n6_
     have BK346 := n7_
     have BK357 := n8_
     have HB := n9_
     clear n0_ n1_ n2_ n3_ n4_ n5_ n6_ n7_ n8_ n9_
     have n0_ := Aside0.mk (Kd.V_drew HO1_1.out)
     have n1_ := Aside0.mk (Kd.V_drew HO2_1.out)
     have n2_ := Aside0.mk (Kd.V_drew HO3_1.out)
     have n3_ := Aside0.mk (Kd.N_drew HO349.out)
     have n4_ := Aside0.mk (Kd.R_drew HO355.out)
     have n5_ := Aside0.mk (blk_drew BK344.out)
     have n6_ := Aside0.mk (blk_drew BK345.out)
     have n7_ := Aside0.mk (blk_drew BK346.out)
     have n8_ := Aside0.mk (blk_drew BK357.out)
     have n9_ := Aside0.mk (below_drew1 HB.out)
     clear HO1_1
     clear HO2_1
     clear HO3_1
     clear HO349
     clear HO355
     clear BK344
     clear BK345
     clear BK346
     clear BK357
     clear HB
     have HO1_1 := n0_
     have HO2_1 := n1_
     have HO3_1 := n2_
     have HO349 := n3_
     have HO355 := n4_
     have BK344 := n5_
     have BK345 := n6_
     have BK346 := n7_
     have BK357 := n8_
     have HB := n9_
     clear n0_ n1_ n2_ n3_ n4_ n5_ n6_ n7_ n8_ n9_
     refine start_ (n := 41) (S := fun w' => w'.cell? ⟨gb344, 0, none⟩ = some (.int .u64 a1_0) ∧ w'.cell? ⟨gb344, 1, none⟩ = some (.slice A1_1 l1_1.length c1_1) ∧ w'.cell? ⟨gb345, 0, none⟩ = some (.int .u64 a2_0) ∧ w'.cell? ⟨gb345, 1, none⟩ = some (.slice A2_1 l2_1.length c2_1) ∧ w'.cell? ⟨gb346, 0, none⟩ = some (.int .u64 a3_0) ∧ w'.cell? ⟨gb346, 1, none⟩ = some (.slice A3_1 l3_1.length c3_1)) (ds := []) #[false, false, false, false, false, false, false, false, false, false, false, false, false, false, false, false, false, false, false, false, false, false, false, false, false, false, false, false, false, false, false, false, false, false, false, false, false, false, false, false, false] (by kernel_rfl) rfl rfl ⟨(blk_cell BK344.out 0).trans rfl, (blk_cell BK344.out 1).trans rfl, (blk_cell BK345.out 0).trans rfl, (blk_cell BK345.out 1).trans rfl, (blk_cell BK346.out 0).trans rfl, (blk_cell BK346.out 1).trans rfl⟩ (fun hHeld => ?_); refine with_tabW stackyardlaw03_FactsRing.tab5 stackyardlaw03_FactsRing.bits5 (fun HT_ HW_ => ?_)
     generalize w42.drew = w43 at HO1_1 HO2_1 HO3_1 HO349 HO355 BK344 BK345 BK346 BK357 HB hHeld ⊢
     refine pure_ (i := 0) (N := some 30) (v := ?_) (a' := ?_) #[true, false, false, false, false, false, false, false, false, false, false, false, false, false, false, false, false, false, false, false, false, false, false, false, false, false, false, false, false, false, false, false, false, false, false, false, false, false, false, false, false] rfl rfl (any_of HT_.out (by kernel_rfl)) (fun _ _ _ h => h) (Or.inl ⟨by rfl, ?_⟩) ?_ ?_
     rotate_left
     ·intro w'
      go_simp
      with_reducible rfl
     rotate_left
     ·simp only [Act.put, List.setIfInBounds_toArray, List.set_cons_zero, List.set_cons_succ, i64_w, i32_w]
      rfl
     refine pure_ (i := 1) (N := some 31) (v := ?_) (a' := ?_) #[true, true, false, false, false, false, false, false, false, false, false, false, false, false, false, false, false, false, false, false, false, false, false, false, false, false, false, false, false, false, false, false, false, false, false, false, false, false, false, false, false] rfl rfl (any_of HT_.out (by kernel_rfl)) (fun _ _ _ h => h) (Or.inl ⟨by rfl, ?_⟩) ?_ ?_
     rotate_left
     ·intro w'
      go_simp
      with_reducible rfl
     rotate_left
     ·simp only [Act.put, List.setIfInBounds_toArray, List.set_cons_zero, List.set_cons_succ, i64_w, i32_w]
      rfl
     refine pure_ (i := 2) (N := some 32) (v := ?_) (a' := ?_) #[true, true, true, false, false, false, false, false, false, false, false, false, false, false, false, false, false, false, false, false, false, false, false, false, false, false, false, false, false, false, false, false, false, false, false, false, false, false, false, false, false] rfl rfl (any_of HT_.out (by kernel_rfl)) (fun _ _ _ h => h) (Or.inl ⟨by rfl, ?_⟩) ?_ ?_
     rotate_left
     ·intro w'
      go_simp
      with_reducible rfl
     rotate_left
     ·simp only [Act.put, List.setIfInBounds_toArray, List.set_cons_zero, List.set_cons_succ, i64_w, i32_w]
      rfl
     refine pure_ (i := 3) (N := some 33) (v := ?_) (a' := ?_) #[true, true, true, true, false, false, false, false, false, false, false, false, false, false, false, false, false, false, false, false, false, false, false, false, false, false, false, false, false, false, false, false, false, false, false, false, false, false, false, false, false] rfl rfl (any_of HT_.out (by kernel_rfl)) (fun _ _ _ h => h) (Or.inl ⟨by rfl, ?_⟩) ?_ ?_
     rotate_left
     ·intro w'
      go_simp
      with_reducible rfl
     rotate_left
     ·simp only [Act.put, List.setIfInBounds_toArray, List.set_cons_zero, List.set_cons_succ, i64_w, i32_w]
      rfl
     refine pure_ (i := 7) (N := some 37) (v := ?_) (a' := ?_) #[true, true, true, true, false, false, false, true, false, false, false, false, false, false, false, false, false, false, false, false, false, false, false, false, false, false, false, false, false, false, false, false, false, false, false, false, false, false, false, false, false] rfl rfl (any_of HT_.out (by kernel_rfl)) (fun _ _ _ h => h) (Or.inl ⟨by rfl, ?_⟩) ?_ ?_
     rotate_left
     ·intro w'
      go_simp
      with_reducible rfl
     rotate_left
     ·simp only [Act.put, List.setIfInBounds_toArray, List.set_cons_zero, List.set_cons_succ, i64_w, i32_w]
      rfl
     refine take_ (i := 4) (N := some 34) (v := ?_) (a' := ?_) #[true, true, true, true, true, false, false, true, false, false, false, false, false, false, false, false, false, false, false, false, false, false, false, false, false, false, false, false, false, false, false, false, false, false, false, false, false, false, false, false, false] rfl rfl (take_ofW HT_.out HW_.out (by kernel_rfl)) (fun _ _ _ h => h) (Or.inl ⟨by rfl, ?_⟩) hHeld ?_ ?_
     rotate_left
     ·rintro w' ⟨s0, s1, s2, s3, s4, s5⟩
      go_simp
      with_reducible rfl
     rotate_left
     ·simp only [Act.put, List.setIfInBounds_toArray, List.set_cons_zero, List.set_cons_succ, i64_w, i32_w]
      rfl
     refine take_ (i := 5) (N := some 35) (v := ?_) (a' := ?_) #[true, true, true, true, true, true, false, true, false, false, false, false, false, false, false, false, false, false, false, false, false, false, false, false, false, false, false, false, false, false, false, false, false, false, false, false, false, false, false, false, false] rfl rfl (take_ofW HT_.out HW_.out (by kernel_rfl)) (fun _ _ _ h => h) (Or.inl ⟨by rfl, ?_⟩) hHeld ?_ ?_
     rotate_left
     ·rintro w' ⟨s0, s1, s2, s3, s4, s5⟩
      go_simp
      with_reducible rfl
     rotate_left
     ·simp only [Act.put, List.setIfInBounds_toArray, List.set_cons_zero, List.set_cons_succ, i64_w, i32_w]
      rfl
     refine take_ (i := 8) (N := some 38) (v := ?_) (a' := ?_) #[true, true, true, true, true, true, false, true, true, false, false, false, false, false, false, false, false, false, false, false, false, false, false, false, false, false, false, false, false, false, false, false, false, false, false, false, false, false, false, false, false] rfl rfl (take_ofW HT_.out HW_.out (by kernel_rfl)) (fun _ _ _ h => h) (Or.inl ⟨by rfl, ?_⟩) hHeld ?_ ?_
     rotate_left
     ·rintro w' ⟨s0, s1, s2, s3, s4, s5⟩
      go_simp
      with_reducible rfl
     rotate_left
     ·simp only [Act.put, List.setIfInBounds_toArray, List.set_cons_zero, List.set_cons_succ, i64_w, i32_w]
      rfl
     refine take_ (i := 9) (N := some 39) (v := ?_) (a' := ?_) #[true, true, true, true, true, true, false, true, true, true, false, false, false, false, false, false, false, false, false, false, false, false, false, false, false, false, false, false, false, false, false, false, false, false, false, false, false, false, false, false, false] rfl rfl (take_ofW HT_.out HW_.out (by kernel_rfl)) (fun _ _ _ h => h) (Or.inl ⟨by rfl, ?_⟩) hHeld ?_ ?_
     rotate_left
     ·rintro w' ⟨s0, s1, s2, s3, s4, s5⟩
      go_simp
      with_reducible rfl
     rotate_left
     ·simp only [Act.put, List.setIfInBounds_toArray, List.set_cons_zero, List.set_cons_succ, i64_w, i32_w]
      rfl
     refine one_ (i := 6) (N := some 36) #[true, true, true, true, true, true, true, true, true, true, false, false, false, false, false, false, false, false, false, false, false, false, false, false, false, false, false, false, false, false, false, false, false, false, false, false, false, false, false, false, false] rfl rfl (one_of HT_.out (by kernel_rfl)) (by decide) (fun K hK => ?_)
     refine goes_ Tryd.func23 (by kernel_rfl) rfl #[.int .i64 a0, .agg #[.int .u64 a1_0, .slice A1_1 l1_1.length c1_1], .agg #[.int .u64 a2_0, .slice A2_1 l2_1.length c2_1]] (by rfl) rfl rfl (by (try simp only [List.map_toArray, List.map_cons, List.map_nil]); first | done | rfl | (simp only [List.length_drop, List.length_take]; rfl)) ?_
     with_reducible refine (stackyardlaw03_combine.calls k a0 a1_0 _ _ l1_1 a2_0 _ _ l2_1 t358 t359 _ ?side1 ?side2 ?side3 ?side4 A30.out).mono ?_
     (case side1 => repeat (first | exact (Kd.V_reads' HO1_1.out).2.2 | (with_reducible refine Kd.C_alloc ?_ _) | (with_reducible refine Kd.C_drewN ?_ _) | (with_reducible refine Kd.C_drew ?_)))
     (case side2 => exact (Kd.V_reads' HO1_1.out).2.1)
     (case side3 => repeat (first | exact (Kd.V_reads' HO2_1.out).2.2 | (with_reducible refine Kd.C_alloc ?_ _) | (with_reducible refine Kd.C_drewN ?_ _) | (with_reducible refine Kd.C_drew ?_)))
     (case side4 => exact (Kd.V_reads' HO2_1.out).2.1)
     rintro e w44 ⟨v360, rfl, ho0, hb⟩
     refine ⟨_, rfl, ?_⟩
     have n0_ := Aside0.mk (Kd.V_elder' (viV HO1_1.out) (Kd.R_base ho0) hb)
     have n1_ := Aside0.mk (Kd.V_elder' (viV HO2_1.out) (Kd.R_base ho0) hb)
     have n2_ := Aside0.mk (Kd.V_elder' (viV HO3_1.out) (Kd.R_base ho0) hb)
     have n3_ := Aside0.mk (Kd.N_elder' (viN HO349.out) (Kd.R_base ho0) hb)
     have n4_ := Aside0.mk (Kd.R_elder' (viR HO355.out) (Kd.R_base ho0) hb)
     have n5_ := Aside0.mk (Kd.R_lower (Kd.R_new' (Kd.R_newM (M := fun k_ => (w.heap.size ≤ k_)) ho0 (below_size viB) (fun k_ h_ => h_)) (Kd.R_lt (viR HO355.out))) (below_size viB))
     have n6_ := Aside0.mk (blk_below (g := gb344) (o := .cells #[.int .u64 a1_0, .slice A1_1 l1_1.length c1_1] 25 (0, 0)) (viK BK344.out) hb)
     have n7_ := Aside0.mk (blk_below (g := gb345) (o := .cells #[.int .u64 a2_0, .slice A2_1 l2_1.length c2_1] 25 (0, 0)) (viK BK345.out) hb)
     have n8_ := Aside0.mk (blk_below (g := gb346) (o := .cells #[.int .u64 a3_0, .slice A3_1 l3_1.length c3_1] 25 (0, 0)) (viK BK346.out) hb)
     have n9_ := Aside0.mk (blk_below (g := gb357) (o := .cells #[.int .u64 t352, .slice Ao28 t353.length co28] 25 (0, 0)) (viK BK357.out) hb)
     have n10_ := Aside0.mk (below_step viB hb)
     clear HO1_1
     clear HO2_1
     clear HO3_1
     clear HO349
     clear HO355
     clear BK344
     clear BK345
     clear BK346
     clear BK357
     clear HB
     have HO1_1 := n0_
     have HO2_1 := n1_
     have HO3_1 := n2_
     have HO349 := n3_
     have HO355 := n4_
     have HO361 := n5_
     have BK344 := n6_
     have BK345 := n7_
     have BK346 := n8_
     have BK357 := n9_
     have HB := n10_
     clear n0_ n1_ n2_ n3_ n4_ n5_ n6_ n7_ n8_ n9_ n10_
     (try clear hb)
     (try clear hb2)
     (try clear hk)
     (try clear hi)
     (try clear ho0)
     refine hK.out _ _ ⟨(blk_cell BK344.out 0).trans rfl, (blk_cell BK344.out 1).trans rfl, (blk_cell BK345.out 0).trans rfl, (blk_cell BK345.out 1).trans rfl, (blk_cell BK346.out 0).trans rfl, (blk_cell BK346.out 1).trans rfl⟩ (fun hHeld => ?_)
     clear hK K
     refine norm_ (a' := ?_) ?_ ?_
     rotate_left
     ·show Act.put _ (some 36) _ = _
      simp only [Act.put, List.setIfInBounds_toArray, List.set_cons_zero, List.set_cons_succ, i64_w, i32_w]
      rfl
     refine one_ (i := 10) (N := some 40) #[true, true, true, true, true, true, true, true, true, true, true, false, false, false, false, false, false, false, false, false, false, false, false, false, false, false, false, false, false, false, false, false, false, false, false, false, false, false, false, false, false] rfl rfl (one_of HT_.out (by kernel_rfl)) (by decide) (fun K hK => ?_)
     refine goes_ Tryd.func23 (by kernel_rfl) rfl #[.int .i64 a0, .agg #[.int .u64 a2_0, .slice A2_1 l2_1.length c2_1], .agg #[.int .u64 a1_0, .slice A1_1 l1_1.length c1_1]] (by rfl) rfl rfl (by (try simp only [List.map_toArray, List.map_cons, List.map_nil]); first | done | rfl | (simp only [List.length_drop, List.length_take]; rfl)) ?_
     with_reducible refine (stackyardlaw03_combine.calls k a0 a2_0 _ _ l2_1 a1_0 _ _ l1_1 t362 t363 _ ?side1 ?side2 ?side3 ?side4 A31.out).mono ?_
     (case side1 => repeat (first | exact (Kd.V_reads' HO2_1.out).2.2 | (with_reducible refine Kd.C_alloc ?_ _) | (with_reducible refine Kd.C_drewN ?_ _) | (with_reducible refine Kd.C_drew ?_)))
     (case side2 => exact (Kd.V_reads' HO2_1.out).2.1)
     (case side3 => repeat (first | exact (Kd.V_reads' HO1_1.out).2.2 | (with_reducible refine Kd.C_alloc ?_ _) | (with_reducible refine Kd.C_drewN ?_ _) | (with_reducible refine Kd.C_drew ?_)))
     (case side4 => exact (Kd.V_reads' HO1_1.out).2.1)
     rintro e w45 ⟨v364, rfl, ho0, hb⟩
     refine ⟨_, rfl, ?_⟩
     have n0_ := Aside0.mk (Kd.V_elder' (viV HO1_1.out) (Kd.R_base ho0) hb)
     have n1_ := Aside0.mk (Kd.V_elder' (viV HO2_1.out) (Kd.R_base ho0) hb)
     have n2_ := Aside0.mk (Kd.V_elder' (viV HO3_1.out) (Kd.R_base ho0) hb)
     have n3_ := Aside0.mk (Kd.N_elder' (viN HO349.out) (Kd.R_base ho0) hb)
     have n4_ := Aside0.mk (Kd.R_elder' (viR HO355.out) (Kd.R_base ho0) hb)
     have n5_ := Aside0.mk (Kd.R_elder' (viR HO361.out) (Kd.R_base ho0) hb)
     have n6_ := Aside0.mk (Kd.R_lower (Kd.R_new' (Kd.R_new' (Kd.R_newM (M := fun k_ => (w.heap.size ≤ k_)) ho0 (below_size viB) (fun k_ h_ => h_)) (Kd.R_lt (viR HO355.out))) (Kd.R_lt (viR HO361.out))) (below_size viB))
     have n7_ := Aside0.mk (blk_below (g := gb344) (o := .cells #[.int .u64 a1_0, .slice A1_1 l1_1.length c1_1] 25 (0, 0)) (viK BK344.out) hb)
     have n8_ := Aside0.mk (blk_below (g := gb345) (o := .cells #[.int .u64 a2_0, .slice A2_1 l2_1.length c2_1] 25 (0, 0)) (viK BK345.out) hb)
     have n9_ := Aside0.mk (blk_below (g := gb346) (o := .cells #[.int .u64 a3_0, .slice A3_1 l3_1.length c3_1] 25 (0, 0)) (viK BK346.out) hb)
     have n10_ := Aside0.mk (blk_below (g := gb357) (o := .cells #[.int .u64 t352, .slice Ao28 t353.length co28] 25 (0, 0)) (viK BK357.out) hb)
     have n11_ := Aside0.mk (below_step viB hb)
     clear HO1_1
     clear HO2_1
     clear HO3_1
     clear HO349
     clear HO355
     clear HO361
     clear BK344
     clear BK345
     clear BK346
     clear BK357
     clear HB
     have HO1_1 := n0_
     have HO2_1 := n1_
     have HO3_1 := n2_
     have HO349 := n3_
     have HO355 := n4_
     have HO361 := n5_
     have HO365 := n6_
     have BK344 := n7_
     have BK345 := n8_
     have BK346 := n9_
     have BK357 := n10_
     have HB := n11_
     clear n0_ n1_ n2_ n3_ n4_ n5_ n6_ n7_ n8_ n9_ n10_ n11_
     (try clear hb)
     (try clear hb2)
     (try clear hk)
     (try clear hi)
     (try clear ho0)
     obtain ⟨Ao46, co46, eo46⟩ := Kd.R_slice HO361.out
     (first | subst eo46 | (injection eo46 with f1_ f2_ f3_; have f4_ := f1_.symm; have f5_ := f3_.symm; clear f1_ f2_ f3_; subst f4_; subst f5_))
     obtain ⟨Ao47, co47, eo47⟩ := Kd.R_slice HO365.out
     (first | subst eo47 | (injection eo47 with f1_ f2_ f3_; have f4_ := f1_.symm; have f5_ := f3_.symm; clear f1_ f2_ f3_; subst f4_; subst f5_))
     refine hK.out _ _ ⟨(blk_cell BK344.out 0).trans rfl, (blk_cell BK344.out 1).trans rfl, (blk_cell BK345.out 0).trans rfl, (blk_cell BK345.out 1).trans rfl, (blk_cell BK346.out 0).trans rfl, (blk_cell BK346.out 1).trans rfl⟩ (fun hHeld => ?_)
     clear hK K
     refine norm_ (a' := ?_) ?_ ?_
     rotate_left
     ·show Act.put _ (some 40) _ = _
      simp only [Act.put, List.setIfInBounds_toArray, List.set_cons_zero, List.set_cons_succ, i64_w, i32_w]
      rfl
     refine one_ (i := 11) (N := some 41) #[true, true, true, true, true, true, true, true, true, true, true, true, false, false, false, false, false, false, false, false, false, false, false, false, false, false, false, false, false, false, false, false, false, false, false, false, false, false, false, false, false] rfl rfl (one_of HT_.out (by kernel_rfl)) (by decide) (fun K hK => ?_)
     refine goes_ Tryd.func17 (by kernel_rfl) rfl #[.agg #[.int .u64 t358, .slice Ao46 t359.length co46], .agg #[.int .u64 t362, .slice Ao47 t363.length co47]] (by rfl) rfl rfl (by (try simp only [List.map_toArray, List.map_cons, List.map_nil]); first | done | rfl | (simp only [List.length_drop, List.length_take]; rfl)) ?_
     with_reducible refine (stackyardref03_Same.calls k t358 _ _ t359 t362 _ _ t363 true _ ?side1 ?side2 ?side3 ?side4 A32.out).mono ?_
     (case side1 => repeat (first | exact (Kd.R_reads' HO361.out).2.2 | (with_reducible refine Kd.C_alloc ?_ _) | (with_reducible refine Kd.C_drewN ?_ _) | (with_reducible refine Kd.C_drew ?_)))
     (case side2 => exact (Kd.R_reads' HO361.out).2.1)
     (case side3 => repeat (first | exact (Kd.R_reads' HO365.out).2.2 | (with_reducible refine Kd.C_alloc ?_ _) | (with_reducible refine Kd.C_drewN ?_ _) | (with_reducible refine Kd.C_drew ?_)))
     (case side4 => exact (Kd.R_reads' HO365.out).2.1)
     rintro e w48 ⟨rfl, hb⟩
     refine ⟨_, rfl, ?_⟩
     have n0_ := Aside0.mk (Kd.V_below (viV HO1_1.out) hb)
     have n1_ := Aside0.mk (Kd.V_below (viV HO2_1.out) hb)
     have n2_ := Aside0.mk (Kd.V_below (viV HO3_1.out) hb)
     have n3_ := Aside0.mk (Kd.N_below (viN HO349.out) hb)
     have n4_ := Aside0.mk (Kd.R_below (viR HO355.out) hb)
     have n5_ := Aside0.mk (Kd.R_below (viR HO361.out) hb)
     have n6_ := Aside0.mk (Kd.R_below (viR HO365.out) hb)
     have n7_ := Aside0.mk (blk_below (g := gb344) (o := .cells #[.int .u64 a1_0, .slice A1_1 l1_1.length c1_1] 25 (0, 0)) (viK BK344.out) hb)
     have n8_ := Aside0.mk (blk_below (g := gb345) (o := .cells #[.int .u64 a2_0, .slice A2_1 l2_1.length c2_1] 25 (0, 0)) (viK BK345.out) hb)
     have n9_ := Aside0.mk (blk_below (g := gb346) (o := .cells #[.int .u64 a3_0, .slice A3_1 l3_1.length c3_1] 25 (0, 0)) (viK BK346.out) hb)
     have n10_ := Aside0.mk (blk_below (g := gb357) (o := .cells #[.int .u64 t352, .slice Ao28 t353.length co28] 25 (0, 0)) (viK BK357.out) hb)
     have n11_ := Aside0.mk (below_step viB hb)
     clear HO1_1
     clear HO2_1
     clear HO3_1
     clear HO349
     clear HO355
     clear HO361
     clear HO365
     clear BK344
     clear BK345
     clear BK346
     clear BK357
     clear HB
     have HO1_1 := n0_
     have HO2_1 := n1_
     have HO3_1 := n2_
     have HO349 := n3_
     have HO355 := n4_
     have HO361 := n5_
     have HO365 := n6_
     have BK344 := n7_
     have BK345 := n8_
     have BK346 := n9_
     have BK357 := n10_
     have HB := n11_
     clear n0_ n1_ n2_ n3_ n4_ n5_ n6_ n7_ n8_ n9_ n10_ n11_
     (try clear hb)
     (try clear hb2)
     (try clear hk)
     (try clear hi)
     refine hK.out _ _ ⟨(blk_cell BK344.out 0).trans rfl, (blk_cell BK344.out 1).trans rfl, (blk_cell BK345.out 0).trans rfl, (blk_cell BK345.out 1).trans rfl, (blk_cell BK346.out 0).trans rfl, (blk_cell BK346.out 1).trans rfl⟩ (fun hHeld => ?_)
     clear hK K
     refine norm_ (a' := ?_) ?_ ?_
     rotate_left
     ·show Act.put _ (some 41) _ = _
      simp only [Act.put, List.setIfInBounds_toArray, List.set_cons_zero, List.set_cons_succ, i64_w, i32_w]
      rfl
     refine pure_ (i := 12) (N := some 42) (v := ?_) (a' := ?_) #[true, true, true, true, true, true, true, true, true, true, true, true, true, false, false, false, false, false, false, false, false, false, false, false, false, false, false, false, false, false, false, false, false, false, false, false, false, false, false, false, false] rfl rfl (any_of HT_.out (by kernel_rfl)) (fun _ _ _ h => h) (Or.inl ⟨by rfl, ?_⟩) ?_ ?_
     rotate_left
     ·intro w'
      go_simp
      with_reducible rfl
     rotate_left
     ·simp only [Act.put, List.setIfInBounds_toArray, List.set_cons_zero, List.set_cons_succ, i64_w, i32_w]
      rfl
     refine pure_ (i := 13) (N := some 43) (v := ?_) (a' := ?_) #[true, true, true, true, true, true, true, true, true, true, true, true, true, true, false, false, false, false, false, false, false, false, false, false, false, false, false, false, false, false, false, false, false, false, false, false, false, false, false, false, false] rfl rfl (any_of HT_.out (by kernel_rfl)) (fun _ _ _ h => h) (Or.inl ⟨by rfl, ?_⟩) ?_ ?_
     rotate_left
     ·intro w'
      go_simp
      with_reducible rfl
     rotate_left
     ·simp only [Act.put, List.setIfInBounds_toArray, List.set_cons_zero, List.set_cons_succ, i64_w, i32_w]
      rfl
     refine pure_ (i := 14) (N := some 44) (v := ?_) (a' := ?_) #[true, true, true, true, true, true, true, true, true, true, true, true, true, true, true, false, false, false, false, false, false, false, false, false, false, false, false, false, false, false, false, false, false, false, false, false, false, false, false, false, false] rfl rfl (any_of HT_.out (by kernel_rfl)) (fun _ _ _ h => h) (Or.inl ⟨by rfl, ?_⟩) ?_ ?_
     rotate_left
     ·intro w'
      go_simp
      with_reducible rfl
     rotate_left
     ·simp only [Act.put, List.setIfInBounds_toArray, List.set_cons_zero, List.set_cons_succ, i64_w, i32_w]
      rfl
     refine pure_ (i := 15) (N := some 45) (v := ?_) (a' := ?_) #[true, true, true, true, true, true, true, true, true, true, true, true, true, true, true, true, false, false, false, false, false, false, false, false, false, false, false, false, false, false, false, false, false, false, false, false, false, false, false, false, false] rfl rfl (any_of HT_.out (by kernel_rfl)) (fun _ _ _ h => h) (Or.inl ⟨by rfl, ?_⟩) ?_ ?_
     rotate_left
     ·intro w'
      go_simp
      with_reducible rfl
     rotate_left
     ·simp only [Act.put, List.setIfInBounds_toArray, List.set_cons_zero, List.set_cons_succ, i64_w, i32_w]
      rfl
     refine take_ (i := 16) (N := some 46) (v := ?_) (a' := ?_) #[true, true, true, true, true, true, true, true, true, true, true, true, true, true, true, true, true, false, false, false, false, false, false, false, false, false, false, false, false, false, false, false, false, false, false, false, false, false, false, false, false] rfl rfl (take_ofW HT_.out HW_.out (by kernel_rfl)) (fun _ _ _ h => h) (Or.inl ⟨by rfl, ?_⟩) hHeld ?_ ?_
     rotate_left
     ·rintro w' ⟨s0, s1, s2, s3, s4, s5⟩
      go_simp
      with_reducible rfl
     rotate_left
     ·simp only [Act.put, List.setIfInBounds_toArray, List.set_cons_zero, List.set_cons_succ, i64_w, i32_w]
      rfl
     refine take_ (i := 17) (N := some 47) (v := ?_) (a' := ?_) #[true, true, true, true, true, true, true, true, true, true, true, true, true, true, true, true, true, true, false, false, false, false, false, false, false, false, false, false, false, false, false, false, false, false, false, false, false, false, false, false, false] rfl rfl (take_ofW HT_.out HW_.out (by kernel_rfl)) (fun _ _ _ h => h) (Or.inl ⟨by rfl, ?_⟩) hHeld ?_ ?_
     rotate_left
     ·rintro w' ⟨s0, s1, s2, s3, s4, s5⟩
      go_simp
      with_reducible rfl
     rotate_left
     ·simp only [Act.put, List.setIfInBounds_toArray, List.set_cons_zero, List.set_cons_succ, i64_w, i32_w]
      rfl
     refine take_ (i := 19) (N := some 49) (v := ?_) (a' := ?_) #[true, true, true, true, true, true, true, true, true, true, true, true, true, true, true, true, true, true, false, true, false, false, false, false, false, false, false, false, false, false, false, false, false, false, false, false, false, false, false, false, false] rfl rfl (take_ofW HT_.out HW_.out (by kernel_rfl)) (fun _ _ _ h => h) (Or.inl ⟨by rfl, ?_⟩) hHeld ?_ ?_
     rotate_left
     ·rintro w' ⟨s0, s1, s2, s3, s4, s5⟩
      go_simp
      with_reducible rfl
     rotate_left
     ·simp only [Act.put, List.setIfInBounds_toArray, List.set_cons_zero, List.set_cons_succ, i64_w, i32_w]
      rfl
     refine one_ (i := 18) (N := some 48) #[true, true, true, true, true, true, true, true, true, true, true, true, true, true, true, true, true, true, true, true, false, false, false, false, false, false, false, false, false, false, false, false, false, false, false, false, false, false, false, false, false] rfl rfl (one_of HT_.out (by kernel_rfl)) (by decide) (fun K hK => ?_)
     refine goes_ Tryd.func23 (by kernel_rfl) rfl #[.int .i64 a0, .agg #[.int .u64 a1_0, .slice A1_1 l1_1.length c1_1], .agg #[.int .u64 a1_0, .slice A1_1 l1_1.length c1_1]] (by rfl) rfl rfl (by (try simp only [List.map_toArray, List.map_cons, List.map_nil]); first | done | rfl | (simp only [List.length_drop, List.length_take]; rfl)) ?_
     with_reducible refine (stackyardlaw03_combine.calls k a0 a1_0 _ _ l1_1 a1_0 _ _ l1_1 t367 t368 _ ?side1 ?side2 ?side3 ?side4 A34.out).mono ?_
     (case side1 => repeat (first | exact (Kd.V_reads' HO1_1.out).2.2 | (with_reducible refine Kd.C_alloc ?_ _) | (with_reducible refine Kd.C_drewN ?_ _) | (with_reducible refine Kd.C_drew ?_)))
     (case side2 => exact (Kd.V_reads' HO1_1.out).2.1)
     (case side3 => repeat (first | exact (Kd.V_reads' HO1_1.out).2.2 | (with_reducible refine Kd.C_alloc ?_ _) | (with_reducible refine Kd.C_drewN ?_ _) | (with_reducible refine Kd.C_drew ?_)))
     (case side4 => exact (Kd.V_reads' HO1_1.out).2.1)
     rintro e w49 ⟨v369, rfl, ho0, hb⟩
     refine ⟨_, rfl, ?_⟩
     have n0_ := Aside0.mk (Kd.V_elder' (viV HO1_1.out) (Kd.R_base ho0) hb)
     have n1_ := Aside0.mk (Kd.V_elder' (viV HO2_1.out) (Kd.R_base ho0) hb)
     have n2_ := Aside0.mk (Kd.V_elder' (viV HO3_1.out) (Kd.R_base ho0) hb)
     have n3_ := Aside0.mk (Kd.N_elder' (viN HO349.out) (Kd.R_base ho0) hb)
     have n4_ := Aside0.mk (Kd.R_elder' (viR HO355.out) (Kd.R_base ho0) hb)
     have n5_ := Aside0.mk (Kd.R_elder' (viR HO361.out) (Kd.R_base ho0) hb)
     have n6_ := Aside0.mk (Kd.R_elder' (viR HO365.out) (Kd.R_base ho0) hb)
     have n7_ := Aside0.mk (Kd.R_lower (Kd.R_new' (Kd.R_new' (Kd.R_new' (Kd.R_newM (M := fun k_ => (w.heap.size ≤ k_)) ho0 (below_size viB) (fun k_ h_ => h_)) (Kd.R_lt (viR HO355.out))) (Kd.R_lt (viR HO361.out))) (Kd.R_lt (viR HO365.out))) (below_size viB))
     have n8_ := Aside0.mk (blk_below (g := gb344) (o := .cells #[.int .u64 a1_0, .slice A1_1 l1_1.length c1_1] 25 (0, 0)) (viK BK344.out) hb)
     have n9_ := Aside0.mk (blk_below (g := gb345) (o := .cells #[.int .u64 a2_0, .slice A2_1 l2_1.length c2_1] 25 (0, 0)) (viK BK345.out) hb)
     have n10_ := Aside0.mk (blk_below (g := gb346) (o := .cells #[.int .u64 a3_0, .slice A3_1 l3_1.length c3_1] 25 (0, 0)) (viK BK346.out) hb)
     have n11_ := Aside0.mk (blk_below (g := gb357) (o := .cells #[.int .u64 t352, .slice Ao28 t353.length co28] 25 (0, 0)) (viK BK357.out) hb)
     have n12_ := Aside0.mk (below_step viB hb)
     clear HO1_1
     clear HO2_1
     clear HO3_1
     clear HO349
     clear HO355
     clear HO361
     clear HO365
     clear BK344
     clear BK345
     clear BK346
     clear BK357
     clear HB
     have HO1_1 := n0_
     have HO2_1 := n1_
     have HO3_1 := n2_
     have HO349 := n3_
     have HO355 := n4_
     have HO361 := n5_
     have HO365 := n6_
     have HO370 := n7_
     have BK344 := n8_
     have BK345 := n9_
     have BK346 := n10_
     have BK357 := n11_
     have HB := n12_
     clear n0_ n1_ n2_ n3_ n4_ n5_ n6_ n7_ n8_ n9_ n10_ n11_ n12_
     (try clear hb)
     (try clear hb2)
     (try clear hk)
     (try clear hi)
     (try clear ho0)
     obtain ⟨Ao50, co50, eo50⟩ := Kd.R_slice HO370.out
     (first | subst eo50 | (injection eo50 with f1_ f2_ f3_; have f4_ := f1_.symm; have f5_ := f3_.symm; clear f1_ f2_ f3_; subst f4_; subst f5_))
     refine hK.out _ _ ⟨(blk_cell BK344.out 0).trans rfl, (blk_cell BK344.out 1).trans rfl, (blk_cell BK345.out 0).trans rfl, (blk_cell BK345.out 1).trans rfl, (blk_cell BK346.out 0).trans rfl, (blk_cell BK346.out 1).trans rfl⟩ (fun hHeld => ?_)
     clear hK K
     refine norm_ (a' := ?_) ?_ ?_
     rotate_left
     ·show Act.put _ (some 48) _ = _
      simp only [Act.put, List.setIfInBounds_toArray, List.set_cons_zero, List.set_cons_succ, i64_w, i32_w]
      rfl
     refine one_ (i := 20) (N := some 50) #[true, true, true, true, true, true, true, true, true, true, true, true, true, true, true, true, true, true, true, true, true, false, false, false, false, false, false, false, false, false, false, false, false, false, false, false, false, false, false, false, false] rfl rfl (one_of HT_.out (by kernel_rfl)) (by decide) (fun K hK => ?_)
     refine goes_ Tryd.func17 (by kernel_rfl) rfl #[.agg #[.int .u64 t367, .slice Ao50 t368.length co50], .agg #[.int .u64 a1_0, .slice A1_1 l1_1.length c1_1]] (by rfl) rfl rfl (by (try simp only [List.map_toArray, List.map_cons, List.map_nil]); first | done | rfl | (simp only [List.length_drop, List.length_take]; rfl)) ?_
     with_reducible refine (stackyardref03_Same.calls k t367 _ _ t368 a1_0 _ _ l1_1 true _ ?side1 ?side2 ?side3 ?side4 A35.out).mono ?_
     (case side1 => repeat (first | exact (Kd.R_reads' HO370.out).2.2 | (with_reducible refine Kd.C_alloc ?_ _) | (with_reducible refine Kd.C_drewN ?_ _) | (with_reducible refine Kd.C_drew ?_)))
     (case side2 => exact (Kd.R_reads' HO370.out).2.1)
     (case side3 => repeat (first | exact (Kd.V_reads' HO1_1.out).2.2 | (with_reducible refine Kd.C_alloc ?_ _) | (with_reducible refine Kd.C_drewN ?_ _) | (with_reducible refine Kd.C_drew ?_)))
     (case side4 => exact (Kd.V_reads' HO1_1.out).2.1)
     rintro e w51 ⟨rfl, hb⟩
     refine ⟨_, rfl, ?_⟩
     have n0_ := Aside0.mk (Kd.V_below (viV HO1_1.out) hb)
     have n1_ := Aside0.mk (Kd.V_below (viV HO2_1.out) hb)
     have n2_ := Aside0.mk (Kd.V_below (viV HO3_1.out) hb)
     have n3_ := Aside0.mk (Kd.N_below (viN HO349.out) hb)
     have n4_ := Aside0.mk (Kd.R_below (viR HO355.out) hb)
     have n5_ := Aside0.mk (Kd.R_below (viR HO361.out) hb)
     have n6_ := Aside0.mk (Kd.R_below (viR HO365.out) hb)
     have n7_ := Aside0.mk (Kd.R_below (viR HO370.out) hb)
     have n8_ := Aside0.mk (blk_below (g := gb344) (o := .cells #[.int .u64 a1_0, .slice A1_1 l1_1.length c1_1] 25 (0, 0)) (viK BK344.out) hb)
     have n9_ := Aside0.mk (blk_below (g := gb345) (o := .cells #[.int .u64 a2_0, .slice A2_1 l2_1.length c2_1] 25 (0, 0)) (viK BK345.out) hb)
     have n10_ := Aside0.mk (blk_below (g := gb346) (o := .cells #[.int .u64 a3_0, .slice A3_1 l3_1.length c3_1] 25 (0, 0)) (viK BK346.out) hb)
     have n11_ := Aside0.mk (blk_below (g := gb357) (o := .cells #[.int .u64 t352, .slice Ao28 t353.length co28] 25 (0, 0)) (viK BK357.out) hb)
     have n12_ := Aside0.mk (below_step viB hb)
     clear HO1_1
     clear HO2_1
     clear HO3_1
     clear HO349
     clear HO355
     clear HO361
     clear HO365
     clear HO370
     clear BK344
     clear BK345
     clear BK346
     clear BK357
     clear HB
     have HO1_1 := n0_
     have HO2_1 := n1_
     have HO3_1 := n2_
     have HO349 := n3_
     have HO355 := n4_
     have HO361 := n5_
     have HO365 := n6_
     have HO370 := n7_
     have BK344 := n8_
     have BK345 := n9_
     have BK346 := n10_
     have BK357 := n11_
     have HB := n12_
     clear n0_ n1_ n2_ n3_ n4_ n5_ n6_ n7_ n8_ n9_ n10_ n11_ n12_
     (try clear hb)
     (try clear hb2)
     (try clear hk)
     (try clear hi)
     refine hK.out _ _ ⟨(blk_cell BK344.out 0).trans rfl, (blk_cell BK344.out 1).trans rfl, (blk_cell BK345.out 0).trans rfl, (blk_cell BK345.out 1).trans rfl, (blk_cell BK346.out 0).trans rfl, (blk_cell BK346.out 1).trans rfl⟩ (fun hHeld => ?_)
     clear hK K
     refine norm_ (a' := ?_) ?_ ?_
     rotate_left
     ·show Act.put _ (some 50) _ = _
      simp only [Act.put, List.setIfInBounds_toArray, List.set_cons_zero, List.set_cons_succ, i64_w, i32_w]
      rfl
     refine pure_ (i := 21) (N := some 51) (v := ?_) (a' := ?_) #[true, true, true, true, true, true, true, true, true, true, true, true, true, true, true, true, true, true, true, true, true, true, false, false, false, false, false, false, false, false, false, false, false, false, false, false, false, false, false, false, false] rfl rfl (any_of HT_.out (by kernel_rfl)) (fun _ _ _ h => h) (Or.inl ⟨by rfl, ?_⟩) ?_ ?_
     rotate_left
     ·intro w'
      go_simp
      with_reducible rfl
     rotate_left
     ·simp only [Act.put, List.setIfInBounds_toArray, List.set_cons_zero, List.set_cons_succ, i64_w, i32_w]
      rfl
     refine pure_ (i := 22) (N := some 52) (v := ?_) (a' := ?_) #[true, true, true, true, true, true, true, true, true, true, true, true, true, true, true, true, true, true, true, true, true, true, true, false, false, false, false, false, false, false, false, false, false, false, false, false, false, false, false, false, false] rfl rfl (any_of HT_.out (by kernel_rfl)) (fun _ _ _ h => h) (Or.inl ⟨by rfl, ?_⟩) ?_ ?_
     rotate_left
     ·intro w'
      go_simp
      with_reducible rfl
     rotate_left
     ·simp only [Act.put, List.setIfInBounds_toArray, List.set_cons_zero, List.set_cons_succ, i64_w, i32_w]
      rfl
     refine pure_ (i := 23) (N := some 53) (v := ?_) (a' := ?_) #[true, true, true, true, true, true, true, true, true, true, true, true, true, true, true, true, true, true, true, true, true, true, true, true, false, false, false, false, false, false, false, false, false, false, false, false, false, false, false, false, false] rfl rfl (any_of HT_.out (by kernel_rfl)) (fun _ _ _ h => h) (Or.inl ⟨by rfl, ?_⟩) ?_ ?_
     rotate_left
     ·intro w'
      go_simp
      with_reducible rfl
     rotate_left
     ·simp only [Act.put, List.setIfInBounds_toArray, List.set_cons_zero, List.set_cons_succ, i64_w, i32_w]
      rfl
     refine pure_ (i := 24) (N := some 54) (v := ?_) (a' := ?_) #[true, true, true, true, true, true, true, true, true, true, true, true, true, true, true, true, true, true, true, true, true, true, true, true, true, false, false, false, false, false, false, false, false, false, false, false, false, false, false, false, false] rfl rfl (any_of HT_.out (by kernel_rfl)) (fun _ _ _ h => h) (Or.inl ⟨by rfl, ?_⟩) ?_ ?_
     rotate_left
     ·intro w'
      go_simp
      with_reducible rfl
     rotate_left
     ·simp only [Act.put, List.setIfInBounds_toArray, List.set_cons_zero, List.set_cons_succ, i64_w, i32_w]
      rfl
     refine pure_ (i := 25) (N := some 55) (v := ?_) (a' := ?_) #[true, true, true, true, true, true, true, true, true, true, true, true, true, true, true, true, true, true, true, true, true, true, true, true, true, true, false, false, false, false, false, false, false, false, false, false, false, false, false, false, false] rfl rfl (any_of HT_.out (by kernel_rfl)) (fun _ _ _ h => h) (Or.inl ⟨by rfl, ?_⟩) ?_ ?_
     rotate_left
     ·intro w'
      go_simp
      with_reducible rfl
     rotate_left
     ·simp only [Act.put, List.setIfInBounds_toArray, List.set_cons_zero, List.set_cons_succ, i64_w, i32_w]
      rfl
     refine pure_ (i := 31) (N := some 61) (v := ?_) (a' := ?_) #[true, true, true, true, true, true, true, true, true, true, true, true, true, true, true, true, true, true, true, true, true, true, true, true, true, true, false, false, false, false, false, true, false, false, false, false, false, false, false, false, false] rfl rfl (any_of HT_.out (by kernel_rfl)) (fun _ _ _ h => h) (Or.inl ⟨by rfl, ?_⟩) ?_ ?_
     rotate_left
     ·intro w'
      go_simp
      with_reducible rfl
     rotate_left
     ·simp only [Act.put, List.setIfInBounds_toArray, List.set_cons_zero, List.set_cons_succ, i64_w, i32_w]
      rfl
     refine pure_ (i := 33) (N := some 63) (v := ?_) (a' := ?_) #[true, true, true, true, true, true, true, true, true, true, true, true, true, true, true, true, true, true, true, true, true, true, true, true, true, true, false, false, false, false, false, true, false, true, false, false, false, false, false, false, false] rfl rfl (any_of HT_.out (by kernel_rfl)) (fun _ _ _ h => h) (Or.inl ⟨by rfl, ?_⟩) ?_ ?_
     rotate_left
     ·intro w'
      go_simp
      with_reducible rfl
     rotate_left
     ·simp only [Act.put, List.setIfInBounds_toArray, List.set_cons_zero, List.set_cons_succ, i64_w, i32_w]
      rfl
     refine take_ (i := 26) (N := some 56) (v := ?_) (a' := ?_) #[true, true, true, true, true, true, true, true, true, true, true, true, true, true, true, true, true, true, true, true, true, true, true, true, true, true, true, false, false, false, false, true, false, true, false, false, false, false, false, false, false] rfl rfl (take_ofW HT_.out HW_.out (by kernel_rfl)) (fun _ _ _ h => h) (Or.inl ⟨by rfl, ?_⟩) hHeld ?_ ?_
     rotate_left
     ·rintro w' ⟨s0, s1, s2, s3, s4, s5⟩
      go_simp
      with_reducible rfl
     rotate_left
     ·simp only [Act.put, List.setIfInBounds_toArray, List.set_cons_zero, List.set_cons_succ, i64_w, i32_w]
      rfl
     refine take_ (i := 27) (N := some 57) (v := ?_) (a' := ?_) #[true, true, true, true, true, true, true, true, true, true, true, true, true, true, true, true, true, true, true, true, true, true, true, true, true, true, true, true, false, false, false, true, false, true, false, false, false, false, false, false, false] rfl rfl (take_ofW HT_.out HW_.out (by kernel_rfl)) (fun _ _ _ h => h) (Or.inl ⟨by rfl, ?_⟩) hHeld ?_ ?_
     rotate_left
     ·rintro w' ⟨s0, s1, s2, s3, s4, s5⟩
      go_simp
      with_reducible rfl
     rotate_left
     ·simp only [Act.put, List.setIfInBounds_toArray, List.set_cons_zero, List.set_cons_succ, i64_w, i32_w]
      rfl
     refine take_ (i := 29) (N := some 59) (v := ?_) (a' := ?_) #[true, true, true, true, true, true, true, true, true, true, true, true, true, true, true, true, true, true, true, true, true, true, true, true, true, true, true, true, false, true, false, true, false, true, false, false, false, false, false, false, false] rfl rfl (take_ofW HT_.out HW_.out (by kernel_rfl)) (fun _ _ _ h => h) (Or.inl ⟨by rfl, ?_⟩) hHeld ?_ ?_
     rotate_left
     ·rintro w' ⟨s0, s1, s2, s3, s4, s5⟩
      go_simp
      with_reducible rfl
     rotate_left
     ·simp only [Act.put, List.setIfInBounds_toArray, List.set_cons_zero, List.set_cons_succ, i64_w, i32_w]
      rfl
     refine take_ (i := 32) (N := some 62) (v := ?_) (a' := ?_) #[true, true, true, true, true, true, true, true, true, true, true, true, true, true, true, true, true, true, true, true, true, true, true, true, true, true, true, true, false, true, false, true, true, true, false, false, false, false, false, false, false] rfl rfl (take_ofW HT_.out HW_.out (by kernel_rfl)) (fun _ _ _ h => h) (Or.inl ⟨by rfl, ?_⟩) hHeld ?_ ?_
     rotate_left
     ·rintro w' ⟨s0, s1, s2, s3, s4, s5⟩
      go_simp
      with_reducible rfl
     rotate_left
     ·simp only [Act.put, List.setIfInBounds_toArray, List.set_cons_zero, List.set_cons_succ, i64_w, i32_w]
      rfl
     refine take_ (i := 34) (N := some 64) (v := ?_) (a' := ?_) #[true, true, true, true, true, true, true, true, true, true, true, true, true, true, true, true, true, true, true, true, true, true, true, true, true, true, true, true, false, true, false, true, true, true, true, false, false, false, false, false, false] rfl rfl (take_ofW HT_.out HW_.out (by kernel_rfl)) (fun _ _ _ h => h) (Or.inl ⟨by rfl, ?_⟩) hHeld ?_ ?_
     rotate_left
     ·rintro w' ⟨s0, s1, s2, s3, s4, s5⟩
      go_simp
      with_reducible rfl
     rotate_left
     ·simp only [Act.put, List.setIfInBounds_toArray, List.set_cons_zero, List.set_cons_succ, i64_w, i32_w]
      rfl
     refine take_ (i := 35) (N := some 65) (v := ?_) (a' := ?_) #[true, true, true, true, true, true, true, true, true, true, true, true, true, true, true, true, true, true, true, true, true, true, true, true, true, true, true, true, false, true, false, true, true, true, true, true, false, false, false, false, false] rfl rfl (take_ofW HT_.out HW_.out (by kernel_rfl)) (fun _ _ _ h => h) (Or.inl ⟨by rfl, ?_⟩) hHeld ?_ ?_
     rotate_left
     ·rintro w' ⟨s0, s1, s2, s3, s4, s5⟩
      go_simp
      with_reducible rfl
     rotate_left
     ·simp only [Act.put, List.setIfInBounds_toArray, List.set_cons_zero, List.set_cons_succ, i64_w, i32_w]
      rfl
     refine one_ (i := 28) (N := some 58) #[true, true, true, true, true, true, true, true, true, true, true, true, true, true, true, true, true, true, true, true, true, true, true, true, true, true, true, true, true, true, false, true, true, true, true, true, false, false, false, false, false] rfl rfl (one_of HT_.out (by kernel_rfl)) (by decide) (fun K hK => ?_)
     refine goes_ Tryd.func23 (by kernel_rfl) rfl #[.int .i64 a0, .agg #[.int .u64 a1_0, .slice A1_1 l1_1.length c1_1], .agg #[.int .u64 a2_0, .slice A2_1 l2_1.length c2_1]] (by rfl) rfl rfl (by (try simp only [List.map_toArray, List.map_cons, List.map_nil]); first | done | rfl | (simp only [List.length_drop, List.length_take]; rfl)) ?_
     with_reducible refine (stackyardlaw03_combine.calls k a0 a1_0 _ _ l1_1 a2_0 _ _ l2_1 t372 t373 _ ?side1 ?side2 ?side3 ?side4 A37.out).mono ?_
     (case side1 => repeat (first | exact (Kd.V_reads' HO1_1.out).2.2 | (with_reducible refine Kd.C_alloc ?_ _) | (with_reducible refine Kd.C_drewN ?_ _) | (with_reducible refine Kd.C_drew ?_)))
     (case side2 => exact (Kd.V_reads' HO1_1.out).2.1)
     (case side3 => repeat (first | exact (Kd.V_reads' HO2_1.out).2.2 | (with_reducible refine Kd.C_alloc ?_ _) | (with_reducible refine Kd.C_drewN ?_ _) | (with_reducible refine Kd.C_drew ?_)))
     (case side4 => exact (Kd.V_reads' HO2_1.out).2.1)
     rintro e w52 ⟨v374, rfl, ho0, hb⟩
     refine ⟨_, rfl, ?_⟩
     have n0_ := Aside0.mk (Kd.V_elder' (viV HO1_1.out) (Kd.R_base ho0) hb)
     have n1_ := Aside0.mk (Kd.V_elder' (viV HO2_1.out) (Kd.R_base ho0) hb)
     have n2_ := Aside0.mk (Kd.V_elder' (viV HO3_1.out) (Kd.R_base ho0) hb)
     have n3_ := Aside0.mk (Kd.N_elder' (viN HO349.out) (Kd.R_base ho0) hb)
     have n4_ := Aside0.mk (Kd.R_elder' (viR HO355.out) (Kd.R_base ho0) hb)
     have n5_ := Aside0.mk (Kd.R_elder' (viR HO361.out) (Kd.R_base ho0) hb)
     have n6_ := Aside0.mk (Kd.R_elder' (viR HO365.out) (Kd.R_base ho0) hb)
     have n7_ := Aside0.mk (Kd.R_elder' (viR HO370.out) (Kd.R_base ho0) hb)
     have n8_ := Aside0.mk (Kd.R_lower (Kd.R_new' (Kd.R_new' (Kd.R_new' (Kd.R_new' (Kd.R_newM (M := fun k_ => (w.heap.size ≤ k_)) ho0 (below_size viB) (fun k_ h_ => h_)) (Kd.R_lt (viR HO355.out))) (Kd.R_lt (viR HO361.out))) (Kd.R_lt (viR HO365.out))) (Kd.R_lt (viR HO370.out))) (below_size viB))
     have n9_ := Aside0.mk (blk_below (g := gb344) (o := .cells #[.int .u64 a1_0, .slice A1_1 l1_1.length c1_1] 25 (0, 0)) (viK BK344.out) hb)
     have n10_ := Aside0.mk (blk_below (g := gb345) (o := .cells #[.int .u64 a2_0, .slice A2_1 l2_1.length c2_1] 25 (0, 0)) (viK BK345.out) hb)
     have n11_ := Aside0.mk (blk_below (g := gb346) (o := .cells #[.int .u64 a3_0, .slice A3_1 l3_1.length c3_1] 25 (0, 0)) (viK BK346.out) hb)
     have n12_ := Aside0.mk (blk_below (g := gb357) (o := .cells #[.int .u64 t352, .slice Ao28 t353.length co28] 25 (0, 0)) (viK BK357.out) hb)
     have n13_ := Aside0.mk (below_step viB hb)
     clear HO1_1
     clear HO2_1
     clear HO3_1
     clear HO349
     clear HO355
     clear HO361
     clear HO365
     clear HO370
     clear BK344
     clear BK345
     clear BK346
     clear BK357
     clear HB
     have HO1_1 := n0_
     have HO2_1 := n1_
     have HO3_1 := n2_
     have HO349 := n3_
     have HO355 := n4_
     have HO361 := n5_
     have HO365 := n6_
     have HO370 := n7_
     have HO375 := n8_
     have BK344 := n9_
     have BK345 := n10_
     have BK346 := n11_
     have BK357 := n12_
     have HB := n13_
     clear n0_ n1_ n2_ n3_ n4_ n5_ n6_ n7_ n8_ n9_ n10_ n11_ n12_ n13_
     (try clear hb)
     (try clear hb2)
     (try clear hk)
     (try clear hi)
     (try clear ho0)
     obtain ⟨Ao53, co53, eo53⟩ := Kd.R_slice HO375.out
     (first | subst eo53 | (injection eo53 with f1_ f2_ f3_; have f4_ := f1_.symm; have f5_ := f3_.symm; clear f1_ f2_ f3_; subst f4_; subst f5_))
     refine hK.out _ _ ⟨(blk_cell BK344.out 0).trans rfl, (blk_cell BK344.out 1).trans rfl, (blk_cell BK345.out 0).trans rfl, (blk_cell BK345.out 1).trans rfl, (blk_cell BK346.out 0).trans rfl, (blk_cell BK346.out 1).trans rfl⟩ (fun hHeld => ?_)
     clear hK K
     refine norm_ (a' := ?_) ?_ ?_
     rotate_left
     ·show Act.put _ (some 58) _ = _
      simp only [Act.put, List.setIfInBounds_toArray, List.set_cons_zero, List.set_cons_succ, i64_w, i32_w]
      rfl
     refine one_ (i := 30) (N := some 60) #[true, true, true, true, true, true, true, true, true, true, true, true, true, true, true, true, true, true, true, true, true, true, true, true, true, true, true, true, true, true, true, true, true, true, true, true, false, false, false, false, false] rfl rfl (one_of HT_.out (by kernel_rfl)) (by decide) (fun K hK => ?_)
     refine goes_ Tryd.func23 (by kernel_rfl) rfl #[.int .i64 a0, .agg #[.int .u64 t372, .slice Ao53 t373.length co53], .agg #[.int .u64 a3_0, .slice A3_1 l3_1.length c3_1]] (by rfl) rfl rfl (by (try simp only [List.map_toArray, List.map_cons, List.map_nil]); first | done | rfl | (simp only [List.length_drop, List.length_take]; rfl)) ?_
     with_reducible refine (stackyardlaw03_combine.calls k a0 t372 _ _ t373 a3_0 _ _ l3_1 t376 t377 _ ?side1 ?side2 ?side3 ?side4 A38.out).mono ?_
     (case side1 => repeat (first | exact (Kd.R_reads' HO375.out).2.2 | (with_reducible refine Kd.C_alloc ?_ _) | (with_reducible refine Kd.C_drewN ?_ _) | (with_reducible refine Kd.C_drew ?_)))
     (case side2 => exact (Kd.R_reads' HO375.out).2.1)
     (case side3 => repeat (first | exact (Kd.V_reads' HO3_1.out).2.2 | (with_reducible refine Kd.C_alloc ?_ _) | (with_reducible refine Kd.C_drewN ?_ _) | (with_reducible refine Kd.C_drew ?_)))
     (case side4 => exact (Kd.V_reads' HO3_1.out).2.1)
     rintro e w54 ⟨v378, rfl, ho0, hb⟩
     refine ⟨_, rfl, ?_⟩
     have n0_ := Aside0.mk (Kd.V_elder' (viV HO1_1.out) (Kd.R_base ho0) hb)
     have n1_ := Aside0.mk (Kd.V_elder' (viV HO2_1.out) (Kd.R_base ho0) hb)
     have n2_ := Aside0.mk (Kd.V_elder' (viV HO3_1.out) (Kd.R_base ho0) hb)
     have n3_ := Aside0.mk (Kd.N_elder' (viN HO349.out) (Kd.R_base ho0) hb)
     have n4_ := Aside0.mk (Kd.R_elder' (viR HO355.out) (Kd.R_base ho0) hb)
     have n5_ := Aside0.mk (Kd.R_elder' (viR HO361.out) (Kd.R_base ho0) hb)
     have n6_ := Aside0.mk (Kd.R_elder' (viR HO365.out) (Kd.R_base ho0) hb)
     have n7_ := Aside0.mk (Kd.R_elder' (viR HO370.out) (Kd.R_base ho0) hb)
     have n8_ := Aside0.mk (Kd.R_elder' (viR HO375.out) (Kd.R_base ho0) hb)
     have n9_ := Aside0.mk (Kd.R_lower (Kd.R_new' (Kd.R_new' (Kd.R_new' (Kd.R_new' (Kd.R_new' (Kd.R_newM (M := fun k_ => (w.heap.size ≤ k_)) ho0 (below_size viB) (fun k_ h_ => h_)) (Kd.R_lt (viR HO355.out))) (Kd.R_lt (viR HO361.out))) (Kd.R_lt (viR HO365.out))) (Kd.R_lt (viR HO370.out))) (Kd.R_lt (viR HO375.out))) (below_size viB))
     have n10_ := Aside0.mk (blk_below (g := gb344) (o := .cells #[.int .u64 a1_0, .slice A1_1 l1_1.length c1_1] 25 (0, 0)) (viK BK344.out) hb)
     have n11_ := Aside0.mk (blk_below (g := gb345) (o := .cells #[.int .u64 a2_0, .slice A2_1 l2_1.length c2_1] 25 (0, 0)) (viK BK345.out) hb)
     have n12_ := Aside0.mk (blk_below (g := gb346) (o := .cells #[.int .u64 a3_0, .slice A3_1 l3_1.length c3_1] 25 (0, 0)) (viK BK346.out) hb)
     have n13_ := Aside0.mk (blk_below (g := gb357) (o := .cells #[.int .u64 t352, .slice Ao28 t353.length co28] 25 (0, 0)) (viK BK357.out) hb)
     have n14_ := Aside0.mk (below_step viB hb)
     clear HO1_1
     clear HO2_1
     clear HO3_1
     clear HO349
     clear HO355
     clear HO361
     clear HO365
     clear HO370
     clear HO375
     clear BK344
     clear BK345
     clear BK346
     clear BK357
     clear HB
     have HO1_1 := n0_
     have HO2_1 := n1_
     have HO3_1 := n2_
     have HO349 := n3_
     have HO355 := n4_
     have HO361 := n5_
     have HO365 := n6_
     have HO370 := n7_
     have HO375 := n8_
     have HO379 := n9_
     have BK344 := n10_
     have BK345 := n11_
     have BK346 := n12_
     have BK357 := n13_
     have HB := n14_
     clear n0_ n1_ n2_ n3_ n4_ n5_ n6_ n7_ n8_ n9_ n10_ n11_ n12_ n13_ n14_
     (try clear hb)
     (try clear hb2)
     (try clear hk)
     (try clear hi)
     (try clear ho0)
     refine hK.out _ _ ⟨(blk_cell BK344.out 0).trans rfl, (blk_cell BK344.out 1).trans rfl, (blk_cell BK345.out 0).trans rfl, (blk_cell BK345.out 1).trans rfl, (blk_cell BK346.out 0).trans rfl, (blk_cell BK346.out 1).trans rfl⟩ (fun hHeld => ?_)
     clear hK K
     refine norm_ (a' := ?_) ?_ ?_
     rotate_left
     ·show Act.put _ (some 60) _ = _
      simp only [Act.put, List.setIfInBounds_toArray, List.set_cons_zero, List.set_cons_succ, i64_w, i32_w]
      rfl
     refine one_ (i := 36) (N := some 66) #[true, true, true, true, true, true, true, true, true, true, true, true, true, true, true, true, true, true, true, true, true, true, true, true, true, true, true, true, true, true, true, true, true, true, true, true, true, false, false, false, false] rfl rfl (one_of HT_.out (by kernel_rfl)) (by decide) (fun K hK => ?_)
     refine goes_ Tryd.func23 (by kernel_rfl) rfl #[.int .i64 a0, .agg #[.int .u64 a2_0, .slice A2_1 l2_1.length c2_1], .agg #[.int .u64 a3_0, .slice A3_1 l3_1.length c3_1]] (by rfl) rfl rfl (by (try simp only [List.map_toArray, List.map_cons, List.map_nil]); first | done | rfl | (simp only [List.length_drop, List.length_take]; rfl)) ?_
     with_reducible refine (stackyardlaw03_combine.calls k a0 a2_0 _ _ l2_1 a3_0 _ _ l3_1 t380 t381 _ ?side1 ?side2 ?side3 ?side4 A39.out).mono ?_
     (case side1 => repeat (first | exact (Kd.V_reads' HO2_1.out).2.2 | (with_reducible refine Kd.C_alloc ?_ _) | (with_reducible refine Kd.C_drewN ?_ _) | (with_reducible refine Kd.C_drew ?_)))
     (case side2 => exact (Kd.V_reads' HO2_1.out).2.1)
     (case side3 => repeat (first | exact (Kd.V_reads' HO3_1.out).2.2 | (with_reducible refine Kd.C_alloc ?_ _) | (with_reducible refine Kd.C_drewN ?_ _) | (with_reducible refine Kd.C_drew ?_)))
     (case side4 => exact (Kd.V_reads' HO3_1.out).2.1)
     rintro e w55 ⟨v382, rfl, ho0, hb⟩
     refine ⟨_, rfl, ?_⟩
     have n0_ := Aside0.mk (Kd.V_elder' (viV HO1_1.out) (Kd.R_base ho0) hb)
     have n1_ := Aside0.mk (Kd.V_elder' (viV HO2_1.out) (Kd.R_base ho0) hb)
     have n2_ := Aside0.mk (Kd.V_elder' (viV HO3_1.out) (Kd.R_base ho0) hb)
     have n3_ := Aside0.mk (Kd.N_elder' (viN HO349.out) (Kd.R_base ho0) hb)
     have n4_ := Aside0.mk (Kd.R_elder' (viR HO355.out) (Kd.R_base ho0) hb)
     have n5_ := Aside0.mk (Kd.R_elder' (viR HO361.out) (Kd.R_base ho0) hb)
     have n6_ := Aside0.mk (Kd.R_elder' (viR HO365.out) (Kd.R_base ho0) hb)
     have n7_ := Aside0.mk (Kd.R_elder' (viR HO370.out) (Kd.R_base ho0) hb)
     have n8_ := Aside0.mk (Kd.R_elder' (viR HO375.out) (Kd.R_base ho0) hb)
     have n9_ := Aside0.mk (Kd.R_elder' (viR HO379.out) (Kd.R_base ho0) hb)
     have n10_ := Aside0.mk (Kd.R_lower (Kd.R_new' (Kd.R_new' (Kd.R_new' (Kd.R_new' (Kd.R_new' (Kd.R_new' (Kd.R_newM (M := fun k_ => (w.heap.size ≤ k_)) ho0 (below_size viB) (fun k_ h_ => h_)) (Kd.R_lt (viR HO355.out))) (Kd.R_lt (viR HO361.out))) (Kd.R_lt (viR HO365.out))) (Kd.R_lt (viR HO370.out))) (Kd.R_lt (viR HO375.out))) (Kd.R_lt (viR HO379.out))) (below_size viB))
     have n11_ := Aside0.mk (blk_below (g := gb344) (o := .cells #[.int .u64 a1_0, .slice A1_1 l1_1.length c1_1] 25 (0, 0)) (viK BK344.out) hb)
     have n12_ := Aside0.mk (blk_below (g := gb345) (o := .cells #[.int .u64 a2_0, .slice A2_1 l2_1.length c2_1] 25 (0, 0)) (viK BK345.out) hb)
     have n13_ := Aside0.mk (blk_below (g := gb346) (o := .cells #[.int .u64 a3_0, .slice A3_1 l3_1.length c3_1] 25 (0, 0)) (viK BK346.out) hb)
     have n14_ := Aside0.mk (blk_below (g := gb357) (o := .cells #[.int .u64 t352, .slice Ao28 t353.length co28] 25 (0, 0)) (viK BK357.out) hb)
     have n15_ := Aside0.mk (below_step viB hb)
     clear HO1_1
     clear HO2_1
     clear HO3_1
     clear HO349
     clear HO355
     clear HO361
     clear HO365
     clear HO370
     clear HO375
     clear HO379
     clear BK344
     clear BK345
     clear BK346
     clear BK357
     clear HB
     have HO1_1 := n0_
     have HO2_1 := n1_
     have HO3_1 := n2_
     have HO349 := n3_
     have HO355 := n4_
     have HO361 := n5_
     have HO365 := n6_
     have HO370 := n7_
     have HO375 := n8_
     have HO379 := n9_
     have HO383 := n10_
     have BK344 := n11_
     have BK345 := n12_
     have BK346 := n13_
     have BK357 := n14_
     have HB := n15_
     clear n0_ n1_ n2_ n3_ n4_ n5_ n6_ n7_ n8_ n9_ n10_ n11_ n12_ n13_ n14_ n15_
     (try clear hb)
     (try clear hb2)
     (try clear hk)
     (try clear hi)
     (try clear ho0)
     obtain ⟨Ao56, co56, eo56⟩ := Kd.R_slice HO383.out
     (first | subst eo56 | (injection eo56 with f1_ f2_ f3_; have f4_ := f1_.symm; have f5_ := f3_.symm; clear f1_ f2_ f3_; subst f4_; subst f5_))
     refine hK.out _ _ ⟨(blk_cell BK344.out 0).trans rfl, (blk_cell BK344.out 1).trans rfl, (blk_cell BK345.out 0).trans rfl, (blk_cell BK345.out 1).trans rfl, (blk_cell BK346.out 0).trans rfl, (blk_cell BK346.out 1).trans rfl⟩ (fun hHeld => ?_)
     clear hK K
     refine norm_ (a' := ?_) ?_ ?_
     rotate_left
     ·show Act.put _ (some 66) _ = _
      simp only [Act.put, List.setIfInBounds_toArray, List.set_cons_zero, List.set_cons_succ, i64_w, i32_w]
      rfl
     refine one_ (i := 37) (N := some 67) #[true, true, true, true, true, true, true, true, true, true, true, true, true, true, true, true, true, true, true, true, true, true, true, true, true, true, true, true, true, true, true, true, true, true, true, true, true, true, false, false, false] rfl rfl (one_of HT_.out (by kernel_rfl)) (by decide) (fun K hK => ?_)
     refine goes_ Tryd.func23 (by kernel_rfl) rfl #[.int .i64 a0, .agg #[.int .u64 a1_0, .slice A1_1 l1_1.length c1_1], .agg #[.int .u64 t380, .slice Ao56 t381.length co56]] (by rfl) rfl rfl (by (try simp only [List.map_toArray, List.map_cons, List.map_nil]); first | done | rfl | (simp only [List.length_drop, List.length_take]; rfl)) ?_
     with_reducible refine (stackyardlaw03_combine.calls k a0 a1_0 _ _ l1_1 t380 _ _ t381 t384 t385 _ ?side1 ?side2 ?side3 ?side4 A40.out).mono ?_
     (case side1 => repeat (first | exact (Kd.V_reads' HO1_1.out).2.2 | (with_reducible refine Kd.C_alloc ?_ _) | (with_reducible refine Kd.C_drewN ?_ _) | (with_reducible refine Kd.C_drew ?_)))
     (case side2 => exact (Kd.V_reads' HO1_1.out).2.1)
     (case side3 => repeat (first | exact (Kd.R_reads' HO383.out).2.2 | (with_reducible refine Kd.C_alloc ?_ _) | (with_reducible refine Kd.C_drewN ?_ _) | (with_reducible refine Kd.C_drew ?_)))
     (case side4 => exact (Kd.R_reads' HO383.out).2.1)
     rintro e w57 ⟨v386, rfl, ho0, hb⟩
     refine ⟨_, rfl, ?_⟩
     have n0_ := Aside0.mk (Kd.V_elder' (viV HO1_1.out) (Kd.R_base ho0) hb)
     have n1_ := Aside0.mk (Kd.V_elder' (viV HO2_1.out) (Kd.R_base ho0) hb)
     have n2_ := Aside0.mk (Kd.V_elder' (viV HO3_1.out) (Kd.R_base ho0) hb)
     have n3_ := Aside0.mk (Kd.N_elder' (viN HO349.out) (Kd.R_base ho0) hb)
     have n4_ := Aside0.mk (Kd.R_elder' (viR HO355.out) (Kd.R_base ho0) hb)
     have n5_ := Aside0.mk (Kd.R_elder' (viR HO361.out) (Kd.R_base ho0) hb)
     have n6_ := Aside0.mk (Kd.R_elder' (viR HO365.out) (Kd.R_base ho0) hb)
     have n7_ := Aside0.mk (Kd.R_elder' (viR HO370.out) (Kd.R_base ho0) hb)
     have n8_ := Aside0.mk (Kd.R_elder' (viR HO375.out) (Kd.R_base ho0) hb)
     have n9_ := Aside0.mk (Kd.R_elder' (viR HO379.out) (Kd.R_base ho0) hb)
     have n10_ := Aside0.mk (Kd.R_elder' (viR HO383.out) (Kd.R_base ho0) hb)
     have n11_ := Aside0.mk (Kd.R_lower (Kd.R_new' (Kd.R_new' (Kd.R_new' (Kd.R_new' (Kd.R_new' (Kd.R_new' (Kd.R_new' (Kd.R_newM (M := fun k_ => (w.heap.size ≤ k_)) ho0 (below_size viB) (fun k_ h_ => h_)) (Kd.R_lt (viR HO355.out))) (Kd.R_lt (viR HO361.out))) (Kd.R_lt (viR HO365.out))) (Kd.R_lt (viR HO370.out))) (Kd.R_lt (viR HO375.out))) (Kd.R_lt (viR HO379.out))) (Kd.R_lt (viR HO383.out))) (below_size viB))
     have n12_ := Aside0.mk (blk_below (g := gb344) (o := .cells #[.int .u64 a1_0, .slice A1_1 l1_1.length c1_1] 25 (0, 0)) (viK BK344.out) hb)
     have n13_ := Aside0.mk (blk_below (g := gb345) (o := .cells #[.int .u64 a2_0, .slice A2_1 l2_1.length c2_1] 25 (0, 0)) (viK BK345.out) hb)
     have n14_ := Aside0.mk (blk_below (g := gb346) (o := .cells #[.int .u64 a3_0, .slice A3_1 l3_1.length c3_1] 25 (0, 0)) (viK BK346.out) hb)
     have n15_ := Aside0.mk (blk_below (g := gb357) (o := .cells #[.int .u64 t352, .slice Ao28 t353.length co28] 25 (0, 0)) (viK BK357.out) hb)
     have n16_ := Aside0.mk (below_step viB hb)
     clear HO1_1
     clear HO2_1
     clear HO3_1
     clear HO349
     clear HO355
     clear HO361
     clear HO365
     clear HO370
     clear HO375
     clear HO379
     clear HO383
     clear BK344
     clear BK345
     clear BK346
     clear BK357
     clear HB
     have HO1_1 := n0_
     have HO2_1 := n1_
     have HO3_1 := n2_
     have HO349 := n3_
     have HO355 := n4_
     have HO361 := n5_
     have HO365 := n6_
     have HO370 := n7_
     have HO375 := n8_
     have HO379 := n9_
     have HO383 := n10_
     have HO387 := n11_
     have BK344 := n12_
     have BK345 := n13_
     have BK346 := n14_
     have BK357 := n15_
     have HB := n16_
     clear n0_ n1_ n2_ n3_ n4_ n5_ n6_ n7_ n8_ n9_ n10_ n11_ n12_ n13_ n14_ n15_ n16_
     (try clear hb)
     (try clear hb2)
     (try clear hk)
     (try clear hi)
     (try clear ho0)
     obtain ⟨Ao58, co58, eo58⟩ := Kd.R_slice HO379.out
     (first | subst eo58 | (injection eo58 with f1_ f2_ f3_; have f4_ := f1_.symm; have f5_ := f3_.symm; clear f1_ f2_ f3_; subst f4_; subst f5_))
     obtain ⟨Ao59, co59, eo59⟩ := Kd.R_slice HO387.out
     (first | subst eo59 | (injection eo59 with f1_ f2_ f3_; have f4_ := f1_.symm; have f5_ := f3_.symm; clear f1_ f2_ f3_; subst f4_; subst f5_))
     refine hK.out _ _ ⟨(blk_cell BK344.out 0).trans rfl, (blk_cell BK344.out 1).trans rfl, (blk_cell BK345.out 0).trans rfl, (blk_cell BK345.out 1).trans rfl, (blk_cell BK346.out 0).trans rfl, (blk_cell BK346.out 1).trans rfl⟩ (fun hHeld => ?_)
     clear hK K
     refine norm_ (a' := ?_) ?_ ?_
     rotate_left
     ·show Act.put _ (some 67) _ = _
      simp only [Act.put, List.setIfInBounds_toArray, List.set_cons_zero, List.set_cons_succ, i64_w, i32_w]
      rfl
     refine one_ (i := 38) (N := some 68) #[true, true, true, true, true, true, true, true, true, true, true, true, true, true, true, true, true, true, true, true, true, true, true, true, true, true, true, true, true, true, true, true, true, true, true, true, true, true, true, false, false] rfl rfl (one_of HT_.out (by kernel_rfl)) (by decide) (fun K hK => ?_)
     refine goes_ Tryd.func17 (by kernel_rfl) rfl #[.agg #[.int .u64 t376, .slice Ao58 t377.length co58], .agg #[.int .u64 t384, .slice Ao59 t385.length co59]] (by rfl) rfl rfl (by (try simp only [List.map_toArray, List.map_cons, List.map_nil]); first | done | rfl | (simp only [List.length_drop, List.length_take]; rfl)) ?_
     with_reducible refine (stackyardref03_Same.calls k t376 _ _ t377 t384 _ _ t385 t388 _ ?side1 ?side2 ?side3 ?side4 A41.out).mono ?_
     (case side1 => repeat (first | exact (Kd.R_reads' HO379.out).2.2 | (with_reducible refine Kd.C_alloc ?_ _) | (with_reducible refine Kd.C_drewN ?_ _) | (with_reducible refine Kd.C_drew ?_)))
     (case side2 => exact (Kd.R_reads' HO379.out).2.1)
     (case side3 => repeat (first | exact (Kd.R_reads' HO387.out).2.2 | (with_reducible refine Kd.C_alloc ?_ _) | (with_reducible refine Kd.C_drewN ?_ _) | (with_reducible refine Kd.C_drew ?_)))
     (case side4 => exact (Kd.R_reads' HO387.out).2.1)
     rintro e w60 ⟨rfl, hb⟩
     refine ⟨_, rfl, ?_⟩
     have n0_ := Aside0.mk (Kd.V_below (viV HO1_1.out) hb)
     have n1_ := Aside0.mk (Kd.V_below (viV HO2_1.out) hb)
     have n2_ := Aside0.mk (Kd.V_below (viV HO3_1.out) hb)
     have n3_ := Aside0.mk (Kd.N_below (viN HO349.out) hb)
     have n4_ := Aside0.mk (Kd.R_below (viR HO355.out) hb)
     have n5_ := Aside0.mk (Kd.R_below (viR HO361.out) hb)
     have n6_ := Aside0.mk (Kd.R_below (viR HO365.out) hb)
     have n7_ := Aside0.mk (Kd.R_below (viR HO370.out) hb)
     have n8_ := Aside0.mk (Kd.R_below (viR HO375.out) hb)
     have n9_ := Aside0.mk (Kd.R_below (viR HO379.out) hb)
     have n10_ := Aside0.mk (Kd.R_below (viR HO383.out) hb)
     have n11_ := Aside0.mk (Kd.R_below (viR HO387.out) hb)
     have n12_ := Aside0.mk (blk_below (g := gb344) (o := .cells #[.int .u64 a1_0, .slice A1_1 l1_1.length c1_1] 25 (0, 0)) (viK BK344.out) hb)
     have n13_ := Aside0.mk (blk_below (g := gb345) (o := .cells #[.int .u64 a2_0, .slice A2_1 l2_1.length c2_1] 25 (0, 0)) (viK BK345.out) hb)
     have n14_ := Aside0.mk (blk_below (g := gb346) (o := .cells #[.int .u64 a3_0, .slice A3_1 l3_1.length c3_1] 25 (0, 0)) (viK BK346.out) hb)
     have n15_ := Aside0.mk (blk_below (g := gb357) (o := .cells #[.int .u64 t352, .slice Ao28 t353.length co28] 25 (0, 0)) (viK BK357.out) hb)
     have n16_ := Aside0.mk (below_step viB hb)
     clear HO1_1
     clear HO2_1
     clear HO3_1
     clear HO349
     clear HO355
     clear HO361
     clear HO365
     clear HO370
     clear HO375
     clear HO379
     clear HO383
     clear HO387
     clear BK344
     clear BK345
     clear BK346
     clear BK357
     clear HB
     have HO1_1 := n0_
     have HO2_1 := n1_
     have HO3_1 := n2_
     have HO349 := n3_
     have HO355 := n4_
     have HO361 := n5_
     have HO365 := n6_
     have HO370 := n7_
     have HO375 := n8_
     have HO379 := n9_
     have HO383 := n10_
     have HO387 := n11_
     have BK344 := n12_
     have BK345 := n13_
     have BK346 := n14_
     have BK357 := n15_
     have HB := n16_
     clear n0_ n1_ n2_ n3_ n4_ n5_ n6_ n7_ n8_ n9_ n10_ n11_ n12_ n13_ n14_ n15_ n16_
     (try clear hb)
     (try clear hb2)
     (try clear hk)
     (try clear hi)
     refine hK.out _ _ ⟨(blk_cell BK344.out 0).trans rfl, (blk_cell BK344.out 1).trans rfl, (blk_cell BK345.out 0).trans rfl, (blk_cell BK345.out 1).trans rfl, (blk_cell BK346.out 0).trans rfl, (blk_cell BK346.out 1).trans rfl⟩ (fun hHeld => ?_)
     clear hK K
     refine norm_ (a' := ?_) ?_ ?_
     rotate_left
     ·show Act.put _ (some 68) _ = _
      simp only [Act.put, List.setIfInBounds_toArray, List.set_cons_zero, List.set_cons_succ, i64_w, i32_w]
      rfl
     refine pure_ (i := 39) (N := some 69) (v := ?_) (a' := ?_) #[true, true, true, true, true, true, true, true, true, true, true, true, true, true, true, true, true, true, true, true, true, true, true, true, true, true, true, true, true, true, true, true, true, true, true, true, true, true, true, true, false] rfl rfl (any_of HT_.out (by kernel_rfl)) (fun _ _ _ h => h) (Or.inl ⟨by rfl, ?_⟩) ?_ ?_
     rotate_left
     ·intro w'
      go_simp
      with_reducible rfl
     rotate_left
     ·simp only [Act.put, List.setIfInBounds_toArray, List.set_cons_zero, List.set_cons_succ, i64_w, i32_w]
      rfl
     refine pure_ (i := 40) (N := some 70) (v := ?_) (a' := ?_) #[true, true, true, true, true, true, true, true, true, true, true, true, true, true, true, true, true, true, true, true, true, true, true, true, true, true, true, true, true, true, true, true, true, true, true, true, true, true, true, true, true] rfl rfl (any_of HT_.out (by kernel_rfl)) (fun _ _ _ h => h) (Or.inl ⟨by rfl, ?_⟩) ?_ ?_
     rotate_left
     ·intro w'
      go_simp
      with_reducible rfl
     rotate_left
     ·simp only [Act.put, List.setIfInBounds_toArray, List.set_cons_zero, List.set_cons_succ, i64_w, i32_w]
      rfl
     refine done_ (done_of HT_.out (by kernel_rfl)) ?_
     try go_wp2
     go_meet
     case rel => exact ⟨_, (!t388), (by first | rfl | (simp; done) | (simp [*]; done)), H', ⟨by first | omega | exact Nat.le_refl _⟩, ⟨by refine viV ?_; exact Kd.V_mono HO1_1.out (fun _ hk => ⟨hk.1.1.1.1.1.1.1.1, ⟨hk.1.1.1.1.1.1.1.2.2.1, ⟨hk.1.1.1.1.1.1.1.2.2.2.1, ⟨hk.1.1.1.1.1.1.1.2.2.2.2.1, ⟨hk.1.1.1.1.1.1.1.2.2.2.2.2.1, hk.1.1.1.1.1.1.1.2.2.2.2.2.2⟩⟩⟩⟩⟩)⟩, ⟨by refine viV ?_; exact Kd.V_mono HO2_1.out (fun _ hk => ⟨hk.1.1.1.1.1.1.1.1, ⟨hk.1.1.1.1.1.1.1.2.2.1, ⟨hk.1.1.1.1.1.1.1.2.2.2.1, ⟨hk.1.1.1.1.1.1.1.2.2.2.2.1, ⟨hk.1.1.1.1.1.1.1.2.2.2.2.2.1, hk.1.1.1.1.1.1.1.2.2.2.2.2.2⟩⟩⟩⟩⟩)⟩, ⟨by refine viV ?_; exact Kd.V_mono HO3_1.out (fun _ hk => ⟨hk.1.1.1.1.1.1.1.1, ⟨hk.1.1.1.1.1.1.1.2.2.1, ⟨hk.1.1.1.1.1.1.1.2.2.2.1, ⟨hk.1.1.1.1.1.1.1.2.2.2.2.1, ⟨hk.1.1.1.1.1.1.1.2.2.2.2.2.1, hk.1.1.1.1.1.1.1.2.2.2.2.2.2⟩⟩⟩⟩⟩)⟩, ⟨by refine viR ?_; exact Kd.R_mono HO355.out (fun _ hk => hk.1.1.1.1.1.1.1)⟩, ⟨by refine viK ?_; exact BK344.out⟩, ⟨by refine viK ?_; exact BK345.out⟩, ⟨by refine viK ?_; exact BK346.out⟩, ⟨by refine viK ?_; exact BK357.out⟩, ⟨viB⟩⟩
    ·replace c36 := Bool.eq_false_iff.mpr c36
     subst c36
     have H1 : (none) = some r := by rw [if_neg (show ¬ (false = true) by decide)] at H; exact H
     clear H
     have H := H1
     clear H1
     exact absurd H (by simp)
   ·replace c33 := Bool.eq_false_iff.mpr c33
    subst c33
    have H1 : (none) = some r := by rw [if_neg (show ¬ (false = true) by decide)] at H; exact H
    clear H
    have H := H1
    clear H1
    exact absurd H (by simp)
  ·rw [if_neg c29] at H
   have c29b0 : (t356 == 0) = false := beq_eq_false_iff_ne.mpr c29
   have c29b1 : (t356 != 0) = true := bne_iff_ne.mpr c29
   (first | rw [c29b0] | (simp only [i64_w, i32_w]; rw [c29b0]) | skip)
   exact absurd H (by simp)
 case rest =>
  clear HC8
  try clear c1
  try clear c2
  try clear p2
  try clear c3
  try clear c17
  try clear c23
  try clear c29
  try clear c29b0
  try clear c29b1
  try clear c33
  try clear c36
  obtain ⟨kq, x70_7, rfl, HA, HJ7, HO_345001, HO_346001, HO_347001, HO_358001, BK344, BK345, BK346, BK357, HB⟩ := hcut
  cases kq with
  | zero => exact absurd HA.out (by simp [stackyardlaw03_FactsRing.j0])
  | succ kj7 =>
   have H := HA.out
   clear HA
   simp only [stackyardlaw03_FactsRing.j0] at H
   by_cases c61 : x70_7 = true
   ·subst c61
    have H1 : (none) = some r := by rw [if_pos rfl] at H; exact H
    clear H
    have H := H1
    clear H1
    exact absurd H (by simp)
   ·replace c61 := Bool.eq_false_iff.mpr c61
    subst c61
    have H1 : ((stackyardlaw03_extend.f kj7 a0 a1_0 l1_1 a2_0 l2_1).bind fun bt389 => ((stackyardlaw03_extend.f kj7 a0 bt389.1 bt389.2 a3_0 l3_1).bind fun bt393 => ((stackyardlaw03_extend.f kj7 a0 a2_0 l2_1 a3_0 l3_1).bind fun bt397 => ((stackyardlaw03_extend.f kj7 a0 a1_0 l1_1 bt397.1 bt397.2).bind fun bt401 => ((stackyardref03_Same.f kj7 bt393.1 bt393.2 bt401.1 bt401.2).bind fun t405 => (if t405 = true then ((stackyardlaw03_extend.f kj7 a0 t352 t353 a1_0 l1_1).bind fun bt406 => ((stackyardref03_Same.f kj7 bt406.1 bt406.2 a1_0 l1_1).bind fun t410 => (if t410 = true then ((stackyardlaw03_extend.f kj7 a0 a1_0 l1_1 t352 t353).bind fun bt411 => ((stackyardref03_Same.f kj7 bt411.1 bt411.2 a1_0 l1_1).bind fun t415 => (stackyardlaw03_FactsRing.j1 kj7 a0 (!t415) a1_0 l1_1 a2_0 l2_1 a3_0 l3_1))) else (none)))) else (none))))))) = some r := by rw [if_neg (show ¬ (false = true) by decide)] at H; exact H
    clear H
    have H := H1
    clear H1
    have HC62 := Aside0.mk H
    clear H
    go_upto_region 7 with (fail)
    go_cut [104] (fun v104 wc => ∃ (kq : Nat) (x104_61 : Bool), v104 = .bool x104_61 ∧ Aside0 (stackyardlaw03_FactsRing.j1 kq a0 x104_61 a1_0 l1_1 a2_0 l2_1 a3_0 l3_1 = some r) ∧ Aside0 (kq ≤ kj7) ∧ Aside0 (Kd.V (Kd.int .u64) 22 wc w.heap.size (fun k_ => ((P1_1_ k_ ∨ P2_1_ k_ ∨ P3_1_ k_) ∨ w.heap.size ≤ k_) ∧ some k_ ≠ ((.slice Ao28 t353.length co28) : Value).ownBlock ∧ k_ ≠ gb344 ∧ k_ ≠ gb345 ∧ k_ ≠ gb346 ∧ k_ ≠ gb357) (.slice A1_1 l1_1.length c1_1) l1_1) ∧ Aside0 (Kd.V (Kd.int .u64) 22 wc w.heap.size (fun k_ => ((P1_1_ k_ ∨ P2_1_ k_ ∨ P3_1_ k_) ∨ w.heap.size ≤ k_) ∧ some k_ ≠ ((.slice Ao28 t353.length co28) : Value).ownBlock ∧ k_ ≠ gb344 ∧ k_ ≠ gb345 ∧ k_ ≠ gb346 ∧ k_ ≠ gb357) (.slice A2_1 l2_1.length c2_1) l2_1) ∧ Aside0 (Kd.V (Kd.int .u64) 22 wc w.heap.size (fun k_ => ((P1_1_ k_ ∨ P2_1_ k_ ∨ P3_1_ k_) ∨ w.heap.size ≤ k_) ∧ some k_ ≠ ((.slice Ao28 t353.length co28) : Value).ownBlock ∧ k_ ≠ gb344 ∧ k_ ≠ gb345 ∧ k_ ≠ gb346 ∧ k_ ≠ gb357) (.slice A3_1 l3_1.length c3_1) l3_1) ∧ Aside0 (Kd.R (Kd.int .u64) 22 wc w.heap.size (fun k_ => (w.heap.size ≤ k_)) (.slice Ao28 t353.length co28) t353) ∧ Aside0 (wc.heap[gb344]? = some (.cells #[.int .u64 a1_0, (.slice A1_1 l1_1.length c1_1)] 25 (0, 0))) ∧ Aside0 (wc.heap[gb345]? = some (.cells #[.int .u64 a2_0, (.slice A2_1 l2_1.length c2_1)] 25 (0, 0))) ∧ Aside0 (wc.heap[gb346]? = some (.cells #[.int .u64 a3_0, (.slice A3_1 l3_1.length c3_1)] 25 (0, 0))) ∧ Aside0 (wc.heap[gb357]? = some (.cells #[.int .u64 t352, (.slice Ao28 t353.length co28)] 25 (0, 0))) ∧ Aside0 (Below w.heap.size w wc))
    case first =>
     have H := HC62.out
     clear HC62
     replace H := Option.bind_eq_some_iff.mp H
     obtain ⟨⟨t389, t390⟩, A630, H⟩ := H
     try dsimp only at H
     have A63 := Aside0.mk A630
     clear A630
     replace H := Option.bind_eq_some_iff.mp H
     obtain ⟨⟨t393, t394⟩, A640, H⟩ := H
     try dsimp only at H
     have A64 := Aside0.mk A640
     clear A640
     replace H := Option.bind_eq_some_iff.mp H
     obtain ⟨⟨t397, t398⟩, A650, H⟩ := H
     try dsimp only at H
     have A65 := Aside0.mk A650
     clear A650
     replace H := Option.bind_eq_some_iff.mp H
     obtain ⟨⟨t401, t402⟩, A660, H⟩ := H
     try dsimp only at H
     have A66 := Aside0.mk A660
     clear A660
     replace H := Option.bind_eq_some_iff.mp H
     obtain ⟨t405, A670, H⟩ := H
     try dsimp only at H
     have A67 := Aside0.mk A670
     clear A670
     by_cases c68 : t405 = true
     ·subst c68
      have H1 : ((stackyardlaw03_extend.f kj7 a0 t352 t353 a1_0 l1_1).bind fun bt406 => ((stackyardref03_Same.f kj7 bt406.1 bt406.2 a1_0 l1_1).bind fun t410 => (if t410 = true then ((stackyardlaw03_extend.f kj7 a0 a1_0 l1_1 t352 t353).bind fun bt411 => ((stackyardref03_Same.f kj7 bt411.1 bt411.2 a1_0 l1_1).bind fun t415 => (stackyardlaw03_FactsRing.j1 kj7 a0 (!t415) a1_0 l1_1 a2_0 l2_1 a3_0 l3_1))) else (none)))) = some r := by rw [if_pos rfl] at H; exact H
      clear H
      have H := H1
      clear H1
      replace H := Option.bind_eq_some_iff.mp H
      obtain ⟨⟨t406, t407⟩, A690, H⟩ := H
      try dsimp only at H
      have A69 := Aside0.mk A690
      clear A690
      replace H := Option.bind_eq_some_iff.mp H
      obtain ⟨t410, A700, H⟩ := H
      try dsimp only at H
      have A70 := Aside0.mk A700
      clear A700
      by_cases c71 : t410 = true
      ·subst c71
       have H1 : ((stackyardlaw03_extend.f kj7 a0 a1_0 l1_1 t352 t353).bind fun bt411 => ((stackyardref03_Same.f kj7 bt411.1 bt411.2 a1_0 l1_1).bind fun t415 => (stackyardlaw03_FactsRing.j1 kj7 a0 (!t415) a1_0 l1_1 a2_0 l2_1 a3_0 l3_1))) = some r := by rw [if_pos rfl] at H; exact H
       clear H
       have H := H1
       clear H1
       replace H := Option.bind_eq_some_iff.mp H
       obtain ⟨⟨t411, t412⟩, A720, H⟩ := H
       try dsimp only at H
       have A72 := Aside0.mk A720
       clear A720
       replace H := Option.bind_eq_some_iff.mp H
       obtain ⟨t415, A730, H⟩ := H
       try dsimp only at H
       have A73 := Aside0.mk A730
       clear A730
       have H' := Aside0.mk H
       clear H
       try go_wp2
       have n0_ := Aside0.mk (Kd.V_drew HO_345001.out)
       have n1_ := Aside0.mk (Kd.V_drew HO_346001.out)
       have n2_ := Aside0.mk (Kd.V_drew HO_347001.out)
       have n3_ := Aside0.mk (Kd.R_drew HO_358001.out)
       have n4_ := Aside0.mk (blk_drew BK344.out)
       have n5_ := Aside0.mk (blk_drew BK345.out)
       have n6_ := Aside0.mk (blk_drew BK346.out)
       have n7_ := Aside0.mk (blk_drew BK357.out)
       have n8_ := Aside0.mk (below_drew1 HB.out)
       clear HO_345001
       clear HO_346001
       clear HO_347001
       clear HO_358001
       clear BK344
       clear BK345
       clear BK346
       clear BK357
       clear HB
       have HO_345001 := n0_
       have HO_346001 := n1_
       have HO_347001 := n2_
       have HO_358001 := n3_
       have BK344 := n4_
       have BK345 := n5_
       have BK346 := n6_
       have BK357 := n7_
       have HB := n8_
       clear n0_ n1_ n2_ n3_ n4_ n5_ n6_ n7_ n8_
       refine start_ (n := 34) (S := fun w' => w'.cell? ⟨gb344, 0, none⟩ = some (.int .u64 a1_0) ∧ w'.cell? ⟨gb344, 1, none⟩ = some (.slice A1_1 l1_1.length c1_1) ∧ w'.cell? ⟨gb345, 0, none⟩ = some (.int .u64 a2_0) ∧ w'.cell? ⟨gb345, 1, none⟩ = some (.slice A2_1 l2_1.length c2_1) ∧ w'.cell? ⟨gb346, 0, none⟩ = some (.int .u64 a3_0) ∧ w'.cell? ⟨gb346, 1, none⟩ = some (.slice A3_1 l3_1.length c3_1) ∧ w'.cell? ⟨gb357, 0, none⟩ = some (.int .u64 t352) ∧ w'.cell? ⟨gb357, 1, none⟩ = some (.slice Ao28 t353.length co28)) (ds := []) #[false, false, false, false, false, false, false, false, false, false, false, false, false, false, false, false, false, false, false, false, false, false, false, false, false, false, false, false, false, false, false, false, false, false] (by kernel_rfl) rfl rfl ⟨(blk_cell BK344.out 0).trans rfl, (blk_cell BK344.out 1).trans rfl, (blk_cell BK345.out 0).trans rfl, (blk_cell BK345.out 1).trans rfl, (blk_cell BK346.out 0).trans rfl, (blk_cell BK346.out 1).trans rfl, (blk_cell BK357.out 0).trans rfl, (blk_cell BK357.out 1).trans rfl⟩ (fun hHeld => ?_); refine with_tabW stackyardlaw03_FactsRing.tab7 stackyardlaw03_FactsRing.bits7 (fun HT_ HW_ => ?_)
       generalize wc.drew = w74 at HO_345001 HO_346001 HO_347001 HO_358001 BK344 BK345 BK346 BK357 HB hHeld ⊢
       refine pure_ (i := 0) (N := some 71) (v := ?_) (a' := ?_) #[true, false, false, false, false, false, false, false, false, false, false, false, false, false, false, false, false, false, false, false, false, false, false, false, false, false, false, false, false, false, false, false, false, false] rfl rfl (any_of HT_.out (by kernel_rfl)) (fun _ _ _ h => h) (Or.inl ⟨by rfl, ?_⟩) ?_ ?_
       rotate_left
       ·intro w'
        go_simp
        with_reducible rfl
       rotate_left
       ·simp only [Act.put, List.setIfInBounds_toArray, List.set_cons_zero, List.set_cons_succ, i64_w, i32_w]
        rfl
       refine pure_ (i := 1) (N := some 72) (v := ?_) (a' := ?_) #[true, true, false, false, false, false, false, false, false, false, false, false, false, false, false, false, false, false, false, false, false, false, false, false, false, false, false, false, false, false, false, false, false, false] rfl rfl (any_of HT_.out (by kernel_rfl)) (fun _ _ _ h => h) (Or.inl ⟨by rfl, ?_⟩) ?_ ?_
       rotate_left
       ·intro w'
        go_simp
        with_reducible rfl
       rotate_left
       ·simp only [Act.put, List.setIfInBounds_toArray, List.set_cons_zero, List.set_cons_succ, i64_w, i32_w]
        rfl
       refine pure_ (i := 7) (N := some 78) (v := ?_) (a' := ?_) #[true, true, false, false, false, false, false, true, false, false, false, false, false, false, false, false, false, false, false, false, false, false, false, false, false, false, false, false, false, false, false, false, false, false] rfl rfl (any_of HT_.out (by kernel_rfl)) (fun _ _ _ h => h) (Or.inl ⟨by rfl, ?_⟩) ?_ ?_
       rotate_left
       ·intro w'
        go_simp
        with_reducible rfl
       rotate_left
       ·simp only [Act.put, List.setIfInBounds_toArray, List.set_cons_zero, List.set_cons_succ, i64_w, i32_w]
        rfl
       refine pure_ (i := 9) (N := some 80) (v := ?_) (a' := ?_) #[true, true, false, false, false, false, false, true, false, true, false, false, false, false, false, false, false, false, false, false, false, false, false, false, false, false, false, false, false, false, false, false, false, false] rfl rfl (any_of HT_.out (by kernel_rfl)) (fun _ _ _ h => h) (Or.inl ⟨by rfl, ?_⟩) ?_ ?_
       rotate_left
       ·intro w'
        go_simp
        with_reducible rfl
       rotate_left
       ·simp only [Act.put, List.setIfInBounds_toArray, List.set_cons_zero, List.set_cons_succ, i64_w, i32_w]
        rfl
       refine take_ (i := 2) (N := some 73) (v := ?_) (a' := ?_) #[true, true, true, false, false, false, false, true, false, true, false, false, false, false, false, false, false, false, false, false, false, false, false, false, false, false, false, false, false, false, false, false, false, false] rfl rfl (take_ofW HT_.out HW_.out (by kernel_rfl)) (fun _ _ _ h => h) (Or.inl ⟨by rfl, ?_⟩) hHeld ?_ ?_
       rotate_left
       ·rintro w' ⟨s0, s1, s2, s3, s4, s5, s6, s7⟩
        go_simp
        with_reducible rfl
       rotate_left
       ·simp only [Act.put, List.setIfInBounds_toArray, List.set_cons_zero, List.set_cons_succ, i64_w, i32_w]
        rfl
       refine take_ (i := 3) (N := some 74) (v := ?_) (a' := ?_) #[true, true, true, true, false, false, false, true, false, true, false, false, false, false, false, false, false, false, false, false, false, false, false, false, false, false, false, false, false, false, false, false, false, false] rfl rfl (take_ofW HT_.out HW_.out (by kernel_rfl)) (fun _ _ _ h => h) (Or.inl ⟨by rfl, ?_⟩) hHeld ?_ ?_
       rotate_left
       ·rintro w' ⟨s0, s1, s2, s3, s4, s5, s6, s7⟩
        go_simp
        with_reducible rfl
       rotate_left
       ·simp only [Act.put, List.setIfInBounds_toArray, List.set_cons_zero, List.set_cons_succ, i64_w, i32_w]
        rfl
       refine take_ (i := 5) (N := some 76) (v := ?_) (a' := ?_) #[true, true, true, true, false, true, false, true, false, true, false, false, false, false, false, false, false, false, false, false, false, false, false, false, false, false, false, false, false, false, false, false, false, false] rfl rfl (take_ofW HT_.out HW_.out (by kernel_rfl)) (fun _ _ _ h => h) (Or.inl ⟨by rfl, ?_⟩) hHeld ?_ ?_
       rotate_left
       ·rintro w' ⟨s0, s1, s2, s3, s4, s5, s6, s7⟩
        go_simp
        with_reducible rfl
       rotate_left
       ·simp only [Act.put, List.setIfInBounds_toArray, List.set_cons_zero, List.set_cons_succ, i64_w, i32_w]
        rfl
       refine take_ (i := 8) (N := some 79) (v := ?_) (a' := ?_) #[true, true, true, true, false, true, false, true, true, true, false, false, false, false, false, false, false, false, false, false, false, false, false, false, false, false, false, false, false, false, false, false, false, false] rfl rfl (take_ofW HT_.out HW_.out (by kernel_rfl)) (fun _ _ _ h => h) (Or.inl ⟨by rfl, ?_⟩) hHeld ?_ ?_
       rotate_left
       ·rintro w' ⟨s0, s1, s2, s3, s4, s5, s6, s7⟩
        go_simp
        with_reducible rfl
       rotate_left
       ·simp only [Act.put, List.setIfInBounds_toArray, List.set_cons_zero, List.set_cons_succ, i64_w, i32_w]
        rfl
       refine take_ (i := 10) (N := some 81) (v := ?_) (a' := ?_) #[true, true, true, true, false, true, false, true, true, true, true, false, false, false, false, false, false, false, false, false, false, false, false, false, false, false, false, false, false, false, false, false, false, false] rfl rfl (take_ofW HT_.out HW_.out (by kernel_rfl)) (fun _ _ _ h => h) (Or.inl ⟨by rfl, ?_⟩) hHeld ?_ ?_
       rotate_left
       ·rintro w' ⟨s0, s1, s2, s3, s4, s5, s6, s7⟩
        go_simp
        with_reducible rfl
       rotate_left
       ·simp only [Act.put, List.setIfInBounds_toArray, List.set_cons_zero, List.set_cons_succ, i64_w, i32_w]
        rfl
       refine take_ (i := 11) (N := some 82) (v := ?_) (a' := ?_) #[true, true, true, true, false, true, false, true, true, true, true, true, false, false, false, false, false, false, false, false, false, false, false, false, false, false, false, false, false, false, false, false, false, false] rfl rfl (take_ofW HT_.out HW_.out (by kernel_rfl)) (fun _ _ _ h => h) (Or.inl ⟨by rfl, ?_⟩) hHeld ?_ ?_
       rotate_left
       ·rintro w' ⟨s0, s1, s2, s3, s4, s5, s6, s7⟩
        go_simp
        with_reducible rfl
       rotate_left
       ·simp only [Act.put, List.setIfInBounds_toArray, List.set_cons_zero, List.set_cons_succ, i64_w, i32_w]
        rfl
       refine one_ (i := 4) (N := some 75) #[true, true, true, true, true, true, false, true, true, true, true, true, false, false, false, false, false, false, false, false, false, false, false, false, false, false, false, false, false, false, false, false, false, false] rfl rfl (one_of HT_.out (by kernel_rfl)) (by decide) (fun K hK => ?_)
       refine goes_ Tryd.func24 (by kernel_rfl) rfl #[.int .i64 a0, .agg #[.int .u64 a1_0, .slice A1_1 l1_1.length c1_1], .agg #[.int .u64 a2_0, .slice A2_1 l2_1.length c2_1]] (by rfl) rfl rfl (by (try simp only [List.map_toArray, List.map_cons, List.map_nil]); first | done | rfl | (simp only [List.length_drop, List.length_take]; rfl)) ?_
       with_reducible refine (stackyardlaw03_extend.calls kj7 a0 a1_0 _ _ l1_1 a2_0 _ _ l2_1 t389 t390 _ ?side1 ?side2 ?side3 ?side4 A63.out viDB).mono ?_
       (case side1 => repeat (first | exact (Kd.V_reads' HO_345001.out).2.2 | (with_reducible refine Kd.C_alloc ?_ _) | (with_reducible refine Kd.C_drewN ?_ _) | (with_reducible refine Kd.C_drew ?_)))
       (case side2 => exact (Kd.V_reads' HO_345001.out).2.1)
       (case side3 => repeat (first | exact (Kd.V_reads' HO_346001.out).2.2 | (with_reducible refine Kd.C_alloc ?_ _) | (with_reducible refine Kd.C_drewN ?_ _) | (with_reducible refine Kd.C_drew ?_)))
       (case side4 => exact (Kd.V_reads' HO_346001.out).2.1)
       rintro e w75 ⟨v391, rfl, ho0, hb⟩
       refine ⟨_, rfl, ?_⟩
       have n0_ := Aside0.mk (Kd.V_elder' (viV HO_345001.out) (Kd.R_base ho0) hb)
       have n1_ := Aside0.mk (Kd.V_elder' (viV HO_346001.out) (Kd.R_base ho0) hb)
       have n2_ := Aside0.mk (Kd.V_elder' (viV HO_347001.out) (Kd.R_base ho0) hb)
       have n3_ := Aside0.mk (Kd.R_elder' (viR HO_358001.out) (Kd.R_base ho0) hb)
       have n4_ := Aside0.mk (Kd.R_lower (Kd.R_new' (Kd.R_newM (M := fun k_ => (w.heap.size ≤ k_)) ho0 (below_size viB) (fun k_ h_ => h_)) (Kd.R_lt (viR HO_358001.out))) (below_size viB))
       have n5_ := Aside0.mk (blk_below (g := gb344) (o := .cells #[.int .u64 a1_0, .slice A1_1 l1_1.length c1_1] 25 (0, 0)) (viK BK344.out) hb)
       have n6_ := Aside0.mk (blk_below (g := gb345) (o := .cells #[.int .u64 a2_0, .slice A2_1 l2_1.length c2_1] 25 (0, 0)) (viK BK345.out) hb)
       have n7_ := Aside0.mk (blk_below (g := gb346) (o := .cells #[.int .u64 a3_0, .slice A3_1 l3_1.length c3_1] 25 (0, 0)) (viK BK346.out) hb)
       have n8_ := Aside0.mk (blk_below (g := gb357) (o := .cells #[.int .u64 t352, .slice Ao28 t353.length co28] 25 (0, 0)) (viK BK357.out) hb)
       have n9_ := Aside0.mk (below_step viB hb)
       clear HO_345001
       clear HO_346001
       clear HO_347001
       clear HO_358001
       clear BK344
       clear BK345
       clear BK346
       clear BK357
       clear HB
       have HO_345001 := n0_
       have HO_346001 := n1_
       have HO_347001 := n2_
       have HO_358001 := n3_
       have HO392 := n4_
       have BK344 := n5_
       have BK345 := n6_
       have BK346 := n7_
       have BK357 := n8_
       have HB := n9_
       clear n0_ n1_ n2_ n3_ n4_ n5_ n6_ n7_ n8_ n9_
       (try clear hb)
       (try clear hb2)
       (try clear hk)
       (try clear hi)
       (try clear ho0)
       obtain ⟨Ao76, co76, eo76⟩ := Kd.R_slice HO392.out
       (first | subst eo76 | (injection eo76 with f1_ f2_ f3_; have f4_ := f1_.symm; have f5_ := f3_.symm; clear f1_ f2_ f3_; subst f4_; subst f5_))
       refine hK.out _ _ ⟨(blk_cell BK344.out 0).trans rfl, (blk_cell BK344.out 1).trans rfl, (blk_cell BK345.out 0).trans rfl, (blk_cell BK345.out 1).trans rfl, (blk_cell BK346.out 0).trans rfl, (blk_cell BK346.out 1).trans rfl, (blk_cell BK357.out 0).trans rfl, (blk_cell BK357.out 1).trans rfl⟩ (fun hHeld => ?_)
       clear hK K
       refine norm_ (a' := ?_) ?_ ?_
       rotate_left
       ·show Act.put _ (some 75) _ = _
        simp only [Act.put, List.setIfInBounds_toArray, List.set_cons_zero, List.set_cons_succ, i64_w, i32_w]
        rfl
       refine one_ (i := 6) (N := some 77) #[true, true, true, true, true, true, true, true, true, true, true, true, false, false, false, false, false, false, false, false, false, false, false, false, false, false, false, false, false, false, false, false, false, false] rfl rfl (one_of HT_.out (by kernel_rfl)) (by decide) (fun K hK => ?_)
       refine goes_ Tryd.func24 (by kernel_rfl) rfl #[.int .i64 a0, .agg #[.int .u64 t389, .slice Ao76 t390.length co76], .agg #[.int .u64 a3_0, .slice A3_1 l3_1.length c3_1]] (by rfl) rfl rfl (by (try simp only [List.map_toArray, List.map_cons, List.map_nil]); first | done | rfl | (simp only [List.length_drop, List.length_take]; rfl)) ?_
       with_reducible refine (stackyardlaw03_extend.calls kj7 a0 t389 _ _ t390 a3_0 _ _ l3_1 t393 t394 _ ?side1 ?side2 ?side3 ?side4 A64.out viDB).mono ?_
       (case side1 => repeat (first | exact (Kd.R_reads' HO392.out).2.2 | (with_reducible refine Kd.C_alloc ?_ _) | (with_reducible refine Kd.C_drewN ?_ _) | (with_reducible refine Kd.C_drew ?_)))
       (case side2 => exact (Kd.R_reads' HO392.out).2.1)
       (case side3 => repeat (first | exact (Kd.V_reads' HO_347001.out).2.2 | (with_reducible refine Kd.C_alloc ?_ _) | (with_reducible refine Kd.C_drewN ?_ _) | (with_reducible refine Kd.C_drew ?_)))
       (case side4 => exact (Kd.V_reads' HO_347001.out).2.1)
       rintro e w77 ⟨v395, rfl, ho0, hb⟩
       refine ⟨_, rfl, ?_⟩
       have n0_ := Aside0.mk (Kd.V_elder' (viV HO_345001.out) (Kd.R_base ho0) hb)
       have n1_ := Aside0.mk (Kd.V_elder' (viV HO_346001.out) (Kd.R_base ho0) hb)
       have n2_ := Aside0.mk (Kd.V_elder' (viV HO_347001.out) (Kd.R_base ho0) hb)
       have n3_ := Aside0.mk (Kd.R_elder' (viR HO_358001.out) (Kd.R_base ho0) hb)
       have n4_ := Aside0.mk (Kd.R_elder' (viR HO392.out) (Kd.R_base ho0) hb)
       have n5_ := Aside0.mk (Kd.R_lower (Kd.R_new' (Kd.R_new' (Kd.R_newM (M := fun k_ => (w.heap.size ≤ k_)) ho0 (below_size viB) (fun k_ h_ => h_)) (Kd.R_lt (viR HO_358001.out))) (Kd.R_lt (viR HO392.out))) (below_size viB))
       have n6_ := Aside0.mk (blk_below (g := gb344) (o := .cells #[.int .u64 a1_0, .slice A1_1 l1_1.length c1_1] 25 (0, 0)) (viK BK344.out) hb)
       have n7_ := Aside0.mk (blk_below (g := gb345) (o := .cells #[.int .u64 a2_0, .slice A2_1 l2_1.length c2_1] 25 (0, 0)) (viK BK345.out) hb)
       have n8_ := Aside0.mk (blk_below (g := gb346) (o := .cells #[.int .u64 a3_0, .slice A3_1 l3_1.length c3_1] 25 (0, 0)) (viK BK346.out) hb)
       have n9_ := Aside0.mk (blk_below (g := gb357) (o := .cells #[.int .u64 t352, .slice Ao28 t353.length co28] 25 (0, 0)) (viK BK357.out) hb)
       have n10_ := Aside0.mk (below_step viB hb)
       clear HO_345001
       clear HO_346001
       clear HO_347001
       clear HO_358001
       clear HO392
       clear BK344
       clear BK345
       clear BK346
       clear BK357
       clear HB
       have HO_345001 := n0_
       have HO_346001 := n1_
       have HO_347001 := n2_
       have HO_358001 := n3_
       have HO392 := n4_
       have HO396 := n5_
       have BK344 := n6_
       have BK345 := n7_
       have BK346 := n8_
       have BK357 := n9_
       have HB := n10_
       clear n0_ n1_ n2_ n3_ n4_ n5_ n6_ n7_ n8_ n9_ n10_
       (try clear hb)
       (try clear hb2)
       (try clear hk)
       (try clear hi)
       (try clear ho0)
       refine hK.out _ _ ⟨(blk_cell BK344.out 0).trans rfl, (blk_cell BK344.out 1).trans rfl, (blk_cell BK345.out 0).trans rfl, (blk_cell BK345.out 1).trans rfl, (blk_cell BK346.out 0).trans rfl, (blk_cell BK346.out 1).trans rfl, (blk_cell BK357.out 0).trans rfl, (blk_cell BK357.out 1).trans rfl⟩ (fun hHeld => ?_)
       clear hK K
       refine norm_ (a' := ?_) ?_ ?_
       rotate_left
       ·show Act.put _ (some 77) _ = _
        simp only [Act.put, List.setIfInBounds_toArray, List.set_cons_zero, List.set_cons_succ, i64_w, i32_w]
        rfl
       refine one_ (i := 12) (N := some 83) #[true, true, true, true, true, true, true, true, true, true, true, true, true, false, false, false, false, false, false, false, false, false, false, false, false, false, false, false, false, false, false, false, false, false] rfl rfl (one_of HT_.out (by kernel_rfl)) (by decide) (fun K hK => ?_)
       refine goes_ Tryd.func24 (by kernel_rfl) rfl #[.int .i64 a0, .agg #[.int .u64 a2_0, .slice A2_1 l2_1.length c2_1], .agg #[.int .u64 a3_0, .slice A3_1 l3_1.length c3_1]] (by rfl) rfl rfl (by (try simp only [List.map_toArray, List.map_cons, List.map_nil]); first | done | rfl | (simp only [List.length_drop, List.length_take]; rfl)) ?_
       with_reducible refine (stackyardlaw03_extend.calls kj7 a0 a2_0 _ _ l2_1 a3_0 _ _ l3_1 t397 t398 _ ?side1 ?side2 ?side3 ?side4 A65.out viDB).mono ?_
       (case side1 => repeat (first | exact (Kd.V_reads' HO_346001.out).2.2 | (with_reducible refine Kd.C_alloc ?_ _) | (with_reducible refine Kd.C_drewN ?_ _) | (with_reducible refine Kd.C_drew ?_)))
       (case side2 => exact (Kd.V_reads' HO_346001.out).2.1)
       (case side3 => repeat (first | exact (Kd.V_reads' HO_347001.out).2.2 | (with_reducible refine Kd.C_alloc ?_ _) | (with_reducible refine Kd.C_drewN ?_ _) | (with_reducible refine Kd.C_drew ?_)))
       (case side4 => exact (Kd.V_reads' HO_347001.out).2.1)
       rintro e w78 ⟨v399, rfl, ho0, hb⟩
       refine ⟨_, rfl, ?_⟩
       have n0_ := Aside0.mk (Kd.V_elder' (viV HO_345001.out) (Kd.R_base ho0) hb)
       have n1_ := Aside0.mk (Kd.V_elder' (viV HO_346001.out) (Kd.R_base ho0) hb)
       have n2_ := Aside0.mk (Kd.V_elder' (viV HO_347001.out) (Kd.R_base ho0) hb)
       have n3_ := Aside0.mk (Kd.R_elder' (viR HO_358001.out) (Kd.R_base ho0) hb)
       have n4_ := Aside0.mk (Kd.R_elder' (viR HO392.out) (Kd.R_base ho0) hb)
       have n5_ := Aside0.mk (Kd.R_elder' (viR HO396.out) (Kd.R_base ho0) hb)
       have n6_ := Aside0.mk (Kd.R_lower (Kd.R_new' (Kd.R_new' (Kd.R_new' (Kd.R_newM (M := fun k_ => (w.heap.size ≤ k_)) ho0 (below_size viB) (fun k_ h_ => h_)) (Kd.R_lt (viR HO_358001.out))) (Kd.R_lt (viR HO392.out))) (Kd.R_lt (viR HO396.out))) (below_size viB))
       have n7_ := Aside0.mk (blk_below (g := gb344) (o := .cells #[.int .u64 a1_0, .slice A1_1 l1_1.length c1_1] 25 (0, 0)) (viK BK344.out) hb)
       have n8_ := Aside0.mk (blk_below (g := gb345) (o := .cells #[.int .u64 a2_0, .slice A2_1 l2_1.length c2_1] 25 (0, 0)) (viK BK345.out) hb)
       have n9_ := Aside0.mk (blk_below (g := gb346) (o := .cells #[.int .u64 a3_0, .slice A3_1 l3_1.length c3_1] 25 (0, 0)) (viK BK346.out) hb)
       have n10_ := Aside0.mk (blk_below (g := gb357) (o := .cells #[.int .u64 t352, .slice Ao28 t353.length co28] 25 (0, 0)) (viK BK357.out) hb)
       have n11_ := Aside0.mk (below_step viB hb)
       clear HO_345001
       clear HO_346001
       clear HO_347001
       clear HO_358001
       clear HO392
       clear HO396
       clear BK344
       clear BK345
       clear BK346
       clear BK357
       clear HB
       have HO_345001 := n0_
       have HO_346001 := n1_
       have HO_347001 := n2_
       have HO_358001 := n3_
       have HO392 := n4_
       have HO396 := n5_
       have HO400 := n6_
       have BK344 := n7_
       have BK345 := n8_
       have BK346 := n9_
       have BK357 := n10_
       have HB := n11_
       clear n0_ n1_ n2_ n3_ n4_ n5_ n6_ n7_ n8_ n9_ n10_ n11_
       (try clear hb)
       (try clear hb2)
       (try clear hk)
       (try clear hi)
       (try clear ho0)
       obtain ⟨Ao79, co79, eo79⟩ := Kd.R_slice HO400.out
       (first | subst eo79 | (injection eo79 with f1_ f2_ f3_; have f4_ := f1_.symm; have f5_ := f3_.symm; clear f1_ f2_ f3_; subst f4_; subst f5_))
       refine hK.out _ _ ⟨(blk_cell BK344.out 0).trans rfl, (blk_cell BK344.out 1).trans rfl, (blk_cell BK345.out 0).trans rfl, (blk_cell BK345.out 1).trans rfl, (blk_cell BK346.out 0).trans rfl, (blk_cell BK346.out 1).trans rfl, (blk_cell BK357.out 0).trans rfl, (blk_cell BK357.out 1).trans rfl⟩ (fun hHeld => ?_)
       clear hK K
       refine norm_ (a' := ?_) ?_ ?_
       rotate_left
       ·show Act.put _ (some 83) _ = _
        simp only [Act.put, List.setIfInBounds_toArray, List.set_cons_zero, List.set_cons_succ, i64_w, i32_w]
        rfl
       refine one_ (i := 13) (N := some 84) #[true, true, true, true, true, true, true, true, true, true, true, true, true, true, false, false, false, false, false, false, false, false, false, false, false, false, false, false, false, false, false, false, false, false] rfl rfl (one_of HT_.out (by kernel_rfl)) (by decide) (fun K hK => ?_)
       refine goes_ Tryd.func24 (by kernel_rfl) rfl #[.int .i64 a0, .agg #[.int .u64 a1_0, .slice A1_1 l1_1.length c1_1], .agg #[.int .u64 t397, .slice Ao79 t398.length co79]] (by rfl) rfl rfl (by (try simp only [List.map_toArray, List.map_cons, List.map_nil]); first | done | rfl | (simp only [List.length_drop, List.length_take]; rfl)) ?_
       with_reducible refine (stackyardlaw03_extend.calls kj7 a0 a1_0 _ _ l1_1 t397 _ _ t398 t401 t402 _ ?side1 ?side2 ?side3 ?side4 A66.out viDB).mono ?_
       (case side1 => repeat (first | exact (Kd.V_reads' HO_345001.out).2.2 | (with_reducible refine Kd.C_alloc ?_ _) | (with_reducible refine Kd.C_drewN ?_ _) | (with_reducible refine Kd.C_drew ?_)))
       (case side2 => exact (Kd.V_reads' HO_345001.out).2.1)
       (case side3 => repeat (first | exact (Kd.R_reads' HO400.out).2.2 | (with_reducible refine Kd.C_alloc ?_ _) | (with_reducible refine Kd.C_drewN ?_ _) | (with_reducible refine Kd.C_drew ?_)))
       (case side4 => exact (Kd.R_reads' HO400.out).2.1)
       rintro e w80 ⟨v403, rfl, ho0, hb⟩
       refine ⟨_, rfl, ?_⟩
       have n0_ := Aside0.mk (Kd.V_elder' (viV HO_345001.out) (Kd.R_base ho0) hb)
       have n1_ := Aside0.mk (Kd.V_elder' (viV HO_346001.out) (Kd.R_base ho0) hb)
       have n2_ := Aside0.mk (Kd.V_elder' (viV HO_347001.out) (Kd.R_base ho0) hb)
       have n3_ := Aside0.mk (Kd.R_elder' (viR HO_358001.out) (Kd.R_base ho0) hb)
       have n4_ := Aside0.mk (Kd.R_elder' (viR HO392.out) (Kd.R_base ho0) hb)
       have n5_ := Aside0.mk (Kd.R_elder' (viR HO396.out) (Kd.R_base ho0) hb)
       have n6_ := Aside0.mk (Kd.R_elder' (viR HO400.out) (Kd.R_base ho0) hb)
       have n7_ := Aside0.mk (Kd.R_lower (Kd.R_new' (Kd.R_new' (Kd.R_new' (Kd.R_new' (Kd.R_newM (M := fun k_ => (w.heap.size ≤ k_)) ho0 (below_size viB) (fun k_ h_ => h_)) (Kd.R_lt (viR HO_358001.out))) (Kd.R_lt (viR HO392.out))) (Kd.R_lt (viR HO396.out))) (Kd.R_lt (viR HO400.out))) (below_size viB))
       have n8_ := Aside0.mk (blk_below (g := gb344) (o := .cells #[.int .u64 a1_0, .slice A1_1 l1_1.length c1_1] 25 (0, 0)) (viK BK344.out) hb)
       have n9_ := Aside0.mk (blk_below (g := gb345) (o := .cells #[.int .u64 a2_0, .slice A2_1 l2_1.length c2_1] 25 (0, 0)) (viK BK345.out) hb)
       have n10_ := Aside0.mk (blk_below (g := gb346) (o := .cells #[.int .u64 a3_0, .slice A3_1 l3_1.length c3_1] 25 (0, 0)) (viK BK346.out) hb)
       have n11_ := Aside0.mk (blk_below (g := gb357) (o := .cells #[.int .u64 t352, .slice Ao28 t353.length co28] 25 (0, 0)) (viK BK357.out) hb)
       have n12_ := Aside0.mk (below_step viB hb)
       clear HO_345001
       clear HO_346001
       clear HO_347001
       clear HO_358001
       clear HO392
       clear HO396
       clear HO400
       clear BK344
       clear BK345
       clear BK346
       clear BK357
       clear HB
       have HO_345001 := n0_
       have HO_346001 := n1_
       have HO_347001 := n2_
       have HO_358001 := n3_
       have HO392 := n4_
       have HO396 := n5_
       have HO400 := n6_
       have HO404 := n7_
       have BK344 := n8_
       have BK345 := n9_
       have BK346 := n10_
       have BK357 := n11_
       have HB := n12_
       clear n0_ n1_ n2_ n3_ n4_ n5_ n6_ n7_ n8_ n9_ n10_ n11_ n12_
       (try clear hb)
       (try clear hb2)
       (try clear hk)
       (try clear hi)
       (try clear ho0)
       obtain ⟨Ao81, co81, eo81⟩ := Kd.R_slice HO396.out
       (first | subst eo81 | (injection eo81 with f1_ f2_ f3_; have f4_ := f1_.symm; have f5_ := f3_.symm; clear f1_ f2_ f3_; subst f4_; subst f5_))
       obtain ⟨Ao82, co82, eo82⟩ := Kd.R_slice HO404.out
       (first | subst eo82 | (injection eo82 with f1_ f2_ f3_; have f4_ := f1_.symm; have f5_ := f3_.symm; clear f1_ f2_ f3_; subst f4_; subst f5_))
       refine hK.out _ _ ⟨(blk_cell BK344.out 0).trans rfl, (blk_cell BK344.out 1).trans rfl, (blk_cell BK345.out 0).trans rfl, (blk_cell BK345.out 1).trans rfl, (blk_cell BK346.out 0).trans rfl, (blk_cell BK346.out 1).trans rfl, (blk_cell BK357.out 0).trans rfl, (blk_cell BK357.out 1).trans rfl⟩ (fun hHeld => ?_)
       clear hK K
       refine norm_ (a' := ?_) ?_ ?_
       rotate_left
       ·show Act.put _ (some 84) _ = _
        simp only [Act.put, List.setIfInBounds_toArray, List.set_cons_zero, List.set_cons_succ, i64_w, i32_w]
        rfl
       refine one_ (i := 14) (N := some 85) #[true, true, true, true, true, true, true, true, true, true, true, true, true, true, true, false, false, false, false, false, false, false, false, false, false, false, false, false, false, false, false, false, false, false] rfl rfl (one_of HT_.out (by kernel_rfl)) (by decide) (fun K hK => ?_)
       refine goes_ Tryd.func17 (by kernel_rfl) rfl #[.agg #[.int .u64 t393, .slice Ao81 t394.length co81], .agg #[.int .u64 t401, .slice Ao82 t402.length co82]] (by rfl) rfl rfl (by (try simp only [List.map_toArray, List.map_cons, List.map_nil]); first | done | rfl | (simp only [List.length_drop, List.length_take]; rfl)) ?_
       with_reducible refine (stackyardref03_Same.calls kj7 t393 _ _ t394 t401 _ _ t402 true _ ?side1 ?side2 ?side3 ?side4 A67.out).mono ?_
       (case side1 => repeat (first | exact (Kd.R_reads' HO396.out).2.2 | (with_reducible refine Kd.C_alloc ?_ _) | (with_reducible refine Kd.C_drewN ?_ _) | (with_reducible refine Kd.C_drew ?_)))
       (case side2 => exact (Kd.R_reads' HO396.out).2.1)
       (case side3 => repeat (first | exact (Kd.R_reads' HO404.out).2.2 | (with_reducible refine Kd.C_alloc ?_ _) | (with_reducible refine Kd.C_drewN ?_ _) | (with_reducible refine Kd.C_drew ?_)))
       (case side4 => exact (Kd.R_reads' HO404.out).2.1)
       rintro e w83 ⟨rfl, hb⟩
       refine ⟨_, rfl, ?_⟩
       have n0_ := Aside0.mk (Kd.V_below (viV HO_345001.out) hb)
       have n1_ := Aside0.mk (Kd.V_below (viV HO_346001.out) hb)
       have n2_ := Aside0.mk (Kd.V_below (viV HO_347001.out) hb)
       have n3_ := Aside0.mk (Kd.R_below (viR HO_358001.out) hb)
       have n4_ := Aside0.mk (Kd.R_below (viR HO392.out) hb)
       have n5_ := Aside0.mk (Kd.R_below (viR HO396.out) hb)
       have n6_ := Aside0.mk (Kd.R_below (viR HO400.out) hb)
       have n7_ := Aside0.mk (Kd.R_below (viR HO404.out) hb)
       have n8_ := Aside0.mk (blk_below (g := gb344) (o := .cells #[.int .u64 a1_0, .slice A1_1 l1_1.length c1_1] 25 (0, 0)) (viK BK344.out) hb)
       have n9_ := Aside0.mk (blk_below (g := gb345) (o := .cells #[.int .u64 a2_0, .slice A2_1 l2_1.length c2_1] 25 (0, 0)) (viK BK345.out) hb)
       have n10_ := Aside0.mk (blk_below (g := gb346) (o := .cells #[.int .u64 a3_0, .slice A3_1 l3_1.length c3_1] 25 (0, 0)) (viK BK346.out) hb)
       have n11_ := Aside0.mk (blk_below (g := gb357) (o := .cells #[.int .u64 t352, .slice Ao28 t353.length co28] 25 (0, 0)) (viK BK357.out) hb)
       have n12_ := Aside0.mk (below_step viB hb)
       clear HO_345001
       clear HO_346001
       clear HO_347001
       clear HO_358001
       clear HO392
       clear HO396
       clear HO400
       clear HO404
       clear BK344
       clear BK345
       clear BK346
       clear BK357
       clear HB
       have HO_345001 := n0_
       have HO_346001 := n1_
       have HO_347001 := n2_
       have HO_358001 := n3_
       have HO392 := n4_
       have HO396 := n5_
       have HO400 := n6_
       have HO404 := n7_
       have BK344 := n8_
       have BK345 := n9_
       have BK346 := n10_
       have BK357 := n11_
       have HB := n12_
       clear n0_ n1_ n2_ n3_ n4_ n5_ n6_ n7_ n8_ n9_ n10_ n11_ n12_
       (try clear hb)
       (try clear hb2)
       (try clear hk)
       (try clear hi)
       refine hK.out _ _ ⟨(blk_cell BK344.out 0).trans rfl, (blk_cell BK344.out 1).trans rfl, (blk_cell BK345.out 0).trans rfl, (blk_cell BK345.out 1).trans rfl, (blk_cell BK346.out 0).trans rfl, (blk_cell BK346.out 1).trans rfl, (blk_cell BK357.out 0).trans rfl, (blk_cell BK357.out 1).trans rfl⟩ (fun hHeld => ?_)
       clear hK K
       refine norm_ (a' := ?_) ?_ ?_
       rotate_left
       ·show Act.put _ (some 85) _ = _
        simp only [Act.put, List.setIfInBounds_toArray, List.set_cons_zero, List.set_cons_succ, i64_w, i32_w]
        rfl
       refine pure_ (i := 15) (N := some 86) (v := ?_) (a' := ?_) #[true, true, true, true, true, true, true, true, true, true, true, true, true, true, true, true, false, false, false, false, false, false, false, false, false, false, false, false, false, false, false, false, false, false] rfl rfl (any_of HT_.out (by kernel_rfl)) (fun _ _ _ h => h) (Or.inl ⟨by rfl, ?_⟩) ?_ ?_
       rotate_left
       ·intro w'
        go_simp
        with_reducible rfl
       rotate_left
       ·simp only [Act.put, List.setIfInBounds_toArray, List.set_cons_zero, List.set_cons_succ, i64_w, i32_w]
        rfl
       refine pure_ (i := 16) (N := some 87) (v := ?_) (a' := ?_) #[true, true, true, true, true, true, true, true, true, true, true, true, true, true, true, true, true, false, false, false, false, false, false, false, false, false, false, false, false, false, false, false, false, false] rfl rfl (any_of HT_.out (by kernel_rfl)) (fun _ _ _ h => h) (Or.inl ⟨by rfl, ?_⟩) ?_ ?_
       rotate_left
       ·intro w'
        go_simp
        with_reducible rfl
       rotate_left
       ·simp only [Act.put, List.setIfInBounds_toArray, List.set_cons_zero, List.set_cons_succ, i64_w, i32_w]
        rfl
       refine pure_ (i := 17) (N := some 88) (v := ?_) (a' := ?_) #[true, true, true, true, true, true, true, true, true, true, true, true, true, true, true, true, true, true, false, false, false, false, false, false, false, false, false, false, false, false, false, false, false, false] rfl rfl (any_of HT_.out (by kernel_rfl)) (fun _ _ _ h => h) (Or.inl ⟨by rfl, ?_⟩) ?_ ?_
       rotate_left
       ·intro w'
        go_simp
        with_reducible rfl
       rotate_left
       ·simp only [Act.put, List.setIfInBounds_toArray, List.set_cons_zero, List.set_cons_succ, i64_w, i32_w]
        rfl
       refine take_ (i := 18) (N := some 89) (v := ?_) (a' := ?_) #[true, true, true, true, true, true, true, true, true, true, true, true, true, true, true, true, true, true, true, false, false, false, false, false, false, false, false, false, false, false, false, false, false, false] rfl rfl (take_ofW HT_.out HW_.out (by kernel_rfl)) (fun _ _ _ h => h) (Or.inl ⟨by rfl, ?_⟩) hHeld ?_ ?_
       rotate_left
       ·rintro w' ⟨s0, s1, s2, s3, s4, s5, s6, s7⟩
        go_simp
        with_reducible rfl
       rotate_left
       ·simp only [Act.put, List.setIfInBounds_toArray, List.set_cons_zero, List.set_cons_succ, i64_w, i32_w]
        rfl
       refine take_ (i := 19) (N := some 90) (v := ?_) (a' := ?_) #[true, true, true, true, true, true, true, true, true, true, true, true, true, true, true, true, true, true, true, true, false, false, false, false, false, false, false, false, false, false, false, false, false, false] rfl rfl (take_ofW HT_.out HW_.out (by kernel_rfl)) (fun _ _ _ h => h) (Or.inl ⟨by rfl, ?_⟩) hHeld ?_ ?_
       rotate_left
       ·rintro w' ⟨s0, s1, s2, s3, s4, s5, s6, s7⟩
        go_simp
        with_reducible rfl
       rotate_left
       ·simp only [Act.put, List.setIfInBounds_toArray, List.set_cons_zero, List.set_cons_succ, i64_w, i32_w]
        rfl
       refine take_ (i := 21) (N := some 92) (v := ?_) (a' := ?_) #[true, true, true, true, true, true, true, true, true, true, true, true, true, true, true, true, true, true, true, true, false, true, false, false, false, false, false, false, false, false, false, false, false, false] rfl rfl (take_ofW HT_.out HW_.out (by kernel_rfl)) (fun _ _ _ h => h) (Or.inl ⟨by rfl, ?_⟩) hHeld ?_ ?_
       rotate_left
       ·rintro w' ⟨s0, s1, s2, s3, s4, s5, s6, s7⟩
        go_simp
        with_reducible rfl
       rotate_left
       ·simp only [Act.put, List.setIfInBounds_toArray, List.set_cons_zero, List.set_cons_succ, i64_w, i32_w]
        rfl
       refine one_ (i := 20) (N := some 91) #[true, true, true, true, true, true, true, true, true, true, true, true, true, true, true, true, true, true, true, true, true, true, false, false, false, false, false, false, false, false, false, false, false, false] rfl rfl (one_of HT_.out (by kernel_rfl)) (by decide) (fun K hK => ?_)
       refine goes_ Tryd.func24 (by kernel_rfl) rfl #[.int .i64 a0, .agg #[.int .u64 t352, .slice Ao28 t353.length co28], .agg #[.int .u64 a1_0, .slice A1_1 l1_1.length c1_1]] (by rfl) rfl rfl (by (try simp only [List.map_toArray, List.map_cons, List.map_nil]); first | done | rfl | (simp only [List.length_drop, List.length_take]; rfl)) ?_
       with_reducible refine (stackyardlaw03_extend.calls kj7 a0 t352 _ _ t353 a1_0 _ _ l1_1 t406 t407 _ ?side1 ?side2 ?side3 ?side4 A69.out viDB).mono ?_
       (case side1 => repeat (first | exact (Kd.R_reads' HO_358001.out).2.2 | (with_reducible refine Kd.C_alloc ?_ _) | (with_reducible refine Kd.C_drewN ?_ _) | (with_reducible refine Kd.C_drew ?_)))
       (case side2 => exact (Kd.R_reads' HO_358001.out).2.1)
       (case side3 => repeat (first | exact (Kd.V_reads' HO_345001.out).2.2 | (with_reducible refine Kd.C_alloc ?_ _) | (with_reducible refine Kd.C_drewN ?_ _) | (with_reducible refine Kd.C_drew ?_)))
       (case side4 => exact (Kd.V_reads' HO_345001.out).2.1)
       rintro e w84 ⟨v408, rfl, ho0, hb⟩
       refine ⟨_, rfl, ?_⟩
       have n0_ := Aside0.mk (Kd.V_elder' (viV HO_345001.out) (Kd.R_base ho0) hb)
       have n1_ := Aside0.mk (Kd.V_elder' (viV HO_346001.out) (Kd.R_base ho0) hb)
       have n2_ := Aside0.mk (Kd.V_elder' (viV HO_347001.out) (Kd.R_base ho0) hb)
       have n3_ := Aside0.mk (Kd.R_elder' (viR HO_358001.out) (Kd.R_base ho0) hb)
       have n4_ := Aside0.mk (Kd.R_elder' (viR HO392.out) (Kd.R_base ho0) hb)
       have n5_ := Aside0.mk (Kd.R_elder' (viR HO396.out) (Kd.R_base ho0) hb)
       have n6_ := Aside0.mk (Kd.R_elder' (viR HO400.out) (Kd.R_base ho0) hb)
       have n7_ := Aside0.mk (Kd.R_elder' (viR HO404.out) (Kd.R_base ho0) hb)
       have n8_ := Aside0.mk (Kd.R_lower (Kd.R_new' (Kd.R_new' (Kd.R_new' (Kd.R_new' (Kd.R_new' (Kd.R_newM (M := fun k_ => (w.heap.size ≤ k_)) ho0 (below_size viB) (fun k_ h_ => h_)) (Kd.R_lt (viR HO_358001.out))) (Kd.R_lt (viR HO392.out))) (Kd.R_lt (viR HO396.out))) (Kd.R_lt (viR HO400.out))) (Kd.R_lt (viR HO404.out))) (below_size viB))
       have n9_ := Aside0.mk (blk_below (g := gb344) (o := .cells #[.int .u64 a1_0, .slice A1_1 l1_1.length c1_1] 25 (0, 0)) (viK BK344.out) hb)
       have n10_ := Aside0.mk (blk_below (g := gb345) (o := .cells #[.int .u64 a2_0, .slice A2_1 l2_1.length c2_1] 25 (0, 0)) (viK BK345.out) hb)
       have n11_ := Aside0.mk (blk_below (g := gb346) (o := .cells #[.int .u64 a3_0, .slice A3_1 l3_1.length c3_1] 25 (0, 0)) (viK BK346.out) hb)
       have n12_ := Aside0.mk (blk_below (g := gb357) (o := .cells #[.int .u64 t352, .slice Ao28 t353.length co28] 25 (0, 0)) (viK BK357.out) hb)
       have n13_ := Aside0.mk (below_step viB hb)
       clear HO_345001
       clear HO_346001
       clear HO_347001
       clear HO_358001
       clear HO392
       clear HO396
       clear HO400
       clear HO404
       clear BK344
       clear BK345
       clear BK346
       clear BK357
       clear HB
       have HO_345001 := n0_
       have HO_346001 := n1_
       have HO_347001 := n2_
       have HO_358001 := n3_
       have HO392 := n4_
       have HO396 := n5_
       have HO400 := n6_
       have HO404 := n7_
       have HO409 := n8_
       have BK344 := n9_
       have BK345 := n10_
       have BK346 := n11_
       have BK357 := n12_
       have HB := n13_
       clear n0_ n1_ n2_ n3_ n4_ n5_ n6_ n7_ n8_ n9_ n10_ n11_ n12_ n13_
       (try clear hb)
       (try clear hb2)
       (try clear hk)
       (try clear hi)
       (try clear ho0)
       obtain ⟨Ao85, co85, eo85⟩ := Kd.R_slice HO409.out
       (first | subst eo85 | (injection eo85 with f1_ f2_ f3_; have f4_ := f1_.symm; have f5_ := f3_.symm; clear f1_ f2_ f3_; subst f4_; subst f5_))
       refine hK.out _ _ ⟨(blk_cell BK344.out 0).trans rfl, (blk_cell BK344.out 1).trans rfl, (blk_cell BK345.out 0).trans rfl, (blk_cell BK345.out 1).trans rfl, (blk_cell BK346.out 0).trans rfl, (blk_cell BK346.out 1).trans rfl, (blk_cell BK357.out 0).trans rfl, (blk_cell BK357.out 1).trans rfl⟩ (fun hHeld => ?_)
       clear hK K
       refine norm_ (a' := ?_) ?_ ?_
       rotate_left
       ·show Act.put _ (some 91) _ = _
        simp only [Act.put, List.setIfInBounds_toArray, List.set_cons_zero, List.set_cons_succ, i64_w, i32_w]
        rfl
       refine one_ (i := 22) (N := some 93) #[true, true, true, true, true, true, true, true, true, true, true, true, true, true, true, true, true, true, true, true, true, true, true, false, false, false, false, false, false, false, false, false, false, false] rfl rfl (one_of HT_.out (by kernel_rfl)) (by decide) (fun K hK => ?_)
       refine goes_ Tryd.func17 (by kernel_rfl) rfl #[.agg #[.int .u64 t406, .slice Ao85 t407.length co85], .agg #[.int .u64 a1_0, .slice A1_1 l1_1.length c1_1]] (by rfl) rfl rfl (by (try simp only [List.map_toArray, List.map_cons, List.map_nil]); first | done | rfl | (simp only [List.length_drop, List.length_take]; rfl)) ?_
       with_reducible refine (stackyardref03_Same.calls kj7 t406 _ _ t407 a1_0 _ _ l1_1 true _ ?side1 ?side2 ?side3 ?side4 A70.out).mono ?_
       (case side1 => repeat (first | exact (Kd.R_reads' HO409.out).2.2 | (with_reducible refine Kd.C_alloc ?_ _) | (with_reducible refine Kd.C_drewN ?_ _) | (with_reducible refine Kd.C_drew ?_)))
       (case side2 => exact (Kd.R_reads' HO409.out).2.1)
       (case side3 => repeat (first | exact (Kd.V_reads' HO_345001.out).2.2 | (with_reducible refine Kd.C_alloc ?_ _) | (with_reducible refine Kd.C_drewN ?_ _) | (with_reducible refine Kd.C_drew ?_)))
       (case side4 => exact (Kd.V_reads' HO_345001.out).2.1)
       rintro e w86 ⟨rfl, hb⟩
       refine ⟨_, rfl, ?_⟩
       have n0_ := Aside0.mk (Kd.V_below (viV HO_345001.out) hb)
       have n1_ := Aside0.mk (Kd.V_below (viV HO_346001.out) hb)
       have n2_ := Aside0.mk (Kd.V_below (viV HO_347001.out) hb)
       have n3_ := Aside0.mk (Kd.R_below (viR HO_358001.out) hb)
       have n4_ := Aside0.mk (Kd.R_below (viR HO392.out) hb)
       have n5_ := Aside0.mk (Kd.R_below (viR HO396.out) hb)
       have n6_ := Aside0.mk (Kd.R_below (viR HO400.out) hb)
       have n7_ := Aside0.mk (Kd.R_below (viR HO404.out) hb)
       have n8_ := Aside0.mk (Kd.R_below (viR HO409.out) hb)
       have n9_ := Aside0.mk (blk_below (g := gb344) (o := .cells #[.int .u64 a1_0, .slice A1_1 l1_1.length c1_1] 25 (0, 0)) (viK BK344.out) hb)
       have n10_ := Aside0.mk (blk_below (g := gb345) (o := .cells #[.int .u64 a2_0, .slice A2_1 l2_1.length c2_1] 25 (0, 0)) (viK BK345.out) hb)
       have n11_ := Aside0.mk (blk_below (g := gb346) (o := .cells #[.int .u64 a3_0, .slice A3_1 l3_1.length c3_1] 25 (0, 0)) (viK BK346.out) hb)
       have n12_ := Aside0.mk (blk_below (g := gb357) (o := .cells #[.int .u64 t352, .slice Ao28 t353.length co28] 25 (0, 0)) (viK BK357.out) hb)
       have n13_ := Aside0.mk (below_step viB hb)
       clear HO_345001
       clear HO_346001
       clear HO_347001
       clear HO_358001
       clear HO392
       clear HO396
       clear HO400
       clear HO404
       clear HO409
       clear BK344
       clear BK345
       clear BK346
       clear BK357
       clear HB
       have HO_345001 := n0_
       have HO_346001 := n1_
       have HO_347001 := n2_
       have HO_358001 := n3_
       have HO392 := n4_
       have HO396 := n5_
       have HO400 := n6_
       have HO404 := n7_
       have HO409 := n8_
       have BK344 := n9_
       have BK345 := n10_
       have BK346 := n11_
       have BK357 := n12_
       have HB := n13_
       clear n0_ n1_ n2_ n3_ n4_ n5_ n6_ n7_ n8_ n9_ n10_ n11_ n12_ n13_
       (try clear hb)
       (try clear hb2)
       (try clear hk)
       (try clear hi)
       refine hK.out _ _ ⟨(blk_cell BK344.out 0).trans rfl, (blk_cell BK344.out 1).trans rfl, (blk_cell BK345.out 0).trans rfl, (blk_cell BK345.out 1).trans rfl, (blk_cell BK346.out 0).trans rfl, (blk_cell BK346.out 1).trans rfl, (blk_cell BK357.out 0).trans rfl, (blk_cell BK357.out 1).trans rfl⟩ (fun hHeld => ?_)
       clear hK K
       refine norm_ (a' := ?_) ?_ ?_
       rotate_left
       ·show Act.put _ (some 93) _ = _
        simp only [Act.put, List.setIfInBounds_toArray, List.set_cons_zero, List.set_cons_succ, i64_w, i32_w]
        rfl
       refine pure_ (i := 23) (N := some 94) (v := ?_) (a' := ?_) #[true, true, true, true, true, true, true, true, true, true, true, true, true, true, true, true, true, true, true, true, true, true, true, true, false, false, false, false, false, false, false, false, false, false] rfl rfl (any_of HT_.out (by kernel_rfl)) (fun _ _ _ h => h) (Or.inl ⟨by rfl, ?_⟩) ?_ ?_
       rotate_left
       ·intro w'
        go_simp
        with_reducible rfl
       rotate_left
       ·simp only [Act.put, List.setIfInBounds_toArray, List.set_cons_zero, List.set_cons_succ, i64_w, i32_w]
        rfl
       refine pure_ (i := 24) (N := some 95) (v := ?_) (a' := ?_) #[true, true, true, true, true, true, true, true, true, true, true, true, true, true, true, true, true, true, true, true, true, true, true, true, true, false, false, false, false, false, false, false, false, false] rfl rfl (any_of HT_.out (by kernel_rfl)) (fun _ _ _ h => h) (Or.inl ⟨by rfl, ?_⟩) ?_ ?_
       rotate_left
       ·intro w'
        go_simp
        with_reducible rfl
       rotate_left
       ·simp only [Act.put, List.setIfInBounds_toArray, List.set_cons_zero, List.set_cons_succ, i64_w, i32_w]
        rfl
       refine pure_ (i := 25) (N := some 96) (v := ?_) (a' := ?_) #[true, true, true, true, true, true, true, true, true, true, true, true, true, true, true, true, true, true, true, true, true, true, true, true, true, true, false, false, false, false, false, false, false, false] rfl rfl (any_of HT_.out (by kernel_rfl)) (fun _ _ _ h => h) (Or.inl ⟨by rfl, ?_⟩) ?_ ?_
       rotate_left
       ·intro w'
        go_simp
        with_reducible rfl
       rotate_left
       ·simp only [Act.put, List.setIfInBounds_toArray, List.set_cons_zero, List.set_cons_succ, i64_w, i32_w]
        rfl
       refine pure_ (i := 26) (N := some 97) (v := ?_) (a' := ?_) #[true, true, true, true, true, true, true, true, true, true, true, true, true, true, true, true, true, true, true, true, true, true, true, true, true, true, true, false, false, false, false, false, false, false] rfl rfl (any_of HT_.out (by kernel_rfl)) (fun _ _ _ h => h) (Or.inl ⟨by rfl, ?_⟩) ?_ ?_
       rotate_left
       ·intro w'
        go_simp
        with_reducible rfl
       rotate_left
       ·simp only [Act.put, List.setIfInBounds_toArray, List.set_cons_zero, List.set_cons_succ, i64_w, i32_w]
        rfl
       refine take_ (i := 27) (N := some 98) (v := ?_) (a' := ?_) #[true, true, true, true, true, true, true, true, true, true, true, true, true, true, true, true, true, true, true, true, true, true, true, true, true, true, true, true, false, false, false, false, false, false] rfl rfl (take_ofW HT_.out HW_.out (by kernel_rfl)) (fun _ _ _ h => h) (Or.inl ⟨by rfl, ?_⟩) hHeld ?_ ?_
       rotate_left
       ·rintro w' ⟨s0, s1, s2, s3, s4, s5, s6, s7⟩
        go_simp
        with_reducible rfl
       rotate_left
       ·simp only [Act.put, List.setIfInBounds_toArray, List.set_cons_zero, List.set_cons_succ, i64_w, i32_w]
        rfl
       refine take_ (i := 28) (N := some 99) (v := ?_) (a' := ?_) #[true, true, true, true, true, true, true, true, true, true, true, true, true, true, true, true, true, true, true, true, true, true, true, true, true, true, true, true, true, false, false, false, false, false] rfl rfl (take_ofW HT_.out HW_.out (by kernel_rfl)) (fun _ _ _ h => h) (Or.inl ⟨by rfl, ?_⟩) hHeld ?_ ?_
       rotate_left
       ·rintro w' ⟨s0, s1, s2, s3, s4, s5, s6, s7⟩
        go_simp
        with_reducible rfl
       rotate_left
       ·simp only [Act.put, List.setIfInBounds_toArray, List.set_cons_zero, List.set_cons_succ, i64_w, i32_w]
        rfl
       refine take_ (i := 30) (N := some 101) (v := ?_) (a' := ?_) #[true, true, true, true, true, true, true, true, true, true, true, true, true, true, true, true, true, true, true, true, true, true, true, true, true, true, true, true, true, false, true, false, false, false] rfl rfl (take_ofW HT_.out HW_.out (by kernel_rfl)) (fun _ _ _ h => h) (Or.inl ⟨by rfl, ?_⟩) hHeld ?_ ?_
       rotate_left
       ·rintro w' ⟨s0, s1, s2, s3, s4, s5, s6, s7⟩
        go_simp
        with_reducible rfl
       rotate_left
       ·simp only [Act.put, List.setIfInBounds_toArray, List.set_cons_zero, List.set_cons_succ, i64_w, i32_w]
        rfl
       refine one_ (i := 29) (N := some 100) #[true, true, true, true, true, true, true, true, true, true, true, true, true, true, true, true, true, true, true, true, true, true, true, true, true, true, true, true, true, true, true, false, false, false] rfl rfl (one_of HT_.out (by kernel_rfl)) (by decide) (fun K hK => ?_)
       refine goes_ Tryd.func24 (by kernel_rfl) rfl #[.int .i64 a0, .agg #[.int .u64 a1_0, .slice A1_1 l1_1.length c1_1], .agg #[.int .u64 t352, .slice Ao28 t353.length co28]] (by rfl) rfl rfl (by (try simp only [List.map_toArray, List.map_cons, List.map_nil]); first | done | rfl | (simp only [List.length_drop, List.length_take]; rfl)) ?_
       with_reducible refine (stackyardlaw03_extend.calls kj7 a0 a1_0 _ _ l1_1 t352 _ _ t353 t411 t412 _ ?side1 ?side2 ?side3 ?side4 A72.out viDB).mono ?_
       (case side1 => repeat (first | exact (Kd.V_reads' HO_345001.out).2.2 | (with_reducible refine Kd.C_alloc ?_ _) | (with_reducible refine Kd.C_drewN ?_ _) | (with_reducible refine Kd.C_drew ?_)))
       (case side2 => exact (Kd.V_reads' HO_345001.out).2.1)
       (case side3 => repeat (first | exact (Kd.R_reads' HO_358001.out).2.2 | (with_reducible refine Kd.C_alloc ?_ _) | (with_reducible refine Kd.C_drewN ?_ _) | (with_reducible refine Kd.C_drew ?_)))
       (case side4 => exact (Kd.R_reads' HO_358001.out).2.1)
       rintro e w87 ⟨v413, rfl, ho0, hb⟩
       refine ⟨_, rfl, ?_⟩
       have n0_ := Aside0.mk (Kd.V_elder' (viV HO_345001.out) (Kd.R_base ho0) hb)
       have n1_ := Aside0.mk (Kd.V_elder' (viV HO_346001.out) (Kd.R_base ho0) hb)
       have n2_ := Aside0.mk (Kd.V_elder' (viV HO_347001.out) (Kd.R_base ho0) hb)
       have n3_ := Aside0.mk (Kd.R_elder' (viR HO_358001.out) (Kd.R_base ho0) hb)
       have n4_ := Aside0.mk (Kd.R_elder' (viR HO392.out) (Kd.R_base ho0) hb)
       have n5_ := Aside0.mk (Kd.R_elder' (viR HO396.out) (Kd.R_base ho0) hb)
       have n6_ := Aside0.mk (Kd.R_elder' (viR HO400.out) (Kd.R_base ho0) hb)
       have n7_ := Aside0.mk (Kd.R_elder' (viR HO404.out) (Kd.R_base ho0) hb)
       have n8_ := Aside0.mk (Kd.R_elder' (viR HO409.out) (Kd.R_base ho0) hb)
       have n9_ := Aside0.mk (Kd.R_lower (Kd.R_new' (Kd.R_new' (Kd.R_new' (Kd.R_new' (Kd.R_new' (Kd.R_new' (Kd.R_newM (M := fun k_ => (w.heap.size ≤ k_)) ho0 (below_size viB) (fun k_ h_ => h_)) (Kd.R_lt (viR HO_358001.out))) (Kd.R_lt (viR HO392.out))) (Kd.R_lt (viR HO396.out))) (Kd.R_lt (viR HO400.out))) (Kd.R_lt (viR HO404.out))) (Kd.R_lt (viR HO409.out))) (below_size viB))
       have n10_ := Aside0.mk (blk_below (g := gb344) (o := .cells #[.int .u64 a1_0, .slice A1_1 l1_1.length c1_1] 25 (0, 0)) (viK BK344.out) hb)
       have n11_ := Aside0.mk (blk_below (g := gb345) (o := .cells #[.int .u64 a2_0, .slice A2_1 l2_1.length c2_1] 25 (0, 0)) (viK BK345.out) hb)
       have n12_ := Aside0.mk (blk_below (g := gb346) (o := .cells #[.int .u64 a3_0, .slice A3_1 l3_1.length c3_1] 25 (0, 0)) (viK BK346.out) hb)
       have n13_ := Aside0.mk (blk_below (g := gb357) (o := .cells #[.int .u64 t352, .slice Ao28 t353.length co28] 25 (0, 0)) (viK BK357.out) hb)
       have n14_ := Aside0.mk (below_step viB hb)
       clear HO_345001
       clear HO_346001
       clear HO_347001
       clear HO_358001
       clear HO392
       clear HO396
       clear HO400
       clear HO404
       clear HO409
       clear BK344
       clear BK345
       clear BK346
       clear BK357
       clear HB
       have HO_345001 := n0_
       have HO_346001 := n1_
       have HO_347001 := n2_
       have HO_358001 := n3_
       have HO392 := n4_
       have HO396 := n5_
       have HO400 := n6_
       have HO404 := n7_
       have HO409 := n8_
       have HO414 := n9_
       have BK344 := n10_
       have BK345 := n11_
       have BK346 := n12_
       have BK357 := n13_
       have HB := n14_
       clear n0_ n1_ n2_ n3_ n4_ n5_ n6_ n7_ n8_ n9_ n10_ n11_ n12_ n13_ n14_
       (try clear hb)
       (try clear hb2)
       (try clear hk)
       (try clear hi)
       (try clear ho0)
       obtain ⟨Ao88, co88, eo88⟩ := Kd.R_slice HO414.out
       (first | subst eo88 | (injection eo88 with f1_ f2_ f3_; have f4_ := f1_.symm; have f5_ := f3_.symm; clear f1_ f2_ f3_; subst f4_; subst f5_))
       refine hK.out _ _ ⟨(blk_cell BK344.out 0).trans rfl, (blk_cell BK344.out 1).trans rfl, (blk_cell BK345.out 0).trans rfl, (blk_cell BK345.out 1).trans rfl, (blk_cell BK346.out 0).trans rfl, (blk_cell BK346.out 1).trans rfl, (blk_cell BK357.out 0).trans rfl, (blk_cell BK357.out 1).trans rfl⟩ (fun hHeld => ?_)
       clear hK K
       refine norm_ (a' := ?_) ?_ ?_
       rotate_left
       ·show Act.put _ (some 100) _ = _
        simp only [Act.put, List.setIfInBounds_toArray, List.set_cons_zero, List.set_cons_succ, i64_w, i32_w]
        rfl
       refine one_ (i := 31) (N := some 102) #[true, true, true, true, true, true, true, true, true, true, true, true, true, true, true, true, true, true, true, true, true, true, true, true, true, true, true, true, true, true, true, true, false, false] rfl rfl (one_of HT_.out (by kernel_rfl)) (by decide) (fun K hK => ?_)
       refine goes_ Tryd.func17 (by kernel_rfl) rfl #[.agg #[.int .u64 t411, .slice Ao88 t412.length co88], .agg #[.int .u64 a1_0, .slice A1_1 l1_1.length c1_1]] (by rfl) rfl rfl (by (try simp only [List.map_toArray, List.map_cons, List.map_nil]); first | done | rfl | (simp only [List.length_drop, List.length_take]; rfl)) ?_
       with_reducible refine (stackyardref03_Same.calls kj7 t411 _ _ t412 a1_0 _ _ l1_1 t415 _ ?side1 ?side2 ?side3 ?side4 A73.out).mono ?_
       (case side1 => repeat (first | exact (Kd.R_reads' HO414.out).2.2 | (with_reducible refine Kd.C_alloc ?_ _) | (with_reducible refine Kd.C_drewN ?_ _) | (with_reducible refine Kd.C_drew ?_)))
       (case side2 => exact (Kd.R_reads' HO414.out).2.1)
       (case side3 => repeat (first | exact (Kd.V_reads' HO_345001.out).2.2 | (with_reducible refine Kd.C_alloc ?_ _) | (with_reducible refine Kd.C_drewN ?_ _) | (with_reducible refine Kd.C_drew ?_)))
       (case side4 => exact (Kd.V_reads' HO_345001.out).2.1)
       rintro e w89 ⟨rfl, hb⟩
       refine ⟨_, rfl, ?_⟩
       have n0_ := Aside0.mk (Kd.V_below (viV HO_345001.out) hb)
       have n1_ := Aside0.mk (Kd.V_below (viV HO_346001.out) hb)
       have n2_ := Aside0.mk (Kd.V_below (viV HO_347001.out) hb)
       have n3_ := Aside0.mk (Kd.R_below (viR HO_358001.out) hb)
       have n4_ := Aside0.mk (Kd.R_below (viR HO392.out) hb)
       have n5_ := Aside0.mk (Kd.R_below (viR HO396.out) hb)
       have n6_ := Aside0.mk (Kd.R_below (viR HO400.out) hb)
       have n7_ := Aside0.mk (Kd.R_below (viR HO404.out) hb)
       have n8_ := Aside0.mk (Kd.R_below (viR HO409.out) hb)
       have n9_ := Aside0.mk (Kd.R_below (viR HO414.out) hb)
       have n10_ := Aside0.mk (blk_below (g := gb344) (o := .cells #[.int .u64 a1_0, .slice A1_1 l1_1.length c1_1] 25 (0, 0)) (viK BK344.out) hb)
       have n11_ := Aside0.mk (blk_below (g := gb345) (o := .cells #[.int .u64 a2_0, .slice A2_1 l2_1.length c2_1] 25 (0, 0)) (viK BK345.out) hb)
       have n12_ := Aside0.mk (blk_below (g := gb346) (o := .cells #[.int .u64 a3_0, .slice A3_1 l3_1.length c3_1] 25 (0, 0)) (viK BK346.out) hb)
       have n13_ := Aside0.mk (blk_below (g := gb357) (o := .cells #[.int .u64 t352, .slice Ao28 t353.length co28] 25 (0, 0)) (viK BK357.out) hb)
       have n14_ := Aside0.mk (below_step viB hb)
       clear HO_345001
       clear HO_346001
       clear HO_347001
       clear HO_358001
       clear HO392
       clear HO396
       clear HO400
       clear HO404
       clear HO409
       clear HO414
       clear BK344
       clear BK345
       clear BK346
       clear BK357
       clear HB
       have HO_345001 := n0_
       have HO_346001 := n1_
       have HO_347001 := n2_
       have HO_358001 := n3_
       have HO392 := n4_
       have HO396 := n5_
       have HO400 := n6_
       have HO404 := n7_
       have HO409 := n8_
       have HO414 := n9_
       have BK344 := n10_
       have BK345 := n11_
       have BK346 := n12_
       have BK357 := n13_
       have HB := n14_
       clear n0_ n1_ n2_ n3_ n4_ n5_ n6_ n7_ n8_ n9_ n10_ n11_ n12_ n13_ n14_
       (try clear hb)
       (try clear hb2)
       (try clear hk)
       (try clear hi)
       refine hK.out _ _ ⟨(blk_cell BK344.out 0).trans rfl, (blk_cell BK344.out 1).trans rfl, (blk_cell BK345.out 0).trans rfl, (blk_cell BK345.out 1).trans rfl, (blk_cell BK346.out 0).trans rfl, (blk_cell BK346.out 1).trans rfl, (blk_cell BK357.out 0).trans rfl, (blk_cell BK357.out 1).trans rfl⟩ (fun hHeld => ?_)
       clear hK K
       refine norm_ (a' := ?_) ?_ ?_
       rotate_left
       ·show Act.put _ (some 102) _ = _
        simp only [Act.put, List.setIfInBounds_toArray, List.set_cons_zero, List.set_cons_succ, i64_w, i32_w]
        rfl
       refine pure_ (i := 32) (N := some 103) (v := ?_) (a' := ?_) #[true, true, true, true, true, true, true, true, true, true, true, true, true, true, true, true, true, true, true, true, true, true, true, true, true, true, true, true, true, true, true, true, true, false] rfl rfl (any_of HT_.out (by kernel_rfl)) (fun _ _ _ h => h) (Or.inl ⟨by rfl, ?_⟩) ?_ ?_
       rotate_left
       ·intro w'
        go_simp
        with_reducible rfl
       rotate_left
       ·simp only [Act.put, List.setIfInBounds_toArray, List.set_cons_zero, List.set_cons_succ, i64_w, i32_w]
        rfl
       refine pure_ (i := 33) (N := some 104) (v := ?_) (a' := ?_) #[true, true, true, true, true, true, true, true, true, true, true, true, true, true, true, true, true, true, true, true, true, true, true, true, true, true, true, true, true, true, true, true, true, true] rfl rfl (any_of HT_.out (by kernel_rfl)) (fun _ _ _ h => h) (Or.inl ⟨by rfl, ?_⟩) ?_ ?_
       rotate_left
       ·intro w'
        go_simp
        with_reducible rfl
       rotate_left
       ·simp only [Act.put, List.setIfInBounds_toArray, List.set_cons_zero, List.set_cons_succ, i64_w, i32_w]
        rfl
       refine done_ (done_of HT_.out (by kernel_rfl)) ?_
       try go_wp2
       go_meet
       case rel => exact ⟨_, (!t415), (by first | rfl | (simp; done) | (simp [*]; done)), H', ⟨by have := HJ7.out; first | omega | exact Nat.le_refl _⟩, ⟨by refine viV ?_; exact Kd.V_mono HO_345001.out (fun _ hk => ⟨hk.1.1.1.1.1.1.1, ⟨hk.1.1.1.1.1.1.2.1, ⟨hk.1.1.1.1.1.1.2.2.1, ⟨hk.1.1.1.1.1.1.2.2.2.1, ⟨hk.1.1.1.1.1.1.2.2.2.2.1, hk.1.1.1.1.1.1.2.2.2.2.2⟩⟩⟩⟩⟩)⟩, ⟨by refine viV ?_; exact Kd.V_mono HO_346001.out (fun _ hk => ⟨hk.1.1.1.1.1.1.1, ⟨hk.1.1.1.1.1.1.2.1, ⟨hk.1.1.1.1.1.1.2.2.1, ⟨hk.1.1.1.1.1.1.2.2.2.1, ⟨hk.1.1.1.1.1.1.2.2.2.2.1, hk.1.1.1.1.1.1.2.2.2.2.2⟩⟩⟩⟩⟩)⟩, ⟨by refine viV ?_; exact Kd.V_mono HO_347001.out (fun _ hk => ⟨hk.1.1.1.1.1.1.1, ⟨hk.1.1.1.1.1.1.2.1, ⟨hk.1.1.1.1.1.1.2.2.1, ⟨hk.1.1.1.1.1.1.2.2.2.1, ⟨hk.1.1.1.1.1.1.2.2.2.2.1, hk.1.1.1.1.1.1.2.2.2.2.2⟩⟩⟩⟩⟩)⟩, ⟨by refine viR ?_; exact Kd.R_mono HO_358001.out (fun _ hk => hk.1.1.1.1.1.1)⟩, ⟨by refine viK ?_; exact BK344.out⟩, ⟨by refine viK ?_; exact BK345.out⟩, ⟨by refine viK ?_; exact BK346.out⟩, ⟨by refine viK ?_; exact BK357.out⟩, ⟨viB⟩⟩
      ·replace c71 := Bool.eq_false_iff.mpr c71
       subst c71
       have H1 : (none) = some r := by rw [if_neg (show ¬ (false = true) by decide)] at H; exact H
       clear H
       have H := H1
       clear H1
       exact absurd H (by simp)
     ·replace c68 := Bool.eq_false_iff.mpr c68
      subst c68
      have H1 : (none) = some r := by rw [if_neg (show ¬ (false = true) by decide)] at H; exact H
      clear H
      have H := H1
      clear H1
      exact absurd H (by simp)
    case rest =>
     clear HC62
     try clear c1
     try clear c2
     try clear p2
     try clear c3
     try clear c6
     try clear c7
     try clear c17
     try clear c24
     try clear c68
     try clear c71
     obtain ⟨kq, x104_61, rfl, HA, HJ61, HO_345001, HO_346001, HO_347001, HO_358001, BK344, BK345, BK346, BK357, HB⟩ := hcut
     cases kq with
     | zero => exact absurd HA.out (by simp [stackyardlaw03_FactsRing.j1])
     | succ kj61 =>
      have H := HA.out
      clear HA
      simp only [stackyardlaw03_FactsRing.j1] at H
      by_cases c90 : x104_61 = true
      ·subst c90
       have H1 : (none) = some r := by rw [if_pos rfl] at H; exact H
       clear H
       have H := H1
       clear H1
       exact absurd H (by simp)
      ·replace c90 := Bool.eq_false_iff.mpr c90
       subst c90
       have H1 : ((stackyardlaw03_combine.f kj61 a0 a2_0 l2_1 a3_0 l3_1).bind fun bt416 => ((stackyardlaw03_extend.f kj61 a0 a1_0 l1_1 bt416.1 bt416.2).bind fun bt420 => ((stackyardlaw03_extend.f kj61 a0 a1_0 l1_1 a2_0 l2_1).bind fun bt424 => ((stackyardlaw03_extend.f kj61 a0 a1_0 l1_1 a3_0 l3_1).bind fun bt428 => ((stackyardlaw03_combine.f kj61 a0 bt424.1 bt424.2 bt428.1 bt428.2).bind fun bt432 => ((stackyardref03_Same.f kj61 bt420.1 bt420.2 bt432.1 bt432.2).bind fun t436 => (if t436 = true then ((stackyardlaw03_combine.f kj61 a0 a1_0 l1_1 a2_0 l2_1).bind fun bt437 => ((stackyardlaw03_extend.f kj61 a0 bt437.1 bt437.2 a3_0 l3_1).bind fun bt441 => ((stackyardlaw03_extend.f kj61 a0 a1_0 l1_1 a3_0 l3_1).bind fun bt445 => ((stackyardlaw03_extend.f kj61 a0 a2_0 l2_1 a3_0 l3_1).bind fun bt449 => ((stackyardlaw03_combine.f kj61 a0 bt445.1 bt445.2 bt449.1 bt449.2).bind fun bt453 => ((stackyardref03_Same.f kj61 bt441.1 bt441.2 bt453.1 bt453.2).bind fun t457 => (if t457 = true then ((stackyardlaw03_alive.f kj61).bind fun t458 => (some t458)) else (none)))))))) else (none)))))))) = some r := by rw [if_neg (show ¬ (false = true) by decide)] at H; exact H
       clear H
       have H := H1
       clear H1
       replace H := Option.bind_eq_some_iff.mp H
       obtain ⟨⟨t416, t417⟩, A910, H⟩ := H
       try dsimp only at H
       have A91 := Aside0.mk A910
       clear A910
       replace H := Option.bind_eq_some_iff.mp H
       obtain ⟨⟨t420, t421⟩, A920, H⟩ := H
       try dsimp only at H
       have A92 := Aside0.mk A920
       clear A920
       replace H := Option.bind_eq_some_iff.mp H
       obtain ⟨⟨t424, t425⟩, A930, H⟩ := H
       try dsimp only at H
       have A93 := Aside0.mk A930
       clear A930
       replace H := Option.bind_eq_some_iff.mp H
       obtain ⟨⟨t428, t429⟩, A940, H⟩ := H
       try dsimp only at H
       have A94 := Aside0.mk A940
       clear A940
       replace H := Option.bind_eq_some_iff.mp H
       obtain ⟨⟨t432, t433⟩, A950, H⟩ := H
       try dsimp only at H
       have A95 := Aside0.mk A950
       clear A950
       replace H := Option.bind_eq_some_iff.mp H
       obtain ⟨t436, A960, H⟩ := H
       try dsimp only at H
       have A96 := Aside0.mk A960
       clear A960
       by_cases c97 : t436 = true
       ·subst c97
        have H1 : ((stackyardlaw03_combine.f kj61 a0 a1_0 l1_1 a2_0 l2_1).bind fun bt437 => ((stackyardlaw03_extend.f kj61 a0 bt437.1 bt437.2 a3_0 l3_1).bind fun bt441 => ((stackyardlaw03_extend.f kj61 a0 a1_0 l1_1 a3_0 l3_1).bind fun bt445 => ((stackyardlaw03_extend.f kj61 a0 a2_0 l2_1 a3_0 l3_1).bind fun bt449 => ((stackyardlaw03_combine.f kj61 a0 bt445.1 bt445.2 bt449.1 bt449.2).bind fun bt453 => ((stackyardref03_Same.f kj61 bt441.1 bt441.2 bt453.1 bt453.2).bind fun t457 => (if t457 = true then ((stackyardlaw03_alive.f kj61).bind fun t458 => (some t458)) else (none)))))))) = some r := by rw [if_pos rfl] at H; exact H
        clear H
        have H := H1
        clear H1
        replace H := Option.bind_eq_some_iff.mp H
        obtain ⟨⟨t437, t438⟩, A980, H⟩ := H
        try dsimp only at H
        have A98 := Aside0.mk A980
        clear A980
        replace H := Option.bind_eq_some_iff.mp H
        obtain ⟨⟨t441, t442⟩, A990, H⟩ := H
        try dsimp only at H
        have A99 := Aside0.mk A990
        clear A990
        replace H := Option.bind_eq_some_iff.mp H
        obtain ⟨⟨t445, t446⟩, A1000, H⟩ := H
        try dsimp only at H
        have A100 := Aside0.mk A1000
        clear A1000
        replace H := Option.bind_eq_some_iff.mp H
        obtain ⟨⟨t449, t450⟩, A1010, H⟩ := H
        try dsimp only at H
        have A101 := Aside0.mk A1010
        clear A1010
        replace H := Option.bind_eq_some_iff.mp H
        obtain ⟨⟨t453, t454⟩, A1020, H⟩ := H
        try dsimp only at H
        have A102 := Aside0.mk A1020
        clear A1020
        replace H := Option.bind_eq_some_iff.mp H
        obtain ⟨t457, A1030, H⟩ := H
        try dsimp only at H
        have A103 := Aside0.mk A1030
        clear A1030
        by_cases c104 : t457 = true
        ·subst c104
         have H1 : ((stackyardlaw03_alive.f kj61).bind fun t458 => (some t458)) = some r := by rw [if_pos rfl] at H; exact H
         clear H
         have H := H1
         clear H1
         replace H := Option.bind_eq_some_iff.mp H
         obtain ⟨t458, A1050, H⟩ := H
         try dsimp only at H
         have A105 := Aside0.mk A1050
         clear A1050
         obtain rfl := Option.some.inj H
         try go_wp2
         have n0_ := Aside0.mk (Kd.V_drew HO_345001.out)
         have n1_ := Aside0.mk (Kd.V_drew HO_346001.out)
         have n2_ := Aside0.mk (Kd.V_drew HO_347001.out)
         have n3_ := Aside0.mk (Kd.R_drew HO_358001.out)
         have n4_ := Aside0.mk (blk_drew BK344.out)
         have n5_ := Aside0.mk (blk_drew BK345.out)
         have n6_ := Aside0.mk (blk_drew BK346.out)
         have n7_ := Aside0.mk (blk_drew BK357.out)
         have n8_ := Aside0.mk (below_drew1 HB.out)
         clear HO_345001
         clear HO_346001
         clear HO_347001
         clear HO_358001
         clear BK344
         clear BK345
         clear BK346
         clear BK357
         clear HB
         have HO_345001 := n0_
         have HO_346001 := n1_
         have HO_347001 := n2_
         have HO_358001 := n3_
         have BK344 := n4_
         have BK345 := n5_
         have BK346 := n6_
         have BK357 := n7_
         have HB := n8_
         clear n0_ n1_ n2_ n3_ n4_ n5_ n6_ n7_ n8_
         refine start_ (n := 42) (S := fun w' => w'.cell? ⟨gb344, 0, none⟩ = some (.int .u64 a1_0) ∧ w'.cell? ⟨gb344, 1, none⟩ = some (.slice A1_1 l1_1.length c1_1) ∧ w'.cell? ⟨gb345, 0, none⟩ = some (.int .u64 a2_0) ∧ w'.cell? ⟨gb345, 1, none⟩ = some (.slice A2_1 l2_1.length c2_1) ∧ w'.cell? ⟨gb346, 0, none⟩ = some (.int .u64 a3_0) ∧ w'.cell? ⟨gb346, 1, none⟩ = some (.slice A3_1 l3_1.length c3_1)) (ds := []) #[false, false, false, false, false, false, false, false, false, false, false, false, false, false, false, false, false, false, false, false, false, false, false, false, false, false, false, false, false, false, false, false, false, false, false, false, false, false, false, false, false, false] (by kernel_rfl) rfl rfl ⟨(blk_cell BK344.out 0).trans rfl, (blk_cell BK344.out 1).trans rfl, (blk_cell BK345.out 0).trans rfl, (blk_cell BK345.out 1).trans rfl, (blk_cell BK346.out 0).trans rfl, (blk_cell BK346.out 1).trans rfl⟩ (fun hHeld => ?_); refine with_tabW stackyardlaw03_FactsRing.tab9 stackyardlaw03_FactsRing.bits9 (fun HT_ HW_ => ?_)
         generalize wc.drew = w106 at HO_345001 HO_346001 HO_347001 HO_358001 BK344 BK345 BK346 BK357 HB hHeld ⊢
         refine pure_ (i := 0) (N := some 105) (v := ?_) (a' := ?_) #[true, false, false, false, false, false, false, false, false, false, false, false, false, false, false, false, false, false, false, false, false, false, false, false, false, false, false, false, false, false, false, false, false, false, false, false, false, false, false, false, false, false] rfl rfl (any_of HT_.out (by kernel_rfl)) (fun _ _ _ h => h) (Or.inl ⟨by rfl, ?_⟩) ?_ ?_
         rotate_left
         ·intro w'
          go_simp
          with_reducible rfl
         rotate_left
         ·simp only [Act.put, List.setIfInBounds_toArray, List.set_cons_zero, List.set_cons_succ, i64_w, i32_w]
          rfl
         refine pure_ (i := 2) (N := some 107) (v := ?_) (a' := ?_) #[true, false, true, false, false, false, false, false, false, false, false, false, false, false, false, false, false, false, false, false, false, false, false, false, false, false, false, false, false, false, false, false, false, false, false, false, false, false, false, false, false, false] rfl rfl (any_of HT_.out (by kernel_rfl)) (fun _ _ _ h => h) (Or.inl ⟨by rfl, ?_⟩) ?_ ?_
         rotate_left
         ·intro w'
          go_simp
          with_reducible rfl
         rotate_left
         ·simp only [Act.put, List.setIfInBounds_toArray, List.set_cons_zero, List.set_cons_succ, i64_w, i32_w]
          rfl
         refine pure_ (i := 7) (N := some 112) (v := ?_) (a' := ?_) #[true, false, true, false, false, false, false, true, false, false, false, false, false, false, false, false, false, false, false, false, false, false, false, false, false, false, false, false, false, false, false, false, false, false, false, false, false, false, false, false, false, false] rfl rfl (any_of HT_.out (by kernel_rfl)) (fun _ _ _ h => h) (Or.inl ⟨by rfl, ?_⟩) ?_ ?_
         rotate_left
         ·intro w'
          go_simp
          with_reducible rfl
         rotate_left
         ·simp only [Act.put, List.setIfInBounds_toArray, List.set_cons_zero, List.set_cons_succ, i64_w, i32_w]
          rfl
         refine pure_ (i := 8) (N := some 113) (v := ?_) (a' := ?_) #[true, false, true, false, false, false, false, true, true, false, false, false, false, false, false, false, false, false, false, false, false, false, false, false, false, false, false, false, false, false, false, false, false, false, false, false, false, false, false, false, false, false] rfl rfl (any_of HT_.out (by kernel_rfl)) (fun _ _ _ h => h) (Or.inl ⟨by rfl, ?_⟩) ?_ ?_
         rotate_left
         ·intro w'
          go_simp
          with_reducible rfl
         rotate_left
         ·simp only [Act.put, List.setIfInBounds_toArray, List.set_cons_zero, List.set_cons_succ, i64_w, i32_w]
          rfl
         refine pure_ (i := 12) (N := some 117) (v := ?_) (a' := ?_) #[true, false, true, false, false, false, false, true, true, false, false, false, true, false, false, false, false, false, false, false, false, false, false, false, false, false, false, false, false, false, false, false, false, false, false, false, false, false, false, false, false, false] rfl rfl (any_of HT_.out (by kernel_rfl)) (fun _ _ _ h => h) (Or.inl ⟨by rfl, ?_⟩) ?_ ?_
         rotate_left
         ·intro w'
          go_simp
          with_reducible rfl
         rotate_left
         ·simp only [Act.put, List.setIfInBounds_toArray, List.set_cons_zero, List.set_cons_succ, i64_w, i32_w]
          rfl
         refine take_ (i := 1) (N := some 106) (v := ?_) (a' := ?_) #[true, true, true, false, false, false, false, true, true, false, false, false, true, false, false, false, false, false, false, false, false, false, false, false, false, false, false, false, false, false, false, false, false, false, false, false, false, false, false, false, false, false] rfl rfl (take_ofW HT_.out HW_.out (by kernel_rfl)) (fun _ _ _ h => h) (Or.inl ⟨by rfl, ?_⟩) hHeld ?_ ?_
         rotate_left
         ·rintro w' ⟨s0, s1, s2, s3, s4, s5⟩
          go_simp
          with_reducible rfl
         rotate_left
         ·simp only [Act.put, List.setIfInBounds_toArray, List.set_cons_zero, List.set_cons_succ, i64_w, i32_w]
          rfl
         refine take_ (i := 3) (N := some 108) (v := ?_) (a' := ?_) #[true, true, true, true, false, false, false, true, true, false, false, false, true, false, false, false, false, false, false, false, false, false, false, false, false, false, false, false, false, false, false, false, false, false, false, false, false, false, false, false, false, false] rfl rfl (take_ofW HT_.out HW_.out (by kernel_rfl)) (fun _ _ _ h => h) (Or.inl ⟨by rfl, ?_⟩) hHeld ?_ ?_
         rotate_left
         ·rintro w' ⟨s0, s1, s2, s3, s4, s5⟩
          go_simp
          with_reducible rfl
         rotate_left
         ·simp only [Act.put, List.setIfInBounds_toArray, List.set_cons_zero, List.set_cons_succ, i64_w, i32_w]
          rfl
         refine take_ (i := 4) (N := some 109) (v := ?_) (a' := ?_) #[true, true, true, true, true, false, false, true, true, false, false, false, true, false, false, false, false, false, false, false, false, false, false, false, false, false, false, false, false, false, false, false, false, false, false, false, false, false, false, false, false, false] rfl rfl (take_ofW HT_.out HW_.out (by kernel_rfl)) (fun _ _ _ h => h) (Or.inl ⟨by rfl, ?_⟩) hHeld ?_ ?_
         rotate_left
         ·rintro w' ⟨s0, s1, s2, s3, s4, s5⟩
          go_simp
          with_reducible rfl
         rotate_left
         ·simp only [Act.put, List.setIfInBounds_toArray, List.set_cons_zero, List.set_cons_succ, i64_w, i32_w]
          rfl
         refine take_ (i := 9) (N := some 114) (v := ?_) (a' := ?_) #[true, true, true, true, true, false, false, true, true, true, false, false, true, false, false, false, false, false, false, false, false, false, false, false, false, false, false, false, false, false, false, false, false, false, false, false, false, false, false, false, false, false] rfl rfl (take_ofW HT_.out HW_.out (by kernel_rfl)) (fun _ _ _ h => h) (Or.inl ⟨by rfl, ?_⟩) hHeld ?_ ?_
         rotate_left
         ·rintro w' ⟨s0, s1, s2, s3, s4, s5⟩
          go_simp
          with_reducible rfl
         rotate_left
         ·simp only [Act.put, List.setIfInBounds_toArray, List.set_cons_zero, List.set_cons_succ, i64_w, i32_w]
          rfl
         refine take_ (i := 10) (N := some 115) (v := ?_) (a' := ?_) #[true, true, true, true, true, false, false, true, true, true, true, false, true, false, false, false, false, false, false, false, false, false, false, false, false, false, false, false, false, false, false, false, false, false, false, false, false, false, false, false, false, false] rfl rfl (take_ofW HT_.out HW_.out (by kernel_rfl)) (fun _ _ _ h => h) (Or.inl ⟨by rfl, ?_⟩) hHeld ?_ ?_
         rotate_left
         ·rintro w' ⟨s0, s1, s2, s3, s4, s5⟩
          go_simp
          with_reducible rfl
         rotate_left
         ·simp only [Act.put, List.setIfInBounds_toArray, List.set_cons_zero, List.set_cons_succ, i64_w, i32_w]
          rfl
         refine take_ (i := 13) (N := some 118) (v := ?_) (a' := ?_) #[true, true, true, true, true, false, false, true, true, true, true, false, true, true, false, false, false, false, false, false, false, false, false, false, false, false, false, false, false, false, false, false, false, false, false, false, false, false, false, false, false, false] rfl rfl (take_ofW HT_.out HW_.out (by kernel_rfl)) (fun _ _ _ h => h) (Or.inl ⟨by rfl, ?_⟩) hHeld ?_ ?_
         rotate_left
         ·rintro w' ⟨s0, s1, s2, s3, s4, s5⟩
          go_simp
          with_reducible rfl
         rotate_left
         ·simp only [Act.put, List.setIfInBounds_toArray, List.set_cons_zero, List.set_cons_succ, i64_w, i32_w]
          rfl
         refine take_ (i := 14) (N := some 119) (v := ?_) (a' := ?_) #[true, true, true, true, true, false, false, true, true, true, true, false, true, true, true, false, false, false, false, false, false, false, false, false, false, false, false, false, false, false, false, false, false, false, false, false, false, false, false, false, false, false] rfl rfl (take_ofW HT_.out HW_.out (by kernel_rfl)) (fun _ _ _ h => h) (Or.inl ⟨by rfl, ?_⟩) hHeld ?_ ?_
         rotate_left
         ·rintro w' ⟨s0, s1, s2, s3, s4, s5⟩
          go_simp
          with_reducible rfl
         rotate_left
         ·simp only [Act.put, List.setIfInBounds_toArray, List.set_cons_zero, List.set_cons_succ, i64_w, i32_w]
          rfl
         refine one_ (i := 5) (N := some 110) #[true, true, true, true, true, true, false, true, true, true, true, false, true, true, true, false, false, false, false, false, false, false, false, false, false, false, false, false, false, false, false, false, false, false, false, false, false, false, false, false, false, false] rfl rfl (one_of HT_.out (by kernel_rfl)) (by decide) (fun K hK => ?_)
         refine goes_ Tryd.func23 (by kernel_rfl) rfl #[.int .i64 a0, .agg #[.int .u64 a2_0, .slice A2_1 l2_1.length c2_1], .agg #[.int .u64 a3_0, .slice A3_1 l3_1.length c3_1]] (by rfl) rfl rfl (by (try simp only [List.map_toArray, List.map_cons, List.map_nil]); first | done | rfl | (simp only [List.length_drop, List.length_take]; rfl)) ?_
         with_reducible refine (stackyardlaw03_combine.calls kj61 a0 a2_0 _ _ l2_1 a3_0 _ _ l3_1 t416 t417 _ ?side1 ?side2 ?side3 ?side4 A91.out).mono ?_
         (case side1 => repeat (first | exact (Kd.V_reads' HO_346001.out).2.2 | (with_reducible refine Kd.C_alloc ?_ _) | (with_reducible refine Kd.C_drewN ?_ _) | (with_reducible refine Kd.C_drew ?_)))
         (case side2 => exact (Kd.V_reads' HO_346001.out).2.1)
         (case side3 => repeat (first | exact (Kd.V_reads' HO_347001.out).2.2 | (with_reducible refine Kd.C_alloc ?_ _) | (with_reducible refine Kd.C_drewN ?_ _) | (with_reducible refine Kd.C_drew ?_)))
         (case side4 => exact (Kd.V_reads' HO_347001.out).2.1)
         rintro e w107 ⟨v418, rfl, ho0, hb⟩
         refine ⟨_, rfl, ?_⟩
         have n0_ := Aside0.mk (Kd.V_elder' (viV HO_345001.out) (Kd.R_base ho0) hb)
         have n1_ := Aside0.mk (Kd.V_elder' (viV HO_346001.out) (Kd.R_base ho0) hb)
         have n2_ := Aside0.mk (Kd.V_elder' (viV HO_347001.out) (Kd.R_base ho0) hb)
         have n3_ := Aside0.mk (Kd.R_elder' (viR HO_358001.out) (Kd.R_base ho0) hb)
         have n4_ := Aside0.mk (Kd.R_lower (Kd.R_new' (Kd.R_newM (M := fun k_ => (w.heap.size ≤ k_)) ho0 (below_size viB) (fun k_ h_ => h_)) (Kd.R_lt (viR HO_358001.out))) (below_size viB))
         have n5_ := Aside0.mk (blk_below (g := gb344) (o := .cells #[.int .u64 a1_0, .slice A1_1 l1_1.length c1_1] 25 (0, 0)) (viK BK344.out) hb)
         have n6_ := Aside0.mk (blk_below (g := gb345) (o := .cells #[.int .u64 a2_0, .slice A2_1 l2_1.length c2_1] 25 (0, 0)) (viK BK345.out) hb)
         have n7_ := Aside0.mk (blk_below (g := gb346) (o := .cells #[.int .u64 a3_0, .slice A3_1 l3_1.length c3_1] 25 (0, 0)) (viK BK346.out) hb)
         have n8_ := Aside0.mk (blk_below (g := gb357) (o := .cells #[.int .u64 t352, .slice Ao28 t353.length co28] 25 (0, 0)) (viK BK357.out) hb)
         have n9_ := Aside0.mk (below_step viB hb)
         clear HO_345001
         clear HO_346001
         clear HO_347001
         clear HO_358001
         clear BK344
         clear BK345
         clear BK346
         clear BK357
         clear HB
         have HO_345001 := n0_
         have HO_346001 := n1_
         have HO_347001 := n2_
         have HO_358001 := n3_
         have HO419 := n4_
         have BK344 := n5_
         have BK345 := n6_
         have BK346 := n7_
         have BK357 := n8_
         have HB := n9_
         clear n0_ n1_ n2_ n3_ n4_ n5_ n6_ n7_ n8_ n9_
         (try clear hb)
         (try clear hb2)
         (try clear hk)
         (try clear hi)
         (try clear ho0)
         obtain ⟨Ao108, co108, eo108⟩ := Kd.R_slice HO419.out
         (first | subst eo108 | (injection eo108 with f1_ f2_ f3_; have f4_ := f1_.symm; have f5_ := f3_.symm; clear f1_ f2_ f3_; subst f4_; subst f5_))
         refine hK.out _ _ ⟨(blk_cell BK344.out 0).trans rfl, (blk_cell BK344.out 1).trans rfl, (blk_cell BK345.out 0).trans rfl, (blk_cell BK345.out 1).trans rfl, (blk_cell BK346.out 0).trans rfl, (blk_cell BK346.out 1).trans rfl⟩ (fun hHeld => ?_)
         clear hK K
         refine norm_ (a' := ?_) ?_ ?_
         rotate_left
         ·show Act.put _ (some 110) _ = _
          simp only [Act.put, List.setIfInBounds_toArray, List.set_cons_zero, List.set_cons_succ, i64_w, i32_w]
          rfl
         refine one_ (i := 6) (N := some 111) #[true, true, true, true, true, true, true, true, true, true, true, false, true, true, true, false, false, false, false, false, false, false, false, false, false, false, false, false, false, false, false, false, false, false, false, false, false, false, false, false, false, false] rfl rfl (one_of HT_.out (by kernel_rfl)) (by decide) (fun K hK => ?_)
         refine goes_ Tryd.func24 (by kernel_rfl) rfl #[.int .i64 a0, .agg #[.int .u64 a1_0, .slice A1_1 l1_1.length c1_1], .agg #[.int .u64 t416, .slice Ao108 t417.length co108]] (by rfl) rfl rfl (by (try simp only [List.map_toArray, List.map_cons, List.map_nil]); first | done | rfl | (simp only [List.length_drop, List.length_take]; rfl)) ?_
         with_reducible refine (stackyardlaw03_extend.calls kj61 a0 a1_0 _ _ l1_1 t416 _ _ t417 t420 t421 _ ?side1 ?side2 ?side3 ?side4 A92.out viDB).mono ?_
         (case side1 => repeat (first | exact (Kd.V_reads' HO_345001.out).2.2 | (with_reducible refine Kd.C_alloc ?_ _) | (with_reducible refine Kd.C_drewN ?_ _) | (with_reducible refine Kd.C_drew ?_)))
         (case side2 => exact (Kd.V_reads' HO_345001.out).2.1)
         (case side3 => repeat (first | exact (Kd.R_reads' HO419.out).2.2 | (with_reducible refine Kd.C_alloc ?_ _) | (with_reducible refine Kd.C_drewN ?_ _) | (with_reducible refine Kd.C_drew ?_)))
         (case side4 => exact (Kd.R_reads' HO419.out).2.1)
         rintro e w109 ⟨v422, rfl, ho0, hb⟩
         refine ⟨_, rfl, ?_⟩
         have n0_ := Aside0.mk (Kd.V_elder' (viV HO_345001.out) (Kd.R_base ho0) hb)
         have n1_ := Aside0.mk (Kd.V_elder' (viV HO_346001.out) (Kd.R_base ho0) hb)
         have n2_ := Aside0.mk (Kd.V_elder' (viV HO_347001.out) (Kd.R_base ho0) hb)
         have n3_ := Aside0.mk (Kd.R_elder' (viR HO_358001.out) (Kd.R_base ho0) hb)
         have n4_ := Aside0.mk (Kd.R_elder' (viR HO419.out) (Kd.R_base ho0) hb)
         have n5_ := Aside0.mk (Kd.R_lower (Kd.R_new' (Kd.R_new' (Kd.R_newM (M := fun k_ => (w.heap.size ≤ k_)) ho0 (below_size viB) (fun k_ h_ => h_)) (Kd.R_lt (viR HO_358001.out))) (Kd.R_lt (viR HO419.out))) (below_size viB))
         have n6_ := Aside0.mk (blk_below (g := gb344) (o := .cells #[.int .u64 a1_0, .slice A1_1 l1_1.length c1_1] 25 (0, 0)) (viK BK344.out) hb)
         have n7_ := Aside0.mk (blk_below (g := gb345) (o := .cells #[.int .u64 a2_0, .slice A2_1 l2_1.length c2_1] 25 (0, 0)) (viK BK345.out) hb)
         have n8_ := Aside0.mk (blk_below (g := gb346) (o := .cells #[.int .u64 a3_0, .slice A3_1 l3_1.length c3_1] 25 (0, 0)) (viK BK346.out) hb)
         have n9_ := Aside0.mk (blk_below (g := gb357) (o := .cells #[.int .u64 t352, .slice Ao28 t353.length co28] 25 (0, 0)) (viK BK357.out) hb)
         have n10_ := Aside0.mk (below_step viB hb)
         clear HO_345001
         clear HO_346001
         clear HO_347001
         clear HO_358001
         clear HO419
         clear BK344
         clear BK345
         clear BK346
         clear BK357
         clear HB
         have HO_345001 := n0_
         have HO_346001 := n1_
         have HO_347001 := n2_
         have HO_358001 := n3_
         have HO419 := n4_
         have HO423 := n5_
         have BK344 := n6_
         have BK345 := n7_
         have BK346 := n8_
         have BK357 := n9_
         have HB := n10_
         clear n0_ n1_ n2_ n3_ n4_ n5_ n6_ n7_ n8_ n9_ n10_
         (try clear hb)
         (try clear hb2)
         (try clear hk)
         (try clear hi)
         (try clear ho0)
         refine hK.out _ _ ⟨(blk_cell BK344.out 0).trans rfl, (blk_cell BK344.out 1).trans rfl, (blk_cell BK345.out 0).trans rfl, (blk_cell BK345.out 1).trans rfl, (blk_cell BK346.out 0).trans rfl, (blk_cell BK346.out 1).trans rfl⟩ (fun hHeld => ?_)
         clear hK K
         refine norm_ (a' := ?_) ?_ ?_
         rotate_left
         ·show Act.put _ (some 111) _ = _
          simp only [Act.put, List.setIfInBounds_toArray, List.set_cons_zero, List.set_cons_succ, i64_w, i32_w]
          rfl
         refine one_ (i := 11) (N := some 116) #[true, true, true, true, true, true, true, true, true, true, true, true, true, true, true, false, false, false, false, false, false, false, false, false, false, false, false, false, false, false, false, false, false, false, false, false, false, false, false, false, false, false] rfl rfl (one_of HT_.out (by kernel_rfl)) (by decide) (fun K hK => ?_)
         refine goes_ Tryd.func24 (by kernel_rfl) rfl #[.int .i64 a0, .agg #[.int .u64 a1_0, .slice A1_1 l1_1.length c1_1], .agg #[.int .u64 a2_0, .slice A2_1 l2_1.length c2_1]] (by rfl) rfl rfl (by (try simp only [List.map_toArray, List.map_cons, List.map_nil]); first | done | rfl | (simp only [List.length_drop, List.length_take]; rfl)) ?_
         with_reducible refine (stackyardlaw03_extend.calls kj61 a0 a1_0 _ _ l1_1 a2_0 _ _ l2_1 t424 t425 _ ?side1 ?side2 ?side3 ?side4 A93.out viDB).mono ?_
         (case side1 => repeat (first | exact (Kd.V_reads' HO_345001.out).2.2 | (with_reducible refine Kd.C_alloc ?_ _) | (with_reducible refine Kd.C_drewN ?_ _) | (with_reducible refine Kd.C_drew ?_)))
         (case side2 => exact (Kd.V_reads' HO_345001.out).2.1)
         (case side3 => repeat (first | exact (Kd.V_reads' HO_346001.out).2.2 | (with_reducible refine Kd.C_alloc ?_ _) | (with_reducible refine Kd.C_drewN ?_ _) | (with_reducible refine Kd.C_drew ?_)))
         (case side4 => exact (Kd.V_reads' HO_346001.out).2.1)
         rintro e w110 ⟨v426, rfl, ho0, hb⟩
         refine ⟨_, rfl, ?_⟩
         have n0_ := Aside0.mk (Kd.V_elder' (viV HO_345001.out) (Kd.R_base ho0) hb)
         have n1_ := Aside0.mk (Kd.V_elder' (viV HO_346001.out) (Kd.R_base ho0) hb)
         have n2_ := Aside0.mk (Kd.V_elder' (viV HO_347001.out) (Kd.R_base ho0) hb)
         have n3_ := Aside0.mk (Kd.R_elder' (viR HO_358001.out) (Kd.R_base ho0) hb)
         have n4_ := Aside0.mk (Kd.R_elder' (viR HO419.out) (Kd.R_base ho0) hb)
         have n5_ := Aside0.mk (Kd.R_elder' (viR HO423.out) (Kd.R_base ho0) hb)
         have n6_ := Aside0.mk (Kd.R_lower (Kd.R_new' (Kd.R_new' (Kd.R_new' (Kd.R_newM (M := fun k_ => (w.heap.size ≤ k_)) ho0 (below_size viB) (fun k_ h_ => h_)) (Kd.R_lt (viR HO_358001.out))) (Kd.R_lt (viR HO419.out))) (Kd.R_lt (viR HO423.out))) (below_size viB))
         have n7_ := Aside0.mk (blk_below (g := gb344) (o := .cells #[.int .u64 a1_0, .slice A1_1 l1_1.length c1_1] 25 (0, 0)) (viK BK344.out) hb)
         have n8_ := Aside0.mk (blk_below (g := gb345) (o := .cells #[.int .u64 a2_0, .slice A2_1 l2_1.length c2_1] 25 (0, 0)) (viK BK345.out) hb)
         have n9_ := Aside0.mk (blk_below (g := gb346) (o := .cells #[.int .u64 a3_0, .slice A3_1 l3_1.length c3_1] 25 (0, 0)) (viK BK346.out) hb)
         have n10_ := Aside0.mk (blk_below (g := gb357) (o := .cells #[.int .u64 t352, .slice Ao28 t353.length co28] 25 (0, 0)) (viK BK357.out) hb)
         have n11_ := Aside0.mk (below_step viB hb)
         clear HO_345001
         clear HO_346001
         clear HO_347001
         clear HO_358001
         clear HO419
         clear HO423
         clear BK344
         clear BK345
         clear BK346
         clear BK357
         clear HB
         have HO_345001 := n0_
         have HO_346001 := n1_
         have HO_347001 := n2_
         have HO_358001 := n3_
         have HO419 := n4_
         have HO423 := n5_
         have HO427 := n6_
         have BK344 := n7_
         have BK345 := n8_
         have BK346 := n9_
         have BK357 := n10_
         have HB := n11_
         clear n0_ n1_ n2_ n3_ n4_ n5_ n6_ n7_ n8_ n9_ n10_ n11_
         (try clear hb)
         (try clear hb2)
         (try clear hk)
         (try clear hi)
         (try clear ho0)
         refine hK.out _ _ ⟨(blk_cell BK344.out 0).trans rfl, (blk_cell BK344.out 1).trans rfl, (blk_cell BK345.out 0).trans rfl, (blk_cell BK345.out 1).trans rfl, (blk_cell BK346.out 0).trans rfl, (blk_cell BK346.out 1).trans rfl⟩ (fun hHeld => ?_)
         clear hK K
         refine norm_ (a' := ?_) ?_ ?_
         rotate_left
         ·show Act.put _ (some 116) _ = _
          simp only [Act.put, List.setIfInBounds_toArray, List.set_cons_zero, List.set_cons_succ, i64_w, i32_w]
          rfl
         refine one_ (i := 15) (N := some 120) #[true, true, true, true, true, true, true, true, true, true, true, true, true, true, true, true, false, false, false, false, false, false, false, false, false, false, false, false, false, false, false, false, false, false, false, false, false, false, false, false, false, false] rfl rfl (one_of HT_.out (by kernel_rfl)) (by decide) (fun K hK => ?_)
         refine goes_ Tryd.func24 (by kernel_rfl) rfl #[.int .i64 a0, .agg #[.int .u64 a1_0, .slice A1_1 l1_1.length c1_1], .agg #[.int .u64 a3_0, .slice A3_1 l3_1.length c3_1]] (by rfl) rfl rfl (by (try simp only [List.map_toArray, List.map_cons, List.map_nil]); first | done | rfl | (simp only [List.length_drop, List.length_take]; rfl)) ?_
         with_reducible refine (stackyardlaw03_extend.calls kj61 a0 a1_0 _ _ l1_1 a3_0 _ _ l3_1 t428 t429 _ ?side1 ?side2 ?side3 ?side4 A94.out viDB).mono ?_
         (case side1 => repeat (first | exact (Kd.V_reads' HO_345001.out).2.2 | (with_reducible refine Kd.C_alloc ?_ _) | (with_reducible refine Kd.C_drewN ?_ _) | (with_reducible refine Kd.C_drew ?_)))
         (case side2 => exact (Kd.V_reads' HO_345001.out).2.1)
         (case side3 => repeat (first | exact (Kd.V_reads' HO_347001.out).2.2 | (with_reducible refine Kd.C_alloc ?_ _) | (with_reducible refine Kd.C_drewN ?_ _) | (with_reducible refine Kd.C_drew ?_)))
         (case side4 => exact (Kd.V_reads' HO_347001.out).2.1)
         rintro e w111 ⟨v430, rfl, ho0, hb⟩
         refine ⟨_, rfl, ?_⟩
         have n0_ := Aside0.mk (Kd.V_elder' (viV HO_345001.out) (Kd.R_base ho0) hb)
         have n1_ := Aside0.mk (Kd.V_elder' (viV HO_346001.out) (Kd.R_base ho0) hb)
         have n2_ := Aside0.mk (Kd.V_elder' (viV HO_347001.out) (Kd.R_base ho0) hb)
         have n3_ := Aside0.mk (Kd.R_elder' (viR HO_358001.out) (Kd.R_base ho0) hb)
         have n4_ := Aside0.mk (Kd.R_elder' (viR HO419.out) (Kd.R_base ho0) hb)
         have n5_ := Aside0.mk (Kd.R_elder' (viR HO423.out) (Kd.R_base ho0) hb)
         have n6_ := Aside0.mk (Kd.R_elder' (viR HO427.out) (Kd.R_base ho0) hb)
         have n7_ := Aside0.mk (Kd.R_lower (Kd.R_new' (Kd.R_new' (Kd.R_new' (Kd.R_new' (Kd.R_newM (M := fun k_ => (w.heap.size ≤ k_)) ho0 (below_size viB) (fun k_ h_ => h_)) (Kd.R_lt (viR HO_358001.out))) (Kd.R_lt (viR HO419.out))) (Kd.R_lt (viR HO423.out))) (Kd.R_lt (viR HO427.out))) (below_size viB))
         have n8_ := Aside0.mk (blk_below (g := gb344) (o := .cells #[.int .u64 a1_0, .slice A1_1 l1_1.length c1_1] 25 (0, 0)) (viK BK344.out) hb)
         have n9_ := Aside0.mk (blk_below (g := gb345) (o := .cells #[.int .u64 a2_0, .slice A2_1 l2_1.length c2_1] 25 (0, 0)) (viK BK345.out) hb)
         have n10_ := Aside0.mk (blk_below (g := gb346) (o := .cells #[.int .u64 a3_0, .slice A3_1 l3_1.length c3_1] 25 (0, 0)) (viK BK346.out) hb)
         have n11_ := Aside0.mk (blk_below (g := gb357) (o := .cells #[.int .u64 t352, .slice Ao28 t353.length co28] 25 (0, 0)) (viK BK357.out) hb)
         have n12_ := Aside0.mk (below_step viB hb)
         clear HO_345001
         clear HO_346001
         clear HO_347001
         clear HO_358001
         clear HO419
         clear HO423
         clear HO427
         clear BK344
         clear BK345
         clear BK346
         clear BK357
         clear HB
         have HO_345001 := n0_
         have HO_346001 := n1_
         have HO_347001 := n2_
         have HO_358001 := n3_
         have HO419 := n4_
         have HO423 := n5_
         have HO427 := n6_
         have HO431 := n7_
         have BK344 := n8_
         have BK345 := n9_
         have BK346 := n10_
         have BK357 := n11_
         have HB := n12_
         clear n0_ n1_ n2_ n3_ n4_ n5_ n6_ n7_ n8_ n9_ n10_ n11_ n12_
         (try clear hb)
         (try clear hb2)
         (try clear hk)
         (try clear hi)
         (try clear ho0)
         obtain ⟨Ao112, co112, eo112⟩ := Kd.R_slice HO427.out
         (first | subst eo112 | (injection eo112 with f1_ f2_ f3_; have f4_ := f1_.symm; have f5_ := f3_.symm; clear f1_ f2_ f3_; subst f4_; subst f5_))
         obtain ⟨Ao113, co113, eo113⟩ := Kd.R_slice HO431.out
         (first | subst eo113 | (injection eo113 with f1_ f2_ f3_; have f4_ := f1_.symm; have f5_ := f3_.symm; clear f1_ f2_ f3_; subst f4_; subst f5_))
         refine hK.out _ _ ⟨(blk_cell BK344.out 0).trans rfl, (blk_cell BK344.out 1).trans rfl, (blk_cell BK345.out 0).trans rfl, (blk_cell BK345.out 1).trans rfl, (blk_cell BK346.out 0).trans rfl, (blk_cell BK346.out 1).trans rfl⟩ (fun hHeld => ?_)
         clear hK K
         refine norm_ (a' := ?_) ?_ ?_
         rotate_left
         ·show Act.put _ (some 120) _ = _
          simp only [Act.put, List.setIfInBounds_toArray, List.set_cons_zero, List.set_cons_succ, i64_w, i32_w]
          rfl
         refine one_ (i := 16) (N := some 121) #[true, true, true, true, true, true, true, true, true, true, true, true, true, true, true, true, true, false, false, false, false, false, false, false, false, false, false, false, false, false, false, false, false, false, false, false, false, false, false, false, false, false] rfl rfl (one_of HT_.out (by kernel_rfl)) (by decide) (fun K hK => ?_)
         refine goes_ Tryd.func23 (by kernel_rfl) rfl #[.int .i64 a0, .agg #[.int .u64 t424, .slice Ao112 t425.length co112], .agg #[.int .u64 t428, .slice Ao113 t429.length co113]] (by rfl) rfl rfl (by (try simp only [List.map_toArray, List.map_cons, List.map_nil]); first | done | rfl | (simp only [List.length_drop, List.length_take]; rfl)) ?_
         with_reducible refine (stackyardlaw03_combine.calls kj61 a0 t424 _ _ t425 t428 _ _ t429 t432 t433 _ ?side1 ?side2 ?side3 ?side4 A95.out).mono ?_
         (case side1 => repeat (first | exact (Kd.R_reads' HO427.out).2.2 | (with_reducible refine Kd.C_alloc ?_ _) | (with_reducible refine Kd.C_drewN ?_ _) | (with_reducible refine Kd.C_drew ?_)))
         (case side2 => exact (Kd.R_reads' HO427.out).2.1)
         (case side3 => repeat (first | exact (Kd.R_reads' HO431.out).2.2 | (with_reducible refine Kd.C_alloc ?_ _) | (with_reducible refine Kd.C_drewN ?_ _) | (with_reducible refine Kd.C_drew ?_)))
         (case side4 => exact (Kd.R_reads' HO431.out).2.1)
         rintro e w114 ⟨v434, rfl, ho0, hb⟩
         refine ⟨_, rfl, ?_⟩
         have n0_ := Aside0.mk (Kd.V_elder' (viV HO_345001.out) (Kd.R_base ho0) hb)
         have n1_ := Aside0.mk (Kd.V_elder' (viV HO_346001.out) (Kd.R_base ho0) hb)
         have n2_ := Aside0.mk (Kd.V_elder' (viV HO_347001.out) (Kd.R_base ho0) hb)
         have n3_ := Aside0.mk (Kd.R_elder' (viR HO_358001.out) (Kd.R_base ho0) hb)
         have n4_ := Aside0.mk (Kd.R_elder' (viR HO419.out) (Kd.R_base ho0) hb)
         have n5_ := Aside0.mk (Kd.R_elder' (viR HO423.out) (Kd.R_base ho0) hb)
         have n6_ := Aside0.mk (Kd.R_elder' (viR HO427.out) (Kd.R_base ho0) hb)
         have n7_ := Aside0.mk (Kd.R_elder' (viR HO431.out) (Kd.R_base ho0) hb)
         have n8_ := Aside0.mk (Kd.R_lower (Kd.R_new' (Kd.R_new' (Kd.R_new' (Kd.R_new' (Kd.R_new' (Kd.R_newM (M := fun k_ => (w.heap.size ≤ k_)) ho0 (below_size viB) (fun k_ h_ => h_)) (Kd.R_lt (viR HO_358001.out))) (Kd.R_lt (viR HO419.out))) (Kd.R_lt (viR HO423.out))) (Kd.R_lt (viR HO427.out))) (Kd.R_lt (viR HO431.out))) (below_size viB))
         have n9_ := Aside0.mk (blk_below (g := gb344) (o := .cells #[.int .u64 a1_0, .slice A1_1 l1_1.length c1_1] 25 (0, 0)) (viK BK344.out) hb)
         have n10_ := Aside0.mk (blk_below (g := gb345) (o := .cells #[.int .u64 a2_0, .slice A2_1 l2_1.length c2_1] 25 (0, 0)) (viK BK345.out) hb)
         have n11_ := Aside0.mk (blk_below (g := gb346) (o := .cells #[.int .u64 a3_0, .slice A3_1 l3_1.length c3_1] 25 (0, 0)) (viK BK346.out) hb)
         have n12_ := Aside0.mk (blk_below (g := gb357) (o := .cells #[.int .u64 t352, .slice Ao28 t353.length co28] 25 (0, 0)) (viK BK357.out) hb)
         have n13_ := Aside0.mk (below_step viB hb)
         clear HO_345001
         clear HO_346001
         clear HO_347001
         clear HO_358001
         clear HO419
         clear HO423
         clear HO427
         clear HO431
         clear BK344
         clear BK345
         clear BK346
         clear BK357
         clear HB
         have HO_345001 := n0_
         have HO_346001 := n1_
         have HO_347001 := n2_
         have HO_358001 := n3_
         have HO419 := n4_
         have HO423 := n5_
         have HO427 := n6_
         have HO431 := n7_
         have HO435 := n8_
         have BK344 := n9_
         have BK345 := n10_
         have BK346 := n11_
         have BK357 := n12_
         have HB := n13_
         clear n0_ n1_ n2_ n3_ n4_ n5_ n6_ n7_ n8_ n9_ n10_ n11_ n12_ n13_
         (try clear hb)
         (try clear hb2)
         (try clear hk)
         (try clear hi)
         (try clear ho0)
         obtain ⟨Ao115, co115, eo115⟩ := Kd.R_slice HO423.out
         (first | subst eo115 | (injection eo115 with f1_ f2_ f3_; have f4_ := f1_.symm; have f5_ := f3_.symm; clear f1_ f2_ f3_; subst f4_; subst f5_))
         obtain ⟨Ao116, co116, eo116⟩ := Kd.R_slice HO435.out
         (first | subst eo116 | (injection eo116 with f1_ f2_ f3_; have f4_ := f1_.symm; have f5_ := f3_.symm; clear f1_ f2_ f3_; subst f4_; subst f5_))
         refine hK.out _ _ ⟨(blk_cell BK344.out 0).trans rfl, (blk_cell BK344.out 1).trans rfl, (blk_cell BK345.out 0).trans rfl, (blk_cell BK345.out 1).trans rfl, (blk_cell BK346.out 0).trans rfl, (blk_cell BK346.out 1).trans rfl⟩ (fun hHeld => ?_)
         clear hK K
         refine norm_ (a' := ?_) ?_ ?_
         rotate_left
         ·show Act.put _ (some 121) _ = _
          simp only [Act.put, List.setIfInBounds_toArray, List.set_cons_zero, List.set_cons_succ, i64_w, i32_w]
          rfl
         refine one_ (i := 17) (N := some 122) #[true, true, true, true, true, true, true, true, true, true, true, true, true, true, true, true, true, true, false, false, false, false, false, false, false, false, false, false, false, false, false, false, false, false, false, false, false, false, false, false, false, false] rfl rfl (one_of HT_.out (by kernel_rfl)) (by decide) (fun K hK => ?_)
         refine goes_ Tryd.func17 (by kernel_rfl) rfl #[.agg #[.int .u64 t420, .slice Ao115 t421.length co115], .agg #[.int .u64 t432, .slice Ao116 t433.length co116]] (by rfl) rfl rfl (by (try simp only [List.map_toArray, List.map_cons, List.map_nil]); first | done | rfl | (simp only [List.length_drop, List.length_take]; rfl)) ?_
         with_reducible refine (stackyardref03_Same.calls kj61 t420 _ _ t421 t432 _ _ t433 true _ ?side1 ?side2 ?side3 ?side4 A96.out).mono ?_
         (case side1 => repeat (first | exact (Kd.R_reads' HO423.out).2.2 | (with_reducible refine Kd.C_alloc ?_ _) | (with_reducible refine Kd.C_drewN ?_ _) | (with_reducible refine Kd.C_drew ?_)))
         (case side2 => exact (Kd.R_reads' HO423.out).2.1)
         (case side3 => repeat (first | exact (Kd.R_reads' HO435.out).2.2 | (with_reducible refine Kd.C_alloc ?_ _) | (with_reducible refine Kd.C_drewN ?_ _) | (with_reducible refine Kd.C_drew ?_)))
         (case side4 => exact (Kd.R_reads' HO435.out).2.1)
         rintro e w117 ⟨rfl, hb⟩
         refine ⟨_, rfl, ?_⟩
         have n0_ := Aside0.mk (Kd.V_below (viV HO_345001.out) hb)
         have n1_ := Aside0.mk (Kd.V_below (viV HO_346001.out) hb)
         have n2_ := Aside0.mk (Kd.V_below (viV HO_347001.out) hb)
         have n3_ := Aside0.mk (Kd.R_below (viR HO_358001.out) hb)
         have n4_ := Aside0.mk (Kd.R_below (viR HO419.out) hb)
         have n5_ := Aside0.mk (Kd.R_below (viR HO423.out) hb)
         have n6_ := Aside0.mk (Kd.R_below (viR HO427.out) hb)
         have n7_ := Aside0.mk (Kd.R_below (viR HO431.out) hb)
         have n8_ := Aside0.mk (Kd.R_below (viR HO435.out) hb)
         have n9_ := Aside0.mk (blk_below (g := gb344) (o := .cells #[.int .u64 a1_0, .slice A1_1 l1_1.length c1_1] 25 (0, 0)) (viK BK344.out) hb)
         have n10_ := Aside0.mk (blk_below (g := gb345) (o := .cells #[.int .u64 a2_0, .slice A2_1 l2_1.length c2_1] 25 (0, 0)) (viK BK345.out) hb)
         have n11_ := Aside0.mk (blk_below (g := gb346) (o := .cells #[.int .u64 a3_0, .slice A3_1 l3_1.length c3_1] 25 (0, 0)) (viK BK346.out) hb)
         have n12_ := Aside0.mk (blk_below (g := gb357) (o := .cells #[.int .u64 t352, .slice Ao28 t353.length co28] 25 (0, 0)) (viK BK357.out) hb)
         have n13_ := Aside0.mk (below_step viB hb)
         clear HO_345001
         clear HO_346001
         clear HO_347001
         clear HO_358001
         clear HO419
         clear HO423
         clear HO427
         clear HO431
         clear HO435
         clear BK344
         clear BK345
         clear BK346
         clear BK357
         clear HB
         have HO_345001 := n0_
         have HO_346001 := n1_
         have HO_347001 := n2_
         have HO_358001 := n3_
         have HO419 := n4_
         have HO423 := n5_
         have HO427 := n6_
         have HO431 := n7_
         have HO435 := n8_
         have BK344 := n9_
         have BK345 := n10_
         have BK346 := n11_
         have BK357 := n12_
         have HB := n13_
         clear n0_ n1_ n2_ n3_ n4_ n5_ n6_ n7_ n8_ n9_ n10_ n11_ n12_ n13_
         (try clear hb)
         (try clear hb2)
         (try clear hk)
         (try clear hi)
         refine hK.out _ _ ⟨(blk_cell BK344.out 0).trans rfl, (blk_cell BK344.out 1).trans rfl, (blk_cell BK345.out 0).trans rfl, (blk_cell BK345.out 1).trans rfl, (blk_cell BK346.out 0).trans rfl, (blk_cell BK346.out 1).trans rfl⟩ (fun hHeld => ?_)
         clear hK K
         refine norm_ (a' := ?_) ?_ ?_
         rotate_left
         ·show Act.put _ (some 122) _ = _
          simp only [Act.put, List.setIfInBounds_toArray, List.set_cons_zero, List.set_cons_succ, i64_w, i32_w]
          rfl
         refine pure_ (i := 18) (N := some 123) (v := ?_) (a' := ?_) #[true, true, true, true, true, true, true, true, true, true, true, true, true, true, true, true, true, true, true, false, false, false, false, false, false, false, false, false, false, false, false, false, false, false, false, false, false, false, false, false, false, false] rfl rfl (any_of HT_.out (by kernel_rfl)) (fun _ _ _ h => h) (Or.inl ⟨by rfl, ?_⟩) ?_ ?_
         rotate_left
         ·intro w'
          go_simp
          with_reducible rfl
         rotate_left
         ·simp only [Act.put, List.setIfInBounds_toArray, List.set_cons_zero, List.set_cons_succ, i64_w, i32_w]
          rfl
         refine pure_ (i := 19) (N := some 124) (v := ?_) (a' := ?_) #[true, true, true, true, true, true, true, true, true, true, true, true, true, true, true, true, true, true, true, true, false, false, false, false, false, false, false, false, false, false, false, false, false, false, false, false, false, false, false, false, false, false] rfl rfl (any_of HT_.out (by kernel_rfl)) (fun _ _ _ h => h) (Or.inl ⟨by rfl, ?_⟩) ?_ ?_
         rotate_left
         ·intro w'
          go_simp
          with_reducible rfl
         rotate_left
         ·simp only [Act.put, List.setIfInBounds_toArray, List.set_cons_zero, List.set_cons_succ, i64_w, i32_w]
          rfl
         refine pure_ (i := 20) (N := some 125) (v := ?_) (a' := ?_) #[true, true, true, true, true, true, true, true, true, true, true, true, true, true, true, true, true, true, true, true, true, false, false, false, false, false, false, false, false, false, false, false, false, false, false, false, false, false, false, false, false, false] rfl rfl (any_of HT_.out (by kernel_rfl)) (fun _ _ _ h => h) (Or.inl ⟨by rfl, ?_⟩) ?_ ?_
         rotate_left
         ·intro w'
          go_simp
          with_reducible rfl
         rotate_left
         ·simp only [Act.put, List.setIfInBounds_toArray, List.set_cons_zero, List.set_cons_succ, i64_w, i32_w]
          rfl
         refine pure_ (i := 26) (N := some 131) (v := ?_) (a' := ?_) #[true, true, true, true, true, true, true, true, true, true, true, true, true, true, true, true, true, true, true, true, true, false, false, false, false, false, true, false, false, false, false, false, false, false, false, false, false, false, false, false, false, false] rfl rfl (any_of HT_.out (by kernel_rfl)) (fun _ _ _ h => h) (Or.inl ⟨by rfl, ?_⟩) ?_ ?_
         rotate_left
         ·intro w'
          go_simp
          with_reducible rfl
         rotate_left
         ·simp only [Act.put, List.setIfInBounds_toArray, List.set_cons_zero, List.set_cons_succ, i64_w, i32_w]
          rfl
         refine pure_ (i := 27) (N := some 132) (v := ?_) (a' := ?_) #[true, true, true, true, true, true, true, true, true, true, true, true, true, true, true, true, true, true, true, true, true, false, false, false, false, false, true, true, false, false, false, false, false, false, false, false, false, false, false, false, false, false] rfl rfl (any_of HT_.out (by kernel_rfl)) (fun _ _ _ h => h) (Or.inl ⟨by rfl, ?_⟩) ?_ ?_
         rotate_left
         ·intro w'
          go_simp
          with_reducible rfl
         rotate_left
         ·simp only [Act.put, List.setIfInBounds_toArray, List.set_cons_zero, List.set_cons_succ, i64_w, i32_w]
          rfl
         refine pure_ (i := 31) (N := some 136) (v := ?_) (a' := ?_) #[true, true, true, true, true, true, true, true, true, true, true, true, true, true, true, true, true, true, true, true, true, false, false, false, false, false, true, true, false, false, false, true, false, false, false, false, false, false, false, false, false, false] rfl rfl (any_of HT_.out (by kernel_rfl)) (fun _ _ _ h => h) (Or.inl ⟨by rfl, ?_⟩) ?_ ?_
         rotate_left
         ·intro w'
          go_simp
          with_reducible rfl
         rotate_left
         ·simp only [Act.put, List.setIfInBounds_toArray, List.set_cons_zero, List.set_cons_succ, i64_w, i32_w]
          rfl
         refine take_ (i := 21) (N := some 126) (v := ?_) (a' := ?_) #[true, true, true, true, true, true, true, true, true, true, true, true, true, true, true, true, true, true, true, true, true, true, false, false, false, false, true, true, false, false, false, true, false, false, false, false, false, false, false, false, false, false] rfl rfl (take_ofW HT_.out HW_.out (by kernel_rfl)) (fun _ _ _ h => h) (Or.inl ⟨by rfl, ?_⟩) hHeld ?_ ?_
         rotate_left
         ·rintro w' ⟨s0, s1, s2, s3, s4, s5⟩
          go_simp
          with_reducible rfl
         rotate_left
         ·simp only [Act.put, List.setIfInBounds_toArray, List.set_cons_zero, List.set_cons_succ, i64_w, i32_w]
          rfl
         refine take_ (i := 22) (N := some 127) (v := ?_) (a' := ?_) #[true, true, true, true, true, true, true, true, true, true, true, true, true, true, true, true, true, true, true, true, true, true, true, false, false, false, true, true, false, false, false, true, false, false, false, false, false, false, false, false, false, false] rfl rfl (take_ofW HT_.out HW_.out (by kernel_rfl)) (fun _ _ _ h => h) (Or.inl ⟨by rfl, ?_⟩) hHeld ?_ ?_
         rotate_left
         ·rintro w' ⟨s0, s1, s2, s3, s4, s5⟩
          go_simp
          with_reducible rfl
         rotate_left
         ·simp only [Act.put, List.setIfInBounds_toArray, List.set_cons_zero, List.set_cons_succ, i64_w, i32_w]
          rfl
         refine take_ (i := 24) (N := some 129) (v := ?_) (a' := ?_) #[true, true, true, true, true, true, true, true, true, true, true, true, true, true, true, true, true, true, true, true, true, true, true, false, true, false, true, true, false, false, false, true, false, false, false, false, false, false, false, false, false, false] rfl rfl (take_ofW HT_.out HW_.out (by kernel_rfl)) (fun _ _ _ h => h) (Or.inl ⟨by rfl, ?_⟩) hHeld ?_ ?_
         rotate_left
         ·rintro w' ⟨s0, s1, s2, s3, s4, s5⟩
          go_simp
          with_reducible rfl
         rotate_left
         ·simp only [Act.put, List.setIfInBounds_toArray, List.set_cons_zero, List.set_cons_succ, i64_w, i32_w]
          rfl
         refine take_ (i := 28) (N := some 133) (v := ?_) (a' := ?_) #[true, true, true, true, true, true, true, true, true, true, true, true, true, true, true, true, true, true, true, true, true, true, true, false, true, false, true, true, true, false, false, true, false, false, false, false, false, false, false, false, false, false] rfl rfl (take_ofW HT_.out HW_.out (by kernel_rfl)) (fun _ _ _ h => h) (Or.inl ⟨by rfl, ?_⟩) hHeld ?_ ?_
         rotate_left
         ·rintro w' ⟨s0, s1, s2, s3, s4, s5⟩
          go_simp
          with_reducible rfl
         rotate_left
         ·simp only [Act.put, List.setIfInBounds_toArray, List.set_cons_zero, List.set_cons_succ, i64_w, i32_w]
          rfl
         refine take_ (i := 29) (N := some 134) (v := ?_) (a' := ?_) #[true, true, true, true, true, true, true, true, true, true, true, true, true, true, true, true, true, true, true, true, true, true, true, false, true, false, true, true, true, true, false, true, false, false, false, false, false, false, false, false, false, false] rfl rfl (take_ofW HT_.out HW_.out (by kernel_rfl)) (fun _ _ _ h => h) (Or.inl ⟨by rfl, ?_⟩) hHeld ?_ ?_
         rotate_left
         ·rintro w' ⟨s0, s1, s2, s3, s4, s5⟩
          go_simp
          with_reducible rfl
         rotate_left
         ·simp only [Act.put, List.setIfInBounds_toArray, List.set_cons_zero, List.set_cons_succ, i64_w, i32_w]
          rfl
         refine take_ (i := 32) (N := some 137) (v := ?_) (a' := ?_) #[true, true, true, true, true, true, true, true, true, true, true, true, true, true, true, true, true, true, true, true, true, true, true, false, true, false, true, true, true, true, false, true, true, false, false, false, false, false, false, false, false, false] rfl rfl (take_ofW HT_.out HW_.out (by kernel_rfl)) (fun _ _ _ h => h) (Or.inl ⟨by rfl, ?_⟩) hHeld ?_ ?_
         rotate_left
         ·rintro w' ⟨s0, s1, s2, s3, s4, s5⟩
          go_simp
          with_reducible rfl
         rotate_left
         ·simp only [Act.put, List.setIfInBounds_toArray, List.set_cons_zero, List.set_cons_succ, i64_w, i32_w]
          rfl
         refine take_ (i := 33) (N := some 138) (v := ?_) (a' := ?_) #[true, true, true, true, true, true, true, true, true, true, true, true, true, true, true, true, true, true, true, true, true, true, true, false, true, false, true, true, true, true, false, true, true, true, false, false, false, false, false, false, false, false] rfl rfl (take_ofW HT_.out HW_.out (by kernel_rfl)) (fun _ _ _ h => h) (Or.inl ⟨by rfl, ?_⟩) hHeld ?_ ?_
         rotate_left
         ·rintro w' ⟨s0, s1, s2, s3, s4, s5⟩
          go_simp
          with_reducible rfl
         rotate_left
         ·simp only [Act.put, List.setIfInBounds_toArray, List.set_cons_zero, List.set_cons_succ, i64_w, i32_w]
          rfl
         refine one_ (i := 23) (N := some 128) #[true, true, true, true, true, true, true, true, true, true, true, true, true, true, true, true, true, true, true, true, true, true, true, true, true, false, true, true, true, true, false, true, true, true, false, false, false, false, false, false, false, false] rfl rfl (one_of HT_.out (by kernel_rfl)) (by decide) (fun K hK => ?_)
         refine goes_ Tryd.func23 (by kernel_rfl) rfl #[.int .i64 a0, .agg #[.int .u64 a1_0, .slice A1_1 l1_1.length c1_1], .agg #[.int .u64 a2_0, .slice A2_1 l2_1.length c2_1]] (by rfl) rfl rfl (by (try simp only [List.map_toArray, List.map_cons, List.map_nil]); first | done | rfl | (simp only [List.length_drop, List.length_take]; rfl)) ?_
         with_reducible refine (stackyardlaw03_combine.calls kj61 a0 a1_0 _ _ l1_1 a2_0 _ _ l2_1 t437 t438 _ ?side1 ?side2 ?side3 ?side4 A98.out).mono ?_
         (case side1 => repeat (first | exact (Kd.V_reads' HO_345001.out).2.2 | (with_reducible refine Kd.C_alloc ?_ _) | (with_reducible refine Kd.C_drewN ?_ _) | (with_reducible refine Kd.C_drew ?_)))
         (case side2 => exact (Kd.V_reads' HO_345001.out).2.1)
         (case side3 => repeat (first | exact (Kd.V_reads' HO_346001.out).2.2 | (with_reducible refine Kd.C_alloc ?_ _) | (with_reducible refine Kd.C_drewN ?_ _) | (with_reducible refine Kd.C_drew ?_)))
         (case side4 => exact (Kd.V_reads' HO_346001.out).2.1)
         rintro e w118 ⟨v439, rfl, ho0, hb⟩
         refine ⟨_, rfl, ?_⟩
         have n0_ := Aside0.mk (Kd.V_elder' (viV HO_345001.out) (Kd.R_base ho0) hb)
         have n1_ := Aside0.mk (Kd.V_elder' (viV HO_346001.out) (Kd.R_base ho0) hb)
         have n2_ := Aside0.mk (Kd.V_elder' (viV HO_347001.out) (Kd.R_base ho0) hb)
         have n3_ := Aside0.mk (Kd.R_elder' (viR HO_358001.out) (Kd.R_base ho0) hb)
         have n4_ := Aside0.mk (Kd.R_elder' (viR HO419.out) (Kd.R_base ho0) hb)
         have n5_ := Aside0.mk (Kd.R_elder' (viR HO423.out) (Kd.R_base ho0) hb)
         have n6_ := Aside0.mk (Kd.R_elder' (viR HO427.out) (Kd.R_base ho0) hb)
         have n7_ := Aside0.mk (Kd.R_elder' (viR HO431.out) (Kd.R_base ho0) hb)
         have n8_ := Aside0.mk (Kd.R_elder' (viR HO435.out) (Kd.R_base ho0) hb)
         have n9_ := Aside0.mk (Kd.R_lower (Kd.R_new' (Kd.R_new' (Kd.R_new' (Kd.R_new' (Kd.R_new' (Kd.R_new' (Kd.R_newM (M := fun k_ => (w.heap.size ≤ k_)) ho0 (below_size viB) (fun k_ h_ => h_)) (Kd.R_lt (viR HO_358001.out))) (Kd.R_lt (viR HO419.out))) (Kd.R_lt (viR HO423.out))) (Kd.R_lt (viR HO427.out))) (Kd.R_lt (viR HO431.out))) (Kd.R_lt (viR HO435.out))) (below_size viB))
         have n10_ := Aside0.mk (blk_below (g := gb344) (o := .cells #[.int .u64 a1_0, .slice A1_1 l1_1.length c1_1] 25 (0, 0)) (viK BK344.out) hb)
         have n11_ := Aside0.mk (blk_below (g := gb345) (o := .cells #[.int .u64 a2_0, .slice A2_1 l2_1.length c2_1] 25 (0, 0)) (viK BK345.out) hb)
         have n12_ := Aside0.mk (blk_below (g := gb346) (o := .cells #[.int .u64 a3_0, .slice A3_1 l3_1.length c3_1] 25 (0, 0)) (viK BK346.out) hb)
         have n13_ := Aside0.mk (blk_below (g := gb357) (o := .cells #[.int .u64 t352, .slice Ao28 t353.length co28] 25 (0, 0)) (viK BK357.out) hb)
         have n14_ := Aside0.mk (below_step viB hb)
         clear HO_345001
         clear HO_346001
         clear HO_347001
         clear HO_358001
         clear HO419
         clear HO423
         clear HO427
         clear HO431
         clear HO435
         clear BK344
         clear BK345
         clear BK346
         clear BK357
         clear HB
         have HO_345001 := n0_
         have HO_346001 := n1_
         have HO_347001 := n2_
         have HO_358001 := n3_
         have HO419 := n4_
         have HO423 := n5_
         have HO427 := n6_
         have HO431 := n7_
         have HO435 := n8_
         have HO440 := n9_
         have BK344 := n10_
         have BK345 := n11_
         have BK346 := n12_
         have BK357 := n13_
         have HB := n14_
         clear n0_ n1_ n2_ n3_ n4_ n5_ n6_ n7_ n8_ n9_ n10_ n11_ n12_ n13_ n14_
         (try clear hb)
         (try clear hb2)
         (try clear hk)
         (try clear hi)
         (try clear ho0)
         obtain ⟨Ao119, co119, eo119⟩ := Kd.R_slice HO440.out
         (first | subst eo119 | (injection eo119 with f1_ f2_ f3_; have f4_ := f1_.symm; have f5_ := f3_.symm; clear f1_ f2_ f3_; subst f4_; subst f5_))
         refine hK.out _ _ ⟨(blk_cell BK344.out 0).trans rfl, (blk_cell BK344.out 1).trans rfl, (blk_cell BK345.out 0).trans rfl, (blk_cell BK345.out 1).trans rfl, (blk_cell BK346.out 0).trans rfl, (blk_cell BK346.out 1).trans rfl⟩ (fun hHeld => ?_)
         clear hK K
         refine norm_ (a' := ?_) ?_ ?_
         rotate_left
         ·show Act.put _ (some 128) _ = _
          simp only [Act.put, List.setIfInBounds_toArray, List.set_cons_zero, List.set_cons_succ, i64_w, i32_w]
          rfl
         refine one_ (i := 25) (N := some 130) #[true, true, true, true, true, true, true, true, true, true, true, true, true, true, true, true, true, true, true, true, true, true, true, true, true, true, true, true, true, true, false, true, true, true, false, false, false, false, false, false, false, false] rfl rfl (one_of HT_.out (by kernel_rfl)) (by decide) (fun K hK => ?_)
         refine goes_ Tryd.func24 (by kernel_rfl) rfl #[.int .i64 a0, .agg #[.int .u64 t437, .slice Ao119 t438.length co119], .agg #[.int .u64 a3_0, .slice A3_1 l3_1.length c3_1]] (by rfl) rfl rfl (by (try simp only [List.map_toArray, List.map_cons, List.map_nil]); first | done | rfl | (simp only [List.length_drop, List.length_take]; rfl)) ?_
         with_reducible refine (stackyardlaw03_extend.calls kj61 a0 t437 _ _ t438 a3_0 _ _ l3_1 t441 t442 _ ?side1 ?side2 ?side3 ?side4 A99.out viDB).mono ?_
         (case side1 => repeat (first | exact (Kd.R_reads' HO440.out).2.2 | (with_reducible refine Kd.C_alloc ?_ _) | (with_reducible refine Kd.C_drewN ?_ _) | (with_reducible refine Kd.C_drew ?_)))
         (case side2 => exact (Kd.R_reads' HO440.out).2.1)
         (case side3 => repeat (first | exact (Kd.V_reads' HO_347001.out).2.2 | (with_reducible refine Kd.C_alloc ?_ _) | (with_reducible refine Kd.C_drewN ?_ _) | (with_reducible refine Kd.C_drew ?_)))
         (case side4 => exact (Kd.V_reads' HO_347001.out).2.1)
         rintro e w120 ⟨v443, rfl, ho0, hb⟩
         refine ⟨_, rfl, ?_⟩
         have n0_ := Aside0.mk (Kd.V_elder' (viV HO_345001.out) (Kd.R_base ho0) hb)
         have n1_ := Aside0.mk (Kd.V_elder' (viV HO_346001.out) (Kd.R_base ho0) hb)
         have n2_ := Aside0.mk (Kd.V_elder' (viV HO_347001.out) (Kd.R_base ho0) hb)
         have n3_ := Aside0.mk (Kd.R_elder' (viR HO_358001.out) (Kd.R_base ho0) hb)
         have n4_ := Aside0.mk (Kd.R_elder' (viR HO419.out) (Kd.R_base ho0) hb)
         have n5_ := Aside0.mk (Kd.R_elder' (viR HO423.out) (Kd.R_base ho0) hb)
         have n6_ := Aside0.mk (Kd.R_elder' (viR HO427.out) (Kd.R_base ho0) hb)
         have n7_ := Aside0.mk (Kd.R_elder' (viR HO431.out) (Kd.R_base ho0) hb)
         have n8_ := Aside0.mk (Kd.R_elder' (viR HO435.out) (Kd.R_base ho0) hb)
         have n9_ := Aside0.mk (Kd.R_elder' (viR HO440.out) (Kd.R_base ho0) hb)
         have n10_ := Aside0.mk (Kd.R_lower (Kd.R_new' (Kd.R_new' (Kd.R_new' (Kd.R_new' (Kd.R_new' (Kd.R_new' (Kd.R_new' (Kd.R_newM (M := fun k_ => (w.heap.size ≤ k_)) ho0 (below_size viB) (fun k_ h_ => h_)) (Kd.R_lt (viR HO_358001.out))) (Kd.R_lt (viR HO419.out))) (Kd.R_lt (viR HO423.out))) (Kd.R_lt (viR HO427.out))) (Kd.R_lt (viR HO431.out))) (Kd.R_lt (viR HO435.out))) (Kd.R_lt (viR HO440.out))) (below_size viB))
         have n11_ := Aside0.mk (blk_below (g := gb344) (o := .cells #[.int .u64 a1_0, .slice A1_1 l1_1.length c1_1] 25 (0, 0)) (viK BK344.out) hb)
         have n12_ := Aside0.mk (blk_below (g := gb345) (o := .cells #[.int .u64 a2_0, .slice A2_1 l2_1.length c2_1] 25 (0, 0)) (viK BK345.out) hb)
         have n13_ := Aside0.mk (blk_below (g := gb346) (o := .cells #[.int .u64 a3_0, .slice A3_1 l3_1.length c3_1] 25 (0, 0)) (viK BK346.out) hb)
         have n14_ := Aside0.mk (blk_below (g := gb357) (o := .cells #[.int .u64 t352, .slice Ao28 t353.length co28] 25 (0, 0)) (viK BK357.out) hb)
         have n15_ := Aside0.mk (below_step viB hb)
         clear HO_345001
         clear HO_346001
         clear HO_347001
         clear HO_358001
         clear HO419
         clear HO423
         clear HO427
         clear HO431
         clear HO435
         clear HO440
         clear BK344
         clear BK345
         clear BK346
         clear BK357
         clear HB
         have HO_345001 := n0_
         have HO_346001 := n1_
         have HO_347001 := n2_
         have HO_358001 := n3_
         have HO419 := n4_
         have HO423 := n5_
         have HO427 := n6_
         have HO431 := n7_
         have HO435 := n8_
         have HO440 := n9_
         have HO444 := n10_
         have BK344 := n11_
         have BK345 := n12_
         have BK346 := n13_
         have BK357 := n14_
         have HB := n15_
         clear n0_ n1_ n2_ n3_ n4_ n5_ n6_ n7_ n8_ n9_ n10_ n11_ n12_ n13_ n14_ n15_
         (try clear hb)
         (try clear hb2)
         (try clear hk)
         (try clear hi)
         (try clear ho0)
         refine hK.out _ _ ⟨(blk_cell BK344.out 0).trans rfl, (blk_cell BK344.out 1).trans rfl, (blk_cell BK345.out 0).trans rfl, (blk_cell BK345.out 1).trans rfl, (blk_cell BK346.out 0).trans rfl, (blk_cell BK346.out 1).trans rfl⟩ (fun hHeld => ?_)
         clear hK K
         refine norm_ (a' := ?_) ?_ ?_
         rotate_left
         ·show Act.put _ (some 130) _ = _
          simp only [Act.put, List.setIfInBounds_toArray, List.set_cons_zero, List.set_cons_succ, i64_w, i32_w]
          rfl
         refine one_ (i := 30) (N := some 135) #[true, true, true, true, true, true, true, true, true, true, true, true, true, true, true, true, true, true, true, true, true, true, true, true, true, true, true, true, true, true, true, true, true, true, false, false, false, false, false, false, false, false] rfl rfl (one_of HT_.out (by kernel_rfl)) (by decide) (fun K hK => ?_)
         refine goes_ Tryd.func24 (by kernel_rfl) rfl #[.int .i64 a0, .agg #[.int .u64 a1_0, .slice A1_1 l1_1.length c1_1], .agg #[.int .u64 a3_0, .slice A3_1 l3_1.length c3_1]] (by rfl) rfl rfl (by (try simp only [List.map_toArray, List.map_cons, List.map_nil]); first | done | rfl | (simp only [List.length_drop, List.length_take]; rfl)) ?_
         with_reducible refine (stackyardlaw03_extend.calls kj61 a0 a1_0 _ _ l1_1 a3_0 _ _ l3_1 t445 t446 _ ?side1 ?side2 ?side3 ?side4 A100.out viDB).mono ?_
         (case side1 => repeat (first | exact (Kd.V_reads' HO_345001.out).2.2 | (with_reducible refine Kd.C_alloc ?_ _) | (with_reducible refine Kd.C_drewN ?_ _) | (with_reducible refine Kd.C_drew ?_)))
         (case side2 => exact (Kd.V_reads' HO_345001.out).2.1)
         (case side3 => repeat (first | exact (Kd.V_reads' HO_347001.out).2.2 | (with_reducible refine Kd.C_alloc ?_ _) | (with_reducible refine Kd.C_drewN ?_ _) | (with_reducible refine Kd.C_drew ?_)))
         (case side4 => exact (Kd.V_reads' HO_347001.out).2.1)
         rintro e w121 ⟨v447, rfl, ho0, hb⟩
         refine ⟨_, rfl, ?_⟩
         have n0_ := Aside0.mk (Kd.V_elder' (viV HO_345001.out) (Kd.R_base ho0) hb)
         have n1_ := Aside0.mk (Kd.V_elder' (viV HO_346001.out) (Kd.R_base ho0) hb)
         have n2_ := Aside0.mk (Kd.V_elder' (viV HO_347001.out) (Kd.R_base ho0) hb)
         have n3_ := Aside0.mk (Kd.R_elder' (viR HO_358001.out) (Kd.R_base ho0) hb)
         have n4_ := Aside0.mk (Kd.R_elder' (viR HO419.out) (Kd.R_base ho0) hb)
         have n5_ := Aside0.mk (Kd.R_elder' (viR HO423.out) (Kd.R_base ho0) hb)
         have n6_ := Aside0.mk (Kd.R_elder' (viR HO427.out) (Kd.R_base ho0) hb)
         have n7_ := Aside0.mk (Kd.R_elder' (viR HO431.out) (Kd.R_base ho0) hb)
         have n8_ := Aside0.mk (Kd.R_elder' (viR HO435.out) (Kd.R_base ho0) hb)
         have n9_ := Aside0.mk (Kd.R_elder' (viR HO440.out) (Kd.R_base ho0) hb)
         have n10_ := Aside0.mk (Kd.R_elder' (viR HO444.out) (Kd.R_base ho0) hb)
         have n11_ := Aside0.mk (Kd.R_lower (Kd.R_new' (Kd.R_new' (Kd.R_new' (Kd.R_new' (Kd.R_new' (Kd.R_new' (Kd.R_new' (Kd.R_new' (Kd.R_newM (M := fun k_ => (w.heap.size ≤ k_)) ho0 (below_size viB) (fun k_ h_ => h_)) (Kd.R_lt (viR HO_358001.out))) (Kd.R_lt (viR HO419.out))) (Kd.R_lt (viR HO423.out))) (Kd.R_lt (viR HO427.out))) (Kd.R_lt (viR HO431.out))) (Kd.R_lt (viR HO435.out))) (Kd.R_lt (viR HO440.out))) (Kd.R_lt (viR HO444.out))) (below_size viB))
         have n12_ := Aside0.mk (blk_below (g := gb344) (o := .cells #[.int .u64 a1_0, .slice A1_1 l1_1.length c1_1] 25 (0, 0)) (viK BK344.out) hb)
         have n13_ := Aside0.mk (blk_below (g := gb345) (o := .cells #[.int .u64 a2_0, .slice A2_1 l2_1.length c2_1] 25 (0, 0)) (viK BK345.out) hb)
         have n14_ := Aside0.mk (blk_below (g := gb346) (o := .cells #[.int .u64 a3_0, .slice A3_1 l3_1.length c3_1] 25 (0, 0)) (viK BK346.out) hb)
         have n15_ := Aside0.mk (blk_below (g := gb357) (o := .cells #[.int .u64 t352, .slice Ao28 t353.length co28] 25 (0, 0)) (viK BK357.out) hb)
         have n16_ := Aside0.mk (below_step viB hb)
         clear HO_345001
         clear HO_346001
         clear HO_347001
         clear HO_358001
         clear HO419
         clear HO423
         clear HO427
         clear HO431
         clear HO435
         clear HO440
         clear HO444
         clear BK344
         clear BK345
         clear BK346
         clear BK357
         clear HB
         have HO_345001 := n0_
         have HO_346001 := n1_
         have HO_347001 := n2_
         have HO_358001 := n3_
         have HO419 := n4_
         have HO423 := n5_
         have HO427 := n6_
         have HO431 := n7_
         have HO435 := n8_
         have HO440 := n9_
         have HO444 := n10_
         have HO448 := n11_
         have BK344 := n12_
         have BK345 := n13_
         have BK346 := n14_
         have BK357 := n15_
         have HB := n16_
         clear n0_ n1_ n2_ n3_ n4_ n5_ n6_ n7_ n8_ n9_ n10_ n11_ n12_ n13_ n14_ n15_ n16_
         (try clear hb)
         (try clear hb2)
         (try clear hk)
         (try clear hi)
         (try clear ho0)
         refine hK.out _ _ ⟨(blk_cell BK344.out 0).trans rfl, (blk_cell BK344.out 1).trans rfl, (blk_cell BK345.out 0).trans rfl, (blk_cell BK345.out 1).trans rfl, (blk_cell BK346.out 0).trans rfl, (blk_cell BK346.out 1).trans rfl⟩ (fun hHeld => ?_)
         clear hK K
         refine norm_ (a' := ?_) ?_ ?_
         rotate_left
         ·show Act.put _ (some 135) _ = _
          simp only [Act.put, List.setIfInBounds_toArray, List.set_cons_zero, List.set_cons_succ, i64_w, i32_w]
          rfl
         refine one_ (i := 34) (N := some 139) #[true, true, true, true, true, true, true, true, true, true, true, true, true, true, true, true, true, true, true, true, true, true, true, true, true, true, true, true, true, true, true, true, true, true, true, false, false, false, false, false, false, false] rfl rfl (one_of HT_.out (by kernel_rfl)) (by decide) (fun K hK => ?_)
         refine goes_ Tryd.func24 (by kernel_rfl) rfl #[.int .i64 a0, .agg #[.int .u64 a2_0, .slice A2_1 l2_1.length c2_1], .agg #[.int .u64 a3_0, .slice A3_1 l3_1.length c3_1]] (by rfl) rfl rfl (by (try simp only [List.map_toArray, List.map_cons, List.map_nil]); first | done | rfl | (simp only [List.length_drop, List.length_take]; rfl)) ?_
         with_reducible refine (stackyardlaw03_extend.calls kj61 a0 a2_0 _ _ l2_1 a3_0 _ _ l3_1 t449 t450 _ ?side1 ?side2 ?side3 ?side4 A101.out viDB).mono ?_
         (case side1 => repeat (first | exact (Kd.V_reads' HO_346001.out).2.2 | (with_reducible refine Kd.C_alloc ?_ _) | (with_reducible refine Kd.C_drewN ?_ _) | (with_reducible refine Kd.C_drew ?_)))
         (case side2 => exact (Kd.V_reads' HO_346001.out).2.1)
         (case side3 => repeat (first | exact (Kd.V_reads' HO_347001.out).2.2 | (with_reducible refine Kd.C_alloc ?_ _) | (with_reducible refine Kd.C_drewN ?_ _) | (with_reducible refine Kd.C_drew ?_)))
         (case side4 => exact (Kd.V_reads' HO_347001.out).2.1)
         rintro e w122 ⟨v451, rfl, ho0, hb⟩
         refine ⟨_, rfl, ?_⟩
         have n0_ := Aside0.mk (Kd.V_elder' (viV HO_345001.out) (Kd.R_base ho0) hb)
         have n1_ := Aside0.mk (Kd.V_elder' (viV HO_346001.out) (Kd.R_base ho0) hb)
         have n2_ := Aside0.mk (Kd.V_elder' (viV HO_347001.out) (Kd.R_base ho0) hb)
         have n3_ := Aside0.mk (Kd.R_elder' (viR HO_358001.out) (Kd.R_base ho0) hb)
         have n4_ := Aside0.mk (Kd.R_elder' (viR HO419.out) (Kd.R_base ho0) hb)
         have n5_ := Aside0.mk (Kd.R_elder' (viR HO423.out) (Kd.R_base ho0) hb)
         have n6_ := Aside0.mk (Kd.R_elder' (viR HO427.out) (Kd.R_base ho0) hb)
         have n7_ := Aside0.mk (Kd.R_elder' (viR HO431.out) (Kd.R_base ho0) hb)
         have n8_ := Aside0.mk (Kd.R_elder' (viR HO435.out) (Kd.R_base ho0) hb)
         have n9_ := Aside0.mk (Kd.R_elder' (viR HO440.out) (Kd.R_base ho0) hb)
         have n10_ := Aside0.mk (Kd.R_elder' (viR HO444.out) (Kd.R_base ho0) hb)
         have n11_ := Aside0.mk (Kd.R_elder' (viR HO448.out) (Kd.R_base ho0) hb)
         have n12_ := Aside0.mk (Kd.R_lower (Kd.R_new' (Kd.R_new' (Kd.R_new' (Kd.R_new' (Kd.R_new' (Kd.R_new' (Kd.R_new' (Kd.R_new' (Kd.R_new' (Kd.R_newM (M := fun k_ => (w.heap.size ≤ k_)) ho0 (below_size viB) (fun k_ h_ => h_)) (Kd.R_lt (viR HO_358001.out))) (Kd.R_lt (viR HO419.out))) (Kd.R_lt (viR HO423.out))) (Kd.R_lt (viR HO427.out))) (Kd.R_lt (viR HO431.out))) (Kd.R_lt (viR HO435.out))) (Kd.R_lt (viR HO440.out))) (Kd.R_lt (viR HO444.out))) (Kd.R_lt (viR HO448.out))) (below_size viB))
         have n13_ := Aside0.mk (blk_below (g := gb344) (o := .cells #[.int .u64 a1_0, .slice A1_1 l1_1.length c1_1] 25 (0, 0)) (viK BK344.out) hb)
         have n14_ := Aside0.mk (blk_below (g := gb345) (o := .cells #[.int .u64 a2_0, .slice A2_1 l2_1.length c2_1] 25 (0, 0)) (viK BK345.out) hb)
         have n15_ := Aside0.mk (blk_below (g := gb346) (o := .cells #[.int .u64 a3_0, .slice A3_1 l3_1.length c3_1] 25 (0, 0)) (viK BK346.out) hb)
         have n16_ := Aside0.mk (blk_below (g := gb357) (o := .cells #[.int .u64 t352, .slice Ao28 t353.length co28] 25 (0, 0)) (viK BK357.out) hb)
         have n17_ := Aside0.mk (below_step viB hb)
         clear HO_345001
         clear HO_346001
         clear HO_347001
         clear HO_358001
         clear HO419
         clear HO423
         clear HO427
         clear HO431
         clear HO435
         clear HO440
         clear HO444
         clear HO448
         clear BK344
         clear BK345
         clear BK346
         clear BK357
         clear HB
         have HO_345001 := n0_
         have HO_346001 := n1_
         have HO_347001 := n2_
         have HO_358001 := n3_
         have HO419 := n4_
         have HO423 := n5_
         have HO427 := n6_
         have HO431 := n7_
         have HO435 := n8_
         have HO440 := n9_
         have HO444 := n10_
         have HO448 := n11_
         have HO452 := n12_
         have BK344 := n13_
         have BK345 := n14_
         have BK346 := n15_
         have BK357 := n16_
         have HB := n17_
         clear n0_ n1_ n2_ n3_ n4_ n5_ n6_ n7_ n8_ n9_ n10_ n11_ n12_ n13_ n14_ n15_ n16_ n17_
         (try clear hb)
         (try clear hb2)
         (try clear hk)
         (try clear hi)
         (try clear ho0)
         obtain ⟨Ao123, co123, eo123⟩ := Kd.R_slice HO448.out
         (first | subst eo123 | (injection eo123 with f1_ f2_ f3_; have f4_ := f1_.symm; have f5_ := f3_.symm; clear f1_ f2_ f3_; subst f4_; subst f5_))
         obtain ⟨Ao124, co124, eo124⟩ := Kd.R_slice HO452.out
         (first | subst eo124 | (injection eo124 with f1_ f2_ f3_; have f4_ := f1_.symm; have f5_ := f3_.symm; clear f1_ f2_ f3_; subst f4_; subst f5_))
         refine hK.out _ _ ⟨(blk_cell BK344.out 0).trans rfl, (blk_cell BK344.out 1).trans rfl, (blk_cell BK345.out 0).trans rfl, (blk_cell BK345.out 1).trans rfl, (blk_cell BK346.out 0).trans rfl, (blk_cell BK346.out 1).trans rfl⟩ (fun hHeld => ?_)
         clear hK K
         refine norm_ (a' := ?_) ?_ ?_
         rotate_left
         ·show Act.put _ (some 139) _ = _
          simp only [Act.put, List.setIfInBounds_toArray, List.set_cons_zero, List.set_cons_succ, i64_w, i32_w]
          rfl
         refine one_ (i := 35) (N := some 140) #[true, true, true, true, true, true, true, true, true, true, true, true, true, true, true, true, true, true, true, true, true, true, true, true, true, true, true, true, true, true, true, true, true, true, true, true, false, false, false, false, false, false] rfl rfl (one_of HT_.out (by kernel_rfl)) (by decide) (fun K hK => ?_)
         refine goes_ Tryd.func23 (by kernel_rfl) rfl #[.int .i64 a0, .agg #[.int .u64 t445, .slice Ao123 t446.length co123], .agg #[.int .u64 t449, .slice Ao124 t450.length co124]] (by rfl) rfl rfl (by (try simp only [List.map_toArray, List.map_cons, List.map_nil]); first | done | rfl | (simp only [List.length_drop, List.length_take]; rfl)) ?_
         with_reducible refine (stackyardlaw03_combine.calls kj61 a0 t445 _ _ t446 t449 _ _ t450 t453 t454 _ ?side1 ?side2 ?side3 ?side4 A102.out).mono ?_
         (case side1 => repeat (first | exact (Kd.R_reads' HO448.out).2.2 | (with_reducible refine Kd.C_alloc ?_ _) | (with_reducible refine Kd.C_drewN ?_ _) | (with_reducible refine Kd.C_drew ?_)))
         (case side2 => exact (Kd.R_reads' HO448.out).2.1)
         (case side3 => repeat (first | exact (Kd.R_reads' HO452.out).2.2 | (with_reducible refine Kd.C_alloc ?_ _) | (with_reducible refine Kd.C_drewN ?_ _) | (with_reducible refine Kd.C_drew ?_)))
         (case side4 => exact (Kd.R_reads' HO452.out).2.1)
         rintro e w125 ⟨v455, rfl, ho0, hb⟩
         refine ⟨_, rfl, ?_⟩
         have n0_ := Aside0.mk (Kd.V_elder' (viV HO_345001.out) (Kd.R_base ho0) hb)
         have n1_ := Aside0.mk (Kd.V_elder' (viV HO_346001.out) (Kd.R_base ho0) hb)
         have n2_ := Aside0.mk (Kd.V_elder' (viV HO_347001.out) (Kd.R_base ho0) hb)
         have n3_ := Aside0.mk (Kd.R_elder' (viR HO_358001.out) (Kd.R_base ho0) hb)
         have n4_ := Aside0.mk (Kd.R_elder' (viR HO419.out) (Kd.R_base ho0) hb)
         have n5_ := Aside0.mk (Kd.R_elder' (viR HO423.out) (Kd.R_base ho0) hb)
         have n6_ := Aside0.mk (Kd.R_elder' (viR HO427.out) (Kd.R_base ho0) hb)
         have n7_ := Aside0.mk (Kd.R_elder' (viR HO431.out) (Kd.R_base ho0) hb)
         have n8_ := Aside0.mk (Kd.R_elder' (viR HO435.out) (Kd.R_base ho0) hb)
         have n9_ := Aside0.mk (Kd.R_elder' (viR HO440.out) (Kd.R_base ho0) hb)
         have n10_ := Aside0.mk (Kd.R_elder' (viR HO444.out) (Kd.R_base ho0) hb)
         have n11_ := Aside0.mk (Kd.R_elder' (viR HO448.out) (Kd.R_base ho0) hb)
         have n12_ := Aside0.mk (Kd.R_elder' (viR HO452.out) (Kd.R_base ho0) hb)
         have n13_ := Aside0.mk (Kd.R_lower (Kd.R_new' (Kd.R_new' (Kd.R_new' (Kd.R_new' (Kd.R_new' (Kd.R_new' (Kd.R_new' (Kd.R_new' (Kd.R_new' (Kd.R_new' (Kd.R_newM (M := fun k_ => (w.heap.size ≤ k_)) ho0 (below_size viB) (fun k_ h_ => h_)) (Kd.R_lt (viR HO_358001.out))) (Kd.R_lt (viR HO419.out))) (Kd.R_lt (viR HO423.out))) (Kd.R_lt (viR HO427.out))) (Kd.R_lt (viR HO431.out))) (Kd.R_lt (viR HO435.out))) (Kd.R_lt (viR HO440.out))) (Kd.R_lt (viR HO444.out))) (Kd.R_lt (viR HO448.out))) (Kd.R_lt (viR HO452.out))) (below_size viB))
         have n14_ := Aside0.mk (blk_below (g := gb344) (o := .cells #[.int .u64 a1_0, .slice A1_1 l1_1.length c1_1] 25 (0, 0)) (viK BK344.out) hb)
         have n15_ := Aside0.mk (blk_below (g := gb345) (o := .cells #[.int .u64 a2_0, .slice A2_1 l2_1.length c2_1] 25 (0, 0)) (viK BK345.out) hb)
         have n16_ := Aside0.mk (blk_below (g := gb346) (o := .cells #[.int .u64 a3_0, .slice A3_1 l3_1.length c3_1] 25 (0, 0)) (viK BK346.out) hb)
         have n17_ := Aside0.mk (blk_below (g := gb357) (o := .cells #[.int .u64 t352, .slice Ao28 t353.length co28] 25 (0, 0)) (viK BK357.out) hb)
         have n18_ := Aside0.mk (below_step viB hb)
         clear HO_345001
         clear HO_346001
         clear HO_347001
         clear HO_358001
         clear HO419
         clear HO423
         clear HO427
         clear HO431
         clear HO435
         clear HO440
         clear HO444
         clear HO448
         clear HO452
         clear BK344
         clear BK345
         clear BK346
         clear BK357
         clear HB
         have HO_345001 := n0_
         have HO_346001 := n1_
         have HO_347001 := n2_
         have HO_358001 := n3_
         have HO419 := n4_
         have HO423 := n5_
         have HO427 := n6_
         have HO431 := n7_
         have HO435 := n8_
         have HO440 := n9_
         have HO444 := n10_
         have HO448 := n11_
         have HO452 := n12_
         have HO456 := n13_
         have BK344 := n14_
         have BK345 := n15_
         have BK346 := n16_
         have BK357 := n17_
         have HB := n18_
         clear n0_ n1_ n2_ n3_ n4_ n5_ n6_ n7_ n8_ n9_ n10_ n11_ n12_ n13_ n14_ n15_ n16_ n17_ n18_
         (try clear hb)
         (try clear hb2)
         (try clear hk)
         (try clear hi)
         (try clear ho0)
         obtain ⟨Ao126, co126, eo126⟩ := Kd.R_slice HO444.out
         (first | subst eo126 | (injection eo126 with f1_ f2_ f3_; have f4_ := f1_.symm; have f5_ := f3_.symm; clear f1_ f2_ f3_; subst f4_; subst f5_))
         obtain ⟨Ao127, co127, eo127⟩ := Kd.R_slice HO456.out
         (first | subst eo127 | (injection eo127 with f1_ f2_ f3_; have f4_ := f1_.symm; have f5_ := f3_.symm; clear f1_ f2_ f3_; subst f4_; subst f5_))
         refine hK.out _ _ ⟨(blk_cell BK344.out 0).trans rfl, (blk_cell BK344.out 1).trans rfl, (blk_cell BK345.out 0).trans rfl, (blk_cell BK345.out 1).trans rfl, (blk_cell BK346.out 0).trans rfl, (blk_cell BK346.out 1).trans rfl⟩ (fun hHeld => ?_)
         clear hK K
         refine norm_ (a' := ?_) ?_ ?_
         rotate_left
         ·show Act.put _ (some 140) _ = _
          simp only [Act.put, List.setIfInBounds_toArray, List.set_cons_zero, List.set_cons_succ, i64_w, i32_w]
          rfl
         refine one_ (i := 36) (N := some 141) #[true, true, true, true, true, true, true, true, true, true, true, true, true, true, true, true, true, true, true, true, true, true, true, true, true, true, true, true, true, true, true, true, true, true, true, true, true, false, false, false, false, false] rfl rfl (one_of HT_.out (by kernel_rfl)) (by decide) (fun K hK => ?_)
         refine goes_ Tryd.func17 (by kernel_rfl) rfl #[.agg #[.int .u64 t441, .slice Ao126 t442.length co126], .agg #[.int .u64 t453, .slice Ao127 t454.length co127]] (by rfl) rfl rfl (by (try simp only [List.map_toArray, List.map_cons, List.map_nil]); first | done | rfl | (simp only [List.length_drop, List.length_take]; rfl)) ?_
         with_reducible refine (stackyardref03_Same.calls kj61 t441 _ _ t442 t453 _ _ t454 true _ ?side1 ?side2 ?side3 ?side4 A103.out).mono ?_
         (case side1 => repeat (first | exact (Kd.R_reads' HO444.out).2.2 | (with_reducible refine Kd.C_alloc ?_ _) | (with_reducible refine Kd.C_drewN ?_ _) | (with_reducible refine Kd.C_drew ?_)))
         (case side2 => exact (Kd.R_reads' HO444.out).2.1)
         (case side3 => repeat (first | exact (Kd.R_reads' HO456.out).2.2 | (with_reducible refine Kd.C_alloc ?_ _) | (with_reducible refine Kd.C_drewN ?_ _) | (with_reducible refine Kd.C_drew ?_)))
         (case side4 => exact (Kd.R_reads' HO456.out).2.1)
         rintro e w128 ⟨rfl, hb⟩
         refine ⟨_, rfl, ?_⟩
         have n0_ := Aside0.mk (Kd.V_below (viV HO_345001.out) hb)
         have n1_ := Aside0.mk (Kd.V_below (viV HO_346001.out) hb)
         have n2_ := Aside0.mk (Kd.V_below (viV HO_347001.out) hb)
         have n3_ := Aside0.mk (Kd.R_below (viR HO_358001.out) hb)
         have n4_ := Aside0.mk (Kd.R_below (viR HO419.out) hb)
         have n5_ := Aside0.mk (Kd.R_below (viR HO423.out) hb)
         have n6_ := Aside0.mk (Kd.R_below (viR HO427.out) hb)
         have n7_ := Aside0.mk (Kd.R_below (viR HO431.out) hb)
         have n8_ := Aside0.mk (Kd.R_below (viR HO435.out) hb)
         have n9_ := Aside0.mk (Kd.R_below (viR HO440.out) hb)
         have n10_ := Aside0.mk (Kd.R_below (viR HO444.out) hb)
         have n11_ := Aside0.mk (Kd.R_below (viR HO448.out) hb)
         have n12_ := Aside0.mk (Kd.R_below (viR HO452.out) hb)
         have n13_ := Aside0.mk (Kd.R_below (viR HO456.out) hb)
         have n14_ := Aside0.mk (blk_below (g := gb344) (o := .cells #[.int .u64 a1_0, .slice A1_1 l1_1.length c1_1] 25 (0, 0)) (viK BK344.out) hb)
         have n15_ := Aside0.mk (blk_below (g := gb345) (o := .cells #[.int .u64 a2_0, .slice A2_1 l2_1.length c2_1] 25 (0, 0)) (viK BK345.out) hb)
         have n16_ := Aside0.mk (blk_below (g := gb346) (o := .cells #[.int .u64 a3_0, .slice A3_1 l3_1.length c3_1] 25 (0, 0)) (viK BK346.out) hb)
         have n17_ := Aside0.mk (blk_below (g := gb357) (o := .cells #[.int .u64 t352, .slice Ao28 t353.length co28] 25 (0, 0)) (viK BK357.out) hb)
         have n18_ := Aside0.mk (below_step viB hb)
         clear HO_345001
         clear HO_346001
         clear HO_347001
         clear HO_358001
         clear HO419
         clear HO423
         clear HO427
         clear HO431
         clear HO435
         clear HO440
         clear HO444
         clear HO448
         clear HO452
         clear HO456
         clear BK344
         clear BK345
         clear BK346
         clear BK357
         clear HB
         have HO_345001 := n0_
         have HO_346001 := n1_
         have HO_347001 := n2_
         have HO_358001 := n3_
         have HO419 := n4_
         have HO423 := n5_
         have HO427 := n6_
         have HO431 := n7_
         have HO435 := n8_
         have HO440 := n9_
         have HO444 := n10_
         have HO448 := n11_
         have HO452 := n12_
         have HO456 := n13_
         have BK344 := n14_
         have BK345 := n15_
         have BK346 := n16_
         have BK357 := n17_
         have HB := n18_
         clear n0_ n1_ n2_ n3_ n4_ n5_ n6_ n7_ n8_ n9_ n10_ n11_ n12_ n13_ n14_ n15_ n16_ n17_ n18_
         (try clear hb)
         (try clear hb2)
         (try clear hk)
         (try clear hi)
         refine hK.out _ _ ⟨(blk_cell BK344.out 0).trans rfl, (blk_cell BK344.out 1).trans rfl, (blk_cell BK345.out 0).trans rfl, (blk_cell BK345.out 1).trans rfl, (blk_cell BK346.out 0).trans rfl, (blk_cell BK346.out 1).trans rfl⟩ (fun hHeld => ?_)
         clear hK K
         refine norm_ (a' := ?_) ?_ ?_
         rotate_left
         ·show Act.put _ (some 141) _ = _
          simp only [Act.put, List.setIfInBounds_toArray, List.set_cons_zero, List.set_cons_succ, i64_w, i32_w]
          rfl
         refine pure_ (i := 37) (N := some 142) (v := ?_) (a' := ?_) #[true, true, true, true, true, true, true, true, true, true, true, true, true, true, true, true, true, true, true, true, true, true, true, true, true, true, true, true, true, true, true, true, true, true, true, true, true, true, false, false, false, false] rfl rfl (any_of HT_.out (by kernel_rfl)) (fun _ _ _ h => h) (Or.inl ⟨by rfl, ?_⟩) ?_ ?_
         rotate_left
         ·intro w'
          go_simp
          with_reducible rfl
         rotate_left
         ·simp only [Act.put, List.setIfInBounds_toArray, List.set_cons_zero, List.set_cons_succ, i64_w, i32_w]
          rfl
         refine pure_ (i := 38) (N := some 143) (v := ?_) (a' := ?_) #[true, true, true, true, true, true, true, true, true, true, true, true, true, true, true, true, true, true, true, true, true, true, true, true, true, true, true, true, true, true, true, true, true, true, true, true, true, true, true, false, false, false] rfl rfl (any_of HT_.out (by kernel_rfl)) (fun _ _ _ h => h) (Or.inl ⟨by rfl, ?_⟩) ?_ ?_
         rotate_left
         ·intro w'
          go_simp
          with_reducible rfl
         rotate_left
         ·simp only [Act.put, List.setIfInBounds_toArray, List.set_cons_zero, List.set_cons_succ, i64_w, i32_w]
          rfl
         refine one_ (i := 39) (N := some 144) #[true, true, true, true, true, true, true, true, true, true, true, true, true, true, true, true, true, true, true, true, true, true, true, true, true, true, true, true, true, true, true, true, true, true, true, true, true, true, true, true, false, false] rfl rfl (one_of HT_.out (by kernel_rfl)) (by decide) (fun K hK => ?_)
         refine goes_ Tryd.func19 (by kernel_rfl) rfl #[] (by rfl) rfl rfl (by (try simp only [List.map_toArray, List.map_cons, List.map_nil]); first | done | rfl | (simp only [List.length_drop, List.length_take]; rfl)) ?_
         with_reducible refine (stackyardlaw03_alive.calls kj61  t458 _ A105.out viDB).mono ?_
         rintro e w129 ⟨rfl, hb⟩
         refine ⟨_, rfl, ?_⟩
         have n0_ := Aside0.mk (Kd.V_below (viV HO_345001.out) hb)
         have n1_ := Aside0.mk (Kd.V_below (viV HO_346001.out) hb)
         have n2_ := Aside0.mk (Kd.V_below (viV HO_347001.out) hb)
         have n3_ := Aside0.mk (Kd.R_below (viR HO_358001.out) hb)
         have n4_ := Aside0.mk (Kd.R_below (viR HO419.out) hb)
         have n5_ := Aside0.mk (Kd.R_below (viR HO423.out) hb)
         have n6_ := Aside0.mk (Kd.R_below (viR HO427.out) hb)
         have n7_ := Aside0.mk (Kd.R_below (viR HO431.out) hb)
         have n8_ := Aside0.mk (Kd.R_below (viR HO435.out) hb)
         have n9_ := Aside0.mk (Kd.R_below (viR HO440.out) hb)
         have n10_ := Aside0.mk (Kd.R_below (viR HO444.out) hb)
         have n11_ := Aside0.mk (Kd.R_below (viR HO448.out) hb)
         have n12_ := Aside0.mk (Kd.R_below (viR HO452.out) hb)
         have n13_ := Aside0.mk (Kd.R_below (viR HO456.out) hb)
         have n14_ := Aside0.mk (blk_below (g := gb344) (o := .cells #[.int .u64 a1_0, .slice A1_1 l1_1.length c1_1] 25 (0, 0)) (viK BK344.out) hb)
         have n15_ := Aside0.mk (blk_below (g := gb345) (o := .cells #[.int .u64 a2_0, .slice A2_1 l2_1.length c2_1] 25 (0, 0)) (viK BK345.out) hb)
         have n16_ := Aside0.mk (blk_below (g := gb346) (o := .cells #[.int .u64 a3_0, .slice A3_1 l3_1.length c3_1] 25 (0, 0)) (viK BK346.out) hb)
         have n17_ := Aside0.mk (blk_below (g := gb357) (o := .cells #[.int .u64 t352, .slice Ao28 t353.length co28] 25 (0, 0)) (viK BK357.out) hb)
         have n18_ := Aside0.mk (below_step viB hb)
         clear HO_345001
         clear HO_346001
         clear HO_347001
         clear HO_358001
         clear HO419
         clear HO423
         clear HO427
         clear HO431
         clear HO435
         clear HO440
         clear HO444
         clear HO448
         clear HO452
         clear HO456
         clear BK344
         clear BK345
         clear BK346
         clear BK357
         clear HB
         have HO_345001 := n0_
         have HO_346001 := n1_
         have HO_347001 := n2_
         have HO_358001 := n3_
         have HO419 := n4_
         have HO423 := n5_
         have HO427 := n6_
         have HO431 := n7_
         have HO435 := n8_
         have HO440 := n9_
         have HO444 := n10_
         have HO448 := n11_
         have HO452 := n12_
         have HO456 := n13_
         have BK344 := n14_
         have BK345 := n15_
         have BK346 := n16_
         have BK357 := n17_
         have HB := n18_
         clear n0_ n1_ n2_ n3_ n4_ n5_ n6_ n7_ n8_ n9_ n10_ n11_ n12_ n13_ n14_ n15_ n16_ n17_ n18_
         (try clear hb)
         (try clear hb2)
         (try clear hk)
         (try clear hi)
         refine hK.out _ _ ⟨(blk_cell BK344.out 0).trans rfl, (blk_cell BK344.out 1).trans rfl, (blk_cell BK345.out 0).trans rfl, (blk_cell BK345.out 1).trans rfl, (blk_cell BK346.out 0).trans rfl, (blk_cell BK346.out 1).trans rfl⟩ (fun hHeld => ?_)
         clear hK K
         refine norm_ (a' := ?_) ?_ ?_
         rotate_left
         ·show Act.put _ (some 144) _ = _
          simp only [Act.put, List.setIfInBounds_toArray, List.set_cons_zero, List.set_cons_succ, i64_w, i32_w]
          rfl
         refine pure_ (i := 40) (N := some 145) (v := ?_) (a' := ?_) #[true, true, true, true, true, true, true, true, true, true, true, true, true, true, true, true, true, true, true, true, true, true, true, true, true, true, true, true, true, true, true, true, true, true, true, true, true, true, true, true, true, false] rfl rfl (any_of HT_.out (by kernel_rfl)) (fun _ _ _ h => h) (Or.inl ⟨by rfl, ?_⟩) ?_ ?_
         rotate_left
         ·intro w'
          go_simp
          with_reducible rfl
         rotate_left
         ·simp only [Act.put, List.setIfInBounds_toArray, List.set_cons_zero, List.set_cons_succ, i64_w, i32_w]
          rfl
         refine pure_ (i := 41) (N := some 8) (v := ?_) (a' := ?_) #[true, true, true, true, true, true, true, true, true, true, true, true, true, true, true, true, true, true, true, true, true, true, true, true, true, true, true, true, true, true, true, true, true, true, true, true, true, true, true, true, true, true] rfl rfl (any_of HT_.out (by kernel_rfl)) (fun _ _ _ h => h) (Or.inl ⟨by rfl, ?_⟩) ?_ ?_
         rotate_left
         ·intro w'
          go_simp
          with_reducible rfl
         rotate_left
         ·simp only [Act.put, List.setIfInBounds_toArray, List.set_cons_zero, List.set_cons_succ, i64_w, i32_w]
          rfl
         refine done_ (done_of HT_.out (by kernel_rfl)) ?_
         try go_wp2
         go_ret
         exact ⟨by first | rfl | (simp [errW_none, errW_some] <;> rfl) | (simp [*, errW_none, errW_some] <;> rfl), viB⟩
        ·replace c104 := Bool.eq_false_iff.mpr c104
         subst c104
         have H1 : (none) = some r := by rw [if_neg (show ¬ (false = true) by decide)] at H; exact H
         clear H
         have H := H1
         clear H1
         exact absurd H (by simp)
       ·replace c97 := Bool.eq_false_iff.mpr c97
        subst c97
        have H1 : (none) = some r := by rw [if_neg (show ¬ (false = true) by decide)] at H; exact H
        clear H
        have H := H1
        clear H1
        exact absurd H (by simp)
end Go.Proofs.YtnogmnmbakglcaaDoor.Pr
