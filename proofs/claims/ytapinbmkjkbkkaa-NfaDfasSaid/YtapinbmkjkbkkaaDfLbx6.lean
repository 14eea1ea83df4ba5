import Derived.Test.YtapinbmkjkbkkaaDfVi
import Derived.Test.YtapinbmkjkbkkaaDfLbx5
namespace Go.Proofs.Ytapinbmkjkbkkaa.Lb
open Go.RowKit Go.Proofs.YtapinbmkjkbkkaaW.PrintWords Go.Proofs.YtapinbmkjkbkkaaW.PrintLast Go.Proofs.YtapinbmkjkbkkaaW.PrintMore
attribute [local go_sem] max2_int min2_int max_two min_two max_three min_three max_four min_four
set_option linter.unusedVariables false
set_option linter.unusedSimpArgs false
private theorem viB {P : Prop} (h : P := by repeat (first | (with_reducible first | exact HB.out | apply below_alloc | apply pw_below_drewN | apply below_drew1 | refine below_set ?_ GE212.out | refine below_set ?_ GE217.out | refine below_set ?_ GE225.out) | exact HB.out)) : P := h
def stackyardref08_by.l0 : Nat → Int → List Bool → List Bool → Int → Int → Int → Int → Int → List (S78) → Option (List Bool)
  | 0, _, _, _, _, _, _, _, _, _ => none
  | k + 1, x1, x2, x7, x8, x213000, x213001, x213002, x213003, x213004 => if x8 < (x213004.length : Int) then (if 0 ≤ x8 then (if ((rd_T78 x213004 x8).f1) = x1 then (if 0 ≤ ((rd_T78 x213004 x8).f0) then (if ((rd_T78 x213004 x8).f0) < (x2.length : Int) then (if rdOf false x2 ((rd_T78 x213004 x8).f0) = true then (if 0 ≤ ((rd_T78 x213004 x8).f2) then (if ((rd_T78 x213004 x8).f2) < (x7.length : Int) then (stackyardref08_by.l0 k x1 x2 (x7.set (((rd_T78 x213004 x8).f2) : Int).toNat true) (wrap64 (x8 + 1)) x213000 x213001 x213002 x213003 x213004) else (none)) else (none)) else (stackyardref08_by.l0 k x1 x2 x7 (wrap64 (x8 + 1)) x213000 x213001 x213002 x213003 x213004)) else (none)) else (none)) else (if ((rd_T78 x213004 x8).f1) = (-2) then (if 0 ≤ ((rd_T78 x213004 x8).f0) then (if ((rd_T78 x213004 x8).f0) < (x2.length : Int) then (if rdOf false x2 ((rd_T78 x213004 x8).f0) = true then (if 0 ≤ ((rd_T78 x213004 x8).f2) then (if ((rd_T78 x213004 x8).f2) < (x7.length : Int) then (stackyardref08_by.l0 k x1 x2 (x7.set (((rd_T78 x213004 x8).f2) : Int).toNat true) (wrap64 (x8 + 1)) x213000 x213001 x213002 x213003 x213004) else (none)) else (none)) else (stackyardref08_by.l0 k x1 x2 x7 (wrap64 (x8 + 1)) x213000 x213001 x213002 x213003 x213004)) else (none)) else (none)) else (stackyardref08_by.l0 k x1 x2 x7 (wrap64 (x8 + 1)) x213000 x213001 x213002 x213003 x213004))) else (none)) else ((stackyardref08_hand.f k x213000 x213001 x213002 x213003 x213004 x7).bind fun t222 => (some t222))
def stackyardref08_by.f (k : Nat) (a0_0 : Int) (a0_1 : Int) (a0_2 : Int) (a0_3 : Int) (l0_4 : List (S78)) (a1 : Int) (l2 : List Bool) : Option (List Bool) := if 0 ≤ a0_0 then (if (a0_0 : Int).toNat ≤ 281474976710656 then (stackyardref08_by.l0 k a1 l2 (List.replicate (a0_0 : Int).toNat false) 0 a0_0 a0_1 a0_2 a0_3 l0_4) else (none)) else (none)
theorem stackyardref08_by.mono_l : ∀ k, (∀ y0 y1 y2 y3 y4 y5 y6 y7 y8, LeO (stackyardref08_by.l0 k y0 y1 y2 y3 y4 y5 y6 y7 y8) (stackyardref08_by.l0 (k + 1) y0 y1 y2 y3 y4 y5 y6 y7 y8))
  | 0 => fun _ _ _ _ _ _ _ _ _ r h => by simp [stackyardref08_by.l0] at h
  | k + 1 => by
    have ih0 := stackyardref08_by.mono_l k
    · intro y0 y1 y2 y3 y4 y5 y6 y7 y8
      unfold stackyardref08_by.l0
      repeat' first
      | (with_reducible exact ih0 _ _ _ _ _ _ _ _ _)
      | (with_reducible exact stackyardref08_hand.mono _ _ _ _ _ _ _)
      | (with_reducible exact LeO.refl _)
      | (with_reducible exact LeO.none _)
      | (with_reducible refine LeO.ite ?_ ?_)
      | (with_reducible refine LeO.bind ?_ (fun _ => ?_))
      | exact ih0 _ _ _ _ _ _ _ _ _
      | exact stackyardref08_hand.mono _ _ _ _ _ _ _
      | exact LeO.none _
      | refine LeO.ite ?_ ?_
      | refine LeO.bind ?_ (fun _ => ?_)
theorem stackyardref08_by.mono : ∀ a0 a1 a2 a3 a4 a5 a6 k, LeO (stackyardref08_by.f k a0 a1 a2 a3 a4 a5 a6) (stackyardref08_by.f (k + 1) a0 a1 a2 a3 a4 a5 a6) := by
  intro a0 a1 a2 a3 a4 a5 a6 k
  have ih0 := stackyardref08_by.mono_l k
  unfold stackyardref08_by.f
  repeat' first
      | (with_reducible exact ih0 _ _ _ _ _ _ _ _ _)
      | (with_reducible exact stackyardref08_hand.mono _ _ _ _ _ _ _)
      | (with_reducible exact LeO.refl _)
      | (with_reducible exact LeO.none _)
      | (with_reducible refine LeO.ite ?_ ?_)
      | (with_reducible refine LeO.bind ?_ (fun _ => ?_))
      | exact ih0 _ _ _ _ _ _ _ _ _
      | exact stackyardref08_hand.mono _ _ _ _ _ _ _
      | exact LeO.none _
      | refine LeO.ite ?_ ?_
      | refine LeO.bind ?_ (fun _ => ?_)
set_option maxHeartbeats 8000000 in
set_option maxRecDepth 100000 in
theorem stackyardref08_by.calls (k : Nat) (a0_0 : Int) (a0_1 : Int) (a0_2 : Int) (a0_3 : Int) (A0_4 : Option Addr) (c0_4 : Nat) (l0_4 : List (S78)) (a1 : Int) (A2 : Option Addr) (c2 : Nat) (l2 : List Bool) (r : List Bool) (w : World) (hr0_4 : Kd.C k78 w A0_4 l0_4.length l0_4) (hc0_4 : l0_4.length ≤ c0_4) (hr2 : Kd.C Kd.bool w A2 l2.length l2) (hc2 : l2.length ≤ c2) (h : stackyardref08_by.f k a0_0 a0_1 a0_2 a0_3 l0_4 a1 l2 = some r) :
    Calls Try.prog 51 #[.agg #[.int .i64 a0_0, .int .i64 a0_1, .int .i64 a0_2, .int .i64 a0_3, .slice A0_4 l0_4.length c0_4], .int .i64 a1, .slice A2 l2.length c2] w fun e w' => ∃ v0_ : Value, e = .returned (v0_) ∧ Kd.R Kd.bool 4 w' w.heap.size (fun _ => True) v0_ r ∧ Below w.heap.size w w' := by
  have hu31 := Try.underlying31
  have hu78 := Try.underlying78
  have HR0_4 := Aside0.mk hr0_4
  have HC0_4 := Aside0.mk hc0_4
  clear hr0_4 hc0_4
  have HR2 := Aside0.mk hr2
  have HC2 := Aside0.mk hc2
  clear hr2 hc2
  have HB := Aside0.mk (Below.refl w.heap.size w)
  have H : (if 0 ≤ a0_0 then (if (a0_0 : Int).toNat ≤ 281474976710656 then (stackyardref08_by.l0 k a1 l2 (List.replicate (a0_0 : Int).toNat false) 0 a0_0 a0_1 a0_2 a0_3 l0_4) else (none)) else (none)) = some r := h
  clear h
  by_cases c4 : 0 ≤ a0_0
  · rw [if_pos c4] at H
    have c4b0 := eq_true c4
    have c4b1 : decide (0 ≤ a0_0) = true := decide_eq_true c4
    clear c4
    by_cases c5 : (a0_0 : Int).toNat ≤ 281474976710656
    · rw [if_pos c5] at H
      have c5b0 := eq_true c5
      have c5b1 : decide ((a0_0 : Int).toNat ≤ 281474976710656) = true := decide_eq_true c5
      clear c5
      obtain ⟨y213, hy213⟩ : ∃ y_ : List Bool, y_ = (List.replicate (a0_0 : Int).toNat false) := ⟨_, rfl⟩
      replace H : (stackyardref08_by.l0 k a1 l2 y213 0 a0_0 a0_1 a0_2 a0_3 l0_4) = some r := by first | (rw [hy213]; with_reducible exact H) | (have H2_ := (Option.bind_some _ _).symm.trans H; rw [hy213]; with_reducible exact H2_) | (have H2_ := (Option.bind_some _ _).symm.trans H; with_reducible exact H2_) | with_reducible exact H | (rw [hy213]; exact H) | exact H
      have Ny213 := Aside0.mk hy213
      clear hy213
      have H' := Aside0.mk H
      clear H
      go_enter Try.func51, Try.ntmps51
      go_wp2_with (first | ((with_reducible refine gate_dst (N := 3) rfl ?_); refine box_event ?hg (N := 3) ?hd (cs := #[.int .i64 a0_0, .int .i64 a0_1, .int .i64 a0_2, .int .i64 a0_3, .slice A0_4 l0_4.length c0_4]) (t := 31) ?hr ?_; (case hd => rfl); (case hg => rfl); (case hr => first | (go_simp; done) | (go_simp; rfl)); intro gb212 hg w6 hbox hb; have n0_ := Aside0.mk (below_step viB hb); have n1_ := Aside0.mk (hbox); have n2_ := Aside0.mk ((by rw [hg]; exact (below_size viB) : w.heap.size ≤ gb212)); have n3_ := Aside0.mk ((by rw [hg]; exact (below_size viB) : w.heap.size ≤ gb212)); clear HB; have HB := n0_; have BK212 := n1_; have GW212 := n2_; have GE212 := n3_; clear n0_ n1_ n2_ n3_; clear hb hbox hg; have hcz7_0 : w6.cell? ⟨gb212, 0, none⟩ = some (.int .i64 a0_0) := (blk_cell BK212.out 0).trans rfl; have hcz7_1 : w6.cell? ⟨gb212, 1, none⟩ = some (.int .i64 a0_1) := (blk_cell BK212.out 1).trans rfl; have hcz7_2 : w6.cell? ⟨gb212, 2, none⟩ = some (.int .i64 a0_2) := (blk_cell BK212.out 2).trans rfl; have hcz7_3 : w6.cell? ⟨gb212, 3, none⟩ = some (.int .i64 a0_3) := (blk_cell BK212.out 3).trans rfl; have hcz7_4 : w6.cell? ⟨gb212, 4, none⟩ = some (.slice A0_4 l0_4.length c0_4) := (blk_cell BK212.out 4).trans rfl; have hfz7_0 := blk_frozen BK212.out 0; have hfz7_1 := blk_frozen BK212.out 1; have hfz7_2 := blk_frozen BK212.out 2; have hfz7_3 := blk_frozen BK212.out 3; have hfz7_4 := blk_frozen BK212.out 4) | ((with_reducible refine gate_dst (N := 12) rfl ?_); refine Kd.R_make Kd.bool _ 4 rfl (N := 12) rfl 44 _ _ rfl a0_0 rfl rfl Try.underlying44 (.bool false) 1 info4 rfl (by decide) (by omega) false (ok := fun _ => True) (okp := fun _ => True) rfl (fun _ hk => hk) trivial viA (Nat.le_trans (Nat.mul_le_mul_right _ (viA : a0_0.toNat ≤ 281474976710656)) (by omega)) (Below.refl _ _) (Nat.le_refl _) ?_; intro v214 w8 ho9 hb hg_ hnew_; clear hg_ hnew_; (first | rw [← Ny213.out] at ho9 | (simp only [Int.reduceToNat] at ho9; rw [← Ny213.out] at ho9)); have n0_ := Aside0.mk (Kd.R_lower ho9 (below_size viB)); have n1_ := Aside0.mk (blk_below (g := gb212) (o := .cells #[.int .i64 a0_0, .int .i64 a0_1, .int .i64 a0_2, .int .i64 a0_3, .slice A0_4 l0_4.length c0_4] 31 (0, 0)) (viK BK212.out) hb); have n2_ := Aside0.mk (below_step viB hb); clear BK212; clear HB; have HO215 := n0_; have BK212 := n1_; have HB := n2_; clear n0_ n1_ n2_; clear hb ho9))
      go_loopg [8] k (fun kq v8 w' => ∃ (x7_1 : List Bool) (x8_1 : Int), v8 = .int .i64 x8_1 ∧ Aside0 (stackyardref08_by.l0 kq a1 l2 x7_1 x8_1 a0_0 a0_1 a0_2 a0_3 l0_4 = some r) ∧ Aside0 (kq ≤ k) ∧ Aside0 (Kd.R Kd.bool 4 w' w.heap.size (fun _ => True) v214 x7_1) ∧ Aside0 (w'.heap[gb212]? = some (.cells #[.int .i64 a0_0, .int .i64 a0_1, .int .i64 a0_2, .int .i64 a0_3, (.slice A0_4 l0_4.length c0_4)] 31 (0, 0))) ∧ Aside0 (Below w.heap.size w w'))
      case atStart => exact ⟨(y213), (0), (by first | rfl | (simp; done) | (simp [*]; done)), H', ⟨Nat.le_refl _⟩, ⟨viR HO215.out⟩, ⟨viK BK212.out⟩, ⟨viB⟩⟩
      case round =>
        clear H'
        try clear c2
        try clear p2
        try clear c4
        try clear c4b0
        try clear c4b1
        try clear c5
        try clear c5b0
        try clear c5b1
        try clear hcz7_0
        try clear hcz7_1
        try clear hcz7_2
        try clear hcz7_3
        try clear hcz7_4
        try clear hfz7_0
        try clear hfz7_1
        try clear hfz7_2
        try clear hfz7_3
        try clear hfz7_4
        obtain ⟨x7_1, x8_1, rfl, HA, HK1, HO_7, BK212, HB⟩ := hrel
        cases gk with
        | zero => exact absurd HA.out (by simp [stackyardref08_by.l0])
        | succ k1 =>
          have H := HA.out
          clear HA
          simp only [stackyardref08_by.l0] at H
          by_cases c10 : x8_1 < (l0_4.length : Int)
          · rw [if_pos c10] at H
            have c10b0 : decide (x8_1 < (l0_4.length : Int)) = true := decide_eq_true c10
            clear c10
            by_cases c11 : 0 ≤ x8_1
            · rw [if_pos c11] at H
              have c11b0 : decide (0 ≤ x8_1) = true := decide_eq_true c11
              clear c11
              by_cases c12 : ((rd_T78 l0_4 x8_1).f1) = a1
              · rw [if_pos c12] at H
                have c12b0 : (((rd_T78 l0_4 x8_1).f1) == a1) = true := beq_iff_eq.mpr c12
                have c12b1 : (((rd_T78 l0_4 x8_1).f1) != a1) = false := bne_eq_false_iff_eq.mpr c12
                clear c12
                by_cases c13 : 0 ≤ ((rd_T78 l0_4 x8_1).f0)
                · rw [if_pos c13] at H
                  have c13b0 : decide (0 ≤ ((rd_T78 l0_4 x8_1).f0)) = true := decide_eq_true c13
                  clear c13
                  by_cases c14 : ((rd_T78 l0_4 x8_1).f0) < (l2.length : Int)
                  · rw [if_pos c14] at H
                    have c14b0 : decide (((rd_T78 l0_4 x8_1).f0) < (l2.length : Int)) = true := decide_eq_true c14
                    clear c14
                    obtain ⟨bq15, hbq15⟩ : ∃ b_ : Bool, b_ = (rdOf false l2 ((rd_T78 l0_4 x8_1).f0)) := ⟨_, rfl⟩
                    replace H : (if bq15 = true then (if 0 ≤ ((rd_T78 l0_4 x8_1).f2) then (if ((rd_T78 l0_4 x8_1).f2) < (x7_1.length : Int) then (stackyardref08_by.l0 k1 a1 l2 (x7_1.set (((rd_T78 l0_4 x8_1).f2) : Int).toNat true) (wrap64 (x8_1 + 1)) a0_0 a0_1 a0_2 a0_3 l0_4) else (none)) else (none)) else (stackyardref08_by.l0 k1 a1 l2 x7_1 (wrap64 (x8_1 + 1)) a0_0 a0_1 a0_2 a0_3 l0_4)) = some r := by rw [← hbq15] at H; exact H
                    have Nbq15 := Aside0.mk hbq15
                    clear hbq15
                    by_cases c16 : bq15 = true
                    · subst c16
                      have H1 : (if 0 ≤ ((rd_T78 l0_4 x8_1).f2) then (if ((rd_T78 l0_4 x8_1).f2) < (x7_1.length : Int) then (stackyardref08_by.l0 k1 a1 l2 (x7_1.set (((rd_T78 l0_4 x8_1).f2) : Int).toNat true) (wrap64 (x8_1 + 1)) a0_0 a0_1 a0_2 a0_3 l0_4) else (none)) else (none)) = some r := by rw [if_pos rfl] at H; exact H
                      clear H
                      have H := H1
                      clear H1
                      by_cases c17 : 0 ≤ ((rd_T78 l0_4 x8_1).f2)
                      · rw [if_pos c17] at H
                        have c17b0 : decide (0 ≤ ((rd_T78 l0_4 x8_1).f2)) = true := decide_eq_true c17
                        clear c17
                        by_cases c18 : ((rd_T78 l0_4 x8_1).f2) < (x7_1.length : Int)
                        · rw [if_pos c18] at H
                          have c18b0 : decide (((rd_T78 l0_4 x8_1).f2) < (x7_1.length : Int)) = true := decide_eq_true c18
                          clear c18
                          obtain ⟨y219, hy219⟩ : ∃ y_ : List Bool, y_ = (x7_1.set (((rd_T78 l0_4 x8_1).f2) : Int).toNat true) := ⟨_, rfl⟩
                          replace H : (stackyardref08_by.l0 k1 a1 l2 y219 (wrap64 (x8_1 + 1)) a0_0 a0_1 a0_2 a0_3 l0_4) = some r := by first | (rw [hy219]; with_reducible exact H) | (have H2_ := (Option.bind_some _ _).symm.trans H; rw [hy219]; with_reducible exact H2_) | (have H2_ := (Option.bind_some _ _).symm.trans H; with_reducible exact H2_) | with_reducible exact H | (rw [hy219]; exact H) | exact H
                          have Ny219 := Aside0.mk hy219
                          clear hy219
                          have H' := Aside0.mk H
                          clear H
                          have hcz20_0 : wr.cell? ⟨gb212, 0, none⟩ = some (.int .i64 a0_0) := (blk_cell BK212.out 0).trans rfl
                          have hcz20_1 : wr.cell? ⟨gb212, 1, none⟩ = some (.int .i64 a0_1) := (blk_cell BK212.out 1).trans rfl
                          have hcz20_2 : wr.cell? ⟨gb212, 2, none⟩ = some (.int .i64 a0_2) := (blk_cell BK212.out 2).trans rfl
                          have hcz20_3 : wr.cell? ⟨gb212, 3, none⟩ = some (.int .i64 a0_3) := (blk_cell BK212.out 3).trans rfl
                          have hcz20_4 : wr.cell? ⟨gb212, 4, none⟩ = some (.slice A0_4 l0_4.length c0_4) := (blk_cell BK212.out 4).trans rfl
                          have hfz20_0 := blk_frozen BK212.out 0
                          have hfz20_1 := blk_frozen BK212.out 1
                          have hfz20_2 := blk_frozen BK212.out 2
                          have hfz20_3 := blk_frozen BK212.out 3
                          have hfz20_4 := blk_frozen BK212.out 4
                          have p216 : 0 ≤ (x8_1 : Int) := viA
                          have q216 : x8_1 < (l0_4.length : Int) := viA
                          obtain ⟨ad216, e216, hx216_0, hx216_1, hx216_2⟩ := at_T78 HR0_4.out x8_1 p216 q216
                          cases e216
                          replace hx216_0 := (HB.out.cell (World.block_lt_of_cell? w _ hx216_0)).trans hx216_0
                          replace hx216_1 := (HB.out.cell (World.block_lt_of_cell? w _ hx216_1)).trans hx216_1
                          replace hx216_2 := (HB.out.cell (World.block_lt_of_cell? w _ hx216_2)).trans hx216_2
                          replace p216 := eq_true p216
                          replace q216 := eq_true q216
                          go_wp2_with (first | ((with_reducible refine gate_dst (N := 9) rfl ?_); refine box_event ?hg (N := 9) ?hd (cs := #[.int .i64 0, .int .i64 0, .int .i64 0]) (t := 78) ?hr ?_; (case hd => rfl); (case hg => rfl); (case hr => first | (go_simp; done) | (go_simp; rfl)); intro gb217 hg w21 hbox hb; have n0_ := Aside0.mk (Kd.R_below (viR HO_7.out) hb); have n1_ := Aside0.mk (blk_below (g := gb212) (o := .cells #[.int .i64 a0_0, .int .i64 a0_1, .int .i64 a0_2, .int .i64 a0_3, .slice (some ad216) l0_4.length c0_4] 31 (0, 0)) (viK BK212.out) hb); have n2_ := Aside0.mk (below_step viB hb); have n3_ := Aside0.mk (hbox); have n4_ := Aside0.mk ((by rw [hg]; exact (below_size viB) : w.heap.size ≤ gb217)); have n5_ := Aside0.mk ((by rw [hg]; exact (below_size viB) : w.heap.size ≤ gb217)); have n6_ := Aside0.mk ((by rw [hg]; exact Nat.ne_of_lt (blk_lt (g := gb212) (o := .cells #[.int .i64 a0_0, .int .i64 a0_1, .int .i64 a0_2, .int .i64 a0_3, .slice (some ad216) l0_4.length c0_4] 31 (0, 0)) (viK BK212.out)) : gb212 ≠ gb217)); have n7_ := Aside0.mk ((by rw [hg]; exact Nat.ne_of_gt (blk_lt (g := gb212) (o := .cells #[.int .i64 a0_0, .int .i64 a0_1, .int .i64 a0_2, .int .i64 a0_3, .slice (some ad216) l0_4.length c0_4] 31 (0, 0)) (viK BK212.out)) : gb217 ≠ gb212)); clear HO_7; clear BK212; clear HB; have HO_7 := n0_; have BK212 := n1_; have HB := n2_; have BK217 := n3_; have GW217 := n4_; have GE217 := n5_; have NB212_217 := n6_; have NB217_212 := n7_; clear n0_ n1_ n2_ n3_ n4_ n5_ n6_ n7_; clear hb hbox hg; have hnb22 := NB217_212.out; have hnc22 := NB212_217.out; have hcz23_0 : w21.cell? ⟨gb217, 0, none⟩ = some (.int .i64 0) := (blk_cell BK217.out 0).trans rfl; have hcz23_1 : w21.cell? ⟨gb217, 1, none⟩ = some (.int .i64 0) := (blk_cell BK217.out 1).trans rfl; have hcz23_2 : w21.cell? ⟨gb217, 2, none⟩ = some (.int .i64 0) := (blk_cell BK217.out 2).trans rfl; have hfz23_0 := blk_frozen BK217.out 0; have hfz23_1 := blk_frozen BK217.out 1; have hfz23_2 := blk_frozen BK217.out 2) | ((with_reducible refine gate_store (t := 78) (p := 9) rfl ?_); refine store_event (t := 78) (p := 9) (v := ?vo_w24) (w1 := (((w21.setCell ⟨gb217, 0, none⟩ (.int .i64 ((rd_T78 l0_4 x8_1).f0))).setCell ⟨gb217, 1, none⟩ (.int .i64 ((rd_T78 l0_4 x8_1).f1))).setCell ⟨gb217, 2, none⟩ (.int .i64 ((rd_T78 l0_4 x8_1).f2)))) ?hg ?ho ?hn ?hr ?_; (case ho => rfl); (case hg => rfl); (case hn => rfl); (case hr => first | (go_simp; done) | (go_simp; rfl)); intro w24 hw; have n0_ : Aside0 (Kd.R Kd.bool 4 w24 w.heap.size (fun _ => True) v214 x7_1) := ⟨(by rw [hw]; exact (by refine viR ?_; exact Kd.R_mono (Kd.R_far (p := ⟨gb217, 2, none⟩) (Kd.R_far (p := ⟨gb217, 1, none⟩) (Kd.R_far (p := ⟨gb217, 0, none⟩) (Kd.R_types HO_7.out BK217.out (by decide)) (fun _ hk => hk.2) (.int .i64 ((rd_T78 l0_4 x8_1).f0))) (fun _ hk => hk.2) (.int .i64 ((rd_T78 l0_4 x8_1).f1))) (fun _ hk => hk.2) (.int .i64 ((rd_T78 l0_4 x8_1).f2))) (fun _ hk => trivial)))⟩; have n1_ : Aside0 (w24.heap[gb212]? = some (.cells #[.int .i64 a0_0, .int .i64 a0_1, .int .i64 a0_2, .int .i64 a0_3, .slice (some ad216) l0_4.length c0_4] 31 (0, 0))) := ⟨(by rw [hw]; exact (by refine viK ?_; refine blk_far ?_ NB212_217.out _; refine viK ?_; refine blk_far ?_ NB212_217.out _; refine viK ?_; refine blk_far ?_ NB212_217.out _; refine viK ?_; exact BK212.out))⟩; have n2_ : Aside0 (w24.heap[gb217]? = some (.cells #[.int .i64 ((rd_T78 l0_4 x8_1).f0), .int .i64 ((rd_T78 l0_4 x8_1).f1), .int .i64 ((rd_T78 l0_4 x8_1).f2)] 78 (0, 0))) := ⟨(by rw [hw]; exact (by refine viK ?_; refine blk_put (cs := #[.int .i64 ((rd_T78 l0_4 x8_1).f0), .int .i64 ((rd_T78 l0_4 x8_1).f1), .int .i64 0]) ?_ 2 _ rfl; refine viK ?_; refine blk_put (cs := #[.int .i64 ((rd_T78 l0_4 x8_1).f0), .int .i64 0, .int .i64 0]) ?_ 1 _ rfl; refine viK ?_; refine blk_put (cs := #[.int .i64 0, .int .i64 0, .int .i64 0]) ?_ 0 _ rfl; refine viK ?_; exact BK217.out))⟩; have n3_ : Aside0 (Below w.heap.size w w24) := ⟨(by rw [hw]; exact viB)⟩; clear hw; clear HO_7; clear BK212; clear BK217; clear HB; have HO_7 := n0_; have BK212 := n1_; have BK217 := n2_; have HB := n3_; clear n0_ n1_ n2_ n3_; have hcz25_0 : w24.cell? ⟨gb217, 0, none⟩ = some (.int .i64 ((rd_T78 l0_4 x8_1).f0)) := (blk_cell BK217.out 0).trans rfl; have hcz25_1 : w24.cell? ⟨gb217, 1, none⟩ = some (.int .i64 ((rd_T78 l0_4 x8_1).f1)) := (blk_cell BK217.out 1).trans rfl; have hcz25_2 : w24.cell? ⟨gb217, 2, none⟩ = some (.int .i64 ((rd_T78 l0_4 x8_1).f2)) := (blk_cell BK217.out 2).trans rfl; have hfz25_0 := blk_frozen BK217.out 0; have hfz25_1 := blk_frozen BK217.out 1; have hfz25_2 := blk_frozen BK217.out 2; have p218 : 0 ≤ (((rd_T78 l0_4 x8_1).f0) : Int) := viA; have q218 : ((rd_T78 l0_4 x8_1).f0) < (l2.length : Int) := viA; obtain ⟨ad218, e218, hx218_0⟩ := Kd.at_bool HR2.out ((rd_T78 l0_4 x8_1).f0) p218 q218; (try rw [← Nbq15.out] at hx218_0); cases e218; replace hx218_0 := (HB.out.cell (World.block_lt_of_cell? w _ hx218_0)).trans hx218_0; replace p218 := eq_true p218; replace q218 := eq_true q218; have p19 : 0 ≤ (((rd_T78 l0_4 x8_1).f2) : Int) := viA; have q19 : (((rd_T78 l0_4 x8_1).f2) : Int) < ((x7_1.length : Int) : Int) := viA; obtain ⟨go19, co19, eo19, gb19, gl19, cl19, HG19⟩ := Kd.R_form HO_7.out (by omega); (first | cases eo19 | (injection eo19 with ea_ en_ ec_; (first | subst ea_ | (injection ea_ with ea_; subst ea_)); subst ec_; clear en_)); have GB19 := Aside0.mk gb19; have GG19 := Aside0.mk HG19; clear gb19 gl19 HG19; obtain ⟨hx19_0, hf19_0⟩ := Kd.R_celln false HO_7.out (((rd_T78 l0_4 x8_1).f2) : Int) p19 q19; replace p19 := eq_true p19; replace q19 := eq_true q19; obtain ⟨hy26_, hz26_⟩ := Kd.R_celln false HO_7.out (((rd_T78 l0_4 x8_1).f2) : Int) viA viA; have HP26 := Kd.R_putg HO_7.out (((rd_T78 l0_4 x8_1).f2) : Int) true) | ((with_reducible refine gate_store (t := 4) (p := 44) rfl ?_); refine store_event (t := 4) (p := 44) (v := ?vo_w27) (w1 := (w24.setCell ⟨go19, (((rd_T78 l0_4 x8_1).f2) : Int).toNat, none⟩ (.bool true))) ?hg ?ho ?hn ?hr ?_; (case ho => rfl); (case hg => rfl); (case hn => rfl); (case hr => first | (go_simp; done) | (go_simp; rfl)); intro w27 hw; have hg : w24.grownBy w27 (some go19) := (by rw [hw]; exact HP26.2); have hp_ : Kd.R Kd.bool 4 w27 w.heap.size (fun _ => True) (.slice (some ⟨go19, 0, none⟩) x7_1.length co19) y219 := (by rw [hw, Ny219.out]; exact HP26.1); clear HP26; have n0_ := Aside0.mk (hp_); have n1_ := Aside0.mk (blk_grown (g := gb212) (o := .cells #[.int .i64 a0_0, .int .i64 a0_1, .int .i64 a0_2, .int .i64 a0_3, .slice (some ad216) l0_4.length c0_4] 31 (0, 0)) (viK BK212.out) hg (Kd.R_ne HO_7.out BK212.out (by decide))); have n2_ := Aside0.mk (blk_grown (g := gb217) (o := .cells #[.int .i64 ((rd_T78 l0_4 x8_1).f0), .int .i64 ((rd_T78 l0_4 x8_1).f1), .int .i64 ((rd_T78 l0_4 x8_1).f2)] 78 (0, 0)) (viK BK217.out) hg (Kd.R_ne HO_7.out BK217.out (by decide))); have n3_ := Aside0.mk ((by rw [hw]; exact below_set (HB.out) GB19.out : Below w.heap.size w w27)); clear HO_7; clear BK212; clear BK217; clear HB; have HO_7 := n0_; have BK212 := n1_; have BK217 := n2_; have HB := n3_; clear n0_ n1_ n2_ n3_; clear hg hw hp_))
                          go_roundg k1
                          case measure => have := HK1.out; omega
                          case rel => exact ⟨(y219), (wrap64 (x8_1 + 1)), (by first | rfl | (simp; done) | (simp [*]; done)), H', ⟨by have := HK1.out; omega⟩, ⟨viR HO_7.out⟩, ⟨viK BK212.out⟩, ⟨viB⟩⟩
                        · rw [if_neg c18] at H
                          exact absurd H (by simp)
                      · rw [if_neg c17] at H
                        exact absurd H (by simp)
                    · replace c16 := Bool.eq_false_iff.mpr c16
                      subst c16
                      have H1 : (stackyardref08_by.l0 k1 a1 l2 x7_1 (wrap64 (x8_1 + 1)) a0_0 a0_1 a0_2 a0_3 l0_4) = some r := by rw [if_neg (show ¬ (false = true) by decide)] at H; exact H
                      clear H
                      have H := H1
                      clear H1
                      have H' := Aside0.mk H
                      clear H
                      have hcz28_0 : wr.cell? ⟨gb212, 0, none⟩ = some (.int .i64 a0_0) := (blk_cell BK212.out 0).trans rfl
                      have hcz28_1 : wr.cell? ⟨gb212, 1, none⟩ = some (.int .i64 a0_1) := (blk_cell BK212.out 1).trans rfl
                      have hcz28_2 : wr.cell? ⟨gb212, 2, none⟩ = some (.int .i64 a0_2) := (blk_cell BK212.out 2).trans rfl
                      have hcz28_3 : wr.cell? ⟨gb212, 3, none⟩ = some (.int .i64 a0_3) := (blk_cell BK212.out 3).trans rfl
                      have hcz28_4 : wr.cell? ⟨gb212, 4, none⟩ = some (.slice A0_4 l0_4.length c0_4) := (blk_cell BK212.out 4).trans rfl
                      have hfz28_0 := blk_frozen BK212.out 0
                      have hfz28_1 := blk_frozen BK212.out 1
                      have hfz28_2 := blk_frozen BK212.out 2
                      have hfz28_3 := blk_frozen BK212.out 3
                      have hfz28_4 := blk_frozen BK212.out 4
                      have p216 : 0 ≤ (x8_1 : Int) := viA
                      have q216 : x8_1 < (l0_4.length : Int) := viA
                      obtain ⟨ad216, e216, hx216_0, hx216_1, hx216_2⟩ := at_T78 HR0_4.out x8_1 p216 q216
                      cases e216
                      replace hx216_0 := (HB.out.cell (World.block_lt_of_cell? w _ hx216_0)).trans hx216_0
                      replace hx216_1 := (HB.out.cell (World.block_lt_of_cell? w _ hx216_1)).trans hx216_1
                      replace hx216_2 := (HB.out.cell (World.block_lt_of_cell? w _ hx216_2)).trans hx216_2
                      replace p216 := eq_true p216
                      replace q216 := eq_true q216
                      go_wp2_with (first | ((with_reducible refine gate_dst (N := 9) rfl ?_); refine box_event ?hg (N := 9) ?hd (cs := #[.int .i64 0, .int .i64 0, .int .i64 0]) (t := 78) ?hr ?_; (case hd => rfl); (case hg => rfl); (case hr => first | (go_simp; done) | (go_simp; rfl)); intro gb217 hg w29 hbox hb; have n0_ := Aside0.mk (Kd.R_below (viR HO_7.out) hb); have n1_ := Aside0.mk (blk_below (g := gb212) (o := .cells #[.int .i64 a0_0, .int .i64 a0_1, .int .i64 a0_2, .int .i64 a0_3, .slice (some ad216) l0_4.length c0_4] 31 (0, 0)) (viK BK212.out) hb); have n2_ := Aside0.mk (below_step viB hb); have n3_ := Aside0.mk (hbox); have n4_ := Aside0.mk ((by rw [hg]; exact (below_size viB) : w.heap.size ≤ gb217)); have n5_ := Aside0.mk ((by rw [hg]; exact (below_size viB) : w.heap.size ≤ gb217)); have n6_ := Aside0.mk ((by rw [hg]; exact Nat.ne_of_lt (blk_lt (g := gb212) (o := .cells #[.int .i64 a0_0, .int .i64 a0_1, .int .i64 a0_2, .int .i64 a0_3, .slice (some ad216) l0_4.length c0_4] 31 (0, 0)) (viK BK212.out)) : gb212 ≠ gb217)); have n7_ := Aside0.mk ((by rw [hg]; exact Nat.ne_of_gt (blk_lt (g := gb212) (o := .cells #[.int .i64 a0_0, .int .i64 a0_1, .int .i64 a0_2, .int .i64 a0_3, .slice (some ad216) l0_4.length c0_4] 31 (0, 0)) (viK BK212.out)) : gb217 ≠ gb212)); clear HO_7; clear BK212; clear HB; have HO_7 := n0_; have BK212 := n1_; have HB := n2_; have BK217 := n3_; have GW217 := n4_; have GE217 := n5_; have NB212_217 := n6_; have NB217_212 := n7_; clear n0_ n1_ n2_ n3_ n4_ n5_ n6_ n7_; clear hb hbox hg; have hnb30 := NB217_212.out; have hnc30 := NB212_217.out; have hcz31_0 : w29.cell? ⟨gb217, 0, none⟩ = some (.int .i64 0) := (blk_cell BK217.out 0).trans rfl; have hcz31_1 : w29.cell? ⟨gb217, 1, none⟩ = some (.int .i64 0) := (blk_cell BK217.out 1).trans rfl; have hcz31_2 : w29.cell? ⟨gb217, 2, none⟩ = some (.int .i64 0) := (blk_cell BK217.out 2).trans rfl; have hfz31_0 := blk_frozen BK217.out 0; have hfz31_1 := blk_frozen BK217.out 1; have hfz31_2 := blk_frozen BK217.out 2; have p218 : 0 ≤ (((rd_T78 l0_4 x8_1).f0) : Int) := viA; have q218 : ((rd_T78 l0_4 x8_1).f0) < (l2.length : Int) := viA; obtain ⟨ad218, e218, hx218_0⟩ := Kd.at_bool HR2.out ((rd_T78 l0_4 x8_1).f0) p218 q218; (try rw [← Nbq15.out] at hx218_0); cases e218; have hn218_0 : ad218.block ≠ gb217 := Nat.ne_of_lt (Nat.lt_of_lt_of_le (by have := World.block_lt_of_cell? _ _ hx218_0; first | rwa [add_block] at this | exact this) GW217.out); have hn218_1 : ad218.block ≠ gb217 := Nat.ne_of_lt (Nat.lt_of_lt_of_le (by have := World.block_lt_of_cell? _ _ hx218_0; first | rwa [add_block] at this | exact this) GW217.out); have hn218_2 : ad218.block ≠ gb217 := Nat.ne_of_lt (Nat.lt_of_lt_of_le (by have := World.block_lt_of_cell? _ _ hx218_0; first | rwa [add_block] at this | exact this) GW217.out); replace hx218_0 := (HB.out.cell (World.block_lt_of_cell? w _ hx218_0)).trans hx218_0; replace hx218_0 := (cell_far (p := ⟨gb217, 0, none⟩) (by first | (rw [add_block]; exact hn218_0) | (show (Addr.add _ _).block ≠ _; rw [add_block]; exact hn218_0) | exact hn218_0) (.int .i64 ((rd_T78 l0_4 x8_1).f0))).trans hx218_0; replace hx218_0 := (cell_far (p := ⟨gb217, 1, none⟩) (by first | (rw [add_block]; exact hn218_1) | (show (Addr.add _ _).block ≠ _; rw [add_block]; exact hn218_1) | exact hn218_1) (.int .i64 ((rd_T78 l0_4 x8_1).f1))).trans hx218_0; replace hx218_0 := (cell_far (p := ⟨gb217, 2, none⟩) (by first | (rw [add_block]; exact hn218_2) | (show (Addr.add _ _).block ≠ _; rw [add_block]; exact hn218_2) | exact hn218_2) (.int .i64 ((rd_T78 l0_4 x8_1).f2))).trans hx218_0; clear hn218_0; clear hn218_1; clear hn218_2; replace p218 := eq_true p218; replace q218 := eq_true q218))
                      go_roundg k1
                      case measure => have := HK1.out; omega
                      case rel => exact ⟨(x7_1), (wrap64 (x8_1 + 1)), (by first | rfl | (simp; done) | (simp [*]; done)), H', ⟨by have := HK1.out; omega⟩, ⟨by refine viR ?_; exact Kd.R_mono (Kd.R_far (p := ⟨gb217, 2, none⟩) (Kd.R_far (p := ⟨gb217, 1, none⟩) (Kd.R_far (p := ⟨gb217, 0, none⟩) (Kd.R_types HO_7.out BK217.out (by decide)) (fun _ hk => hk.2) (.int .i64 ((rd_T78 l0_4 x8_1).f0))) (fun _ hk => hk.2) (.int .i64 ((rd_T78 l0_4 x8_1).f1))) (fun _ hk => hk.2) (.int .i64 ((rd_T78 l0_4 x8_1).f2))) (fun _ hk => trivial)⟩, ⟨by refine viK ?_; refine blk_far ?_ NB212_217.out _; refine viK ?_; refine blk_far ?_ NB212_217.out _; refine viK ?_; refine blk_far ?_ NB212_217.out _; refine viK ?_; exact BK212.out⟩, ⟨viB⟩⟩
                  · rw [if_neg c14] at H
                    exact absurd H (by simp)
                · rw [if_neg c13] at H
                  exact absurd H (by simp)
              · rw [if_neg c12] at H
                have c12b0 : (((rd_T78 l0_4 x8_1).f1) == a1) = false := beq_eq_false_iff_ne.mpr c12
                have c12b1 : (((rd_T78 l0_4 x8_1).f1) != a1) = true := bne_iff_ne.mpr c12
                by_cases c32 : ((rd_T78 l0_4 x8_1).f1) = (-2)
                · rw [if_pos c32] at H
                  have c32b0 : (((rd_T78 l0_4 x8_1).f1) == (-2)) = true := beq_iff_eq.mpr c32
                  have c32b1 : (((rd_T78 l0_4 x8_1).f1) != (-2)) = false := bne_eq_false_iff_eq.mpr c32
                  clear c32
                  by_cases c33 : 0 ≤ ((rd_T78 l0_4 x8_1).f0)
                  · rw [if_pos c33] at H
                    have c33b0 : decide (0 ≤ ((rd_T78 l0_4 x8_1).f0)) = true := decide_eq_true c33
                    clear c33
                    by_cases c34 : ((rd_T78 l0_4 x8_1).f0) < (l2.length : Int)
                    · rw [if_pos c34] at H
                      have c34b0 : decide (((rd_T78 l0_4 x8_1).f0) < (l2.length : Int)) = true := decide_eq_true c34
                      clear c34
                      obtain ⟨bq35, hbq35⟩ : ∃ b_ : Bool, b_ = (rdOf false l2 ((rd_T78 l0_4 x8_1).f0)) := ⟨_, rfl⟩
                      replace H : (if bq35 = true then (if 0 ≤ ((rd_T78 l0_4 x8_1).f2) then (if ((rd_T78 l0_4 x8_1).f2) < (x7_1.length : Int) then (stackyardref08_by.l0 k1 a1 l2 (x7_1.set (((rd_T78 l0_4 x8_1).f2) : Int).toNat true) (wrap64 (x8_1 + 1)) a0_0 a0_1 a0_2 a0_3 l0_4) else (none)) else (none)) else (stackyardref08_by.l0 k1 a1 l2 x7_1 (wrap64 (x8_1 + 1)) a0_0 a0_1 a0_2 a0_3 l0_4)) = some r := by rw [← hbq35] at H; exact H
                      have Nbq35 := Aside0.mk hbq35
                      clear hbq35
                      by_cases c36 : bq35 = true
                      · subst c36
                        have H1 : (if 0 ≤ ((rd_T78 l0_4 x8_1).f2) then (if ((rd_T78 l0_4 x8_1).f2) < (x7_1.length : Int) then (stackyardref08_by.l0 k1 a1 l2 (x7_1.set (((rd_T78 l0_4 x8_1).f2) : Int).toNat true) (wrap64 (x8_1 + 1)) a0_0 a0_1 a0_2 a0_3 l0_4) else (none)) else (none)) = some r := by rw [if_pos rfl] at H; exact H
                        clear H
                        have H := H1
                        clear H1
                        by_cases c37 : 0 ≤ ((rd_T78 l0_4 x8_1).f2)
                        · rw [if_pos c37] at H
                          have c37b0 : decide (0 ≤ ((rd_T78 l0_4 x8_1).f2)) = true := decide_eq_true c37
                          clear c37
                          by_cases c38 : ((rd_T78 l0_4 x8_1).f2) < (x7_1.length : Int)
                          · rw [if_pos c38] at H
                            have c38b0 : decide (((rd_T78 l0_4 x8_1).f2) < (x7_1.length : Int)) = true := decide_eq_true c38
                            clear c38
                            obtain ⟨y221, hy221⟩ : ∃ y_ : List Bool, y_ = (x7_1.set (((rd_T78 l0_4 x8_1).f2) : Int).toNat true) := ⟨_, rfl⟩
                            replace H : (stackyardref08_by.l0 k1 a1 l2 y221 (wrap64 (x8_1 + 1)) a0_0 a0_1 a0_2 a0_3 l0_4) = some r := by first | (rw [hy221]; with_reducible exact H) | (have H2_ := (Option.bind_some _ _).symm.trans H; rw [hy221]; with_reducible exact H2_) | (have H2_ := (Option.bind_some _ _).symm.trans H; with_reducible exact H2_) | with_reducible exact H | (rw [hy221]; exact H) | exact H
                            have Ny221 := Aside0.mk hy221
                            clear hy221
                            have H' := Aside0.mk H
                            clear H
                            have hcz40_0 : wr.cell? ⟨gb212, 0, none⟩ = some (.int .i64 a0_0) := (blk_cell BK212.out 0).trans rfl
                            have hcz40_1 : wr.cell? ⟨gb212, 1, none⟩ = some (.int .i64 a0_1) := (blk_cell BK212.out 1).trans rfl
                            have hcz40_2 : wr.cell? ⟨gb212, 2, none⟩ = some (.int .i64 a0_2) := (blk_cell BK212.out 2).trans rfl
                            have hcz40_3 : wr.cell? ⟨gb212, 3, none⟩ = some (.int .i64 a0_3) := (blk_cell BK212.out 3).trans rfl
                            have hcz40_4 : wr.cell? ⟨gb212, 4, none⟩ = some (.slice A0_4 l0_4.length c0_4) := (blk_cell BK212.out 4).trans rfl
                            have hfz40_0 := blk_frozen BK212.out 0
                            have hfz40_1 := blk_frozen BK212.out 1
                            have hfz40_2 := blk_frozen BK212.out 2
                            have hfz40_3 := blk_frozen BK212.out 3
                            have hfz40_4 := blk_frozen BK212.out 4
                            have p216 : 0 ≤ (x8_1 : Int) := viA
                            have q216 : x8_1 < (l0_4.length : Int) := viA
                            obtain ⟨ad216, e216, hx216_0, hx216_1, hx216_2⟩ := at_T78 HR0_4.out x8_1 p216 q216
                            cases e216
                            replace hx216_0 := (HB.out.cell (World.block_lt_of_cell? w _ hx216_0)).trans hx216_0
                            replace hx216_1 := (HB.out.cell (World.block_lt_of_cell? w _ hx216_1)).trans hx216_1
                            replace hx216_2 := (HB.out.cell (World.block_lt_of_cell? w _ hx216_2)).trans hx216_2
                            replace p216 := eq_true p216
                            replace q216 := eq_true q216
                            go_wp2_with (first | ((with_reducible refine gate_dst (N := 9) rfl ?_); refine box_event ?hg (N := 9) ?hd (cs := #[.int .i64 0, .int .i64 0, .int .i64 0]) (t := 78) ?hr ?_; (case hd => rfl); (case hg => rfl); (case hr => first | (go_simp; done) | (go_simp; rfl)); intro gb217 hg w41 hbox hb; have n0_ := Aside0.mk (Kd.R_below (viR HO_7.out) hb); have n1_ := Aside0.mk (blk_below (g := gb212) (o := .cells #[.int .i64 a0_0, .int .i64 a0_1, .int .i64 a0_2, .int .i64 a0_3, .slice (some ad216) l0_4.length c0_4] 31 (0, 0)) (viK BK212.out) hb); have n2_ := Aside0.mk (below_step viB hb); have n3_ := Aside0.mk (hbox); have n4_ := Aside0.mk ((by rw [hg]; exact (below_size viB) : w.heap.size ≤ gb217)); have n5_ := Aside0.mk ((by rw [hg]; exact (below_size viB) : w.heap.size ≤ gb217)); have n6_ := Aside0.mk ((by rw [hg]; exact Nat.ne_of_lt (blk_lt (g := gb212) (o := .cells #[.int .i64 a0_0, .int .i64 a0_1, .int .i64 a0_2, .int .i64 a0_3, .slice (some ad216) l0_4.length c0_4] 31 (0, 0)) (viK BK212.out)) : gb212 ≠ gb217)); have n7_ := Aside0.mk ((by rw [hg]; exact Nat.ne_of_gt (blk_lt (g := gb212) (o := .cells #[.int .i64 a0_0, .int .i64 a0_1, .int .i64 a0_2, .int .i64 a0_3, .slice (some ad216) l0_4.length c0_4] 31 (0, 0)) (viK BK212.out)) : gb217 ≠ gb212)); clear HO_7; clear BK212; clear HB; have HO_7 := n0_; have BK212 := n1_; have HB := n2_; have BK217 := n3_; have GW217 := n4_; have GE217 := n5_; have NB212_217 := n6_; have NB217_212 := n7_; clear n0_ n1_ n2_ n3_ n4_ n5_ n6_ n7_; clear hb hbox hg; have hnb42 := NB217_212.out; have hnc42 := NB212_217.out; have hcz43_0 : w41.cell? ⟨gb217, 0, none⟩ = some (.int .i64 0) := (blk_cell BK217.out 0).trans rfl; have hcz43_1 : w41.cell? ⟨gb217, 1, none⟩ = some (.int .i64 0) := (blk_cell BK217.out 1).trans rfl; have hcz43_2 : w41.cell? ⟨gb217, 2, none⟩ = some (.int .i64 0) := (blk_cell BK217.out 2).trans rfl; have hfz43_0 := blk_frozen BK217.out 0; have hfz43_1 := blk_frozen BK217.out 1; have hfz43_2 := blk_frozen BK217.out 2) | ((with_reducible refine gate_store (t := 78) (p := 9) rfl ?_); refine store_event (t := 78) (p := 9) (v := ?vo_w44) (w1 := (((w41.setCell ⟨gb217, 0, none⟩ (.int .i64 ((rd_T78 l0_4 x8_1).f0))).setCell ⟨gb217, 1, none⟩ (.int .i64 ((rd_T78 l0_4 x8_1).f1))).setCell ⟨gb217, 2, none⟩ (.int .i64 ((rd_T78 l0_4 x8_1).f2)))) ?hg ?ho ?hn ?hr ?_; (case ho => rfl); (case hg => rfl); (case hn => rfl); (case hr => first | (go_simp; done) | (go_simp; rfl)); intro w44 hw; have n0_ : Aside0 (Kd.R Kd.bool 4 w44 w.heap.size (fun _ => True) v214 x7_1) := ⟨(by rw [hw]; exact (by refine viR ?_; exact Kd.R_mono (Kd.R_far (p := ⟨gb217, 2, none⟩) (Kd.R_far (p := ⟨gb217, 1, none⟩) (Kd.R_far (p := ⟨gb217, 0, none⟩) (Kd.R_types HO_7.out BK217.out (by decide)) (fun _ hk => hk.2) (.int .i64 ((rd_T78 l0_4 x8_1).f0))) (fun _ hk => hk.2) (.int .i64 ((rd_T78 l0_4 x8_1).f1))) (fun _ hk => hk.2) (.int .i64 ((rd_T78 l0_4 x8_1).f2))) (fun _ hk => trivial)))⟩; have n1_ : Aside0 (w44.heap[gb212]? = some (.cells #[.int .i64 a0_0, .int .i64 a0_1, .int .i64 a0_2, .int .i64 a0_3, .slice (some ad216) l0_4.length c0_4] 31 (0, 0))) := ⟨(by rw [hw]; exact (by refine viK ?_; refine blk_far ?_ NB212_217.out _; refine viK ?_; refine blk_far ?_ NB212_217.out _; refine viK ?_; refine blk_far ?_ NB212_217.out _; refine viK ?_; exact BK212.out))⟩; have n2_ : Aside0 (w44.heap[gb217]? = some (.cells #[.int .i64 ((rd_T78 l0_4 x8_1).f0), .int .i64 ((rd_T78 l0_4 x8_1).f1), .int .i64 ((rd_T78 l0_4 x8_1).f2)] 78 (0, 0))) := ⟨(by rw [hw]; exact (by refine viK ?_; refine blk_put (cs := #[.int .i64 ((rd_T78 l0_4 x8_1).f0), .int .i64 ((rd_T78 l0_4 x8_1).f1), .int .i64 0]) ?_ 2 _ rfl; refine viK ?_; refine blk_put (cs := #[.int .i64 ((rd_T78 l0_4 x8_1).f0), .int .i64 0, .int .i64 0]) ?_ 1 _ rfl; refine viK ?_; refine blk_put (cs := #[.int .i64 0, .int .i64 0, .int .i64 0]) ?_ 0 _ rfl; refine viK ?_; exact BK217.out))⟩; have n3_ : Aside0 (Below w.heap.size w w44) := ⟨(by rw [hw]; exact viB)⟩; clear hw; clear HO_7; clear BK212; clear BK217; clear HB; have HO_7 := n0_; have BK212 := n1_; have BK217 := n2_; have HB := n3_; clear n0_ n1_ n2_ n3_; have hcz45_0 : w44.cell? ⟨gb217, 0, none⟩ = some (.int .i64 ((rd_T78 l0_4 x8_1).f0)) := (blk_cell BK217.out 0).trans rfl; have hcz45_1 : w44.cell? ⟨gb217, 1, none⟩ = some (.int .i64 ((rd_T78 l0_4 x8_1).f1)) := (blk_cell BK217.out 1).trans rfl; have hcz45_2 : w44.cell? ⟨gb217, 2, none⟩ = some (.int .i64 ((rd_T78 l0_4 x8_1).f2)) := (blk_cell BK217.out 2).trans rfl; have hfz45_0 := blk_frozen BK217.out 0; have hfz45_1 := blk_frozen BK217.out 1; have hfz45_2 := blk_frozen BK217.out 2; have p220 : 0 ≤ (((rd_T78 l0_4 x8_1).f0) : Int) := viA; have q220 : ((rd_T78 l0_4 x8_1).f0) < (l2.length : Int) := viA; obtain ⟨ad220, e220, hx220_0⟩ := Kd.at_bool HR2.out ((rd_T78 l0_4 x8_1).f0) p220 q220; (try rw [← Nbq35.out] at hx220_0); cases e220; replace hx220_0 := (HB.out.cell (World.block_lt_of_cell? w _ hx220_0)).trans hx220_0; replace p220 := eq_true p220; replace q220 := eq_true q220; have p39 : 0 ≤ (((rd_T78 l0_4 x8_1).f2) : Int) := viA; have q39 : (((rd_T78 l0_4 x8_1).f2) : Int) < ((x7_1.length : Int) : Int) := viA; obtain ⟨go39, co39, eo39, gb39, gl39, cl39, HG39⟩ := Kd.R_form HO_7.out (by omega); (first | cases eo39 | (injection eo39 with ea_ en_ ec_; (first | subst ea_ | (injection ea_ with ea_; subst ea_)); subst ec_; clear en_)); have GB39 := Aside0.mk gb39; have GG39 := Aside0.mk HG39; clear gb39 gl39 HG39; obtain ⟨hx39_0, hf39_0⟩ := Kd.R_celln false HO_7.out (((rd_T78 l0_4 x8_1).f2) : Int) p39 q39; replace p39 := eq_true p39; replace q39 := eq_true q39; obtain ⟨hy46_, hz46_⟩ := Kd.R_celln false HO_7.out (((rd_T78 l0_4 x8_1).f2) : Int) viA viA; have HP46 := Kd.R_putg HO_7.out (((rd_T78 l0_4 x8_1).f2) : Int) true) | ((with_reducible refine gate_store (t := 4) (p := 44) rfl ?_); refine store_event (t := 4) (p := 44) (v := ?vo_w47) (w1 := (w44.setCell ⟨go39, (((rd_T78 l0_4 x8_1).f2) : Int).toNat, none⟩ (.bool true))) ?hg ?ho ?hn ?hr ?_; (case ho => rfl); (case hg => rfl); (case hn => rfl); (case hr => first | (go_simp; done) | (go_simp; rfl)); intro w47 hw; have hg : w44.grownBy w47 (some go39) := (by rw [hw]; exact HP46.2); have hp_ : Kd.R Kd.bool 4 w47 w.heap.size (fun _ => True) (.slice (some ⟨go39, 0, none⟩) x7_1.length co39) y221 := (by rw [hw, Ny221.out]; exact HP46.1); clear HP46; have n0_ := Aside0.mk (hp_); have n1_ := Aside0.mk (blk_grown (g := gb212) (o := .cells #[.int .i64 a0_0, .int .i64 a0_1, .int .i64 a0_2, .int .i64 a0_3, .slice (some ad216) l0_4.length c0_4] 31 (0, 0)) (viK BK212.out) hg (Kd.R_ne HO_7.out BK212.out (by decide))); have n2_ := Aside0.mk (blk_grown (g := gb217) (o := .cells #[.int .i64 ((rd_T78 l0_4 x8_1).f0), .int .i64 ((rd_T78 l0_4 x8_1).f1), .int .i64 ((rd_T78 l0_4 x8_1).f2)] 78 (0, 0)) (viK BK217.out) hg (Kd.R_ne HO_7.out BK217.out (by decide))); have n3_ := Aside0.mk ((by rw [hw]; exact below_set (HB.out) GB39.out : Below w.heap.size w w47)); clear HO_7; clear BK212; clear BK217; clear HB; have HO_7 := n0_; have BK212 := n1_; have BK217 := n2_; have HB := n3_; clear n0_ n1_ n2_ n3_; clear hg hw hp_))
                            go_roundg k1
                            case measure => have := HK1.out; omega
                            case rel => exact ⟨(y221), (wrap64 (x8_1 + 1)), (by first | rfl | (simp; done) | (simp [*]; done)), H', ⟨by have := HK1.out; omega⟩, ⟨viR HO_7.out⟩, ⟨viK BK212.out⟩, ⟨viB⟩⟩
                          · rw [if_neg c38] at H
                            exact absurd H (by simp)
                        · rw [if_neg c37] at H
                          exact absurd H (by simp)
                      · replace c36 := Bool.eq_false_iff.mpr c36
                        subst c36
                        have H1 : (stackyardref08_by.l0 k1 a1 l2 x7_1 (wrap64 (x8_1 + 1)) a0_0 a0_1 a0_2 a0_3 l0_4) = some r := by rw [if_neg (show ¬ (false = true) by decide)] at H; exact H
                        clear H
                        have H := H1
                        clear H1
                        have H' := Aside0.mk H
                        clear H
                        have hcz48_0 : wr.cell? ⟨gb212, 0, none⟩ = some (.int .i64 a0_0) := (blk_cell BK212.out 0).trans rfl
                        have hcz48_1 : wr.cell? ⟨gb212, 1, none⟩ = some (.int .i64 a0_1) := (blk_cell BK212.out 1).trans rfl
                        have hcz48_2 : wr.cell? ⟨gb212, 2, none⟩ = some (.int .i64 a0_2) := (blk_cell BK212.out 2).trans rfl
                        have hcz48_3 : wr.cell? ⟨gb212, 3, none⟩ = some (.int .i64 a0_3) := (blk_cell BK212.out 3).trans rfl
                        have hcz48_4 : wr.cell? ⟨gb212, 4, none⟩ = some (.slice A0_4 l0_4.length c0_4) := (blk_cell BK212.out 4).trans rfl
                        have hfz48_0 := blk_frozen BK212.out 0
                        have hfz48_1 := blk_frozen BK212.out 1
                        have hfz48_2 := blk_frozen BK212.out 2
                        have hfz48_3 := blk_frozen BK212.out 3
                        have hfz48_4 := blk_frozen BK212.out 4
                        have p216 : 0 ≤ (x8_1 : Int) := viA
                        have q216 : x8_1 < (l0_4.length : Int) := viA
                        obtain ⟨ad216, e216, hx216_0, hx216_1, hx216_2⟩ := at_T78 HR0_4.out x8_1 p216 q216
                        cases e216
                        replace hx216_0 := (HB.out.cell (World.block_lt_of_cell? w _ hx216_0)).trans hx216_0
                        replace hx216_1 := (HB.out.cell (World.block_lt_of_cell? w _ hx216_1)).trans hx216_1
                        replace hx216_2 := (HB.out.cell (World.block_lt_of_cell? w _ hx216_2)).trans hx216_2
                        replace p216 := eq_true p216
                        replace q216 := eq_true q216
                        go_wp2_with (first | ((with_reducible refine gate_dst (N := 9) rfl ?_); refine box_event ?hg (N := 9) ?hd (cs := #[.int .i64 0, .int .i64 0, .int .i64 0]) (t := 78) ?hr ?_; (case hd => rfl); (case hg => rfl); (case hr => first | (go_simp; done) | (go_simp; rfl)); intro gb217 hg w49 hbox hb; have n0_ := Aside0.mk (Kd.R_below (viR HO_7.out) hb); have n1_ := Aside0.mk (blk_below (g := gb212) (o := .cells #[.int .i64 a0_0, .int .i64 a0_1, .int .i64 a0_2, .int .i64 a0_3, .slice (some ad216) l0_4.length c0_4] 31 (0, 0)) (viK BK212.out) hb); have n2_ := Aside0.mk (below_step viB hb); have n3_ := Aside0.mk (hbox); have n4_ := Aside0.mk ((by rw [hg]; exact (below_size viB) : w.heap.size ≤ gb217)); have n5_ := Aside0.mk ((by rw [hg]; exact (below_size viB) : w.heap.size ≤ gb217)); have n6_ := Aside0.mk ((by rw [hg]; exact Nat.ne_of_lt (blk_lt (g := gb212) (o := .cells #[.int .i64 a0_0, .int .i64 a0_1, .int .i64 a0_2, .int .i64 a0_3, .slice (some ad216) l0_4.length c0_4] 31 (0, 0)) (viK BK212.out)) : gb212 ≠ gb217)); have n7_ := Aside0.mk ((by rw [hg]; exact Nat.ne_of_gt (blk_lt (g := gb212) (o := .cells #[.int .i64 a0_0, .int .i64 a0_1, .int .i64 a0_2, .int .i64 a0_3, .slice (some ad216) l0_4.length c0_4] 31 (0, 0)) (viK BK212.out)) : gb217 ≠ gb212)); clear HO_7; clear BK212; clear HB; have HO_7 := n0_; have BK212 := n1_; have HB := n2_; have BK217 := n3_; have GW217 := n4_; have GE217 := n5_; have NB212_217 := n6_; have NB217_212 := n7_; clear n0_ n1_ n2_ n3_ n4_ n5_ n6_ n7_; clear hb hbox hg; have hnb50 := NB217_212.out; have hnc50 := NB212_217.out; have hcz51_0 : w49.cell? ⟨gb217, 0, none⟩ = some (.int .i64 0) := (blk_cell BK217.out 0).trans rfl; have hcz51_1 : w49.cell? ⟨gb217, 1, none⟩ = some (.int .i64 0) := (blk_cell BK217.out 1).trans rfl; have hcz51_2 : w49.cell? ⟨gb217, 2, none⟩ = some (.int .i64 0) := (blk_cell BK217.out 2).trans rfl; have hfz51_0 := blk_frozen BK217.out 0; have hfz51_1 := blk_frozen BK217.out 1; have hfz51_2 := blk_frozen BK217.out 2; have p220 : 0 ≤ (((rd_T78 l0_4 x8_1).f0) : Int) := viA; have q220 : ((rd_T78 l0_4 x8_1).f0) < (l2.length : Int) := viA; obtain ⟨ad220, e220, hx220_0⟩ := Kd.at_bool HR2.out ((rd_T78 l0_4 x8_1).f0) p220 q220; (try rw [← Nbq35.out] at hx220_0); cases e220; have hn220_0 : ad220.block ≠ gb217 := Nat.ne_of_lt (Nat.lt_of_lt_of_le (by have := World.block_lt_of_cell? _ _ hx220_0; first | rwa [add_block] at this | exact this) GW217.out); have hn220_1 : ad220.block ≠ gb217 := Nat.ne_of_lt (Nat.lt_of_lt_of_le (by have := World.block_lt_of_cell? _ _ hx220_0; first | rwa [add_block] at this | exact this) GW217.out); have hn220_2 : ad220.block ≠ gb217 := Nat.ne_of_lt (Nat.lt_of_lt_of_le (by have := World.block_lt_of_cell? _ _ hx220_0; first | rwa [add_block] at this | exact this) GW217.out); replace hx220_0 := (HB.out.cell (World.block_lt_of_cell? w _ hx220_0)).trans hx220_0; replace hx220_0 := (cell_far (p := ⟨gb217, 0, none⟩) (by first | (rw [add_block]; exact hn220_0) | (show (Addr.add _ _).block ≠ _; rw [add_block]; exact hn220_0) | exact hn220_0) (.int .i64 ((rd_T78 l0_4 x8_1).f0))).trans hx220_0; replace hx220_0 := (cell_far (p := ⟨gb217, 1, none⟩) (by first | (rw [add_block]; exact hn220_1) | (show (Addr.add _ _).block ≠ _; rw [add_block]; exact hn220_1) | exact hn220_1) (.int .i64 ((rd_T78 l0_4 x8_1).f1))).trans hx220_0; replace hx220_0 := (cell_far (p := ⟨gb217, 2, none⟩) (by first | (rw [add_block]; exact hn220_2) | (show (Addr.add _ _).block ≠ _; rw [add_block]; exact hn220_2) | exact hn220_2) (.int .i64 ((rd_T78 l0_4 x8_1).f2))).trans hx220_0; clear hn220_0; clear hn220_1; clear hn220_2; replace p220 := eq_true p220; replace q220 := eq_true q220))
                        go_roundg k1
                        case measure => have := HK1.out; omega
                        case rel => exact ⟨(x7_1), (wrap64 (x8_1 + 1)), (by first | rfl | (simp; done) | (simp [*]; done)), H', ⟨by have := HK1.out; omega⟩, ⟨by refine viR ?_; exact Kd.R_mono (Kd.R_far (p := ⟨gb217, 2, none⟩) (Kd.R_far (p := ⟨gb217, 1, none⟩) (Kd.R_far (p := ⟨gb217, 0, none⟩) (Kd.R_types HO_7.out BK217.out (by decide)) (fun _ hk => hk.2) (.int .i64 ((rd_T78 l0_4 x8_1).f0))) (fun _ hk => hk.2) (.int .i64 ((rd_T78 l0_4 x8_1).f1))) (fun _ hk => hk.2) (.int .i64 ((rd_T78 l0_4 x8_1).f2))) (fun _ hk => trivial)⟩, ⟨by refine viK ?_; refine blk_far ?_ NB212_217.out _; refine viK ?_; refine blk_far ?_ NB212_217.out _; refine viK ?_; refine blk_far ?_ NB212_217.out _; refine viK ?_; exact BK212.out⟩, ⟨viB⟩⟩
                    · rw [if_neg c34] at H
                      exact absurd H (by simp)
                  · rw [if_neg c33] at H
                    exact absurd H (by simp)
                · rw [if_neg c32] at H
                  have c32b0 : (((rd_T78 l0_4 x8_1).f1) == (-2)) = false := beq_eq_false_iff_ne.mpr c32
                  have c32b1 : (((rd_T78 l0_4 x8_1).f1) != (-2)) = true := bne_iff_ne.mpr c32
                  have H' := Aside0.mk H
                  clear H
                  have hcz52_0 : wr.cell? ⟨gb212, 0, none⟩ = some (.int .i64 a0_0) := (blk_cell BK212.out 0).trans rfl
                  have hcz52_1 : wr.cell? ⟨gb212, 1, none⟩ = some (.int .i64 a0_1) := (blk_cell BK212.out 1).trans rfl
                  have hcz52_2 : wr.cell? ⟨gb212, 2, none⟩ = some (.int .i64 a0_2) := (blk_cell BK212.out 2).trans rfl
                  have hcz52_3 : wr.cell? ⟨gb212, 3, none⟩ = some (.int .i64 a0_3) := (blk_cell BK212.out 3).trans rfl
                  have hcz52_4 : wr.cell? ⟨gb212, 4, none⟩ = some (.slice A0_4 l0_4.length c0_4) := (blk_cell BK212.out 4).trans rfl
                  have hfz52_0 := blk_frozen BK212.out 0
                  have hfz52_1 := blk_frozen BK212.out 1
                  have hfz52_2 := blk_frozen BK212.out 2
                  have hfz52_3 := blk_frozen BK212.out 3
                  have hfz52_4 := blk_frozen BK212.out 4
                  have p216 : 0 ≤ (x8_1 : Int) := viA
                  have q216 : x8_1 < (l0_4.length : Int) := viA
                  obtain ⟨ad216, e216, hx216_0, hx216_1, hx216_2⟩ := at_T78 HR0_4.out x8_1 p216 q216
                  cases e216
                  replace hx216_0 := (HB.out.cell (World.block_lt_of_cell? w _ hx216_0)).trans hx216_0
                  replace hx216_1 := (HB.out.cell (World.block_lt_of_cell? w _ hx216_1)).trans hx216_1
                  replace hx216_2 := (HB.out.cell (World.block_lt_of_cell? w _ hx216_2)).trans hx216_2
                  replace p216 := eq_true p216
                  replace q216 := eq_true q216
                  go_wp2_with (first | ((with_reducible refine gate_dst (N := 9) rfl ?_); refine box_event ?hg (N := 9) ?hd (cs := #[.int .i64 0, .int .i64 0, .int .i64 0]) (t := 78) ?hr ?_; (case hd => rfl); (case hg => rfl); (case hr => first | (go_simp; done) | (go_simp; rfl)); intro gb217 hg w53 hbox hb; have n0_ := Aside0.mk (Kd.R_below (viR HO_7.out) hb); have n1_ := Aside0.mk (blk_below (g := gb212) (o := .cells #[.int .i64 a0_0, .int .i64 a0_1, .int .i64 a0_2, .int .i64 a0_3, .slice (some ad216) l0_4.length c0_4] 31 (0, 0)) (viK BK212.out) hb); have n2_ := Aside0.mk (below_step viB hb); have n3_ := Aside0.mk (hbox); have n4_ := Aside0.mk ((by rw [hg]; exact (below_size viB) : w.heap.size ≤ gb217)); have n5_ := Aside0.mk ((by rw [hg]; exact (below_size viB) : w.heap.size ≤ gb217)); have n6_ := Aside0.mk ((by rw [hg]; exact Nat.ne_of_lt (blk_lt (g := gb212) (o := .cells #[.int .i64 a0_0, .int .i64 a0_1, .int .i64 a0_2, .int .i64 a0_3, .slice (some ad216) l0_4.length c0_4] 31 (0, 0)) (viK BK212.out)) : gb212 ≠ gb217)); have n7_ := Aside0.mk ((by rw [hg]; exact Nat.ne_of_gt (blk_lt (g := gb212) (o := .cells #[.int .i64 a0_0, .int .i64 a0_1, .int .i64 a0_2, .int .i64 a0_3, .slice (some ad216) l0_4.length c0_4] 31 (0, 0)) (viK BK212.out)) : gb217 ≠ gb212)); clear HO_7; clear BK212; clear HB; have HO_7 := n0_; have BK212 := n1_; have HB := n2_; have BK217 := n3_; have GW217 := n4_; have GE217 := n5_; have NB212_217 := n6_; have NB217_212 := n7_; clear n0_ n1_ n2_ n3_ n4_ n5_ n6_ n7_; clear hb hbox hg; have hnb54 := NB217_212.out; have hnc54 := NB212_217.out; have hcz55_0 : w53.cell? ⟨gb217, 0, none⟩ = some (.int .i64 0) := (blk_cell BK217.out 0).trans rfl; have hcz55_1 : w53.cell? ⟨gb217, 1, none⟩ = some (.int .i64 0) := (blk_cell BK217.out 1).trans rfl; have hcz55_2 : w53.cell? ⟨gb217, 2, none⟩ = some (.int .i64 0) := (blk_cell BK217.out 2).trans rfl; have hfz55_0 := blk_frozen BK217.out 0; have hfz55_1 := blk_frozen BK217.out 1; have hfz55_2 := blk_frozen BK217.out 2))
                  go_roundg k1
                  case measure => have := HK1.out; omega
                  case rel => exact ⟨(x7_1), (wrap64 (x8_1 + 1)), (by first | rfl | (simp; done) | (simp [*]; done)), H', ⟨by have := HK1.out; omega⟩, ⟨by refine viR ?_; exact Kd.R_mono (Kd.R_far (p := ⟨gb217, 2, none⟩) (Kd.R_far (p := ⟨gb217, 1, none⟩) (Kd.R_far (p := ⟨gb217, 0, none⟩) (Kd.R_types HO_7.out BK217.out (by decide)) (fun _ hk => hk.2) (.int .i64 ((rd_T78 l0_4 x8_1).f0))) (fun _ hk => hk.2) (.int .i64 ((rd_T78 l0_4 x8_1).f1))) (fun _ hk => hk.2) (.int .i64 ((rd_T78 l0_4 x8_1).f2))) (fun _ hk => trivial)⟩, ⟨by refine viK ?_; refine blk_far ?_ NB212_217.out _; refine viK ?_; refine blk_far ?_ NB212_217.out _; refine viK ?_; refine blk_far ?_ NB212_217.out _; refine viK ?_; exact BK212.out⟩, ⟨viB⟩⟩
            · rw [if_neg c11] at H
              exact absurd H (by simp)
          · rw [if_neg c10] at H
            have c10b0 : decide (x8_1 < (l0_4.length : Int)) = false := decide_eq_false c10
            clear c10
            replace H := Option.bind_eq_some_iff.mp H
            obtain ⟨t222, A560, H⟩ := H
            replace H : (some t222) = some r := H
            have A56 := Aside0.mk A560
            clear A560
            obtain rfl := Option.some.inj H
            have hcz57_0 : wr.cell? ⟨gb212, 0, none⟩ = some (.int .i64 a0_0) := (blk_cell BK212.out 0).trans rfl
            have hcz57_1 : wr.cell? ⟨gb212, 1, none⟩ = some (.int .i64 a0_1) := (blk_cell BK212.out 1).trans rfl
            have hcz57_2 : wr.cell? ⟨gb212, 2, none⟩ = some (.int .i64 a0_2) := (blk_cell BK212.out 2).trans rfl
            have hcz57_3 : wr.cell? ⟨gb212, 3, none⟩ = some (.int .i64 a0_3) := (blk_cell BK212.out 3).trans rfl
            have hcz57_4 : wr.cell? ⟨gb212, 4, none⟩ = some (.slice A0_4 l0_4.length c0_4) := (blk_cell BK212.out 4).trans rfl
            have hfz57_0 := blk_frozen BK212.out 0
            have hfz57_1 := blk_frozen BK212.out 1
            have hfz57_2 := blk_frozen BK212.out 2
            have hfz57_3 := blk_frozen BK212.out 3
            have hfz57_4 := blk_frozen BK212.out 4
            obtain ⟨Ao58, co58, eo58⟩ := Kd.R_slice HO_7.out
            subst eo58
            go_wp2_with (first | ((with_reducible refine gate_callee (f := 78) rfl ?_); refine goesL_ (some 47) rfl rfl Try.func78 (by kernel_rfl) rfl #[.agg #[.int .i64 a0_0, .int .i64 a0_1, .int .i64 a0_2, .int .i64 a0_3, .slice A0_4 l0_4.length c0_4], .slice Ao58 x7_1.length co58] rfl (by (try simp only [List.map_toArray, List.map_cons, List.map_nil]); first | done | rfl | (simp only [List.length_drop, List.length_take]; rfl)) ?_; (with_reducible refine (stackyardref08_hand.calls k1 a0_0 a0_1 a0_2 a0_3 _ _ l0_4 (fun k_ => some k_ = (.slice Ao58 x7_1.length co58 : Value).ownBlock) (.slice Ao58 x7_1.length co58) x7_1 t222 w _ ?side1 ?side2 ?side3 ?side4 A56.out).mono ?_); (case side1 => repeat (first | (with_reducible first | exact HB.out | apply below_alloc | apply pw_below_drewN | apply below_drew1 | refine below_set ?_ GE212.out) | exact HB.out)); (case side2 => exact Kd.C_kept_came k78_heap HR0_4.out viB (fun k_ hs_ => (fun e_ => Kd.R_base HO_7.out k_ e_.symm) hs_)); (case side3 => exact HC0_4.out); (case side4 => exact Kd.R_tight rfl HO_7.out); rintro e w59 ⟨v223, rfl, ho0, hb, hkp⟩; refine ⟨_, rfl, ?_⟩; have n0_ := Aside0.mk (blk_kept (viK BK212.out) hkp (fun hs_ => (fun e_ => (Kd.R_ne HO_7.out BK212.out (by decide)) e_) hs_)); have n1_ := Aside0.mk (Kd.R_mono (ok' := fun k_ => True) ho0 (fun k_ hk_ => trivial)); have n2_ := Aside0.mk (hb); clear BK212; clear HB; clear HO_7; have BK212 := n0_; have HO224 := n1_; have HB := n2_; clear n0_ n1_ n2_; (try clear hb); (try clear hkp); (try clear ho0)))
            go_ret
            exact ⟨_, by first | rfl | (simp [errW_none, errW_some] <;> rfl) | (simp [*, errW_none, errW_some] <;> rfl), viR HO224.out, viB⟩
    · rw [if_neg c5] at H
      exact absurd H (by simp)
  · rw [if_neg c4] at H
    exact absurd H (by simp)
def stackyardref08_State.f (a0_0 : Int) (a0_1 : Int) (a0_2 : Int) (a0_3 : Int) (l0_4 : List (S78)) (a1 : Int) : Option (Bool) := if a1 ≥ 0 then (some (decide (a1 < a0_0))) else (some false)
set_option maxHeartbeats 8000000 in
set_option maxRecDepth 100000 in
theorem stackyardref08_State.calls (a0_0 : Int) (a0_1 : Int) (a0_2 : Int) (a0_3 : Int) (A0_4 : Option Addr) (c0_4 : Nat) (l0_4 : List (S78)) (a1 : Int) (r : Bool) (w : World) (hr0_4 : Kd.C k78 w A0_4 l0_4.length l0_4) (hc0_4 : l0_4.length ≤ c0_4) (h : stackyardref08_State.f a0_0 a0_1 a0_2 a0_3 l0_4 a1 = some r) :
    Calls Try.prog 63 #[.agg #[.int .i64 a0_0, .int .i64 a0_1, .int .i64 a0_2, .int .i64 a0_3, .slice A0_4 l0_4.length c0_4], .int .i64 a1] w fun e w' => e = .returned (.bool r) ∧ Below w.heap.size w w' := by
  have hu31 := Try.underlying31
  have HR0_4 := Aside0.mk hr0_4
  have HC0_4 := Aside0.mk hc0_4
  clear hr0_4 hc0_4
  have HB := Aside0.mk (Below.refl w.heap.size w)
  have H : (if a1 ≥ 0 then (some (decide (a1 < a0_0))) else (some false)) = some r := h
  clear h
  by_cases c3 : a1 ≥ 0
  · rw [if_pos c3] at H
    have c3b0 : decide (0 ≤ a1) = true := decide_eq_true c3
    clear c3
    obtain rfl := Option.some.inj H
    go_enter Try.func63, Try.ntmps63
    go_wp2_with (first | ((with_reducible refine gate_dst (N := 2) rfl ?_); refine box_event ?hg (N := 2) ?hd (cs := #[.int .i64 a0_0, .int .i64 a0_1, .int .i64 a0_2, .int .i64 a0_3, .slice A0_4 l0_4.length c0_4]) (t := 31) ?hr ?_; (case hd => rfl); (case hg => rfl); (case hr => first | (go_simp; done) | (go_simp; rfl)); intro gb225 hg w4 hbox hb; have n0_ := Aside0.mk (below_step viB hb); have n1_ := Aside0.mk (hbox); have n2_ := Aside0.mk ((by rw [hg]; exact (below_size viB) : w.heap.size ≤ gb225)); have n3_ := Aside0.mk ((by rw [hg]; exact (below_size viB) : w.heap.size ≤ gb225)); clear HB; have HB := n0_; have BK225 := n1_; have GW225 := n2_; have GE225 := n3_; clear n0_ n1_ n2_ n3_; clear hb hbox hg; have hcz5_0 : w4.cell? ⟨gb225, 0, none⟩ = some (.int .i64 a0_0) := (blk_cell BK225.out 0).trans rfl; have hcz5_1 : w4.cell? ⟨gb225, 1, none⟩ = some (.int .i64 a0_1) := (blk_cell BK225.out 1).trans rfl; have hcz5_2 : w4.cell? ⟨gb225, 2, none⟩ = some (.int .i64 a0_2) := (blk_cell BK225.out 2).trans rfl; have hcz5_3 : w4.cell? ⟨gb225, 3, none⟩ = some (.int .i64 a0_3) := (blk_cell BK225.out 3).trans rfl; have hcz5_4 : w4.cell? ⟨gb225, 4, none⟩ = some (.slice A0_4 l0_4.length c0_4) := (blk_cell BK225.out 4).trans rfl; have hfz5_0 := blk_frozen BK225.out 0; have hfz5_1 := blk_frozen BK225.out 1; have hfz5_2 := blk_frozen BK225.out 2; have hfz5_3 := blk_frozen BK225.out 3; have hfz5_4 := blk_frozen BK225.out 4))
    go_ret
    exact ⟨by first | rfl | (simp [errW_none, errW_some] <;> rfl) | (simp [*, errW_none, errW_some] <;> rfl), viB⟩
  · rw [if_neg c3] at H
    have c3b0 : decide (0 ≤ a1) = false := decide_eq_false c3
    clear c3
    obtain rfl := Option.some.inj H
    go_enter Try.func63, Try.ntmps63
    go_wp2_with (first | ((with_reducible refine gate_dst (N := 2) rfl ?_); refine box_event ?hg (N := 2) ?hd (cs := #[.int .i64 a0_0, .int .i64 a0_1, .int .i64 a0_2, .int .i64 a0_3, .slice A0_4 l0_4.length c0_4]) (t := 31) ?hr ?_; (case hd => rfl); (case hg => rfl); (case hr => first | (go_simp; done) | (go_simp; rfl)); intro gb225 hg w6 hbox hb; have n0_ := Aside0.mk (below_step viB hb); have n1_ := Aside0.mk (hbox); have n2_ := Aside0.mk ((by rw [hg]; exact (below_size viB) : w.heap.size ≤ gb225)); have n3_ := Aside0.mk ((by rw [hg]; exact (below_size viB) : w.heap.size ≤ gb225)); clear HB; have HB := n0_; have BK225 := n1_; have GW225 := n2_; have GE225 := n3_; clear n0_ n1_ n2_ n3_; clear hb hbox hg))
    go_ret
    exact ⟨by first | rfl | (simp [errW_none, errW_some] <;> rfl) | (simp [*, errW_none, errW_some] <;> rfl), viB⟩
end Go.Proofs.Ytapinbmkjkbkkaa.Lb
