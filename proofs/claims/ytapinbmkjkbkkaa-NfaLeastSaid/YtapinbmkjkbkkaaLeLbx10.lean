import Derived.Test.YtapinbmkjkbkkaaLeLbx0
namespace Go.Proofs.Ytapinbmkjkbkkaa.Lb
open Go.RowKit Go.Proofs.YtapinbmkjkbkkaaW.PrintWords Go.Proofs.YtapinbmkjkbkkaaW.PrintLast Go.Proofs.YtapinbmkjkbkkaaW.PrintMore
attribute [local go_sem] max2_int min2_int max_two min_two max_three min_three max_four min_four
set_option linter.unusedVariables false
set_option linter.unusedSimpArgs false
mutual
def stackyardref08_far.l0 : Nat → List Int → Int → Int → Int → Int → Int → List (S78) → Option (List Int)
  | 0, _, _, _, _, _, _, _ => none
  | k + 1, x3, x4, x253000, x253001, x253002, x253003, x253004 => if x4 < x253000 then (if 0 ≤ x4 then (if x4 < (x3.length : Int) then (stackyardref08_far.l0 k (x3.set (x4 : Int).toNat (-1)) (wrap64 (x4 + 1)) x253000 x253001 x253002 x253003 x253004) else (none)) else (none)) else (if 0 ≤ x253003 then (if x253003 < (x3.length : Int) then (stackyardref08_far.l1 k (x3.set (x253003 : Int).toNat 0) true x253000 x253001 x253002 x253003 x253004) else (none)) else (none))
def stackyardref08_far.l1 : Nat → List Int → Bool → Int → Int → Int → Int → List (S78) → Option (List Int)
  | 0, _, _, _, _, _, _, _ => none
  | k + 1, x3, x5, x253000, x253001, x253002, x253003, x253004 => if x5 = true then (stackyardref08_far.l2 k x3 false 0 x253000 x253001 x253002 x253003 x253004) else (some x3)
def stackyardref08_far.l2 : Nat → List Int → Bool → Int → Int → Int → Int → Int → List (S78) → Option (List Int)
  | 0, _, _, _, _, _, _, _, _ => none
  | k + 1, x3, x5, x6, x253000, x253001, x253002, x253003, x253004 => if x6 < (x253004.length : Int) then (if 0 ≤ x6 then (if 0 ≤ ((rd_T78 x253004 x6).f2) then (if ((rd_T78 x253004 x6).f2) < (x3.length : Int) then (if (rd x3 ((rd_T78 x253004 x6).f2)) < 0 then (stackyardref08_far.j3 k x3 x5 x6 true x253000 x253001 x253002 x253003 x253004 ((rd_T78 x253004 x6).f0) ((rd_T78 x253004 x6).f1) ((rd_T78 x253004 x6).f2)) else (if ((rd_T78 x253004 x6).f1) = (-2) then (stackyardref08_far.j3 k x3 x5 x6 (x253001 == 0) x253000 x253001 x253002 x253003 x253004 ((rd_T78 x253004 x6).f0) ((rd_T78 x253004 x6).f1) ((rd_T78 x253004 x6).f2)) else (stackyardref08_far.j3 k x3 x5 x6 false x253000 x253001 x253002 x253003 x253004 ((rd_T78 x253004 x6).f0) ((rd_T78 x253004 x6).f1) ((rd_T78 x253004 x6).f2)))) else (none)) else (none)) else (none)) else (stackyardref08_far.l1 k x3 x5 x253000 x253001 x253002 x253003 x253004)
def stackyardref08_far.j3 : Nat → List Int → Bool → Int → Bool → Int → Int → Int → Int → List (S78) → Int → Int → Int → Option (List Int)
  | 0, _, _, _, _, _, _, _, _, _, _, _, _ => none
  | k + 1, x3, x5, x6, x53, x253000, x253001, x253002, x253003, x253004, x260000, x260001, x260002 => if x53 = true then (stackyardref08_far.l2 k x3 x5 (wrap64 (x6 + 1)) x253000 x253001 x253002 x253003 x253004) else (if 0 ≤ x260002 then (if x260002 < (x3.length : Int) then (if x260001 = (-1) then (if 0 ≤ x260000 then (if x260000 < (x3.length : Int) then (if (rd x3 x260000) < 0 then (stackyardref08_far.l2 k (x3.set (x260000 : Int).toNat (rd x3 x260002)) true (wrap64 (x6 + 1)) x253000 x253001 x253002 x253003 x253004) else (if (rd x3 x260000) > (rd x3 x260002) then (stackyardref08_far.l2 k (x3.set (x260000 : Int).toNat (rd x3 x260002)) true (wrap64 (x6 + 1)) x253000 x253001 x253002 x253003 x253004) else (stackyardref08_far.l2 k x3 x5 (wrap64 (x6 + 1)) x253000 x253001 x253002 x253003 x253004))) else (none)) else (none)) else (if 0 ≤ x260000 then (if x260000 < (x3.length : Int) then (if (rd x3 x260000) < 0 then (stackyardref08_far.l2 k (x3.set (x260000 : Int).toNat (wrap64 ((rd x3 x260002) + 1))) true (wrap64 (x6 + 1)) x253000 x253001 x253002 x253003 x253004) else (if (rd x3 x260000) > (wrap64 ((rd x3 x260002) + 1)) then (stackyardref08_far.l2 k (x3.set (x260000 : Int).toNat (wrap64 ((rd x3 x260002) + 1))) true (wrap64 (x6 + 1)) x253000 x253001 x253002 x253003 x253004) else (stackyardref08_far.l2 k x3 x5 (wrap64 (x6 + 1)) x253000 x253001 x253002 x253003 x253004))) else (none)) else (none))) else (none)) else (none))
end
def stackyardref08_far.f (k : Nat) (a0_0 : Int) (a0_1 : Int) (a0_2 : Int) (a0_3 : Int) (l0_4 : List (S78)) : Option (List Int) := if 0 ≤ a0_0 then (if (a0_0 : Int).toNat ≤ 35184372088832 then (stackyardref08_far.l0 k (List.replicate (a0_0 : Int).toNat 0) 0 a0_0 a0_1 a0_2 a0_3 l0_4) else (none)) else (none)
theorem stackyardref08_far.mono_l : ∀ k, (∀ y0 y1 y2 y3 y4 y5 y6, LeO (stackyardref08_far.l0 k y0 y1 y2 y3 y4 y5 y6) (stackyardref08_far.l0 (k + 1) y0 y1 y2 y3 y4 y5 y6)) ∧ (∀ y0 y1 y2 y3 y4 y5 y6, LeO (stackyardref08_far.l1 k y0 y1 y2 y3 y4 y5 y6) (stackyardref08_far.l1 (k + 1) y0 y1 y2 y3 y4 y5 y6)) ∧ (∀ y0 y1 y2 y3 y4 y5 y6 y7, LeO (stackyardref08_far.l2 k y0 y1 y2 y3 y4 y5 y6 y7) (stackyardref08_far.l2 (k + 1) y0 y1 y2 y3 y4 y5 y6 y7)) ∧ (∀ y0 y1 y2 y3 y4 y5 y6 y7 y8 y9 y10 y11, LeO (stackyardref08_far.j3 k y0 y1 y2 y3 y4 y5 y6 y7 y8 y9 y10 y11) (stackyardref08_far.j3 (k + 1) y0 y1 y2 y3 y4 y5 y6 y7 y8 y9 y10 y11))
  | 0 => ⟨fun _ _ _ _ _ _ _ r h => by simp [stackyardref08_far.l0] at h, fun _ _ _ _ _ _ _ r h => by simp [stackyardref08_far.l1] at h, fun _ _ _ _ _ _ _ _ r h => by simp [stackyardref08_far.l2] at h, fun _ _ _ _ _ _ _ _ _ _ _ _ r h => by simp [stackyardref08_far.j3] at h⟩
  | k + 1 => by
    obtain ⟨ih0, ih1, ih2, ih3⟩ := stackyardref08_far.mono_l k
    refine ⟨?_, ?_, ?_, ?_⟩
    · intro y0 y1 y2 y3 y4 y5 y6
      unfold stackyardref08_far.l0
      repeat' first
      | (with_reducible exact ih0 _ _ _ _ _ _ _)
      | (with_reducible exact ih1 _ _ _ _ _ _ _)
      | (with_reducible exact ih2 _ _ _ _ _ _ _ _)
      | (with_reducible exact ih3 _ _ _ _ _ _ _ _ _ _ _ _)
      | (with_reducible exact LeO.refl _)
      | (with_reducible exact LeO.none _)
      | (with_reducible refine LeO.ite ?_ ?_)
      | (with_reducible refine LeO.bind ?_ (fun _ => ?_))
      | exact ih0 _ _ _ _ _ _ _
      | exact ih1 _ _ _ _ _ _ _
      | exact ih2 _ _ _ _ _ _ _ _
      | exact ih3 _ _ _ _ _ _ _ _ _ _ _ _
      | exact LeO.none _
      | refine LeO.ite ?_ ?_
      | refine LeO.bind ?_ (fun _ => ?_)
    · intro y0 y1 y2 y3 y4 y5 y6
      unfold stackyardref08_far.l1
      repeat' first
      | (with_reducible exact ih0 _ _ _ _ _ _ _)
      | (with_reducible exact ih1 _ _ _ _ _ _ _)
      | (with_reducible exact ih2 _ _ _ _ _ _ _ _)
      | (with_reducible exact ih3 _ _ _ _ _ _ _ _ _ _ _ _)
      | (with_reducible exact LeO.refl _)
      | (with_reducible exact LeO.none _)
      | (with_reducible refine LeO.ite ?_ ?_)
      | (with_reducible refine LeO.bind ?_ (fun _ => ?_))
      | exact ih0 _ _ _ _ _ _ _
      | exact ih1 _ _ _ _ _ _ _
      | exact ih2 _ _ _ _ _ _ _ _
      | exact ih3 _ _ _ _ _ _ _ _ _ _ _ _
      | exact LeO.none _
      | refine LeO.ite ?_ ?_
      | refine LeO.bind ?_ (fun _ => ?_)
    · intro y0 y1 y2 y3 y4 y5 y6 y7
      unfold stackyardref08_far.l2
      repeat' first
      | (with_reducible exact ih0 _ _ _ _ _ _ _)
      | (with_reducible exact ih1 _ _ _ _ _ _ _)
      | (with_reducible exact ih2 _ _ _ _ _ _ _ _)
      | (with_reducible exact ih3 _ _ _ _ _ _ _ _ _ _ _ _)
      | (with_reducible exact LeO.refl _)
      | (with_reducible exact LeO.none _)
      | (with_reducible refine LeO.ite ?_ ?_)
      | (with_reducible refine LeO.bind ?_ (fun _ => ?_))
      | exact ih0 _ _ _ _ _ _ _
      | exact ih1 _ _ _ _ _ _ _
      | exact ih2 _ _ _ _ _ _ _ _
      | exact ih3 _ _ _ _ _ _ _ _ _ _ _ _
      | exact LeO.none _
      | refine LeO.ite ?_ ?_
      | refine LeO.bind ?_ (fun _ => ?_)
    · intro y0 y1 y2 y3 y4 y5 y6 y7 y8 y9 y10 y11
      unfold stackyardref08_far.j3
      repeat' first
      | (with_reducible exact ih0 _ _ _ _ _ _ _)
      | (with_reducible exact ih1 _ _ _ _ _ _ _)
      | (with_reducible exact ih2 _ _ _ _ _ _ _ _)
      | (with_reducible exact ih3 _ _ _ _ _ _ _ _ _ _ _ _)
      | (with_reducible exact LeO.refl _)
      | (with_reducible exact LeO.none _)
      | (with_reducible refine LeO.ite ?_ ?_)
      | (with_reducible refine LeO.bind ?_ (fun _ => ?_))
      | exact ih0 _ _ _ _ _ _ _
      | exact ih1 _ _ _ _ _ _ _
      | exact ih2 _ _ _ _ _ _ _ _
      | exact ih3 _ _ _ _ _ _ _ _ _ _ _ _
      | exact LeO.none _
      | refine LeO.ite ?_ ?_
      | refine LeO.bind ?_ (fun _ => ?_)
theorem stackyardref08_far.mono : ∀ a0 a1 a2 a3 a4 k, LeO (stackyardref08_far.f k a0 a1 a2 a3 a4) (stackyardref08_far.f (k + 1) a0 a1 a2 a3 a4) := by
  intro a0 a1 a2 a3 a4 k
  obtain ⟨ih0, ih1, ih2, ih3⟩ := stackyardref08_far.mono_l k
  unfold stackyardref08_far.f
  repeat' first
      | (with_reducible exact ih0 _ _ _ _ _ _ _)
      | (with_reducible exact ih1 _ _ _ _ _ _ _)
      | (with_reducible exact ih2 _ _ _ _ _ _ _ _)
      | (with_reducible exact ih3 _ _ _ _ _ _ _ _ _ _ _ _)
      | (with_reducible exact LeO.refl _)
      | (with_reducible exact LeO.none _)
      | (with_reducible refine LeO.ite ?_ ?_)
      | (with_reducible refine LeO.bind ?_ (fun _ => ?_))
      | exact ih0 _ _ _ _ _ _ _
      | exact ih1 _ _ _ _ _ _ _
      | exact ih2 _ _ _ _ _ _ _ _
      | exact ih3 _ _ _ _ _ _ _ _ _ _ _ _
      | exact LeO.none _
      | refine LeO.ite ?_ ?_
      | refine LeO.bind ?_ (fun _ => ?_)
set_option maxHeartbeats 8000000 in
set_option maxRecDepth 100000 in
theorem stackyardref08_far.calls (k : Nat) (a0_0 : Int) (a0_1 : Int) (a0_2 : Int) (a0_3 : Int) (A0_4 : Option Addr) (c0_4 : Nat) (l0_4 : List (S78)) (r : List Int) (w : World) (hr0_4 : Kd.C k78 w A0_4 l0_4.length l0_4) (hc0_4 : l0_4.length ≤ c0_4) (h : stackyardref08_far.f k a0_0 a0_1 a0_2 a0_3 l0_4 = some r) :
    Calls Try.prog 58 #[.agg #[.int .i64 a0_0, .int .i64 a0_1, .int .i64 a0_2, .int .i64 a0_3, .slice A0_4 l0_4.length c0_4]] w fun e w' => ∃ v0_ : Value, e = .returned (v0_) ∧ Kd.R (Kd.int .i64) 3 w' w.heap.size (fun _ => True) v0_ r ∧ Below w.heap.size w w' := by
  have hu31 := Try.underlying31
  have hu78 := Try.underlying78
  have HR0_4 := Aside0.mk hr0_4
  have HC0_4 := Aside0.mk hc0_4
  clear hr0_4 hc0_4
  have HB := Aside0.mk (Below.refl w.heap.size w)
  have H : (if 0 ≤ a0_0 then (if (a0_0 : Int).toNat ≤ 35184372088832 then (stackyardref08_far.l0 k (List.replicate (a0_0 : Int).toNat 0) 0 a0_0 a0_1 a0_2 a0_3 l0_4) else (none)) else (none)) = some r := h
  clear h
  by_cases c2 : 0 ≤ a0_0
  · rw [if_pos c2] at H
    have c2b0 := eq_true c2
    have c2b1 : decide (0 ≤ a0_0) = true := decide_eq_true c2
    clear c2
    by_cases c3 : (a0_0 : Int).toNat ≤ 35184372088832
    · rw [if_pos c3] at H
      have c3b0 := eq_true c3
      have c3b1 : decide ((a0_0 : Int).toNat ≤ 35184372088832) = true := decide_eq_true c3
      clear c3
      obtain ⟨y253, hy253⟩ : ∃ y_ : List Int, y_ = (List.replicate (a0_0 : Int).toNat 0) := ⟨_, rfl⟩
      replace H : (stackyardref08_far.l0 k y253 0 a0_0 a0_1 a0_2 a0_3 l0_4) = some r := by first | (rw [hy253]; with_reducible exact H) | (have H2_ := (Option.bind_some _ _).symm.trans H; rw [hy253]; with_reducible exact H2_) | (have H2_ := (Option.bind_some _ _).symm.trans H; with_reducible exact H2_) | with_reducible exact H | (rw [hy253]; exact H) | exact H
      have Ny253 := Aside0.mk hy253
      clear hy253
      have H' := Aside0.mk H
      clear H
      go_enter Try.func58, Try.ntmps58
      go_wp2_with (first | ((with_reducible refine gate_dst (N := 1) rfl ?_); refine box_event ?hg (N := 1) ?hd (cs := #[.int .i64 a0_0, .int .i64 a0_1, .int .i64 a0_2, .int .i64 a0_3, .slice A0_4 l0_4.length c0_4]) (t := 31) ?hr ?_; (case hd => rfl); (case hg => rfl); (case hr => first | (go_simp; done) | (go_simp; rfl)); intro gb252 hg w4 hbox hb; have n0_ := Aside0.mk (below_step (by repeat (first | (with_reducible first | exact HB.out | apply below_alloc | apply pw_below_drewN | apply below_drew1) | exact HB.out)) hb); have n1_ := Aside0.mk (hbox); have n2_ := Aside0.mk ((by rw [hg]; exact (below_size (by repeat (first | (with_reducible first | exact HB.out | apply below_alloc | apply pw_below_drewN | apply below_drew1) | exact HB.out))) : w.heap.size ≤ gb252)); have n3_ := Aside0.mk ((by rw [hg]; exact (below_size (by repeat (first | (with_reducible first | exact HB.out | apply below_alloc | apply pw_below_drewN | apply below_drew1) | exact HB.out))) : w.heap.size ≤ gb252)); clear HB; have HB := n0_; have BK252 := n1_; have GW252 := n2_; have GE252 := n3_; clear n0_ n1_ n2_ n3_; clear hb hbox hg; have hcz5_0 : w4.cell? ⟨gb252, 0, none⟩ = some (.int .i64 a0_0) := (blk_cell BK252.out 0).trans rfl; have hcz5_1 : w4.cell? ⟨gb252, 1, none⟩ = some (.int .i64 a0_1) := (blk_cell BK252.out 1).trans rfl; have hcz5_2 : w4.cell? ⟨gb252, 2, none⟩ = some (.int .i64 a0_2) := (blk_cell BK252.out 2).trans rfl; have hcz5_3 : w4.cell? ⟨gb252, 3, none⟩ = some (.int .i64 a0_3) := (blk_cell BK252.out 3).trans rfl; have hcz5_4 : w4.cell? ⟨gb252, 4, none⟩ = some (.slice A0_4 l0_4.length c0_4) := (blk_cell BK252.out 4).trans rfl; have hfz5_0 := blk_frozen BK252.out 0; have hfz5_1 := blk_frozen BK252.out 1; have hfz5_2 := blk_frozen BK252.out 2; have hfz5_3 := blk_frozen BK252.out 3; have hfz5_4 := blk_frozen BK252.out 4) | ((with_reducible refine gate_dst (N := 11) rfl ?_); refine Kd.R_make (Kd.int .i64) _ 3 rfl (N := 11) rfl 27 _ _ rfl a0_0 rfl rfl Try.underlying27 (.int .i64 0) 8 info3 rfl (by decide) (by omega) 0 (ok := fun _ => True) (okp := fun _ => True) rfl (fun _ hk => hk) trivial (of_decide_eq_true (by first | (with_reducible assumption) | assumption)) (Nat.le_trans (Nat.mul_le_mul_right _ (of_decide_eq_true (by first | (with_reducible assumption) | assumption) : a0_0.toNat ≤ 35184372088832)) (by omega)) (Below.refl _ _) (Nat.le_refl _) ?_; intro v254 w6 ho7 hb hg_ hnew_; clear hg_ hnew_; (first | rw [← Ny253.out] at ho7 | (simp only [Int.reduceToNat] at ho7; rw [← Ny253.out] at ho7)); have n0_ := Aside0.mk (Kd.R_lower ho7 (below_size (by repeat (first | (with_reducible first | exact HB.out | apply below_alloc | apply pw_below_drewN | apply below_drew1 | refine below_set ?_ GE252.out) | exact HB.out)))); have n1_ := Aside0.mk (blk_below (g := gb252) (o := .cells #[.int .i64 a0_0, .int .i64 a0_1, .int .i64 a0_2, .int .i64 a0_3, .slice A0_4 l0_4.length c0_4] 31 (0, 0)) (by (with_reducible repeat (first | refine blk_drewN ?_ _ | refine blk_drew ?_ | refine blk_alloc ?_ _)); exact BK252.out) hb); have n2_ := Aside0.mk (below_step (by repeat (first | (with_reducible first | exact HB.out | apply below_alloc | apply pw_below_drewN | apply below_drew1 | refine below_set ?_ GE252.out) | exact HB.out)) hb); clear BK252; clear HB; have HO255 := n0_; have BK252 := n1_; have HB := n2_; clear n0_ n1_ n2_; clear hb ho7))
      go_loopg [4] k (fun kq v4 w' => ∃ (x3_1 : List Int) (x4_1 : Int), v4 = .int .i64 x4_1 ∧ Aside0 (stackyardref08_far.l0 kq x3_1 x4_1 a0_0 a0_1 a0_2 a0_3 l0_4 = some r) ∧ Aside0 (kq ≤ k) ∧ Aside0 (Kd.R (Kd.int .i64) 3 w' w.heap.size (fun _ => True) v254 x3_1) ∧ Aside0 (w'.heap[gb252]? = some (.cells #[.int .i64 a0_0, .int .i64 a0_1, .int .i64 a0_2, .int .i64 a0_3, (.slice A0_4 l0_4.length c0_4)] 31 (0, 0))) ∧ Aside0 (Below w.heap.size w w'))
      case atStart => exact ⟨(y253), (0), (by first | rfl | (simp; done) | (simp [*]; done)), H', ⟨Nat.le_refl _⟩, ⟨by (with_reducible repeat (first | apply Kd.R_alloc | apply Kd.R_drewN | apply Kd.R_drew)); exact HO255.out⟩, ⟨by (with_reducible repeat (first | refine blk_drewN ?_ _ | refine blk_drew ?_ | refine blk_alloc ?_ _)); exact BK252.out⟩, ⟨by repeat (first | (with_reducible first | exact HB.out | apply below_alloc | apply pw_below_drewN | apply below_drew1 | refine below_set ?_ GE252.out) | exact HB.out)⟩⟩
      case round =>
        clear H'
        try clear c2
        try clear c2b0
        try clear c2b1
        try clear p2
        try clear c3
        try clear c3b0
        try clear c3b1
        try clear c5
        try clear hcz5_0
        try clear hcz5_1
        try clear hcz5_2
        try clear hcz5_3
        try clear hcz5_4
        try clear hfz5_0
        try clear hfz5_1
        try clear hfz5_2
        try clear hfz5_3
        try clear hfz5_4
        obtain ⟨x3_1, x4_1, rfl, HA, HK1, HO_3, BK252, HB⟩ := hrel
        cases gk with
        | zero => exact absurd HA.out (by simp [stackyardref08_far.l0])
        | succ k1 =>
          have H := HA.out
          clear HA
          simp only [stackyardref08_far.l0] at H
          by_cases c8 : x4_1 < a0_0
          · rw [if_pos c8] at H
            have c8b0 : decide (x4_1 < a0_0) = true := decide_eq_true c8
            clear c8
            by_cases c9 : 0 ≤ x4_1
            · rw [if_pos c9] at H
              have c9b0 : decide (0 ≤ x4_1) = true := decide_eq_true c9
              clear c9
              by_cases c10 : x4_1 < (x3_1.length : Int)
              · rw [if_pos c10] at H
                have c10b0 : decide (x4_1 < (x3_1.length : Int)) = true := decide_eq_true c10
                clear c10
                obtain ⟨y256, hy256⟩ : ∃ y_ : List Int, y_ = (x3_1.set (x4_1 : Int).toNat (-1)) := ⟨_, rfl⟩
                replace H : (stackyardref08_far.l0 k1 y256 (wrap64 (x4_1 + 1)) a0_0 a0_1 a0_2 a0_3 l0_4) = some r := by first | (rw [hy256]; with_reducible exact H) | (have H2_ := (Option.bind_some _ _).symm.trans H; rw [hy256]; with_reducible exact H2_) | (have H2_ := (Option.bind_some _ _).symm.trans H; with_reducible exact H2_) | with_reducible exact H | (rw [hy256]; exact H) | exact H
                have Ny256 := Aside0.mk hy256
                clear hy256
                have H' := Aside0.mk H
                clear H
                have hcz12_0 : wr.cell? ⟨gb252, 0, none⟩ = some (.int .i64 a0_0) := (blk_cell BK252.out 0).trans rfl
                have hcz12_1 : wr.cell? ⟨gb252, 1, none⟩ = some (.int .i64 a0_1) := (blk_cell BK252.out 1).trans rfl
                have hcz12_2 : wr.cell? ⟨gb252, 2, none⟩ = some (.int .i64 a0_2) := (blk_cell BK252.out 2).trans rfl
                have hcz12_3 : wr.cell? ⟨gb252, 3, none⟩ = some (.int .i64 a0_3) := (blk_cell BK252.out 3).trans rfl
                have hcz12_4 : wr.cell? ⟨gb252, 4, none⟩ = some (.slice A0_4 l0_4.length c0_4) := (blk_cell BK252.out 4).trans rfl
                have hfz12_0 := blk_frozen BK252.out 0
                have hfz12_1 := blk_frozen BK252.out 1
                have hfz12_2 := blk_frozen BK252.out 2
                have hfz12_3 := blk_frozen BK252.out 3
                have hfz12_4 := blk_frozen BK252.out 4
                have p11 : 0 ≤ (x4_1 : Int) := of_decide_eq_true (by first | (with_reducible assumption) | assumption)
                have q11 : (x4_1 : Int) < ((x3_1.length : Int) : Int) := of_decide_eq_true (by first | (with_reducible assumption) | assumption)
                obtain ⟨go11, co11, eo11, gb11, gl11, cl11, HG11⟩ := Kd.R_form HO_3.out (by omega)
                (first | cases eo11 | (injection eo11 with ea_ en_ ec_; (first | subst ea_ | (injection ea_ with ea_; subst ea_)); subst ec_; clear en_))
                have GB11 := Aside0.mk gb11
                have GG11 := Aside0.mk HG11
                clear gb11 gl11 HG11
                obtain ⟨hx11_0, hf11_0⟩ := Kd.R_celln 0 HO_3.out (x4_1 : Int) p11 q11
                replace p11 := eq_true p11
                replace q11 := eq_true q11
                have HP13 := Kd.R_putg HO_3.out (x4_1 : Int) (-1)
                go_wp2_with (first | ((with_reducible refine gate_store (t := 3) (p := 20) rfl ?_); refine store_event (t := 3) (p := 20) (v := ?vo_w14) (w1 := (wr.setCell ⟨go11, (x4_1 : Int).toNat, none⟩ (.int .i64 (-1)))) ?hg ?ho ?hn ?hr ?_; (case ho => rfl); (case hg => rfl); (case hn => rfl); (case hr => first | (go_simp; done) | (go_simp; rfl)); intro w14 hw; have hg : wr.grownBy w14 (some go11) := (by rw [hw]; exact HP13.2); have hp_ : Kd.R (Kd.int .i64) 3 w14 w.heap.size (fun _ => True) (.slice (some ⟨go11, 0, none⟩) x3_1.length co11) y256 := (by rw [hw, Ny256.out]; exact HP13.1); clear HP13; have n0_ := Aside0.mk (hp_); have n1_ := Aside0.mk (blk_grown (g := gb252) (o := .cells #[.int .i64 a0_0, .int .i64 a0_1, .int .i64 a0_2, .int .i64 a0_3, .slice A0_4 l0_4.length c0_4] 31 (0, 0)) (by (with_reducible repeat (first | refine blk_drewN ?_ _ | refine blk_drew ?_ | refine blk_alloc ?_ _)); exact BK252.out) hg (Kd.R_ne HO_3.out BK252.out (by decide))); have n2_ := Aside0.mk ((by rw [hw]; exact below_set (HB.out) GB11.out : Below w.heap.size w w14)); clear HO_3; clear BK252; clear HB; have HO_3 := n0_; have BK252 := n1_; have HB := n2_; clear n0_ n1_ n2_; clear hg hw hp_))
                go_roundg k1
                case measure => have := HK1.out; omega
                case rel => exact ⟨(y256), (wrap64 (x4_1 + 1)), (by first | rfl | (simp; done) | (simp [*]; done)), H', ⟨by have := HK1.out; omega⟩, ⟨by (with_reducible repeat (first | apply Kd.R_alloc | apply Kd.R_drewN | apply Kd.R_drew)); exact HO_3.out⟩, ⟨by (with_reducible repeat (first | refine blk_drewN ?_ _ | refine blk_drew ?_ | refine blk_alloc ?_ _)); exact BK252.out⟩, ⟨by repeat (first | (with_reducible first | exact HB.out | apply below_alloc | apply pw_below_drewN | apply below_drew1 | refine below_set ?_ GE252.out) | exact HB.out)⟩⟩
              · rw [if_neg c10] at H
                exact absurd H (by simp)
            · rw [if_neg c9] at H
              exact absurd H (by simp)
          · rw [if_neg c8] at H
            have c8b0 : decide (x4_1 < a0_0) = false := decide_eq_false c8
            clear c8
            by_cases c15 : 0 ≤ a0_3
            · rw [if_pos c15] at H
              have c15b0 : decide (0 ≤ a0_3) = true := decide_eq_true c15
              clear c15
              by_cases c16 : a0_3 < (x3_1.length : Int)
              · rw [if_pos c16] at H
                have c16b0 : decide (a0_3 < (x3_1.length : Int)) = true := decide_eq_true c16
                clear c16
                obtain ⟨y257, hy257⟩ : ∃ y_ : List Int, y_ = (x3_1.set (a0_3 : Int).toNat 0) := ⟨_, rfl⟩
                replace H : (stackyardref08_far.l1 k1 y257 true a0_0 a0_1 a0_2 a0_3 l0_4) = some r := by first | (rw [hy257]; with_reducible exact H) | (have H2_ := (Option.bind_some _ _).symm.trans H; rw [hy257]; with_reducible exact H2_) | (have H2_ := (Option.bind_some _ _).symm.trans H; with_reducible exact H2_) | with_reducible exact H | (rw [hy257]; exact H) | exact H
                have Ny257 := Aside0.mk hy257
                clear hy257
                have H' := Aside0.mk H
                clear H
                have hcz18_0 : wr.cell? ⟨gb252, 0, none⟩ = some (.int .i64 a0_0) := (blk_cell BK252.out 0).trans rfl
                have hcz18_1 : wr.cell? ⟨gb252, 1, none⟩ = some (.int .i64 a0_1) := (blk_cell BK252.out 1).trans rfl
                have hcz18_2 : wr.cell? ⟨gb252, 2, none⟩ = some (.int .i64 a0_2) := (blk_cell BK252.out 2).trans rfl
                have hcz18_3 : wr.cell? ⟨gb252, 3, none⟩ = some (.int .i64 a0_3) := (blk_cell BK252.out 3).trans rfl
                have hcz18_4 : wr.cell? ⟨gb252, 4, none⟩ = some (.slice A0_4 l0_4.length c0_4) := (blk_cell BK252.out 4).trans rfl
                have hfz18_0 := blk_frozen BK252.out 0
                have hfz18_1 := blk_frozen BK252.out 1
                have hfz18_2 := blk_frozen BK252.out 2
                have hfz18_3 := blk_frozen BK252.out 3
                have hfz18_4 := blk_frozen BK252.out 4
                have p17 : 0 ≤ (a0_3 : Int) := of_decide_eq_true (by first | (with_reducible assumption) | assumption)
                have q17 : (a0_3 : Int) < ((x3_1.length : Int) : Int) := of_decide_eq_true (by first | (with_reducible assumption) | assumption)
                obtain ⟨go17, co17, eo17, gb17, gl17, cl17, HG17⟩ := Kd.R_form HO_3.out (by omega)
                (first | cases eo17 | (injection eo17 with ea_ en_ ec_; (first | subst ea_ | (injection ea_ with ea_; subst ea_)); subst ec_; clear en_))
                have GB17 := Aside0.mk gb17
                have GG17 := Aside0.mk HG17
                clear gb17 gl17 HG17
                obtain ⟨hx17_0, hf17_0⟩ := Kd.R_celln 0 HO_3.out (a0_3 : Int) p17 q17
                replace p17 := eq_true p17
                replace q17 := eq_true q17
                have HP19 := Kd.R_putg HO_3.out (a0_3 : Int) 0
                go_wp2_with (first | ((with_reducible refine gate_store (t := 3) (p := 24) rfl ?_); refine store_event (t := 3) (p := 24) (v := ?vo_w20) (w1 := (wr.setCell ⟨go17, (a0_3 : Int).toNat, none⟩ (.int .i64 0))) ?hg ?ho ?hn ?hr ?_; (case ho => rfl); (case hg => rfl); (case hn => rfl); (case hr => first | (go_simp; done) | (go_simp; rfl)); intro w20 hw; have hg : wr.grownBy w20 (some go17) := (by rw [hw]; exact HP19.2); have hp_ : Kd.R (Kd.int .i64) 3 w20 w.heap.size (fun _ => True) (.slice (some ⟨go17, 0, none⟩) x3_1.length co17) y257 := (by rw [hw, Ny257.out]; exact HP19.1); clear HP19; have n0_ := Aside0.mk (hp_); have n1_ := Aside0.mk (blk_grown (g := gb252) (o := .cells #[.int .i64 a0_0, .int .i64 a0_1, .int .i64 a0_2, .int .i64 a0_3, .slice A0_4 l0_4.length c0_4] 31 (0, 0)) (by (with_reducible repeat (first | refine blk_drewN ?_ _ | refine blk_drew ?_ | refine blk_alloc ?_ _)); exact BK252.out) hg (Kd.R_ne HO_3.out BK252.out (by decide))); have n2_ := Aside0.mk ((by rw [hw]; exact below_set (HB.out) GB17.out : Below w.heap.size w w20)); clear HO_3; clear BK252; clear HB; have HO_3 := n0_; have BK252 := n1_; have HB := n2_; clear n0_ n1_ n2_; clear hg hw hp_))
                go_loopg [5] k1 (fun kq v5 w' => ∃ (x3_2 : List Int) (x5_2 : Bool), v5 = .bool x5_2 ∧ Aside0 (stackyardref08_far.l1 kq x3_2 x5_2 a0_0 a0_1 a0_2 a0_3 l0_4 = some r) ∧ Aside0 (kq ≤ k1) ∧ Aside0 (Kd.R (Kd.int .i64) 3 w' w.heap.size (fun _ => True) (.slice (some ⟨go17, 0, none⟩) x3_1.length co17) x3_2) ∧ Aside0 (w'.heap[gb252]? = some (.cells #[.int .i64 a0_0, .int .i64 a0_1, .int .i64 a0_2, .int .i64 a0_3, (.slice A0_4 l0_4.length c0_4)] 31 (0, 0))) ∧ Aside0 (Below w.heap.size w w'))
                case atStart => exact ⟨(y257), (true), (by first | rfl | (simp; done) | (simp [*]; done)), H', ⟨Nat.le_refl _⟩, ⟨by (with_reducible repeat (first | apply Kd.R_alloc | apply Kd.R_drewN | apply Kd.R_drew)); exact HO_3.out⟩, ⟨by (with_reducible repeat (first | refine blk_drewN ?_ _ | refine blk_drew ?_ | refine blk_alloc ?_ _)); exact BK252.out⟩, ⟨by repeat (first | (with_reducible first | exact HB.out | apply below_alloc | apply pw_below_drewN | apply below_drew1 | refine below_set ?_ GE252.out) | exact HB.out)⟩⟩
                case round =>
                  clear H'
                  try clear c1
                  try clear p1
                  try clear q1
                  try clear hx1
                  try clear hf1
                  try clear c2
                  try clear c2b0
                  try clear c2b1
                  try clear p2
                  try clear c3
                  try clear c3b0
                  try clear c3b1
                  try clear c5
                  try clear p6
                  try clear c8
                  try clear c8b0
                  try clear c9
                  try clear c9b0
                  try clear c10
                  try clear c10b0
                  try clear p11
                  try clear q11
                  try clear hx11
                  try clear hf11
                  try clear c15
                  try clear c15b0
                  try clear c16
                  try clear c16b0
                  try clear p17
                  try clear q17
                  try clear hx17
                  try clear hf17
                  try clear hcz12_0
                  try clear hcz12_1
                  try clear hcz12_2
                  try clear hcz12_3
                  try clear hcz12_4
                  try clear hcz18_0
                  try clear hcz18_1
                  try clear hcz18_2
                  try clear hcz18_3
                  try clear hcz18_4
                  try clear hcz5_0
                  try clear hcz5_1
                  try clear hcz5_2
                  try clear hcz5_3
                  try clear hcz5_4
                  try clear hfz12_0
                  try clear hfz12_1
                  try clear hfz12_2
                  try clear hfz12_3
                  try clear hfz12_4
                  try clear hfz18_0
                  try clear hfz18_1
                  try clear hfz18_2
                  try clear hfz18_3
                  try clear hfz18_4
                  try clear hfz5_0
                  try clear hfz5_1
                  try clear hfz5_2
                  try clear hfz5_3
                  try clear hfz5_4
                  try clear hx11_0
                  try clear hx17_0
                  try clear p11
                  try clear p17
                  try clear p2
                  try clear q11
                  try clear q17
                  obtain ⟨x3_2, x5_2, rfl, HA, HK2, HO_3, BK252, HB⟩ := hrel
                  have hl3_2 := (Kd.R_reads' HO_3.out).1
                  rw [hl3_2] at HO_3
                  (try simp only [hl3_2])
                  (try simp only [hl3_2] at BK252)
                  cases gk with
                  | zero => exact absurd HA.out (by simp [stackyardref08_far.l1])
                  | succ k2 =>
                    have H := HA.out
                    clear HA
                    simp only [stackyardref08_far.l1] at H
                    by_cases c21 : x5_2 = true
                    · subst c21
                      have H1 : (stackyardref08_far.l2 k2 x3_2 false 0 a0_0 a0_1 a0_2 a0_3 l0_4) = some r := by rw [if_pos rfl] at H; exact H
                      clear H
                      have H := H1
                      clear H1
                      have H' := Aside0.mk H
                      clear H
                      go_wp2
                      go_loopg [5, 6] k2 (fun kq v5 v6 w' => ∃ (x3_3 : List Int) (x5_3 : Bool) (x6_3 : Int), v5 = .bool x5_3 ∧ v6 = .int .i64 x6_3 ∧ Aside0 (stackyardref08_far.l2 kq x3_3 x5_3 x6_3 a0_0 a0_1 a0_2 a0_3 l0_4 = some r) ∧ Aside0 (kq ≤ k2) ∧ Aside0 (Kd.R (Kd.int .i64) 3 w' w.heap.size (fun _ => True) (.slice (some ⟨go17, 0, none⟩) x3_2.length co17) x3_3) ∧ Aside0 (w'.heap[gb252]? = some (.cells #[.int .i64 a0_0, .int .i64 a0_1, .int .i64 a0_2, .int .i64 a0_3, (.slice A0_4 l0_4.length c0_4)] 31 (0, 0))) ∧ Aside0 (Below w.heap.size w w'))
                      case atStart => exact ⟨(x3_2), (false), (0), (by first | rfl | (simp; done) | (simp [*]; done)), (by first | rfl | (simp; done) | (simp [*]; done)), H', ⟨Nat.le_refl _⟩, ⟨by (try simp only [hl3_2]); (with_reducible repeat (first | apply Kd.R_alloc | apply Kd.R_drewN | apply Kd.R_drew)); exact HO_3.out⟩, ⟨by (try simp only [hl3_2]); (with_reducible repeat (first | refine blk_drewN ?_ _ | refine blk_drew ?_ | refine blk_alloc ?_ _)); exact BK252.out⟩, ⟨by repeat (first | (with_reducible first | exact HB.out | apply below_alloc | apply pw_below_drewN | apply below_drew1 | refine below_set ?_ GE252.out) | exact HB.out)⟩⟩
                      case round =>
                        clear H'
                        try clear c1
                        try clear p1
                        try clear q1
                        try clear hx1
                        try clear hf1
                        try clear c2
                        try clear c2b0
                        try clear c2b1
                        try clear p2
                        try clear c3
                        try clear c3b0
                        try clear c3b1
                        try clear c5
                        try clear p6
                        try clear c8
                        try clear c8b0
                        try clear c9
                        try clear c9b0
                        try clear c10
                        try clear c10b0
                        try clear p11
                        try clear q11
                        try clear hx11
                        try clear hf11
                        try clear c15
                        try clear c15b0
                        try clear c16
                        try clear c16b0
                        try clear p17
                        try clear q17
                        try clear hx17
                        try clear hf17
                        try clear c21
                        try clear hcz12_0
                        try clear hcz12_1
                        try clear hcz12_2
                        try clear hcz12_3
                        try clear hcz12_4
                        try clear hcz18_0
                        try clear hcz18_1
                        try clear hcz18_2
                        try clear hcz18_3
                        try clear hcz18_4
                        try clear hcz5_0
                        try clear hcz5_1
                        try clear hcz5_2
                        try clear hcz5_3
                        try clear hcz5_4
                        try clear hfz12_0
                        try clear hfz12_1
                        try clear hfz12_2
                        try clear hfz12_3
                        try clear hfz12_4
                        try clear hfz18_0
                        try clear hfz18_1
                        try clear hfz18_2
                        try clear hfz18_3
                        try clear hfz18_4
                        try clear hfz5_0
                        try clear hfz5_1
                        try clear hfz5_2
                        try clear hfz5_3
                        try clear hfz5_4
                        try clear hx11_0
                        try clear hx17_0
                        try clear p1
                        try clear p11
                        try clear p17
                        try clear p2
                        try clear p6
                        try clear q1
                        try clear q11
                        try clear q17
                        obtain ⟨x3_3, x5_3, x6_3, rfl, rfl, HA, HK3, HO_3, BK252, HB⟩ := hrel
                        have hl3_3 := (Kd.R_reads' HO_3.out).1
                        rw [hl3_3] at HO_3
                        (try simp only [hl3_3])
                        (try simp only [hl3_3] at BK252)
                        cases gk with
                        | zero => exact absurd HA.out (by simp [stackyardref08_far.l2])
                        | succ k3 =>
                          have H := HA.out
                          clear HA
                          simp only [stackyardref08_far.l2] at H
                          by_cases c22 : x6_3 < (l0_4.length : Int)
                          · rw [if_pos c22] at H
                            have c22b0 : decide (x6_3 < (l0_4.length : Int)) = true := decide_eq_true c22
                            clear c22
                            by_cases c23 : 0 ≤ x6_3
                            · rw [if_pos c23] at H
                              have c23b0 : decide (0 ≤ x6_3) = true := decide_eq_true c23
                              clear c23
                              have HC24 := Aside0.mk H
                              clear H
                              have hcz25_0 : wr.cell? ⟨gb252, 0, none⟩ = some (.int .i64 a0_0) := (blk_cell BK252.out 0).trans rfl
                              have hcz25_1 : wr.cell? ⟨gb252, 1, none⟩ = some (.int .i64 a0_1) := (blk_cell BK252.out 1).trans rfl
                              have hcz25_2 : wr.cell? ⟨gb252, 2, none⟩ = some (.int .i64 a0_2) := (blk_cell BK252.out 2).trans rfl
                              have hcz25_3 : wr.cell? ⟨gb252, 3, none⟩ = some (.int .i64 a0_3) := (blk_cell BK252.out 3).trans rfl
                              have hcz25_4 : wr.cell? ⟨gb252, 4, none⟩ = some (.slice A0_4 l0_4.length c0_4) := (blk_cell BK252.out 4).trans rfl
                              have hfz25_0 := blk_frozen BK252.out 0
                              have hfz25_1 := blk_frozen BK252.out 1
                              have hfz25_2 := blk_frozen BK252.out 2
                              have hfz25_3 := blk_frozen BK252.out 3
                              have hfz25_4 := blk_frozen BK252.out 4
                              have p258 : 0 ≤ (x6_3 : Int) := of_decide_eq_true (by first | (with_reducible assumption) | assumption)
                              have q258 : x6_3 < (l0_4.length : Int) := of_decide_eq_true (by first | (with_reducible assumption) | assumption)
                              obtain ⟨ad258, e258, hx258_0, hx258_1, hx258_2⟩ := at_T78 HR0_4.out x6_3 p258 q258
                              cases e258
                              replace hx258_0 := (HB.out.cell (World.block_lt_of_cell? w _ hx258_0)).trans hx258_0
                              replace hx258_1 := (HB.out.cell (World.block_lt_of_cell? w _ hx258_1)).trans hx258_1
                              replace hx258_2 := (HB.out.cell (World.block_lt_of_cell? w _ hx258_2)).trans hx258_2
                              replace p258 := eq_true p258
                              replace q258 := eq_true q258
                              go_upto_region 14 with (first | ((with_reducible refine gate_dst (N := 7) rfl ?_); refine box_event ?hg (N := 7) ?hd (cs := #[.int .i64 0, .int .i64 0, .int .i64 0]) (t := 78) ?hr ?_; (case hd => rfl); (case hg => rfl); (case hr => first | (go_simp; done) | (go_simp; rfl)); intro gb259 hg w26 hbox hb; have n0_ := Aside0.mk (Kd.R_below (by (with_reducible repeat (first | apply Kd.R_alloc | apply Kd.R_drewN | apply Kd.R_drew)); exact HO_3.out) hb); have n1_ := Aside0.mk (blk_below (g := gb252) (o := .cells #[.int .i64 a0_0, .int .i64 a0_1, .int .i64 a0_2, .int .i64 a0_3, .slice (some ad258) l0_4.length c0_4] 31 (0, 0)) (by (with_reducible repeat (first | refine blk_drewN ?_ _ | refine blk_drew ?_ | refine blk_alloc ?_ _)); exact BK252.out) hb); have n2_ := Aside0.mk (below_step (by repeat (first | (with_reducible first | exact HB.out | apply below_alloc | apply pw_below_drewN | apply below_drew1 | refine below_set ?_ GE252.out) | exact HB.out)) hb); have n3_ := Aside0.mk (hbox); have n4_ := Aside0.mk ((by rw [hg]; exact (below_size (by repeat (first | (with_reducible first | exact HB.out | apply below_alloc | apply pw_below_drewN | apply below_drew1 | refine below_set ?_ GE252.out) | exact HB.out))) : w.heap.size ≤ gb259)); have n5_ := Aside0.mk ((by rw [hg]; exact (below_size (by repeat (first | (with_reducible first | exact HB.out | apply below_alloc | apply pw_below_drewN | apply below_drew1 | refine below_set ?_ GE252.out) | exact HB.out))) : w.heap.size ≤ gb259)); have n6_ := Aside0.mk ((by rw [hg]; exact Nat.ne_of_lt (blk_lt (g := gb252) (o := .cells #[.int .i64 a0_0, .int .i64 a0_1, .int .i64 a0_2, .int .i64 a0_3, .slice (some ad258) l0_4.length c0_4] 31 (0, 0)) (by (with_reducible repeat (first | refine blk_drewN ?_ _ | refine blk_drew ?_ | refine blk_alloc ?_ _)); exact BK252.out)) : gb252 ≠ gb259)); have n7_ := Aside0.mk ((by rw [hg]; exact Nat.ne_of_gt (blk_lt (g := gb252) (o := .cells #[.int .i64 a0_0, .int .i64 a0_1, .int .i64 a0_2, .int .i64 a0_3, .slice (some ad258) l0_4.length c0_4] 31 (0, 0)) (by (with_reducible repeat (first | refine blk_drewN ?_ _ | refine blk_drew ?_ | refine blk_alloc ?_ _)); exact BK252.out)) : gb259 ≠ gb252)); clear HO_3; clear BK252; clear HB; have HO_3 := n0_; have BK252 := n1_; have HB := n2_; have BK259 := n3_; have GW259 := n4_; have GE259 := n5_; have NB252_259 := n6_; have NB259_252 := n7_; clear n0_ n1_ n2_ n3_ n4_ n5_ n6_ n7_; clear hb hbox hg; have hnb27 := NB259_252.out; have hnc27 := NB252_259.out; have hcz28_0 : w26.cell? ⟨gb259, 0, none⟩ = some (.int .i64 0) := (blk_cell BK259.out 0).trans rfl; have hcz28_1 : w26.cell? ⟨gb259, 1, none⟩ = some (.int .i64 0) := (blk_cell BK259.out 1).trans rfl; have hcz28_2 : w26.cell? ⟨gb259, 2, none⟩ = some (.int .i64 0) := (blk_cell BK259.out 2).trans rfl; have hfz28_0 := blk_frozen BK259.out 0; have hfz28_1 := blk_frozen BK259.out 1; have hfz28_2 := blk_frozen BK259.out 2))
                              (try simp only [Act.put, List.setIfInBounds_toArray, List.set_cons_zero, List.set_cons_succ])
                              go_cut [53] (fun v53 wc => ∃ (kq : Nat) (x53_23 : Bool), v53 = .bool x53_23 ∧ Aside0 (stackyardref08_far.j3 kq x3_3 x5_3 x6_3 x53_23 a0_0 a0_1 a0_2 a0_3 l0_4 ((rd_T78 l0_4 x6_3).f0) ((rd_T78 l0_4 x6_3).f1) ((rd_T78 l0_4 x6_3).f2) = some r) ∧ Aside0 (kq ≤ k3) ∧ Aside0 (Kd.R (Kd.int .i64) 3 wc w.heap.size (fun _ => True) (.slice (some ⟨go17, 0, none⟩) x3_3.length co17) x3_3) ∧ Aside0 (wc.heap[gb252]? = some (.cells #[.int .i64 a0_0, .int .i64 a0_1, .int .i64 a0_2, .int .i64 a0_3, (.slice (some ad258) l0_4.length c0_4)] 31 (0, 0))) ∧ Aside0 (wc.heap[gb259]? = some (.cells #[.int .i64 ((rd_T78 l0_4 x6_3).f0), .int .i64 ((rd_T78 l0_4 x6_3).f1), .int .i64 ((rd_T78 l0_4 x6_3).f2)] 78 (0, 0))) ∧ Aside0 (Below w.heap.size w wc))
                              case first =>
                                have H := HC24.out
                                clear HC24
                                by_cases c29 : 0 ≤ ((rd_T78 l0_4 x6_3).f2)
                                · rw [if_pos c29] at H
                                  have c29b0 : decide (0 ≤ ((rd_T78 l0_4 x6_3).f2)) = true := decide_eq_true c29
                                  clear c29
                                  (first | rw [c29b0] | (simp only [i64_w, i32_w]; rw [c29b0]) | skip)
                                  by_cases c30 : ((rd_T78 l0_4 x6_3).f2) < (x3_3.length : Int)
                                  · rw [if_pos c30] at H
                                    have c30b0 : decide (((rd_T78 l0_4 x6_3).f2) < (x3_3.length : Int)) = true := decide_eq_true c30
                                    clear c30
                                    by_cases c31 : (rd x3_3 ((rd_T78 l0_4 x6_3).f2)) < 0
                                    · rw [if_pos c31] at H
                                      have c31b0 : decide ((rd x3_3 ((rd_T78 l0_4 x6_3).f2)) < 0) = true := decide_eq_true c31
                                      clear c31
                                      have H' := Aside0.mk H
                                      clear H
                                      have hnb32 := NB259_252.out
                                      have hnc32 := NB252_259.out
                                      have hcz33_0 : w26.cell? ⟨gb259, 0, none⟩ = some (.int .i64 0) := (blk_cell BK259.out 0).trans rfl
                                      have hcz33_1 : w26.cell? ⟨gb259, 1, none⟩ = some (.int .i64 0) := (blk_cell BK259.out 1).trans rfl
                                      have hcz33_2 : w26.cell? ⟨gb259, 2, none⟩ = some (.int .i64 0) := (blk_cell BK259.out 2).trans rfl
                                      have hfz33_0 := blk_frozen BK259.out 0
                                      have hfz33_1 := blk_frozen BK259.out 1
                                      have hfz33_2 := blk_frozen BK259.out 2
                                      have p260 : 0 ≤ (((rd_T78 l0_4 x6_3).f2) : Int) := of_decide_eq_true (by first | (with_reducible assumption) | assumption)
                                      have q260 : ((rd_T78 l0_4 x6_3).f2) < (x3_3.length : Int) := of_decide_eq_true (by first | (with_reducible assumption) | assumption)
                                      obtain ⟨ad260, e260, hx260_0⟩ := Kd.at_int (Kd.R_reads' HO_3.out).2.2 ((rd_T78 l0_4 x6_3).f2) p260 q260
                                      obtain rfl : (⟨go17, 0, none⟩ : Addr) = ad260 := (by injection e260)
                                      (first | simp only [add_plain] at hx260_0 | simp only [add_at] at hx260_0 | simp only [Addr.add, Nat.zero_add] at hx260_0 | skip)
                                      have hn260_0 : (⟨go17, 0, none⟩ : Addr).block ≠ gb259 := Kd.own_blk (Kd.R_ne HO_3.out BK259.out (by decide))
                                      have hn260_1 : (⟨go17, 0, none⟩ : Addr).block ≠ gb259 := Kd.own_blk (Kd.R_ne HO_3.out BK259.out (by decide))
                                      have hn260_2 : (⟨go17, 0, none⟩ : Addr).block ≠ gb259 := Kd.own_blk (Kd.R_ne HO_3.out BK259.out (by decide))
                                      replace hx260_0 := (cell_far (p := ⟨gb259, 0, none⟩) (by first | (rw [add_block]; exact hn260_0) | (show (Addr.add _ _).block ≠ _; rw [add_block]; exact hn260_0) | exact hn260_0) (.int .i64 ((rd_T78 l0_4 x6_3).f0))).trans hx260_0
                                      replace hx260_0 := (cell_far (p := ⟨gb259, 1, none⟩) (by first | (rw [add_block]; exact hn260_1) | (show (Addr.add _ _).block ≠ _; rw [add_block]; exact hn260_1) | exact hn260_1) (.int .i64 ((rd_T78 l0_4 x6_3).f1))).trans hx260_0
                                      replace hx260_0 := (cell_far (p := ⟨gb259, 2, none⟩) (by first | (rw [add_block]; exact hn260_2) | (show (Addr.add _ _).block ≠ _; rw [add_block]; exact hn260_2) | exact hn260_2) (.int .i64 ((rd_T78 l0_4 x6_3).f2))).trans hx260_0
                                      clear hn260_0
                                      clear hn260_1
                                      clear hn260_2
                                      replace p260 := eq_true p260
                                      replace q260 := eq_true q260
                                      go_wp2
                                      go_meet
                                      case rel => exact ⟨_, (true), (by first | rfl | (simp; done) | (simp [*]; done)), H', ⟨by have := HK1.out; have := HK2.out; have := HK3.out; first | omega | exact Nat.le_refl _⟩, ⟨by (try simp only [hl3_2]); (try simp only [hl3_3]); (with_reducible repeat (first | apply Kd.R_alloc | apply Kd.R_drewN | apply Kd.R_drew)); exact Kd.R_mono (Kd.R_far (p := ⟨gb259, 2, none⟩) (Kd.R_far (p := ⟨gb259, 1, none⟩) (Kd.R_far (p := ⟨gb259, 0, none⟩) (Kd.R_types HO_3.out BK259.out (by decide)) (fun _ hk => hk.2) (.int .i64 ((rd_T78 l0_4 x6_3).f0))) (fun _ hk => hk.2) (.int .i64 ((rd_T78 l0_4 x6_3).f1))) (fun _ hk => hk.2) (.int .i64 ((rd_T78 l0_4 x6_3).f2))) (fun _ hk => trivial)⟩, ⟨by (try simp only [hl3_2]); (try simp only [hl3_3]); (with_reducible repeat (first | refine blk_drewN ?_ _ | refine blk_drew ?_ | refine blk_alloc ?_ _)); refine blk_far ?_ NB252_259.out _; (with_reducible repeat (first | refine blk_drewN ?_ _ | refine blk_drew ?_ | refine blk_alloc ?_ _)); refine blk_far ?_ NB252_259.out _; (with_reducible repeat (first | refine blk_drewN ?_ _ | refine blk_drew ?_ | refine blk_alloc ?_ _)); refine blk_far ?_ NB252_259.out _; (with_reducible repeat (first | refine blk_drewN ?_ _ | refine blk_drew ?_ | refine blk_alloc ?_ _)); exact BK252.out⟩, ⟨by (try simp only [hl3_2]); (try simp only [hl3_3]); (with_reducible repeat (first | refine blk_drewN ?_ _ | refine blk_drew ?_ | refine blk_alloc ?_ _)); refine blk_put (cs := #[.int .i64 ((rd_T78 l0_4 x6_3).f0), .int .i64 ((rd_T78 l0_4 x6_3).f1), .int .i64 0]) ?_ 2 _ rfl; (with_reducible repeat (first | refine blk_drewN ?_ _ | refine blk_drew ?_ | refine blk_alloc ?_ _)); refine blk_put (cs := #[.int .i64 ((rd_T78 l0_4 x6_3).f0), .int .i64 0, .int .i64 0]) ?_ 1 _ rfl; (with_reducible repeat (first | refine blk_drewN ?_ _ | refine blk_drew ?_ | refine blk_alloc ?_ _)); refine blk_put (cs := #[.int .i64 0, .int .i64 0, .int .i64 0]) ?_ 0 _ rfl; (with_reducible repeat (first | refine blk_drewN ?_ _ | refine blk_drew ?_ | refine blk_alloc ?_ _)); exact BK259.out⟩, ⟨by repeat (first | (with_reducible first | exact HB.out | apply below_alloc | apply pw_below_drewN | apply below_drew1 | refine below_set ?_ GE252.out | refine below_set ?_ GE259.out) | exact HB.out)⟩⟩
                                    · rw [if_neg c31] at H
                                      have c31b0 : decide ((rd x3_3 ((rd_T78 l0_4 x6_3).f2)) < 0) = false := decide_eq_false c31
                                      clear c31
                                      by_cases c34 : ((rd_T78 l0_4 x6_3).f1) = (-2)
                                      · rw [if_pos c34] at H
                                        have c34b0 : (((rd_T78 l0_4 x6_3).f1) == (-2)) = true := beq_iff_eq.mpr c34
                                        have c34b1 : (((rd_T78 l0_4 x6_3).f1) != (-2)) = false := bne_eq_false_iff_eq.mpr c34
                                        clear c34
                                        have H' := Aside0.mk H
                                        clear H
                                        have hnb35 := NB259_252.out
                                        have hnc35 := NB252_259.out
                                        have hcz36_0 : w26.cell? ⟨gb259, 0, none⟩ = some (.int .i64 0) := (blk_cell BK259.out 0).trans rfl
                                        have hcz36_1 : w26.cell? ⟨gb259, 1, none⟩ = some (.int .i64 0) := (blk_cell BK259.out 1).trans rfl
                                        have hcz36_2 : w26.cell? ⟨gb259, 2, none⟩ = some (.int .i64 0) := (blk_cell BK259.out 2).trans rfl
                                        have hfz36_0 := blk_frozen BK259.out 0
                                        have hfz36_1 := blk_frozen BK259.out 1
                                        have hfz36_2 := blk_frozen BK259.out 2
                                        have p260 : 0 ≤ (((rd_T78 l0_4 x6_3).f2) : Int) := of_decide_eq_true (by first | (with_reducible assumption) | assumption)
                                        have q260 : ((rd_T78 l0_4 x6_3).f2) < (x3_3.length : Int) := of_decide_eq_true (by first | (with_reducible assumption) | assumption)
                                        obtain ⟨ad260, e260, hx260_0⟩ := Kd.at_int (Kd.R_reads' HO_3.out).2.2 ((rd_T78 l0_4 x6_3).f2) p260 q260
                                        obtain rfl : (⟨go17, 0, none⟩ : Addr) = ad260 := (by injection e260)
                                        (first | simp only [add_plain] at hx260_0 | simp only [add_at] at hx260_0 | simp only [Addr.add, Nat.zero_add] at hx260_0 | skip)
                                        have hn260_0 : (⟨go17, 0, none⟩ : Addr).block ≠ gb259 := Kd.own_blk (Kd.R_ne HO_3.out BK259.out (by decide))
                                        have hn260_1 : (⟨go17, 0, none⟩ : Addr).block ≠ gb259 := Kd.own_blk (Kd.R_ne HO_3.out BK259.out (by decide))
                                        have hn260_2 : (⟨go17, 0, none⟩ : Addr).block ≠ gb259 := Kd.own_blk (Kd.R_ne HO_3.out BK259.out (by decide))
                                        replace hx260_0 := (cell_far (p := ⟨gb259, 0, none⟩) (by first | (rw [add_block]; exact hn260_0) | (show (Addr.add _ _).block ≠ _; rw [add_block]; exact hn260_0) | exact hn260_0) (.int .i64 ((rd_T78 l0_4 x6_3).f0))).trans hx260_0
                                        replace hx260_0 := (cell_far (p := ⟨gb259, 1, none⟩) (by first | (rw [add_block]; exact hn260_1) | (show (Addr.add _ _).block ≠ _; rw [add_block]; exact hn260_1) | exact hn260_1) (.int .i64 ((rd_T78 l0_4 x6_3).f1))).trans hx260_0
                                        replace hx260_0 := (cell_far (p := ⟨gb259, 2, none⟩) (by first | (rw [add_block]; exact hn260_2) | (show (Addr.add _ _).block ≠ _; rw [add_block]; exact hn260_2) | exact hn260_2) (.int .i64 ((rd_T78 l0_4 x6_3).f2))).trans hx260_0
                                        clear hn260_0
                                        clear hn260_1
                                        clear hn260_2
                                        replace p260 := eq_true p260
                                        replace q260 := eq_true q260
                                        have hcz37_0 : w26.cell? ⟨gb252, 0, none⟩ = some (.int .i64 a0_0) := (blk_cell BK252.out 0).trans rfl
                                        have hcz37_1 : w26.cell? ⟨gb252, 1, none⟩ = some (.int .i64 a0_1) := (blk_cell BK252.out 1).trans rfl
                                        have hcz37_2 : w26.cell? ⟨gb252, 2, none⟩ = some (.int .i64 a0_2) := (blk_cell BK252.out 2).trans rfl
                                        have hcz37_3 : w26.cell? ⟨gb252, 3, none⟩ = some (.int .i64 a0_3) := (blk_cell BK252.out 3).trans rfl
                                        have hcz37_4 : w26.cell? ⟨gb252, 4, none⟩ = some (.slice (some ad258) l0_4.length c0_4) := (blk_cell BK252.out 4).trans rfl
                                        have hfz37_0 := blk_frozen BK252.out 0
                                        have hfz37_1 := blk_frozen BK252.out 1
                                        have hfz37_2 := blk_frozen BK252.out 2
                                        have hfz37_3 := blk_frozen BK252.out 3
                                        have hfz37_4 := blk_frozen BK252.out 4
                                        go_wp2
                                        go_meet
                                        case rel => exact ⟨_, ((a0_1 == 0)), (by first | rfl | (simp; done) | (simp [*]; done)), H', ⟨by have := HK1.out; have := HK2.out; have := HK3.out; first | omega | exact Nat.le_refl _⟩, ⟨by (try simp only [hl3_2]); (try simp only [hl3_3]); (with_reducible repeat (first | apply Kd.R_alloc | apply Kd.R_drewN | apply Kd.R_drew)); exact Kd.R_mono (Kd.R_far (p := ⟨gb259, 2, none⟩) (Kd.R_far (p := ⟨gb259, 1, none⟩) (Kd.R_far (p := ⟨gb259, 0, none⟩) (Kd.R_types HO_3.out BK259.out (by decide)) (fun _ hk => hk.2) (.int .i64 ((rd_T78 l0_4 x6_3).f0))) (fun _ hk => hk.2) (.int .i64 ((rd_T78 l0_4 x6_3).f1))) (fun _ hk => hk.2) (.int .i64 ((rd_T78 l0_4 x6_3).f2))) (fun _ hk => trivial)⟩, ⟨by (try simp only [hl3_2]); (try simp only [hl3_3]); (with_reducible repeat (first | refine blk_drewN ?_ _ | refine blk_drew ?_ | refine blk_alloc ?_ _)); refine blk_far ?_ NB252_259.out _; (with_reducible repeat (first | refine blk_drewN ?_ _ | refine blk_drew ?_ | refine blk_alloc ?_ _)); refine blk_far ?_ NB252_259.out _; (with_reducible repeat (first | refine blk_drewN ?_ _ | refine blk_drew ?_ | refine blk_alloc ?_ _)); refine blk_far ?_ NB252_259.out _; (with_reducible repeat (first | refine blk_drewN ?_ _ | refine blk_drew ?_ | refine blk_alloc ?_ _)); exact BK252.out⟩, ⟨by (try simp only [hl3_2]); (try simp only [hl3_3]); (with_reducible repeat (first | refine blk_drewN ?_ _ | refine blk_drew ?_ | refine blk_alloc ?_ _)); refine blk_put (cs := #[.int .i64 ((rd_T78 l0_4 x6_3).f0), .int .i64 ((rd_T78 l0_4 x6_3).f1), .int .i64 0]) ?_ 2 _ rfl; (with_reducible repeat (first | refine blk_drewN ?_ _ | refine blk_drew ?_ | refine blk_alloc ?_ _)); refine blk_put (cs := #[.int .i64 ((rd_T78 l0_4 x6_3).f0), .int .i64 0, .int .i64 0]) ?_ 1 _ rfl; (with_reducible repeat (first | refine blk_drewN ?_ _ | refine blk_drew ?_ | refine blk_alloc ?_ _)); refine blk_put (cs := #[.int .i64 0, .int .i64 0, .int .i64 0]) ?_ 0 _ rfl; (with_reducible repeat (first | refine blk_drewN ?_ _ | refine blk_drew ?_ | refine blk_alloc ?_ _)); exact BK259.out⟩, ⟨by repeat (first | (with_reducible first | exact HB.out | apply below_alloc | apply pw_below_drewN | apply below_drew1 | refine below_set ?_ GE252.out | refine below_set ?_ GE259.out) | exact HB.out)⟩⟩
                                      · rw [if_neg c34] at H
                                        have c34b0 : (((rd_T78 l0_4 x6_3).f1) == (-2)) = false := beq_eq_false_iff_ne.mpr c34
                                        have c34b1 : (((rd_T78 l0_4 x6_3).f1) != (-2)) = true := bne_iff_ne.mpr c34
                                        have H' := Aside0.mk H
                                        clear H
                                        have hnb38 := NB259_252.out
                                        have hnc38 := NB252_259.out
                                        have hcz39_0 : w26.cell? ⟨gb259, 0, none⟩ = some (.int .i64 0) := (blk_cell BK259.out 0).trans rfl
                                        have hcz39_1 : w26.cell? ⟨gb259, 1, none⟩ = some (.int .i64 0) := (blk_cell BK259.out 1).trans rfl
                                        have hcz39_2 : w26.cell? ⟨gb259, 2, none⟩ = some (.int .i64 0) := (blk_cell BK259.out 2).trans rfl
                                        have hfz39_0 := blk_frozen BK259.out 0
                                        have hfz39_1 := blk_frozen BK259.out 1
                                        have hfz39_2 := blk_frozen BK259.out 2
                                        have p260 : 0 ≤ (((rd_T78 l0_4 x6_3).f2) : Int) := of_decide_eq_true (by first | (with_reducible assumption) | assumption)
                                        have q260 : ((rd_T78 l0_4 x6_3).f2) < (x3_3.length : Int) := of_decide_eq_true (by first | (with_reducible assumption) | assumption)
                                        obtain ⟨ad260, e260, hx260_0⟩ := Kd.at_int (Kd.R_reads' HO_3.out).2.2 ((rd_T78 l0_4 x6_3).f2) p260 q260
                                        obtain rfl : (⟨go17, 0, none⟩ : Addr) = ad260 := (by injection e260)
                                        (first | simp only [add_plain] at hx260_0 | simp only [add_at] at hx260_0 | simp only [Addr.add, Nat.zero_add] at hx260_0 | skip)
                                        have hn260_0 : (⟨go17, 0, none⟩ : Addr).block ≠ gb259 := Kd.own_blk (Kd.R_ne HO_3.out BK259.out (by decide))
                                        have hn260_1 : (⟨go17, 0, none⟩ : Addr).block ≠ gb259 := Kd.own_blk (Kd.R_ne HO_3.out BK259.out (by decide))
                                        have hn260_2 : (⟨go17, 0, none⟩ : Addr).block ≠ gb259 := Kd.own_blk (Kd.R_ne HO_3.out BK259.out (by decide))
                                        replace hx260_0 := (cell_far (p := ⟨gb259, 0, none⟩) (by first | (rw [add_block]; exact hn260_0) | (show (Addr.add _ _).block ≠ _; rw [add_block]; exact hn260_0) | exact hn260_0) (.int .i64 ((rd_T78 l0_4 x6_3).f0))).trans hx260_0
                                        replace hx260_0 := (cell_far (p := ⟨gb259, 1, none⟩) (by first | (rw [add_block]; exact hn260_1) | (show (Addr.add _ _).block ≠ _; rw [add_block]; exact hn260_1) | exact hn260_1) (.int .i64 ((rd_T78 l0_4 x6_3).f1))).trans hx260_0
                                        replace hx260_0 := (cell_far (p := ⟨gb259, 2, none⟩) (by first | (rw [add_block]; exact hn260_2) | (show (Addr.add _ _).block ≠ _; rw [add_block]; exact hn260_2) | exact hn260_2) (.int .i64 ((rd_T78 l0_4 x6_3).f2))).trans hx260_0
                                        clear hn260_0
                                        clear hn260_1
                                        clear hn260_2
                                        replace p260 := eq_true p260
                                        replace q260 := eq_true q260
                                        go_wp2
                                        go_meet
                                        case rel => exact ⟨_, (false), (by first | rfl | (simp; done) | (simp [*]; done)), H', ⟨by have := HK1.out; have := HK2.out; have := HK3.out; first | omega | exact Nat.le_refl _⟩, ⟨by (try simp only [hl3_2]); (try simp only [hl3_3]); (with_reducible repeat (first | apply Kd.R_alloc | apply Kd.R_drewN | apply Kd.R_drew)); exact Kd.R_mono (Kd.R_far (p := ⟨gb259, 2, none⟩) (Kd.R_far (p := ⟨gb259, 1, none⟩) (Kd.R_far (p := ⟨gb259, 0, none⟩) (Kd.R_types HO_3.out BK259.out (by decide)) (fun _ hk => hk.2) (.int .i64 ((rd_T78 l0_4 x6_3).f0))) (fun _ hk => hk.2) (.int .i64 ((rd_T78 l0_4 x6_3).f1))) (fun _ hk => hk.2) (.int .i64 ((rd_T78 l0_4 x6_3).f2))) (fun _ hk => trivial)⟩, ⟨by (try simp only [hl3_2]); (try simp only [hl3_3]); (with_reducible repeat (first | refine blk_drewN ?_ _ | refine blk_drew ?_ | refine blk_alloc ?_ _)); refine blk_far ?_ NB252_259.out _; (with_reducible repeat (first | refine blk_drewN ?_ _ | refine blk_drew ?_ | refine blk_alloc ?_ _)); refine blk_far ?_ NB252_259.out _; (with_reducible repeat (first | refine blk_drewN ?_ _ | refine blk_drew ?_ | refine blk_alloc ?_ _)); refine blk_far ?_ NB252_259.out _; (with_reducible repeat (first | refine blk_drewN ?_ _ | refine blk_drew ?_ | refine blk_alloc ?_ _)); exact BK252.out⟩, ⟨by (try simp only [hl3_2]); (try simp only [hl3_3]); (with_reducible repeat (first | refine blk_drewN ?_ _ | refine blk_drew ?_ | refine blk_alloc ?_ _)); refine blk_put (cs := #[.int .i64 ((rd_T78 l0_4 x6_3).f0), .int .i64 ((rd_T78 l0_4 x6_3).f1), .int .i64 0]) ?_ 2 _ rfl; (with_reducible repeat (first | refine blk_drewN ?_ _ | refine blk_drew ?_ | refine blk_alloc ?_ _)); refine blk_put (cs := #[.int .i64 ((rd_T78 l0_4 x6_3).f0), .int .i64 0, .int .i64 0]) ?_ 1 _ rfl; (with_reducible repeat (first | refine blk_drewN ?_ _ | refine blk_drew ?_ | refine blk_alloc ?_ _)); refine blk_put (cs := #[.int .i64 0, .int .i64 0, .int .i64 0]) ?_ 0 _ rfl; (with_reducible repeat (first | refine blk_drewN ?_ _ | refine blk_drew ?_ | refine blk_alloc ?_ _)); exact BK259.out⟩, ⟨by repeat (first | (with_reducible first | exact HB.out | apply below_alloc | apply pw_below_drewN | apply below_drew1 | refine below_set ?_ GE252.out | refine below_set ?_ GE259.out) | exact HB.out)⟩⟩
                                  · rw [if_neg c30] at H
                                    exact absurd H (by simp)
                                · rw [if_neg c29] at H
                                  exact absurd H (by simp)
                              case rest =>
                                clear HC24
                                try clear c1
                                try clear p1
                                try clear q1
                                try clear hx1
                                try clear hf1
                                try clear c2
                                try clear c2b0
                                try clear c2b1
                                try clear p2
                                try clear q2
                                try clear hx2
                                try clear c3
                                try clear c3b0
                                try clear c3b1
                                try clear c5
                                try clear p6
                                try clear c8
                                try clear c8b0
                                try clear c9
                                try clear c9b0
                                try clear c10
                                try clear c10b0
                                try clear p11
                                try clear q11
                                try clear hx11
                                try clear hf11
                                try clear c15
                                try clear c15b0
                                try clear c16
                                try clear c16b0
                                try clear p17
                                try clear q17
                                try clear hx17
                                try clear hf17
                                try clear c21
                                try clear c22
                                try clear c22b0
                                try clear c23
                                try clear c23b0
                                try clear p25
                                try clear q25
                                try clear hx25
                                try clear p26
                                try clear q26
                                try clear hx26
                                try clear c27
                                try clear c29
                                try clear c29b0
                                try clear c30
                                try clear c30b0
                                try clear c31
                                try clear c31b0
                                try clear c32
                                try clear c34
                                try clear c34b0
                                try clear c34b1
                                try clear c35
                                try clear c38
                                try clear hcz12_0
                                try clear hcz12_1
                                try clear hcz12_2
                                try clear hcz12_3
                                try clear hcz12_4
                                try clear hcz18_0
                                try clear hcz18_1
                                try clear hcz18_2
                                try clear hcz18_3
                                try clear hcz18_4
                                try clear hcz25_0
                                try clear hcz25_1
                                try clear hcz25_2
                                try clear hcz25_3
                                try clear hcz25_4
                                try clear hcz28_0
                                try clear hcz28_1
                                try clear hcz28_2
                                try clear hcz33_0
                                try clear hcz33_1
                                try clear hcz33_2
                                try clear hcz36_0
                                try clear hcz36_1
                                try clear hcz36_2
                                try clear hcz37_0
                                try clear hcz37_1
                                try clear hcz37_2
                                try clear hcz37_3
                                try clear hcz37_4
                                try clear hcz39_0
                                try clear hcz39_1
                                try clear hcz39_2
                                try clear hcz5_0
                                try clear hcz5_1
                                try clear hcz5_2
                                try clear hcz5_3
                                try clear hcz5_4
                                try clear hfz12_0
                                try clear hfz12_1
                                try clear hfz12_2
                                try clear hfz12_3
                                try clear hfz12_4
                                try clear hfz18_0
                                try clear hfz18_1
                                try clear hfz18_2
                                try clear hfz18_3
                                try clear hfz18_4
                                try clear hfz25_0
                                try clear hfz25_1
                                try clear hfz25_2
                                try clear hfz25_3
                                try clear hfz25_4
                                try clear hfz28_0
                                try clear hfz28_1
                                try clear hfz28_2
                                try clear hfz33_0
                                try clear hfz33_1
                                try clear hfz33_2
                                try clear hfz36_0
                                try clear hfz36_1
                                try clear hfz36_2
                                try clear hfz37_0
                                try clear hfz37_1
                                try clear hfz37_2
                                try clear hfz37_3
                                try clear hfz37_4
                                try clear hfz39_0
                                try clear hfz39_1
                                try clear hfz39_2
                                try clear hfz5_0
                                try clear hfz5_1
                                try clear hfz5_2
                                try clear hfz5_3
                                try clear hfz5_4
                                try clear hx11_0
                                try clear hx17_0
                                try clear hx258_0
                                try clear hx258_1
                                try clear hx258_2
                                try clear hx260_0
                                try clear p1
                                try clear p11
                                try clear p17
                                try clear p2
                                try clear p258
                                try clear p260
                                try clear p6
                                try clear q1
                                try clear q11
                                try clear q17
                                try clear q258
                                try clear q260
                                obtain ⟨kq, x53_23, rfl, HA, HJ23, HO_3, BK252, BK259, HB⟩ := hcut
                                cases kq with
                                | zero => exact absurd HA.out (by simp [stackyardref08_far.j3])
                                | succ kj23 =>
                                  have H := HA.out
                                  clear HA
                                  simp only [stackyardref08_far.j3] at H
                                  by_cases c40 : x53_23 = true
                                  · subst c40
                                    have H1 : (stackyardref08_far.l2 kj23 x3_3 x5_3 (wrap64 (x6_3 + 1)) a0_0 a0_1 a0_2 a0_3 l0_4) = some r := by rw [if_pos rfl] at H; exact H
                                    clear H
                                    have H := H1
                                    clear H1
                                    have H' := Aside0.mk H
                                    clear H
                                    go_wp2
                                    (try simp only [← hl3_3])
                                    go_roundg kj23
                                    case measure => have := HK1.out; have := HK2.out; have := HK3.out; have := HJ23.out; omega
                                    case rel => exact ⟨(x3_3), (x5_3), (wrap64 (x6_3 + 1)), (by first | rfl | (simp; done) | (simp [*]; done)), (by first | rfl | (simp; done) | (simp [*]; done)), H', ⟨by have := HK1.out; have := HK2.out; have := HK3.out; have := HJ23.out; omega⟩, ⟨by (try simp only [hl3_2]); (try simp only [hl3_3]); (with_reducible repeat (first | apply Kd.R_alloc | apply Kd.R_drewN | apply Kd.R_drew)); exact HO_3.out⟩, ⟨by (try simp only [hl3_2]); (try simp only [hl3_3]); (with_reducible repeat (first | refine blk_drewN ?_ _ | refine blk_drew ?_ | refine blk_alloc ?_ _)); exact BK252.out⟩, ⟨by repeat (first | (with_reducible first | exact HB.out | apply below_alloc | apply pw_below_drewN | apply below_drew1 | refine below_set ?_ GE252.out | refine below_set ?_ GE259.out) | exact HB.out)⟩⟩
                                  · replace c40 := Bool.eq_false_iff.mpr c40
                                    subst c40
                                    have H1 : (if 0 ≤ ((rd_T78 l0_4 x6_3).f2) then (if ((rd_T78 l0_4 x6_3).f2) < (x3_3.length : Int) then (if ((rd_T78 l0_4 x6_3).f1) = (-1) then (if 0 ≤ ((rd_T78 l0_4 x6_3).f0) then (if ((rd_T78 l0_4 x6_3).f0) < (x3_3.length : Int) then (if (rd x3_3 ((rd_T78 l0_4 x6_3).f0)) < 0 then (stackyardref08_far.l2 kj23 (x3_3.set (((rd_T78 l0_4 x6_3).f0) : Int).toNat (rd x3_3 ((rd_T78 l0_4 x6_3).f2))) true (wrap64 (x6_3 + 1)) a0_0 a0_1 a0_2 a0_3 l0_4) else (if (rd x3_3 ((rd_T78 l0_4 x6_3).f0)) > (rd x3_3 ((rd_T78 l0_4 x6_3).f2)) then (stackyardref08_far.l2 kj23 (x3_3.set (((rd_T78 l0_4 x6_3).f0) : Int).toNat (rd x3_3 ((rd_T78 l0_4 x6_3).f2))) true (wrap64 (x6_3 + 1)) a0_0 a0_1 a0_2 a0_3 l0_4) else (stackyardref08_far.l2 kj23 x3_3 x5_3 (wrap64 (x6_3 + 1)) a0_0 a0_1 a0_2 a0_3 l0_4))) else (none)) else (none)) else (if 0 ≤ ((rd_T78 l0_4 x6_3).f0) then (if ((rd_T78 l0_4 x6_3).f0) < (x3_3.length : Int) then (if (rd x3_3 ((rd_T78 l0_4 x6_3).f0)) < 0 then (stackyardref08_far.l2 kj23 (x3_3.set (((rd_T78 l0_4 x6_3).f0) : Int).toNat (wrap64 ((rd x3_3 ((rd_T78 l0_4 x6_3).f2)) + 1))) true (wrap64 (x6_3 + 1)) a0_0 a0_1 a0_2 a0_3 l0_4) else (if (rd x3_3 ((rd_T78 l0_4 x6_3).f0)) > (wrap64 ((rd x3_3 ((rd_T78 l0_4 x6_3).f2)) + 1)) then (stackyardref08_far.l2 kj23 (x3_3.set (((rd_T78 l0_4 x6_3).f0) : Int).toNat (wrap64 ((rd x3_3 ((rd_T78 l0_4 x6_3).f2)) + 1))) true (wrap64 (x6_3 + 1)) a0_0 a0_1 a0_2 a0_3 l0_4) else (stackyardref08_far.l2 kj23 x3_3 x5_3 (wrap64 (x6_3 + 1)) a0_0 a0_1 a0_2 a0_3 l0_4))) else (none)) else (none))) else (none)) else (none)) = some r := by rw [if_neg (show ¬ (false = true) by decide)] at H; exact H
                                    clear H
                                    have H := H1
                                    clear H1
                                    by_cases c41 : 0 ≤ ((rd_T78 l0_4 x6_3).f2)
                                    · rw [if_pos c41] at H
                                      have c41b0 : decide (0 ≤ ((rd_T78 l0_4 x6_3).f2)) = true := decide_eq_true c41
                                      clear c41
                                      by_cases c42 : ((rd_T78 l0_4 x6_3).f2) < (x3_3.length : Int)
                                      · rw [if_pos c42] at H
                                        have c42b0 : decide (((rd_T78 l0_4 x6_3).f2) < (x3_3.length : Int)) = true := decide_eq_true c42
                                        clear c42
                                        by_cases c43 : ((rd_T78 l0_4 x6_3).f1) = (-1)
                                        · rw [if_pos c43] at H
                                          have c43b0 : (((rd_T78 l0_4 x6_3).f1) == (-1)) = true := beq_iff_eq.mpr c43
                                          have c43b1 : (((rd_T78 l0_4 x6_3).f1) != (-1)) = false := bne_eq_false_iff_eq.mpr c43
                                          clear c43
                                          by_cases c44 : 0 ≤ ((rd_T78 l0_4 x6_3).f0)
                                          · rw [if_pos c44] at H
                                            have c44b0 : decide (0 ≤ ((rd_T78 l0_4 x6_3).f0)) = true := decide_eq_true c44
                                            clear c44
                                            by_cases c45 : ((rd_T78 l0_4 x6_3).f0) < (x3_3.length : Int)
                                            · rw [if_pos c45] at H
                                              have c45b0 : decide (((rd_T78 l0_4 x6_3).f0) < (x3_3.length : Int)) = true := decide_eq_true c45
                                              clear c45
                                              by_cases c46 : (rd x3_3 ((rd_T78 l0_4 x6_3).f0)) < 0
                                              · rw [if_pos c46] at H
                                                have c46b0 : decide ((rd x3_3 ((rd_T78 l0_4 x6_3).f0)) < 0) = true := decide_eq_true c46
                                                clear c46
                                                obtain ⟨y263, hy263⟩ : ∃ y_ : List Int, y_ = (x3_3.set (((rd_T78 l0_4 x6_3).f0) : Int).toNat (rd x3_3 ((rd_T78 l0_4 x6_3).f2))) := ⟨_, rfl⟩
                                                replace H : (stackyardref08_far.l2 kj23 y263 true (wrap64 (x6_3 + 1)) a0_0 a0_1 a0_2 a0_3 l0_4) = some r := by first | (rw [hy263]; with_reducible exact H) | (have H2_ := (Option.bind_some _ _).symm.trans H; rw [hy263]; with_reducible exact H2_) | (have H2_ := (Option.bind_some _ _).symm.trans H; with_reducible exact H2_) | with_reducible exact H | (rw [hy263]; exact H) | exact H
                                                have Ny263 := Aside0.mk hy263
                                                clear hy263
                                                have H' := Aside0.mk H
                                                clear H
                                                have hnb48 := NB259_252.out
                                                have hnc48 := NB252_259.out
                                                have hcz49_0 : wc.cell? ⟨gb259, 0, none⟩ = some (.int .i64 ((rd_T78 l0_4 x6_3).f0)) := (blk_cell BK259.out 0).trans rfl
                                                have hcz49_1 : wc.cell? ⟨gb259, 1, none⟩ = some (.int .i64 ((rd_T78 l0_4 x6_3).f1)) := (blk_cell BK259.out 1).trans rfl
                                                have hcz49_2 : wc.cell? ⟨gb259, 2, none⟩ = some (.int .i64 ((rd_T78 l0_4 x6_3).f2)) := (blk_cell BK259.out 2).trans rfl
                                                have hfz49_0 := blk_frozen BK259.out 0
                                                have hfz49_1 := blk_frozen BK259.out 1
                                                have hfz49_2 := blk_frozen BK259.out 2
                                                have p261 : 0 ≤ (((rd_T78 l0_4 x6_3).f2) : Int) := of_decide_eq_true (by first | (with_reducible assumption) | assumption)
                                                have q261 : ((rd_T78 l0_4 x6_3).f2) < (x3_3.length : Int) := of_decide_eq_true (by first | (with_reducible assumption) | assumption)
                                                obtain ⟨ad261, e261, hx261_0⟩ := Kd.at_int (Kd.R_reads' HO_3.out).2.2 ((rd_T78 l0_4 x6_3).f2) p261 q261
                                                obtain rfl : (⟨go17, 0, none⟩ : Addr) = ad261 := (by injection e261)
                                                (first | simp only [add_plain] at hx261_0 | simp only [add_at] at hx261_0 | simp only [Addr.add, Nat.zero_add] at hx261_0 | skip)
                                                replace p261 := eq_true p261
                                                replace q261 := eq_true q261
                                                have p262 : 0 ≤ (((rd_T78 l0_4 x6_3).f0) : Int) := of_decide_eq_true (by first | (with_reducible assumption) | assumption)
                                                have q262 : ((rd_T78 l0_4 x6_3).f0) < (x3_3.length : Int) := of_decide_eq_true (by first | (with_reducible assumption) | assumption)
                                                obtain ⟨ad262, e262, hx262_0⟩ := Kd.at_int (Kd.R_reads' HO_3.out).2.2 ((rd_T78 l0_4 x6_3).f0) p262 q262
                                                obtain rfl : (⟨go17, 0, none⟩ : Addr) = ad262 := (by injection e262)
                                                (first | simp only [add_plain] at hx262_0 | simp only [add_at] at hx262_0 | simp only [Addr.add, Nat.zero_add] at hx262_0 | skip)
                                                replace p262 := eq_true p262
                                                replace q262 := eq_true q262
                                                have p47 : 0 ≤ (((rd_T78 l0_4 x6_3).f0) : Int) := of_decide_eq_true (by first | (with_reducible assumption) | assumption)
                                                have q47 : (((rd_T78 l0_4 x6_3).f0) : Int) < ((x3_3.length : Int) : Int) := of_decide_eq_true (by first | (with_reducible assumption) | assumption)
                                                obtain ⟨hx47_0, hf47_0⟩ := Kd.R_celln 0 HO_3.out (((rd_T78 l0_4 x6_3).f0) : Int) p47 q47
                                                replace p47 := eq_true p47
                                                replace q47 := eq_true q47
                                                have HP50 := Kd.R_putg HO_3.out (((rd_T78 l0_4 x6_3).f0) : Int) (rd x3_3 ((rd_T78 l0_4 x6_3).f2))
                                                go_wp2_with (first | ((with_reducible refine gate_store (t := 3) (p := 83) rfl ?_); refine store_event (t := 3) (p := 83) (v := ?vo_w51) (w1 := (wc.setCell ⟨go17, (((rd_T78 l0_4 x6_3).f0) : Int).toNat, none⟩ (.int .i64 (rd x3_3 ((rd_T78 l0_4 x6_3).f2))))) ?hg ?ho ?hn ?hr ?_; (case ho => rfl); (case hg => rfl); (case hn => rfl); (case hr => first | (go_simp; done) | (go_simp; rfl)); intro w51 hw; have hg : wc.grownBy w51 (some go17) := (by rw [hw]; exact HP50.2); have hp_ : Kd.R (Kd.int .i64) 3 w51 w.heap.size (fun _ => True) (.slice (some ⟨go17, 0, none⟩) x3_3.length co17) y263 := (by rw [hw, Ny263.out]; exact HP50.1); clear HP50; have n0_ := Aside0.mk (hp_); have n1_ := Aside0.mk (blk_grown (g := gb252) (o := .cells #[.int .i64 a0_0, .int .i64 a0_1, .int .i64 a0_2, .int .i64 a0_3, .slice (some ad258) l0_4.length c0_4] 31 (0, 0)) (by (with_reducible repeat (first | refine blk_drewN ?_ _ | refine blk_drew ?_ | refine blk_alloc ?_ _)); exact BK252.out) hg (Kd.R_ne HO_3.out BK252.out (by decide))); have n2_ := Aside0.mk (blk_grown (g := gb259) (o := .cells #[.int .i64 ((rd_T78 l0_4 x6_3).f0), .int .i64 ((rd_T78 l0_4 x6_3).f1), .int .i64 ((rd_T78 l0_4 x6_3).f2)] 78 (0, 0)) (by (with_reducible repeat (first | refine blk_drewN ?_ _ | refine blk_drew ?_ | refine blk_alloc ?_ _)); exact BK259.out) hg (Kd.R_ne HO_3.out BK259.out (by decide))); have n3_ := Aside0.mk ((by rw [hw]; exact below_set (HB.out) GB17.out : Below w.heap.size w w51)); clear HO_3; clear BK252; clear BK259; clear HB; have HO_3 := n0_; have BK252 := n1_; have BK259 := n2_; have HB := n3_; clear n0_ n1_ n2_ n3_; clear hg hw hp_))
                                                (try simp only [← hl3_3])
                                                go_roundg kj23
                                                case measure => have := HK1.out; have := HK2.out; have := HK3.out; have := HJ23.out; omega
                                                case rel => exact ⟨(y263), (true), (wrap64 (x6_3 + 1)), (by first | rfl | (simp; done) | (simp [*]; done)), (by first | rfl | (simp; done) | (simp [*]; done)), H', ⟨by have := HK1.out; have := HK2.out; have := HK3.out; have := HJ23.out; omega⟩, ⟨by (try simp only [hl3_2]); (try simp only [hl3_3]); (with_reducible repeat (first | apply Kd.R_alloc | apply Kd.R_drewN | apply Kd.R_drew)); exact HO_3.out⟩, ⟨by (try simp only [hl3_2]); (try simp only [hl3_3]); (with_reducible repeat (first | refine blk_drewN ?_ _ | refine blk_drew ?_ | refine blk_alloc ?_ _)); exact BK252.out⟩, ⟨by repeat (first | (with_reducible first | exact HB.out | apply below_alloc | apply pw_below_drewN | apply below_drew1 | refine below_set ?_ GE252.out | refine below_set ?_ GE259.out) | exact HB.out)⟩⟩
                                              · rw [if_neg c46] at H
                                                have c46b0 : decide ((rd x3_3 ((rd_T78 l0_4 x6_3).f0)) < 0) = false := decide_eq_false c46
                                                clear c46
                                                by_cases c52 : (rd x3_3 ((rd_T78 l0_4 x6_3).f0)) > (rd x3_3 ((rd_T78 l0_4 x6_3).f2))
                                                · rw [if_pos c52] at H
                                                  have c52b0 : decide ((rd x3_3 ((rd_T78 l0_4 x6_3).f2)) < (rd x3_3 ((rd_T78 l0_4 x6_3).f0))) = true := decide_eq_true c52
                                                  clear c52
                                                  obtain ⟨y265, hy265⟩ : ∃ y_ : List Int, y_ = (x3_3.set (((rd_T78 l0_4 x6_3).f0) : Int).toNat (rd x3_3 ((rd_T78 l0_4 x6_3).f2))) := ⟨_, rfl⟩
                                                  replace H : (stackyardref08_far.l2 kj23 y265 true (wrap64 (x6_3 + 1)) a0_0 a0_1 a0_2 a0_3 l0_4) = some r := by first | (rw [hy265]; with_reducible exact H) | (have H2_ := (Option.bind_some _ _).symm.trans H; rw [hy265]; with_reducible exact H2_) | (have H2_ := (Option.bind_some _ _).symm.trans H; with_reducible exact H2_) | with_reducible exact H | (rw [hy265]; exact H) | exact H
                                                  have Ny265 := Aside0.mk hy265
                                                  clear hy265
                                                  have H' := Aside0.mk H
                                                  clear H
                                                  have hnb54 := NB259_252.out
                                                  have hnc54 := NB252_259.out
                                                  have hcz55_0 : wc.cell? ⟨gb259, 0, none⟩ = some (.int .i64 ((rd_T78 l0_4 x6_3).f0)) := (blk_cell BK259.out 0).trans rfl
                                                  have hcz55_1 : wc.cell? ⟨gb259, 1, none⟩ = some (.int .i64 ((rd_T78 l0_4 x6_3).f1)) := (blk_cell BK259.out 1).trans rfl
                                                  have hcz55_2 : wc.cell? ⟨gb259, 2, none⟩ = some (.int .i64 ((rd_T78 l0_4 x6_3).f2)) := (blk_cell BK259.out 2).trans rfl
                                                  have hfz55_0 := blk_frozen BK259.out 0
                                                  have hfz55_1 := blk_frozen BK259.out 1
                                                  have hfz55_2 := blk_frozen BK259.out 2
                                                  have p261 : 0 ≤ (((rd_T78 l0_4 x6_3).f2) : Int) := of_decide_eq_true (by first | (with_reducible assumption) | assumption)
                                                  have q261 : ((rd_T78 l0_4 x6_3).f2) < (x3_3.length : Int) := of_decide_eq_true (by first | (with_reducible assumption) | assumption)
                                                  obtain ⟨ad261, e261, hx261_0⟩ := Kd.at_int (Kd.R_reads' HO_3.out).2.2 ((rd_T78 l0_4 x6_3).f2) p261 q261
                                                  obtain rfl : (⟨go17, 0, none⟩ : Addr) = ad261 := (by injection e261)
                                                  (first | simp only [add_plain] at hx261_0 | simp only [add_at] at hx261_0 | simp only [Addr.add, Nat.zero_add] at hx261_0 | skip)
                                                  replace p261 := eq_true p261
                                                  replace q261 := eq_true q261
                                                  have p262 : 0 ≤ (((rd_T78 l0_4 x6_3).f0) : Int) := of_decide_eq_true (by first | (with_reducible assumption) | assumption)
                                                  have q262 : ((rd_T78 l0_4 x6_3).f0) < (x3_3.length : Int) := of_decide_eq_true (by first | (with_reducible assumption) | assumption)
                                                  obtain ⟨ad262, e262, hx262_0⟩ := Kd.at_int (Kd.R_reads' HO_3.out).2.2 ((rd_T78 l0_4 x6_3).f0) p262 q262
                                                  obtain rfl : (⟨go17, 0, none⟩ : Addr) = ad262 := (by injection e262)
                                                  (first | simp only [add_plain] at hx262_0 | simp only [add_at] at hx262_0 | simp only [Addr.add, Nat.zero_add] at hx262_0 | skip)
                                                  replace p262 := eq_true p262
                                                  replace q262 := eq_true q262
                                                  have p264 : 0 ≤ (((rd_T78 l0_4 x6_3).f0) : Int) := of_decide_eq_true (by first | (with_reducible assumption) | assumption)
                                                  have q264 : ((rd_T78 l0_4 x6_3).f0) < (x3_3.length : Int) := of_decide_eq_true (by first | (with_reducible assumption) | assumption)
                                                  obtain ⟨ad264, e264, hx264_0⟩ := Kd.at_int (Kd.R_reads' HO_3.out).2.2 ((rd_T78 l0_4 x6_3).f0) p264 q264
                                                  obtain rfl : (⟨go17, 0, none⟩ : Addr) = ad264 := (by injection e264)
                                                  (first | simp only [add_plain] at hx264_0 | simp only [add_at] at hx264_0 | simp only [Addr.add, Nat.zero_add] at hx264_0 | skip)
                                                  replace p264 := eq_true p264
                                                  replace q264 := eq_true q264
                                                  have p53 : 0 ≤ (((rd_T78 l0_4 x6_3).f0) : Int) := of_decide_eq_true (by first | (with_reducible assumption) | assumption)
                                                  have q53 : (((rd_T78 l0_4 x6_3).f0) : Int) < ((x3_3.length : Int) : Int) := of_decide_eq_true (by first | (with_reducible assumption) | assumption)
                                                  obtain ⟨hx53_0, hf53_0⟩ := Kd.R_celln 0 HO_3.out (((rd_T78 l0_4 x6_3).f0) : Int) p53 q53
                                                  replace p53 := eq_true p53
                                                  replace q53 := eq_true q53
                                                  have HP56 := Kd.R_putg HO_3.out (((rd_T78 l0_4 x6_3).f0) : Int) (rd x3_3 ((rd_T78 l0_4 x6_3).f2))
                                                  go_wp2_with (first | ((with_reducible refine gate_store (t := 3) (p := 83) rfl ?_); refine store_event (t := 3) (p := 83) (v := ?vo_w57) (w1 := (wc.setCell ⟨go17, (((rd_T78 l0_4 x6_3).f0) : Int).toNat, none⟩ (.int .i64 (rd x3_3 ((rd_T78 l0_4 x6_3).f2))))) ?hg ?ho ?hn ?hr ?_; (case ho => rfl); (case hg => rfl); (case hn => rfl); (case hr => first | (go_simp; done) | (go_simp; rfl)); intro w57 hw; have hg : wc.grownBy w57 (some go17) := (by rw [hw]; exact HP56.2); have hp_ : Kd.R (Kd.int .i64) 3 w57 w.heap.size (fun _ => True) (.slice (some ⟨go17, 0, none⟩) x3_3.length co17) y265 := (by rw [hw, Ny265.out]; exact HP56.1); clear HP56; have n0_ := Aside0.mk (hp_); have n1_ := Aside0.mk (blk_grown (g := gb252) (o := .cells #[.int .i64 a0_0, .int .i64 a0_1, .int .i64 a0_2, .int .i64 a0_3, .slice (some ad258) l0_4.length c0_4] 31 (0, 0)) (by (with_reducible repeat (first | refine blk_drewN ?_ _ | refine blk_drew ?_ | refine blk_alloc ?_ _)); exact BK252.out) hg (Kd.R_ne HO_3.out BK252.out (by decide))); have n2_ := Aside0.mk (blk_grown (g := gb259) (o := .cells #[.int .i64 ((rd_T78 l0_4 x6_3).f0), .int .i64 ((rd_T78 l0_4 x6_3).f1), .int .i64 ((rd_T78 l0_4 x6_3).f2)] 78 (0, 0)) (by (with_reducible repeat (first | refine blk_drewN ?_ _ | refine blk_drew ?_ | refine blk_alloc ?_ _)); exact BK259.out) hg (Kd.R_ne HO_3.out BK259.out (by decide))); have n3_ := Aside0.mk ((by rw [hw]; exact below_set (HB.out) GB17.out : Below w.heap.size w w57)); clear HO_3; clear BK252; clear BK259; clear HB; have HO_3 := n0_; have BK252 := n1_; have BK259 := n2_; have HB := n3_; clear n0_ n1_ n2_ n3_; clear hg hw hp_))
                                                  (try simp only [← hl3_3])
                                                  go_roundg kj23
                                                  case measure => have := HK1.out; have := HK2.out; have := HK3.out; have := HJ23.out; omega
                                                  case rel => exact ⟨(y265), (true), (wrap64 (x6_3 + 1)), (by first | rfl | (simp; done) | (simp [*]; done)), (by first | rfl | (simp; done) | (simp [*]; done)), H', ⟨by have := HK1.out; have := HK2.out; have := HK3.out; have := HJ23.out; omega⟩, ⟨by (try simp only [hl3_2]); (try simp only [hl3_3]); (with_reducible repeat (first | apply Kd.R_alloc | apply Kd.R_drewN | apply Kd.R_drew)); exact HO_3.out⟩, ⟨by (try simp only [hl3_2]); (try simp only [hl3_3]); (with_reducible repeat (first | refine blk_drewN ?_ _ | refine blk_drew ?_ | refine blk_alloc ?_ _)); exact BK252.out⟩, ⟨by repeat (first | (with_reducible first | exact HB.out | apply below_alloc | apply pw_below_drewN | apply below_drew1 | refine below_set ?_ GE252.out | refine below_set ?_ GE259.out) | exact HB.out)⟩⟩
                                                · rw [if_neg c52] at H
                                                  have c52b0 : decide ((rd x3_3 ((rd_T78 l0_4 x6_3).f2)) < (rd x3_3 ((rd_T78 l0_4 x6_3).f0))) = false := decide_eq_false c52
                                                  clear c52
                                                  have H' := Aside0.mk H
                                                  clear H
                                                  have hnb58 := NB259_252.out
                                                  have hnc58 := NB252_259.out
                                                  have hcz59_0 : wc.cell? ⟨gb259, 0, none⟩ = some (.int .i64 ((rd_T78 l0_4 x6_3).f0)) := (blk_cell BK259.out 0).trans rfl
                                                  have hcz59_1 : wc.cell? ⟨gb259, 1, none⟩ = some (.int .i64 ((rd_T78 l0_4 x6_3).f1)) := (blk_cell BK259.out 1).trans rfl
                                                  have hcz59_2 : wc.cell? ⟨gb259, 2, none⟩ = some (.int .i64 ((rd_T78 l0_4 x6_3).f2)) := (blk_cell BK259.out 2).trans rfl
                                                  have hfz59_0 := blk_frozen BK259.out 0
                                                  have hfz59_1 := blk_frozen BK259.out 1
                                                  have hfz59_2 := blk_frozen BK259.out 2
                                                  have p261 : 0 ≤ (((rd_T78 l0_4 x6_3).f2) : Int) := of_decide_eq_true (by first | (with_reducible assumption) | assumption)
                                                  have q261 : ((rd_T78 l0_4 x6_3).f2) < (x3_3.length : Int) := of_decide_eq_true (by first | (with_reducible assumption) | assumption)
                                                  obtain ⟨ad261, e261, hx261_0⟩ := Kd.at_int (Kd.R_reads' HO_3.out).2.2 ((rd_T78 l0_4 x6_3).f2) p261 q261
                                                  obtain rfl : (⟨go17, 0, none⟩ : Addr) = ad261 := (by injection e261)
                                                  (first | simp only [add_plain] at hx261_0 | simp only [add_at] at hx261_0 | simp only [Addr.add, Nat.zero_add] at hx261_0 | skip)
                                                  replace p261 := eq_true p261
                                                  replace q261 := eq_true q261
                                                  have p262 : 0 ≤ (((rd_T78 l0_4 x6_3).f0) : Int) := of_decide_eq_true (by first | (with_reducible assumption) | assumption)
                                                  have q262 : ((rd_T78 l0_4 x6_3).f0) < (x3_3.length : Int) := of_decide_eq_true (by first | (with_reducible assumption) | assumption)
                                                  obtain ⟨ad262, e262, hx262_0⟩ := Kd.at_int (Kd.R_reads' HO_3.out).2.2 ((rd_T78 l0_4 x6_3).f0) p262 q262
                                                  obtain rfl : (⟨go17, 0, none⟩ : Addr) = ad262 := (by injection e262)
                                                  (first | simp only [add_plain] at hx262_0 | simp only [add_at] at hx262_0 | simp only [Addr.add, Nat.zero_add] at hx262_0 | skip)
                                                  replace p262 := eq_true p262
                                                  replace q262 := eq_true q262
                                                  have p264 : 0 ≤ (((rd_T78 l0_4 x6_3).f0) : Int) := of_decide_eq_true (by first | (with_reducible assumption) | assumption)
                                                  have q264 : ((rd_T78 l0_4 x6_3).f0) < (x3_3.length : Int) := of_decide_eq_true (by first | (with_reducible assumption) | assumption)
                                                  obtain ⟨ad264, e264, hx264_0⟩ := Kd.at_int (Kd.R_reads' HO_3.out).2.2 ((rd_T78 l0_4 x6_3).f0) p264 q264
                                                  obtain rfl : (⟨go17, 0, none⟩ : Addr) = ad264 := (by injection e264)
                                                  (first | simp only [add_plain] at hx264_0 | simp only [add_at] at hx264_0 | simp only [Addr.add, Nat.zero_add] at hx264_0 | skip)
                                                  replace p264 := eq_true p264
                                                  replace q264 := eq_true q264
                                                  go_wp2
                                                  (try simp only [← hl3_3])
                                                  go_roundg kj23
                                                  case measure => have := HK1.out; have := HK2.out; have := HK3.out; have := HJ23.out; omega
                                                  case rel => exact ⟨(x3_3), (x5_3), (wrap64 (x6_3 + 1)), (by first | rfl | (simp; done) | (simp [*]; done)), (by first | rfl | (simp; done) | (simp [*]; done)), H', ⟨by have := HK1.out; have := HK2.out; have := HK3.out; have := HJ23.out; omega⟩, ⟨by (try simp only [hl3_2]); (try simp only [hl3_3]); (with_reducible repeat (first | apply Kd.R_alloc | apply Kd.R_drewN | apply Kd.R_drew)); exact HO_3.out⟩, ⟨by (try simp only [hl3_2]); (try simp only [hl3_3]); (with_reducible repeat (first | refine blk_drewN ?_ _ | refine blk_drew ?_ | refine blk_alloc ?_ _)); exact BK252.out⟩, ⟨by repeat (first | (with_reducible first | exact HB.out | apply below_alloc | apply pw_below_drewN | apply below_drew1 | refine below_set ?_ GE252.out | refine below_set ?_ GE259.out) | exact HB.out)⟩⟩
                                            · rw [if_neg c45] at H
                                              exact absurd H (by simp)
                                          · rw [if_neg c44] at H
                                            exact absurd H (by simp)
                                        · rw [if_neg c43] at H
                                          have c43b0 : (((rd_T78 l0_4 x6_3).f1) == (-1)) = false := beq_eq_false_iff_ne.mpr c43
                                          have c43b1 : (((rd_T78 l0_4 x6_3).f1) != (-1)) = true := bne_iff_ne.mpr c43
                                          by_cases c60 : 0 ≤ ((rd_T78 l0_4 x6_3).f0)
                                          · rw [if_pos c60] at H
                                            have c60b0 : decide (0 ≤ ((rd_T78 l0_4 x6_3).f0)) = true := decide_eq_true c60
                                            clear c60
                                            by_cases c61 : ((rd_T78 l0_4 x6_3).f0) < (x3_3.length : Int)
                                            · rw [if_pos c61] at H
                                              have c61b0 : decide (((rd_T78 l0_4 x6_3).f0) < (x3_3.length : Int)) = true := decide_eq_true c61
                                              clear c61
                                              by_cases c62 : (rd x3_3 ((rd_T78 l0_4 x6_3).f0)) < 0
                                              · rw [if_pos c62] at H
                                                have c62b0 : decide ((rd x3_3 ((rd_T78 l0_4 x6_3).f0)) < 0) = true := decide_eq_true c62
                                                clear c62
                                                obtain ⟨y267, hy267⟩ : ∃ y_ : List Int, y_ = (x3_3.set (((rd_T78 l0_4 x6_3).f0) : Int).toNat (wrap64 ((rd x3_3 ((rd_T78 l0_4 x6_3).f2)) + 1))) := ⟨_, rfl⟩
                                                replace H : (stackyardref08_far.l2 kj23 y267 true (wrap64 (x6_3 + 1)) a0_0 a0_1 a0_2 a0_3 l0_4) = some r := by first | (rw [hy267]; with_reducible exact H) | (have H2_ := (Option.bind_some _ _).symm.trans H; rw [hy267]; with_reducible exact H2_) | (have H2_ := (Option.bind_some _ _).symm.trans H; with_reducible exact H2_) | with_reducible exact H | (rw [hy267]; exact H) | exact H
                                                have Ny267 := Aside0.mk hy267
                                                clear hy267
                                                have H' := Aside0.mk H
                                                clear H
                                                have hnb64 := NB259_252.out
                                                have hnc64 := NB252_259.out
                                                have hcz65_0 : wc.cell? ⟨gb259, 0, none⟩ = some (.int .i64 ((rd_T78 l0_4 x6_3).f0)) := (blk_cell BK259.out 0).trans rfl
                                                have hcz65_1 : wc.cell? ⟨gb259, 1, none⟩ = some (.int .i64 ((rd_T78 l0_4 x6_3).f1)) := (blk_cell BK259.out 1).trans rfl
                                                have hcz65_2 : wc.cell? ⟨gb259, 2, none⟩ = some (.int .i64 ((rd_T78 l0_4 x6_3).f2)) := (blk_cell BK259.out 2).trans rfl
                                                have hfz65_0 := blk_frozen BK259.out 0
                                                have hfz65_1 := blk_frozen BK259.out 1
                                                have hfz65_2 := blk_frozen BK259.out 2
                                                have p261 : 0 ≤ (((rd_T78 l0_4 x6_3).f2) : Int) := of_decide_eq_true (by first | (with_reducible assumption) | assumption)
                                                have q261 : ((rd_T78 l0_4 x6_3).f2) < (x3_3.length : Int) := of_decide_eq_true (by first | (with_reducible assumption) | assumption)
                                                obtain ⟨ad261, e261, hx261_0⟩ := Kd.at_int (Kd.R_reads' HO_3.out).2.2 ((rd_T78 l0_4 x6_3).f2) p261 q261
                                                obtain rfl : (⟨go17, 0, none⟩ : Addr) = ad261 := (by injection e261)
                                                (first | simp only [add_plain] at hx261_0 | simp only [add_at] at hx261_0 | simp only [Addr.add, Nat.zero_add] at hx261_0 | skip)
                                                replace p261 := eq_true p261
                                                replace q261 := eq_true q261
                                                have p266 : 0 ≤ (((rd_T78 l0_4 x6_3).f0) : Int) := of_decide_eq_true (by first | (with_reducible assumption) | assumption)
                                                have q266 : ((rd_T78 l0_4 x6_3).f0) < (x3_3.length : Int) := of_decide_eq_true (by first | (with_reducible assumption) | assumption)
                                                obtain ⟨ad266, e266, hx266_0⟩ := Kd.at_int (Kd.R_reads' HO_3.out).2.2 ((rd_T78 l0_4 x6_3).f0) p266 q266
                                                obtain rfl : (⟨go17, 0, none⟩ : Addr) = ad266 := (by injection e266)
                                                (first | simp only [add_plain] at hx266_0 | simp only [add_at] at hx266_0 | simp only [Addr.add, Nat.zero_add] at hx266_0 | skip)
                                                replace p266 := eq_true p266
                                                replace q266 := eq_true q266
                                                have p63 : 0 ≤ (((rd_T78 l0_4 x6_3).f0) : Int) := of_decide_eq_true (by first | (with_reducible assumption) | assumption)
                                                have q63 : (((rd_T78 l0_4 x6_3).f0) : Int) < ((x3_3.length : Int) : Int) := of_decide_eq_true (by first | (with_reducible assumption) | assumption)
                                                obtain ⟨hx63_0, hf63_0⟩ := Kd.R_celln 0 HO_3.out (((rd_T78 l0_4 x6_3).f0) : Int) p63 q63
                                                replace p63 := eq_true p63
                                                replace q63 := eq_true q63
                                                have HP66 := Kd.R_putg HO_3.out (((rd_T78 l0_4 x6_3).f0) : Int) (wrap64 ((rd x3_3 ((rd_T78 l0_4 x6_3).f2)) + 1))
                                                go_wp2_with (first | ((with_reducible refine gate_store (t := 3) (p := 83) rfl ?_); refine store_event (t := 3) (p := 83) (v := ?vo_w67) (w1 := (wc.setCell ⟨go17, (((rd_T78 l0_4 x6_3).f0) : Int).toNat, none⟩ (.int .i64 (wrap64 ((rd x3_3 ((rd_T78 l0_4 x6_3).f2)) + 1))))) ?hg ?ho ?hn ?hr ?_; (case ho => rfl); (case hg => rfl); (case hn => rfl); (case hr => first | (go_simp; done) | (go_simp; rfl)); intro w67 hw; have hg : wc.grownBy w67 (some go17) := (by rw [hw]; exact HP66.2); have hp_ : Kd.R (Kd.int .i64) 3 w67 w.heap.size (fun _ => True) (.slice (some ⟨go17, 0, none⟩) x3_3.length co17) y267 := (by rw [hw, Ny267.out]; exact HP66.1); clear HP66; have n0_ := Aside0.mk (hp_); have n1_ := Aside0.mk (blk_grown (g := gb252) (o := .cells #[.int .i64 a0_0, .int .i64 a0_1, .int .i64 a0_2, .int .i64 a0_3, .slice (some ad258) l0_4.length c0_4] 31 (0, 0)) (by (with_reducible repeat (first | refine blk_drewN ?_ _ | refine blk_drew ?_ | refine blk_alloc ?_ _)); exact BK252.out) hg (Kd.R_ne HO_3.out BK252.out (by decide))); have n2_ := Aside0.mk (blk_grown (g := gb259) (o := .cells #[.int .i64 ((rd_T78 l0_4 x6_3).f0), .int .i64 ((rd_T78 l0_4 x6_3).f1), .int .i64 ((rd_T78 l0_4 x6_3).f2)] 78 (0, 0)) (by (with_reducible repeat (first | refine blk_drewN ?_ _ | refine blk_drew ?_ | refine blk_alloc ?_ _)); exact BK259.out) hg (Kd.R_ne HO_3.out BK259.out (by decide))); have n3_ := Aside0.mk ((by rw [hw]; exact below_set (HB.out) GB17.out : Below w.heap.size w w67)); clear HO_3; clear BK252; clear BK259; clear HB; have HO_3 := n0_; have BK252 := n1_; have BK259 := n2_; have HB := n3_; clear n0_ n1_ n2_ n3_; clear hg hw hp_))
                                                (try simp only [← hl3_3])
                                                go_roundg kj23
                                                case measure => have := HK1.out; have := HK2.out; have := HK3.out; have := HJ23.out; omega
                                                case rel => exact ⟨(y267), (true), (wrap64 (x6_3 + 1)), (by first | rfl | (simp; done) | (simp [*]; done)), (by first | rfl | (simp; done) | (simp [*]; done)), H', ⟨by have := HK1.out; have := HK2.out; have := HK3.out; have := HJ23.out; omega⟩, ⟨by (try simp only [hl3_2]); (try simp only [hl3_3]); (with_reducible repeat (first | apply Kd.R_alloc | apply Kd.R_drewN | apply Kd.R_drew)); exact HO_3.out⟩, ⟨by (try simp only [hl3_2]); (try simp only [hl3_3]); (with_reducible repeat (first | refine blk_drewN ?_ _ | refine blk_drew ?_ | refine blk_alloc ?_ _)); exact BK252.out⟩, ⟨by repeat (first | (with_reducible first | exact HB.out | apply below_alloc | apply pw_below_drewN | apply below_drew1 | refine below_set ?_ GE252.out | refine below_set ?_ GE259.out) | exact HB.out)⟩⟩
                                              · rw [if_neg c62] at H
                                                have c62b0 : decide ((rd x3_3 ((rd_T78 l0_4 x6_3).f0)) < 0) = false := decide_eq_false c62
                                                clear c62
                                                by_cases c68 : (rd x3_3 ((rd_T78 l0_4 x6_3).f0)) > (wrap64 ((rd x3_3 ((rd_T78 l0_4 x6_3).f2)) + 1))
                                                · rw [if_pos c68] at H
                                                  have c68b0 : decide ((wrap64 ((rd x3_3 ((rd_T78 l0_4 x6_3).f2)) + 1)) < (rd x3_3 ((rd_T78 l0_4 x6_3).f0))) = true := decide_eq_true c68
                                                  clear c68
                                                  obtain ⟨y269, hy269⟩ : ∃ y_ : List Int, y_ = (x3_3.set (((rd_T78 l0_4 x6_3).f0) : Int).toNat (wrap64 ((rd x3_3 ((rd_T78 l0_4 x6_3).f2)) + 1))) := ⟨_, rfl⟩
                                                  replace H : (stackyardref08_far.l2 kj23 y269 true (wrap64 (x6_3 + 1)) a0_0 a0_1 a0_2 a0_3 l0_4) = some r := by first | (rw [hy269]; with_reducible exact H) | (have H2_ := (Option.bind_some _ _).symm.trans H; rw [hy269]; with_reducible exact H2_) | (have H2_ := (Option.bind_some _ _).symm.trans H; with_reducible exact H2_) | with_reducible exact H | (rw [hy269]; exact H) | exact H
                                                  have Ny269 := Aside0.mk hy269
                                                  clear hy269
                                                  have H' := Aside0.mk H
                                                  clear H
                                                  have hnb70 := NB259_252.out
                                                  have hnc70 := NB252_259.out
                                                  have hcz71_0 : wc.cell? ⟨gb259, 0, none⟩ = some (.int .i64 ((rd_T78 l0_4 x6_3).f0)) := (blk_cell BK259.out 0).trans rfl
                                                  have hcz71_1 : wc.cell? ⟨gb259, 1, none⟩ = some (.int .i64 ((rd_T78 l0_4 x6_3).f1)) := (blk_cell BK259.out 1).trans rfl
                                                  have hcz71_2 : wc.cell? ⟨gb259, 2, none⟩ = some (.int .i64 ((rd_T78 l0_4 x6_3).f2)) := (blk_cell BK259.out 2).trans rfl
                                                  have hfz71_0 := blk_frozen BK259.out 0
                                                  have hfz71_1 := blk_frozen BK259.out 1
                                                  have hfz71_2 := blk_frozen BK259.out 2
                                                  have p261 : 0 ≤ (((rd_T78 l0_4 x6_3).f2) : Int) := of_decide_eq_true (by first | (with_reducible assumption) | assumption)
                                                  have q261 : ((rd_T78 l0_4 x6_3).f2) < (x3_3.length : Int) := of_decide_eq_true (by first | (with_reducible assumption) | assumption)
                                                  obtain ⟨ad261, e261, hx261_0⟩ := Kd.at_int (Kd.R_reads' HO_3.out).2.2 ((rd_T78 l0_4 x6_3).f2) p261 q261
                                                  obtain rfl : (⟨go17, 0, none⟩ : Addr) = ad261 := (by injection e261)
                                                  (first | simp only [add_plain] at hx261_0 | simp only [add_at] at hx261_0 | simp only [Addr.add, Nat.zero_add] at hx261_0 | skip)
                                                  replace p261 := eq_true p261
                                                  replace q261 := eq_true q261
                                                  have p266 : 0 ≤ (((rd_T78 l0_4 x6_3).f0) : Int) := of_decide_eq_true (by first | (with_reducible assumption) | assumption)
                                                  have q266 : ((rd_T78 l0_4 x6_3).f0) < (x3_3.length : Int) := of_decide_eq_true (by first | (with_reducible assumption) | assumption)
                                                  obtain ⟨ad266, e266, hx266_0⟩ := Kd.at_int (Kd.R_reads' HO_3.out).2.2 ((rd_T78 l0_4 x6_3).f0) p266 q266
                                                  obtain rfl : (⟨go17, 0, none⟩ : Addr) = ad266 := (by injection e266)
                                                  (first | simp only [add_plain] at hx266_0 | simp only [add_at] at hx266_0 | simp only [Addr.add, Nat.zero_add] at hx266_0 | skip)
                                                  replace p266 := eq_true p266
                                                  replace q266 := eq_true q266
                                                  have p268 : 0 ≤ (((rd_T78 l0_4 x6_3).f0) : Int) := of_decide_eq_true (by first | (with_reducible assumption) | assumption)
                                                  have q268 : ((rd_T78 l0_4 x6_3).f0) < (x3_3.length : Int) := of_decide_eq_true (by first | (with_reducible assumption) | assumption)
                                                  obtain ⟨ad268, e268, hx268_0⟩ := Kd.at_int (Kd.R_reads' HO_3.out).2.2 ((rd_T78 l0_4 x6_3).f0) p268 q268
                                                  obtain rfl : (⟨go17, 0, none⟩ : Addr) = ad268 := (by injection e268)
                                                  (first | simp only [add_plain] at hx268_0 | simp only [add_at] at hx268_0 | simp only [Addr.add, Nat.zero_add] at hx268_0 | skip)
                                                  replace p268 := eq_true p268
                                                  replace q268 := eq_true q268
                                                  have p69 : 0 ≤ (((rd_T78 l0_4 x6_3).f0) : Int) := of_decide_eq_true (by first | (with_reducible assumption) | assumption)
                                                  have q69 : (((rd_T78 l0_4 x6_3).f0) : Int) < ((x3_3.length : Int) : Int) := of_decide_eq_true (by first | (with_reducible assumption) | assumption)
                                                  obtain ⟨hx69_0, hf69_0⟩ := Kd.R_celln 0 HO_3.out (((rd_T78 l0_4 x6_3).f0) : Int) p69 q69
                                                  replace p69 := eq_true p69
                                                  replace q69 := eq_true q69
                                                  have HP72 := Kd.R_putg HO_3.out (((rd_T78 l0_4 x6_3).f0) : Int) (wrap64 ((rd x3_3 ((rd_T78 l0_4 x6_3).f2)) + 1))
                                                  go_wp2_with (first | ((with_reducible refine gate_store (t := 3) (p := 83) rfl ?_); refine store_event (t := 3) (p := 83) (v := ?vo_w73) (w1 := (wc.setCell ⟨go17, (((rd_T78 l0_4 x6_3).f0) : Int).toNat, none⟩ (.int .i64 (wrap64 ((rd x3_3 ((rd_T78 l0_4 x6_3).f2)) + 1))))) ?hg ?ho ?hn ?hr ?_; (case ho => rfl); (case hg => rfl); (case hn => rfl); (case hr => first | (go_simp; done) | (go_simp; rfl)); intro w73 hw; have hg : wc.grownBy w73 (some go17) := (by rw [hw]; exact HP72.2); have hp_ : Kd.R (Kd.int .i64) 3 w73 w.heap.size (fun _ => True) (.slice (some ⟨go17, 0, none⟩) x3_3.length co17) y269 := (by rw [hw, Ny269.out]; exact HP72.1); clear HP72; have n0_ := Aside0.mk (hp_); have n1_ := Aside0.mk (blk_grown (g := gb252) (o := .cells #[.int .i64 a0_0, .int .i64 a0_1, .int .i64 a0_2, .int .i64 a0_3, .slice (some ad258) l0_4.length c0_4] 31 (0, 0)) (by (with_reducible repeat (first | refine blk_drewN ?_ _ | refine blk_drew ?_ | refine blk_alloc ?_ _)); exact BK252.out) hg (Kd.R_ne HO_3.out BK252.out (by decide))); have n2_ := Aside0.mk (blk_grown (g := gb259) (o := .cells #[.int .i64 ((rd_T78 l0_4 x6_3).f0), .int .i64 ((rd_T78 l0_4 x6_3).f1), .int .i64 ((rd_T78 l0_4 x6_3).f2)] 78 (0, 0)) (by (with_reducible repeat (first | refine blk_drewN ?_ _ | refine blk_drew ?_ | refine blk_alloc ?_ _)); exact BK259.out) hg (Kd.R_ne HO_3.out BK259.out (by decide))); have n3_ := Aside0.mk ((by rw [hw]; exact below_set (HB.out) GB17.out : Below w.heap.size w w73)); clear HO_3; clear BK252; clear BK259; clear HB; have HO_3 := n0_; have BK252 := n1_; have BK259 := n2_; have HB := n3_; clear n0_ n1_ n2_ n3_; clear hg hw hp_))
                                                  (try simp only [← hl3_3])
                                                  go_roundg kj23
                                                  case measure => have := HK1.out; have := HK2.out; have := HK3.out; have := HJ23.out; omega
                                                  case rel => exact ⟨(y269), (true), (wrap64 (x6_3 + 1)), (by first | rfl | (simp; done) | (simp [*]; done)), (by first | rfl | (simp; done) | (simp [*]; done)), H', ⟨by have := HK1.out; have := HK2.out; have := HK3.out; have := HJ23.out; omega⟩, ⟨by (try simp only [hl3_2]); (try simp only [hl3_3]); (with_reducible repeat (first | apply Kd.R_alloc | apply Kd.R_drewN | apply Kd.R_drew)); exact HO_3.out⟩, ⟨by (try simp only [hl3_2]); (try simp only [hl3_3]); (with_reducible repeat (first | refine blk_drewN ?_ _ | refine blk_drew ?_ | refine blk_alloc ?_ _)); exact BK252.out⟩, ⟨by repeat (first | (with_reducible first | exact HB.out | apply below_alloc | apply pw_below_drewN | apply below_drew1 | refine below_set ?_ GE252.out | refine below_set ?_ GE259.out) | exact HB.out)⟩⟩
                                                · rw [if_neg c68] at H
                                                  have c68b0 : decide ((wrap64 ((rd x3_3 ((rd_T78 l0_4 x6_3).f2)) + 1)) < (rd x3_3 ((rd_T78 l0_4 x6_3).f0))) = false := decide_eq_false c68
                                                  clear c68
                                                  have H' := Aside0.mk H
                                                  clear H
                                                  have hnb74 := NB259_252.out
                                                  have hnc74 := NB252_259.out
                                                  have hcz75_0 : wc.cell? ⟨gb259, 0, none⟩ = some (.int .i64 ((rd_T78 l0_4 x6_3).f0)) := (blk_cell BK259.out 0).trans rfl
                                                  have hcz75_1 : wc.cell? ⟨gb259, 1, none⟩ = some (.int .i64 ((rd_T78 l0_4 x6_3).f1)) := (blk_cell BK259.out 1).trans rfl
                                                  have hcz75_2 : wc.cell? ⟨gb259, 2, none⟩ = some (.int .i64 ((rd_T78 l0_4 x6_3).f2)) := (blk_cell BK259.out 2).trans rfl
                                                  have hfz75_0 := blk_frozen BK259.out 0
                                                  have hfz75_1 := blk_frozen BK259.out 1
                                                  have hfz75_2 := blk_frozen BK259.out 2
                                                  have p261 : 0 ≤ (((rd_T78 l0_4 x6_3).f2) : Int) := of_decide_eq_true (by first | (with_reducible assumption) | assumption)
                                                  have q261 : ((rd_T78 l0_4 x6_3).f2) < (x3_3.length : Int) := of_decide_eq_true (by first | (with_reducible assumption) | assumption)
                                                  obtain ⟨ad261, e261, hx261_0⟩ := Kd.at_int (Kd.R_reads' HO_3.out).2.2 ((rd_T78 l0_4 x6_3).f2) p261 q261
                                                  obtain rfl : (⟨go17, 0, none⟩ : Addr) = ad261 := (by injection e261)
                                                  (first | simp only [add_plain] at hx261_0 | simp only [add_at] at hx261_0 | simp only [Addr.add, Nat.zero_add] at hx261_0 | skip)
                                                  replace p261 := eq_true p261
                                                  replace q261 := eq_true q261
                                                  have p266 : 0 ≤ (((rd_T78 l0_4 x6_3).f0) : Int) := of_decide_eq_true (by first | (with_reducible assumption) | assumption)
                                                  have q266 : ((rd_T78 l0_4 x6_3).f0) < (x3_3.length : Int) := of_decide_eq_true (by first | (with_reducible assumption) | assumption)
                                                  obtain ⟨ad266, e266, hx266_0⟩ := Kd.at_int (Kd.R_reads' HO_3.out).2.2 ((rd_T78 l0_4 x6_3).f0) p266 q266
                                                  obtain rfl : (⟨go17, 0, none⟩ : Addr) = ad266 := (by injection e266)
                                                  (first | simp only [add_plain] at hx266_0 | simp only [add_at] at hx266_0 | simp only [Addr.add, Nat.zero_add] at hx266_0 | skip)
                                                  replace p266 := eq_true p266
                                                  replace q266 := eq_true q266
                                                  have p268 : 0 ≤ (((rd_T78 l0_4 x6_3).f0) : Int) := of_decide_eq_true (by first | (with_reducible assumption) | assumption)
                                                  have q268 : ((rd_T78 l0_4 x6_3).f0) < (x3_3.length : Int) := of_decide_eq_true (by first | (with_reducible assumption) | assumption)
                                                  obtain ⟨ad268, e268, hx268_0⟩ := Kd.at_int (Kd.R_reads' HO_3.out).2.2 ((rd_T78 l0_4 x6_3).f0) p268 q268
                                                  obtain rfl : (⟨go17, 0, none⟩ : Addr) = ad268 := (by injection e268)
                                                  (first | simp only [add_plain] at hx268_0 | simp only [add_at] at hx268_0 | simp only [Addr.add, Nat.zero_add] at hx268_0 | skip)
                                                  replace p268 := eq_true p268
                                                  replace q268 := eq_true q268
                                                  go_wp2
                                                  (try simp only [← hl3_3])
                                                  go_roundg kj23
                                                  case measure => have := HK1.out; have := HK2.out; have := HK3.out; have := HJ23.out; omega
                                                  case rel => exact ⟨(x3_3), (x5_3), (wrap64 (x6_3 + 1)), (by first | rfl | (simp; done) | (simp [*]; done)), (by first | rfl | (simp; done) | (simp [*]; done)), H', ⟨by have := HK1.out; have := HK2.out; have := HK3.out; have := HJ23.out; omega⟩, ⟨by (try simp only [hl3_2]); (try simp only [hl3_3]); (with_reducible repeat (first | apply Kd.R_alloc | apply Kd.R_drewN | apply Kd.R_drew)); exact HO_3.out⟩, ⟨by (try simp only [hl3_2]); (try simp only [hl3_3]); (with_reducible repeat (first | refine blk_drewN ?_ _ | refine blk_drew ?_ | refine blk_alloc ?_ _)); exact BK252.out⟩, ⟨by repeat (first | (with_reducible first | exact HB.out | apply below_alloc | apply pw_below_drewN | apply below_drew1 | refine below_set ?_ GE252.out | refine below_set ?_ GE259.out) | exact HB.out)⟩⟩
                                            · rw [if_neg c61] at H
                                              exact absurd H (by simp)
                                          · rw [if_neg c60] at H
                                            exact absurd H (by simp)
                                      · rw [if_neg c42] at H
                                        exact absurd H (by simp)
                                    · rw [if_neg c41] at H
                                      exact absurd H (by simp)
                            · rw [if_neg c23] at H
                              exact absurd H (by simp)
                          · rw [if_neg c22] at H
                            have c22b0 : decide (x6_3 < (l0_4.length : Int)) = false := decide_eq_false c22
                            clear c22
                            have H' := Aside0.mk H
                            clear H
                            have hcz76_0 : wr.cell? ⟨gb252, 0, none⟩ = some (.int .i64 a0_0) := (blk_cell BK252.out 0).trans rfl
                            have hcz76_1 : wr.cell? ⟨gb252, 1, none⟩ = some (.int .i64 a0_1) := (blk_cell BK252.out 1).trans rfl
                            have hcz76_2 : wr.cell? ⟨gb252, 2, none⟩ = some (.int .i64 a0_2) := (blk_cell BK252.out 2).trans rfl
                            have hcz76_3 : wr.cell? ⟨gb252, 3, none⟩ = some (.int .i64 a0_3) := (blk_cell BK252.out 3).trans rfl
                            have hcz76_4 : wr.cell? ⟨gb252, 4, none⟩ = some (.slice A0_4 l0_4.length c0_4) := (blk_cell BK252.out 4).trans rfl
                            have hfz76_0 := blk_frozen BK252.out 0
                            have hfz76_1 := blk_frozen BK252.out 1
                            have hfz76_2 := blk_frozen BK252.out 2
                            have hfz76_3 := blk_frozen BK252.out 3
                            have hfz76_4 := blk_frozen BK252.out 4
                            go_wp2
                            (try simp only [← hl3_2, ← hl3_3])
                            go_roundg k3
                            case measure => have := HK1.out; have := HK2.out; have := HK3.out; omega
                            case rel => exact ⟨(x3_3), (x5_3), (by first | rfl | (simp; done) | (simp [*]; done)), H', ⟨by have := HK1.out; have := HK2.out; have := HK3.out; omega⟩, ⟨by (try simp only [hl3_2]); (try simp only [hl3_3]); (with_reducible repeat (first | apply Kd.R_alloc | apply Kd.R_drewN | apply Kd.R_drew)); exact HO_3.out⟩, ⟨by (try simp only [hl3_2]); (try simp only [hl3_3]); (with_reducible repeat (first | refine blk_drewN ?_ _ | refine blk_drew ?_ | refine blk_alloc ?_ _)); exact BK252.out⟩, ⟨by repeat (first | (with_reducible first | exact HB.out | apply below_alloc | apply pw_below_drewN | apply below_drew1 | refine below_set ?_ GE252.out) | exact HB.out)⟩⟩
                    · replace c21 := Bool.eq_false_iff.mpr c21
                      subst c21
                      have H1 : (some x3_2) = some r := by rw [if_neg (show ¬ (false = true) by decide)] at H; exact H
                      clear H
                      have H := H1
                      clear H1
                      obtain rfl := Option.some.inj H
                      go_wp2
                      go_ret
                      exact ⟨_, by first | rfl | (simp [errW_none, errW_some] <;> rfl) | (simp [*, errW_none, errW_some] <;> rfl), by (with_reducible repeat (first | apply Kd.R_alloc | apply Kd.R_drewN | apply Kd.R_drew)); exact HO_3.out, by repeat (first | (with_reducible first | exact HB.out | apply below_alloc | apply pw_below_drewN | apply below_drew1 | refine below_set ?_ GE252.out) | exact HB.out)⟩
              · rw [if_neg c16] at H
                exact absurd H (by simp)
            · rw [if_neg c15] at H
              exact absurd H (by simp)
    · rw [if_neg c3] at H
      exact absurd H (by simp)
  · rw [if_neg c2] at H
    exact absurd H (by simp)
end Go.Proofs.Ytapinbmkjkbkkaa.Lb
