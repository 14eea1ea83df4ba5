import Derived.Test.YtapinbmkjkbkkaaDfVi
import Derived.Test.YtapinbmkjkbkkaaDfLbx6
namespace Go.Proofs.Ytapinbmkjkbkkaa.Lb
open Go.RowKit Go.Proofs.YtapinbmkjkbkkaaW.PrintWords Go.Proofs.YtapinbmkjkbkkaaW.PrintLast Go.Proofs.YtapinbmkjkbkkaaW.PrintMore
attribute [local go_sem] max2_int min2_int max_two min_two max_three min_three max_four min_four
set_option linter.unusedVariables false
set_option linter.unusedSimpArgs false
private theorem viB {P : Prop} (h : P := by repeat (first | (with_reducible first | exact HB.out | apply below_alloc | apply pw_below_drewN | apply below_drew1 | refine below_set ?_ GE226.out | refine below_set ?_ GE230.out) | exact HB.out)) : P := h
mutual
def stackyardref08_Check.j0 : Nat → Bool → Int → Int → Int → Int → List (S78) → Option (Int)
  | 0, _, _, _, _, _, _ => none
  | k + 1, x40, x227000, x227001, x227002, x227003, x227004 => if x40 = true then (some 81) else (stackyardref08_Check.l0 k 0 x227000 x227001 x227002 x227003 x227004)
def stackyardref08_Check.l0 : Nat → Int → Int → Int → Int → Int → List (S78) → Option (Int)
  | 0, _, _, _, _, _, _ => none
  | k + 1, x3, x227000, x227001, x227002, x227003, x227004 => if x3 < (x227004.length : Int) then (if 0 ≤ x3 then ((stackyardref08_State.f x227000 x227001 x227002 x227003 x227004 ((rd_T78 x227004 x3).f0)).bind fun t231 => (if t231 = true then ((stackyardref08_State.f x227000 x227001 x227002 x227003 x227004 ((rd_T78 x227004 x3).f2)).bind fun t232 => (if t232 = true then (if ((rd_T78 x227004 x3).f1) < (-2) then (some 81) else (if ((rd_T78 x227004 x3).f1) ≥ x227001 then (some 81) else (stackyardref08_Check.l0 k (wrap64 (x3 + 1)) x227000 x227001 x227002 x227003 x227004))) else (some 81))) else (some 81))) else (none)) else (some 0)
end
def stackyardref08_Check.f (k : Nat) (a0_0 : Int) (a0_1 : Int) (a0_2 : Int) (a0_3 : Int) (l0_4 : List (S78)) : Option (Int) := if (l0_4.length : Int) > 65536 then (some 3) else (if a0_0 < 1 then (stackyardref08_Check.j0 k true a0_0 a0_1 a0_2 a0_3 l0_4) else (if a0_0 > 4096 then (stackyardref08_Check.j0 k true a0_0 a0_1 a0_2 a0_3 l0_4) else (if a0_1 < 0 then (stackyardref08_Check.j0 k true a0_0 a0_1 a0_2 a0_3 l0_4) else (if a0_1 > 4096 then (stackyardref08_Check.j0 k true a0_0 a0_1 a0_2 a0_3 l0_4) else ((stackyardref08_State.f a0_0 a0_1 a0_2 a0_3 l0_4 a0_2).bind fun t227 => (if t227 = true then ((stackyardref08_State.f a0_0 a0_1 a0_2 a0_3 l0_4 a0_3).bind fun t228 => (stackyardref08_Check.j0 k (!t228) a0_0 a0_1 a0_2 a0_3 l0_4)) else (stackyardref08_Check.j0 k true a0_0 a0_1 a0_2 a0_3 l0_4)))))))
theorem stackyardref08_Check.mono_l : ∀ k, (∀ y0 y1 y2 y3 y4 y5, LeO (stackyardref08_Check.j0 k y0 y1 y2 y3 y4 y5) (stackyardref08_Check.j0 (k + 1) y0 y1 y2 y3 y4 y5)) ∧ (∀ y0 y1 y2 y3 y4 y5, LeO (stackyardref08_Check.l0 k y0 y1 y2 y3 y4 y5) (stackyardref08_Check.l0 (k + 1) y0 y1 y2 y3 y4 y5))
  | 0 => ⟨fun _ _ _ _ _ _ r h => by simp [stackyardref08_Check.j0] at h, fun _ _ _ _ _ _ r h => by simp [stackyardref08_Check.l0] at h⟩
  | k + 1 => by
    obtain ⟨ih0, ih1⟩ := stackyardref08_Check.mono_l k
    refine ⟨?_, ?_⟩
    · intro y0 y1 y2 y3 y4 y5
      unfold stackyardref08_Check.j0
      repeat' first
      | (with_reducible exact ih0 _ _ _ _ _ _)
      | (with_reducible exact ih1 _ _ _ _ _ _)
      | (with_reducible exact LeO.refl _)
      | (with_reducible exact LeO.none _)
      | (with_reducible refine LeO.ite ?_ ?_)
      | (with_reducible refine LeO.bind ?_ (fun _ => ?_))
      | exact ih0 _ _ _ _ _ _
      | exact ih1 _ _ _ _ _ _
      | exact LeO.none _
      | refine LeO.ite ?_ ?_
      | refine LeO.bind ?_ (fun _ => ?_)
    · intro y0 y1 y2 y3 y4 y5
      unfold stackyardref08_Check.l0
      repeat' first
      | (with_reducible exact ih0 _ _ _ _ _ _)
      | (with_reducible exact ih1 _ _ _ _ _ _)
      | (with_reducible exact LeO.refl _)
      | (with_reducible exact LeO.none _)
      | (with_reducible refine LeO.ite ?_ ?_)
      | (with_reducible refine LeO.bind ?_ (fun _ => ?_))
      | exact ih0 _ _ _ _ _ _
      | exact ih1 _ _ _ _ _ _
      | exact LeO.none _
      | refine LeO.ite ?_ ?_
      | refine LeO.bind ?_ (fun _ => ?_)
theorem stackyardref08_Check.mono : ∀ a0 a1 a2 a3 a4 k, LeO (stackyardref08_Check.f k a0 a1 a2 a3 a4) (stackyardref08_Check.f (k + 1) a0 a1 a2 a3 a4) := by
  intro a0 a1 a2 a3 a4 k
  obtain ⟨ih0, ih1⟩ := stackyardref08_Check.mono_l k
  unfold stackyardref08_Check.f
  repeat' first
      | (with_reducible exact ih0 _ _ _ _ _ _)
      | (with_reducible exact ih1 _ _ _ _ _ _)
      | (with_reducible exact LeO.refl _)
      | (with_reducible exact LeO.none _)
      | (with_reducible refine LeO.ite ?_ ?_)
      | (with_reducible refine LeO.bind ?_ (fun _ => ?_))
      | exact ih0 _ _ _ _ _ _
      | exact ih1 _ _ _ _ _ _
      | exact LeO.none _
      | refine LeO.ite ?_ ?_
      | refine LeO.bind ?_ (fun _ => ?_)
set_option maxHeartbeats 8000000 in
set_option maxRecDepth 100000 in
theorem stackyardref08_Check.calls (k : Nat) (a0_0 : Int) (a0_1 : Int) (a0_2 : Int) (a0_3 : Int) (A0_4 : Option Addr) (c0_4 : Nat) (l0_4 : List (S78)) (r : Int) (w : World) (hr0_4 : Kd.C k78 w A0_4 l0_4.length l0_4) (hc0_4 : l0_4.length ≤ c0_4) (h : stackyardref08_Check.f k a0_0 a0_1 a0_2 a0_3 l0_4 = some r) :
    Calls Try.prog 32 #[.agg #[.int .i64 a0_0, .int .i64 a0_1, .int .i64 a0_2, .int .i64 a0_3, .slice A0_4 l0_4.length c0_4]] w fun e w' => e = .returned (.int .i64 r) ∧ Below w.heap.size w w' := by
  have hu31 := Try.underlying31
  have hu78 := Try.underlying78
  have HR0_4 := Aside0.mk hr0_4
  have HC0_4 := Aside0.mk hc0_4
  clear hr0_4 hc0_4
  have HB := Aside0.mk (Below.refl w.heap.size w)
  have H : (if (l0_4.length : Int) > 65536 then (some 3) else (if a0_0 < 1 then (stackyardref08_Check.j0 k true a0_0 a0_1 a0_2 a0_3 l0_4) else (if a0_0 > 4096 then (stackyardref08_Check.j0 k true a0_0 a0_1 a0_2 a0_3 l0_4) else (if a0_1 < 0 then (stackyardref08_Check.j0 k true a0_0 a0_1 a0_2 a0_3 l0_4) else (if a0_1 > 4096 then (stackyardref08_Check.j0 k true a0_0 a0_1 a0_2 a0_3 l0_4) else ((stackyardref08_State.f a0_0 a0_1 a0_2 a0_3 l0_4 a0_2).bind fun t227 => (if t227 = true then ((stackyardref08_State.f a0_0 a0_1 a0_2 a0_3 l0_4 a0_3).bind fun t228 => (stackyardref08_Check.j0 k (!t228) a0_0 a0_1 a0_2 a0_3 l0_4)) else (stackyardref08_Check.j0 k true a0_0 a0_1 a0_2 a0_3 l0_4)))))))) = some r := h
  clear h
  by_cases c2 : (l0_4.length : Int) > 65536
  · rw [if_pos c2] at H
    have c2b0 : decide (65536 < (l0_4.length : Int)) = true := decide_eq_true c2
    have c2b1 : decide (65536 < l0_4.length) = true := decide_eq_true (by omega)
    clear c2
    obtain rfl := Option.some.inj H
    go_enter Try.func32, Try.ntmps32
    go_wp2_with (first | ((with_reducible refine gate_dst (N := 1) rfl ?_); refine box_event ?hg (N := 1) ?hd (cs := #[.int .i64 a0_0, .int .i64 a0_1, .int .i64 a0_2, .int .i64 a0_3, .slice A0_4 l0_4.length c0_4]) (t := 31) ?hr ?_; (case hd => rfl); (case hg => rfl); (case hr => first | (go_simp; done) | (go_simp; rfl)); intro gb226 hg w3 hbox hb; have n0_ := Aside0.mk (below_step viB hb); have n1_ := Aside0.mk (hbox); have n2_ := Aside0.mk ((by rw [hg]; exact (below_size viB) : w.heap.size ≤ gb226)); have n3_ := Aside0.mk ((by rw [hg]; exact (below_size viB) : w.heap.size ≤ gb226)); clear HB; have HB := n0_; have BK226 := n1_; have GW226 := n2_; have GE226 := n3_; clear n0_ n1_ n2_ n3_; clear hb hbox hg; have hcz4_0 : w3.cell? ⟨gb226, 0, none⟩ = some (.int .i64 a0_0) := (blk_cell BK226.out 0).trans rfl; have hcz4_1 : w3.cell? ⟨gb226, 1, none⟩ = some (.int .i64 a0_1) := (blk_cell BK226.out 1).trans rfl; have hcz4_2 : w3.cell? ⟨gb226, 2, none⟩ = some (.int .i64 a0_2) := (blk_cell BK226.out 2).trans rfl; have hcz4_3 : w3.cell? ⟨gb226, 3, none⟩ = some (.int .i64 a0_3) := (blk_cell BK226.out 3).trans rfl; have hcz4_4 : w3.cell? ⟨gb226, 4, none⟩ = some (.slice A0_4 l0_4.length c0_4) := (blk_cell BK226.out 4).trans rfl; have hfz4_0 := blk_frozen BK226.out 0; have hfz4_1 := blk_frozen BK226.out 1; have hfz4_2 := blk_frozen BK226.out 2; have hfz4_3 := blk_frozen BK226.out 3; have hfz4_4 := blk_frozen BK226.out 4))
    go_ret
    exact ⟨by first | rfl | (simp [errW_none, errW_some] <;> rfl) | (simp [*, errW_none, errW_some] <;> rfl), viB⟩
  · rw [if_neg c2] at H
    have c2b0 : decide (65536 < (l0_4.length : Int)) = false := decide_eq_false c2
    have c2b1 : decide (65536 < l0_4.length) = false := decide_eq_false (by omega)
    clear c2
    have HC5 := Aside0.mk H
    clear H
    go_enter Try.func32, Try.ntmps32
    go_upto_region 3 with (first | ((with_reducible refine gate_dst (N := 1) rfl ?_); refine box_event ?hg (N := 1) ?hd (cs := #[.int .i64 a0_0, .int .i64 a0_1, .int .i64 a0_2, .int .i64 a0_3, .slice A0_4 l0_4.length c0_4]) (t := 31) ?hr ?_; (case hd => rfl); (case hg => rfl); (case hr => first | (go_simp; done) | (go_simp; rfl)); intro gb226 hg w6 hbox hb; have n0_ := Aside0.mk (below_step viB hb); have n1_ := Aside0.mk (hbox); have n2_ := Aside0.mk ((by rw [hg]; exact (below_size viB) : w.heap.size ≤ gb226)); have n3_ := Aside0.mk ((by rw [hg]; exact (below_size viB) : w.heap.size ≤ gb226)); clear HB; have HB := n0_; have BK226 := n1_; have GW226 := n2_; have GE226 := n3_; clear n0_ n1_ n2_ n3_; clear hb hbox hg; have hcz7_0 : w6.cell? ⟨gb226, 0, none⟩ = some (.int .i64 a0_0) := (blk_cell BK226.out 0).trans rfl; have hcz7_1 : w6.cell? ⟨gb226, 1, none⟩ = some (.int .i64 a0_1) := (blk_cell BK226.out 1).trans rfl; have hcz7_2 : w6.cell? ⟨gb226, 2, none⟩ = some (.int .i64 a0_2) := (blk_cell BK226.out 2).trans rfl; have hcz7_3 : w6.cell? ⟨gb226, 3, none⟩ = some (.int .i64 a0_3) := (blk_cell BK226.out 3).trans rfl; have hcz7_4 : w6.cell? ⟨gb226, 4, none⟩ = some (.slice A0_4 l0_4.length c0_4) := (blk_cell BK226.out 4).trans rfl; have hfz7_0 := blk_frozen BK226.out 0; have hfz7_1 := blk_frozen BK226.out 1; have hfz7_2 := blk_frozen BK226.out 2; have hfz7_3 := blk_frozen BK226.out 3; have hfz7_4 := blk_frozen BK226.out 4))
    (try simp only [Act.put, List.setIfInBounds_toArray, List.set_cons_zero, List.set_cons_succ])
    go_cut [40] (fun v40 wc => ∃ (kq : Nat) (x40_4 : Bool), v40 = .bool x40_4 ∧ Aside0 (stackyardref08_Check.j0 kq x40_4 a0_0 a0_1 a0_2 a0_3 l0_4 = some r) ∧ Aside0 (kq ≤ k) ∧ Aside0 (wc.heap[gb226]? = some (.cells #[.int .i64 a0_0, .int .i64 a0_1, .int .i64 a0_2, .int .i64 a0_3, (.slice A0_4 l0_4.length c0_4)] 31 (0, 0))) ∧ Aside0 (Below w.heap.size w wc))
    case first =>
      have H := HC5.out
      clear HC5
      by_cases c8 : a0_0 < 1
      · rw [if_pos c8] at H
        have c8b0 : decide (a0_0 < 1) = true := decide_eq_true c8
        clear c8
        (first | rw [c8b0] | (simp only [i64_w, i32_w]; rw [c8b0]) | skip)
        have H' := Aside0.mk H
        clear H
        have hcz9_0 : w6.cell? ⟨gb226, 0, none⟩ = some (.int .i64 a0_0) := (blk_cell BK226.out 0).trans rfl
        have hcz9_1 : w6.cell? ⟨gb226, 1, none⟩ = some (.int .i64 a0_1) := (blk_cell BK226.out 1).trans rfl
        have hcz9_2 : w6.cell? ⟨gb226, 2, none⟩ = some (.int .i64 a0_2) := (blk_cell BK226.out 2).trans rfl
        have hcz9_3 : w6.cell? ⟨gb226, 3, none⟩ = some (.int .i64 a0_3) := (blk_cell BK226.out 3).trans rfl
        have hcz9_4 : w6.cell? ⟨gb226, 4, none⟩ = some (.slice A0_4 l0_4.length c0_4) := (blk_cell BK226.out 4).trans rfl
        have hfz9_0 := blk_frozen BK226.out 0
        have hfz9_1 := blk_frozen BK226.out 1
        have hfz9_2 := blk_frozen BK226.out 2
        have hfz9_3 := blk_frozen BK226.out 3
        have hfz9_4 := blk_frozen BK226.out 4
        go_wp2
        go_meet
        case rel => exact ⟨_, (true), (by first | rfl | (simp; done) | (simp [*]; done)), H', ⟨by first | omega | exact Nat.le_refl _⟩, ⟨viK BK226.out⟩, ⟨viB⟩⟩
      · rw [if_neg c8] at H
        have c8b0 : decide (a0_0 < 1) = false := decide_eq_false c8
        clear c8
        (first | rw [c8b0] | (simp only [i64_w, i32_w]; rw [c8b0]) | skip)
        by_cases c10 : a0_0 > 4096
        · rw [if_pos c10] at H
          have c10b0 : decide (4096 < a0_0) = true := decide_eq_true c10
          clear c10
          have H' := Aside0.mk H
          clear H
          have hcz11_0 : w6.cell? ⟨gb226, 0, none⟩ = some (.int .i64 a0_0) := (blk_cell BK226.out 0).trans rfl
          have hcz11_1 : w6.cell? ⟨gb226, 1, none⟩ = some (.int .i64 a0_1) := (blk_cell BK226.out 1).trans rfl
          have hcz11_2 : w6.cell? ⟨gb226, 2, none⟩ = some (.int .i64 a0_2) := (blk_cell BK226.out 2).trans rfl
          have hcz11_3 : w6.cell? ⟨gb226, 3, none⟩ = some (.int .i64 a0_3) := (blk_cell BK226.out 3).trans rfl
          have hcz11_4 : w6.cell? ⟨gb226, 4, none⟩ = some (.slice A0_4 l0_4.length c0_4) := (blk_cell BK226.out 4).trans rfl
          have hfz11_0 := blk_frozen BK226.out 0
          have hfz11_1 := blk_frozen BK226.out 1
          have hfz11_2 := blk_frozen BK226.out 2
          have hfz11_3 := blk_frozen BK226.out 3
          have hfz11_4 := blk_frozen BK226.out 4
          go_wp2
          go_meet
          case rel => exact ⟨_, (true), (by first | rfl | (simp; done) | (simp [*]; done)), H', ⟨by first | omega | exact Nat.le_refl _⟩, ⟨viK BK226.out⟩, ⟨viB⟩⟩
        · rw [if_neg c10] at H
          have c10b0 : decide (4096 < a0_0) = false := decide_eq_false c10
          clear c10
          by_cases c12 : a0_1 < 0
          · rw [if_pos c12] at H
            have c12b0 : decide (a0_1 < 0) = true := decide_eq_true c12
            clear c12
            have H' := Aside0.mk H
            clear H
            have hcz13_0 : w6.cell? ⟨gb226, 0, none⟩ = some (.int .i64 a0_0) := (blk_cell BK226.out 0).trans rfl
            have hcz13_1 : w6.cell? ⟨gb226, 1, none⟩ = some (.int .i64 a0_1) := (blk_cell BK226.out 1).trans rfl
            have hcz13_2 : w6.cell? ⟨gb226, 2, none⟩ = some (.int .i64 a0_2) := (blk_cell BK226.out 2).trans rfl
            have hcz13_3 : w6.cell? ⟨gb226, 3, none⟩ = some (.int .i64 a0_3) := (blk_cell BK226.out 3).trans rfl
            have hcz13_4 : w6.cell? ⟨gb226, 4, none⟩ = some (.slice A0_4 l0_4.length c0_4) := (blk_cell BK226.out 4).trans rfl
            have hfz13_0 := blk_frozen BK226.out 0
            have hfz13_1 := blk_frozen BK226.out 1
            have hfz13_2 := blk_frozen BK226.out 2
            have hfz13_3 := blk_frozen BK226.out 3
            have hfz13_4 := blk_frozen BK226.out 4
            go_wp2
            go_meet
            case rel => exact ⟨_, (true), (by first | rfl | (simp; done) | (simp [*]; done)), H', ⟨by first | omega | exact Nat.le_refl _⟩, ⟨viK BK226.out⟩, ⟨viB⟩⟩
          · rw [if_neg c12] at H
            have c12b0 : decide (a0_1 < 0) = false := decide_eq_false c12
            clear c12
            by_cases c14 : a0_1 > 4096
            · rw [if_pos c14] at H
              have c14b0 : decide (4096 < a0_1) = true := decide_eq_true c14
              clear c14
              have H' := Aside0.mk H
              clear H
              have hcz15_0 : w6.cell? ⟨gb226, 0, none⟩ = some (.int .i64 a0_0) := (blk_cell BK226.out 0).trans rfl
              have hcz15_1 : w6.cell? ⟨gb226, 1, none⟩ = some (.int .i64 a0_1) := (blk_cell BK226.out 1).trans rfl
              have hcz15_2 : w6.cell? ⟨gb226, 2, none⟩ = some (.int .i64 a0_2) := (blk_cell BK226.out 2).trans rfl
              have hcz15_3 : w6.cell? ⟨gb226, 3, none⟩ = some (.int .i64 a0_3) := (blk_cell BK226.out 3).trans rfl
              have hcz15_4 : w6.cell? ⟨gb226, 4, none⟩ = some (.slice A0_4 l0_4.length c0_4) := (blk_cell BK226.out 4).trans rfl
              have hfz15_0 := blk_frozen BK226.out 0
              have hfz15_1 := blk_frozen BK226.out 1
              have hfz15_2 := blk_frozen BK226.out 2
              have hfz15_3 := blk_frozen BK226.out 3
              have hfz15_4 := blk_frozen BK226.out 4
              go_wp2
              go_meet
              case rel => exact ⟨_, (true), (by first | rfl | (simp; done) | (simp [*]; done)), H', ⟨by first | omega | exact Nat.le_refl _⟩, ⟨viK BK226.out⟩, ⟨viB⟩⟩
            · rw [if_neg c14] at H
              have c14b0 : decide (4096 < a0_1) = false := decide_eq_false c14
              clear c14
              replace H := Option.bind_eq_some_iff.mp H
              obtain ⟨t227, A160, H⟩ := H
              replace H : (if t227 = true then ((stackyardref08_State.f a0_0 a0_1 a0_2 a0_3 l0_4 a0_3).bind fun t228 => (stackyardref08_Check.j0 k (!t228) a0_0 a0_1 a0_2 a0_3 l0_4)) else (stackyardref08_Check.j0 k true a0_0 a0_1 a0_2 a0_3 l0_4)) = some r := H
              have A16 := Aside0.mk A160
              clear A160
              by_cases c17 : t227 = true
              · subst c17
                have H1 : ((stackyardref08_State.f a0_0 a0_1 a0_2 a0_3 l0_4 a0_3).bind fun t228 => (stackyardref08_Check.j0 k (!t228) a0_0 a0_1 a0_2 a0_3 l0_4)) = some r := by rw [if_pos rfl] at H; exact H
                clear H
                have H := H1
                clear H1
                replace H := Option.bind_eq_some_iff.mp H
                obtain ⟨t228, A180, H⟩ := H
                replace H : (stackyardref08_Check.j0 k (!t228) a0_0 a0_1 a0_2 a0_3 l0_4) = some r := H
                have A18 := Aside0.mk A180
                clear A180
                have H' := Aside0.mk H
                clear H
                have hcz19_0 : w6.cell? ⟨gb226, 0, none⟩ = some (.int .i64 a0_0) := (blk_cell BK226.out 0).trans rfl
                have hcz19_1 : w6.cell? ⟨gb226, 1, none⟩ = some (.int .i64 a0_1) := (blk_cell BK226.out 1).trans rfl
                have hcz19_2 : w6.cell? ⟨gb226, 2, none⟩ = some (.int .i64 a0_2) := (blk_cell BK226.out 2).trans rfl
                have hcz19_3 : w6.cell? ⟨gb226, 3, none⟩ = some (.int .i64 a0_3) := (blk_cell BK226.out 3).trans rfl
                have hcz19_4 : w6.cell? ⟨gb226, 4, none⟩ = some (.slice A0_4 l0_4.length c0_4) := (blk_cell BK226.out 4).trans rfl
                have hfz19_0 := blk_frozen BK226.out 0
                have hfz19_1 := blk_frozen BK226.out 1
                have hfz19_2 := blk_frozen BK226.out 2
                have hfz19_3 := blk_frozen BK226.out 3
                have hfz19_4 := blk_frozen BK226.out 4
                go_wp2_with (first | (go_at_call 63; (with_reducible refine (stackyardref08_State.calls a0_0 a0_1 a0_2 a0_3 _ _ l0_4 a0_2 true _ ?side1 ?side2 A16.out).mono ?_); (case side1 => repeat (first | exact (Kd.C_below HR0_4.out HB.out) | (with_reducible refine Kd.C_alloc ?_ _) | (with_reducible refine Kd.C_drewN ?_ _) | (with_reducible refine Kd.C_drew ?_))); (case side2 => exact HC0_4.out); rintro e w20 ⟨rfl, hb⟩; have n0_ := Aside0.mk (blk_below (g := gb226) (o := .cells #[.int .i64 a0_0, .int .i64 a0_1, .int .i64 a0_2, .int .i64 a0_3, .slice A0_4 l0_4.length c0_4] 31 (0, 0)) (viK BK226.out) hb); have n1_ := Aside0.mk (below_step viB hb); clear BK226; clear HB; have BK226 := n0_; have HB := n1_; clear n0_ n1_; (try clear hb); (try clear hb2); (try clear hk); (try clear hi); have hcz21_0 : w20.cell? ⟨gb226, 0, none⟩ = some (.int .i64 a0_0) := (blk_cell BK226.out 0).trans rfl; have hcz21_1 : w20.cell? ⟨gb226, 1, none⟩ = some (.int .i64 a0_1) := (blk_cell BK226.out 1).trans rfl; have hcz21_2 : w20.cell? ⟨gb226, 2, none⟩ = some (.int .i64 a0_2) := (blk_cell BK226.out 2).trans rfl; have hcz21_3 : w20.cell? ⟨gb226, 3, none⟩ = some (.int .i64 a0_3) := (blk_cell BK226.out 3).trans rfl; have hcz21_4 : w20.cell? ⟨gb226, 4, none⟩ = some (.slice A0_4 l0_4.length c0_4) := (blk_cell BK226.out 4).trans rfl; have hfz21_0 := blk_frozen BK226.out 0; have hfz21_1 := blk_frozen BK226.out 1; have hfz21_2 := blk_frozen BK226.out 2; have hfz21_3 := blk_frozen BK226.out 3; have hfz21_4 := blk_frozen BK226.out 4) | (go_at_call 63; (with_reducible refine (stackyardref08_State.calls a0_0 a0_1 a0_2 a0_3 _ _ l0_4 a0_3 t228 _ ?side1 ?side2 A18.out).mono ?_); (case side1 => repeat (first | exact (Kd.C_below HR0_4.out HB.out) | (with_reducible refine Kd.C_alloc ?_ _) | (with_reducible refine Kd.C_drewN ?_ _) | (with_reducible refine Kd.C_drew ?_))); (case side2 => exact HC0_4.out); rintro e w22 ⟨rfl, hb⟩; have n0_ := Aside0.mk (blk_below (g := gb226) (o := .cells #[.int .i64 a0_0, .int .i64 a0_1, .int .i64 a0_2, .int .i64 a0_3, .slice A0_4 l0_4.length c0_4] 31 (0, 0)) (viK BK226.out) hb); have n1_ := Aside0.mk (below_step viB hb); clear BK226; clear HB; have BK226 := n0_; have HB := n1_; clear n0_ n1_; (try clear hb); (try clear hb2); (try clear hk); (try clear hi)))
                go_meet
                case rel => exact ⟨_, (!t228), (by first | rfl | (simp; done) | (simp [*]; done)), H', ⟨by first | omega | exact Nat.le_refl _⟩, ⟨viK BK226.out⟩, ⟨viB⟩⟩
              · replace c17 := Bool.eq_false_iff.mpr c17
                subst c17
                have H1 : (stackyardref08_Check.j0 k true a0_0 a0_1 a0_2 a0_3 l0_4) = some r := by rw [if_neg (show ¬ (false = true) by decide)] at H; exact H
                clear H
                have H := H1
                clear H1
                have H' := Aside0.mk H
                clear H
                have hcz23_0 : w6.cell? ⟨gb226, 0, none⟩ = some (.int .i64 a0_0) := (blk_cell BK226.out 0).trans rfl
                have hcz23_1 : w6.cell? ⟨gb226, 1, none⟩ = some (.int .i64 a0_1) := (blk_cell BK226.out 1).trans rfl
                have hcz23_2 : w6.cell? ⟨gb226, 2, none⟩ = some (.int .i64 a0_2) := (blk_cell BK226.out 2).trans rfl
                have hcz23_3 : w6.cell? ⟨gb226, 3, none⟩ = some (.int .i64 a0_3) := (blk_cell BK226.out 3).trans rfl
                have hcz23_4 : w6.cell? ⟨gb226, 4, none⟩ = some (.slice A0_4 l0_4.length c0_4) := (blk_cell BK226.out 4).trans rfl
                have hfz23_0 := blk_frozen BK226.out 0
                have hfz23_1 := blk_frozen BK226.out 1
                have hfz23_2 := blk_frozen BK226.out 2
                have hfz23_3 := blk_frozen BK226.out 3
                have hfz23_4 := blk_frozen BK226.out 4
                go_wp2_with (first | (go_at_call 63; (with_reducible refine (stackyardref08_State.calls a0_0 a0_1 a0_2 a0_3 _ _ l0_4 a0_2 false _ ?side1 ?side2 A16.out).mono ?_); (case side1 => repeat (first | exact (Kd.C_below HR0_4.out HB.out) | (with_reducible refine Kd.C_alloc ?_ _) | (with_reducible refine Kd.C_drewN ?_ _) | (with_reducible refine Kd.C_drew ?_))); (case side2 => exact HC0_4.out); rintro e w24 ⟨rfl, hb⟩; have n0_ := Aside0.mk (blk_below (g := gb226) (o := .cells #[.int .i64 a0_0, .int .i64 a0_1, .int .i64 a0_2, .int .i64 a0_3, .slice A0_4 l0_4.length c0_4] 31 (0, 0)) (viK BK226.out) hb); have n1_ := Aside0.mk (below_step viB hb); clear BK226; clear HB; have BK226 := n0_; have HB := n1_; clear n0_ n1_; (try clear hb); (try clear hb2); (try clear hk); (try clear hi)))
                go_meet
                case rel => exact ⟨_, (true), (by first | rfl | (simp; done) | (simp [*]; done)), H', ⟨by first | omega | exact Nat.le_refl _⟩, ⟨viK BK226.out⟩, ⟨viB⟩⟩
    case rest =>
      clear HC5
      try clear c1
      try clear c2
      try clear c2b0
      try clear c2b1
      try clear p2
      try clear c3
      try clear c8
      try clear c8b0
      try clear c10
      try clear c10b0
      try clear c12
      try clear c12b0
      try clear c14
      try clear c14b0
      try clear c17
      try clear hcz11_0
      try clear hcz11_1
      try clear hcz11_2
      try clear hcz11_3
      try clear hcz11_4
      try clear hcz13_0
      try clear hcz13_1
      try clear hcz13_2
      try clear hcz13_3
      try clear hcz13_4
      try clear hcz15_0
      try clear hcz15_1
      try clear hcz15_2
      try clear hcz15_3
      try clear hcz15_4
      try clear hcz19_0
      try clear hcz19_1
      try clear hcz19_2
      try clear hcz19_3
      try clear hcz19_4
      try clear hcz21_0
      try clear hcz21_1
      try clear hcz21_2
      try clear hcz21_3
      try clear hcz21_4
      try clear hcz23_0
      try clear hcz23_1
      try clear hcz23_2
      try clear hcz23_3
      try clear hcz23_4
      try clear hcz4_0
      try clear hcz4_1
      try clear hcz4_2
      try clear hcz4_3
      try clear hcz4_4
      try clear hcz7_0
      try clear hcz7_1
      try clear hcz7_2
      try clear hcz7_3
      try clear hcz7_4
      try clear hcz9_0
      try clear hcz9_1
      try clear hcz9_2
      try clear hcz9_3
      try clear hcz9_4
      try clear hfz11_0
      try clear hfz11_1
      try clear hfz11_2
      try clear hfz11_3
      try clear hfz11_4
      try clear hfz13_0
      try clear hfz13_1
      try clear hfz13_2
      try clear hfz13_3
      try clear hfz13_4
      try clear hfz15_0
      try clear hfz15_1
      try clear hfz15_2
      try clear hfz15_3
      try clear hfz15_4
      try clear hfz19_0
      try clear hfz19_1
      try clear hfz19_2
      try clear hfz19_3
      try clear hfz19_4
      try clear hfz21_0
      try clear hfz21_1
      try clear hfz21_2
      try clear hfz21_3
      try clear hfz21_4
      try clear hfz23_0
      try clear hfz23_1
      try clear hfz23_2
      try clear hfz23_3
      try clear hfz23_4
      try clear hfz4_0
      try clear hfz4_1
      try clear hfz4_2
      try clear hfz4_3
      try clear hfz4_4
      try clear hfz7_0
      try clear hfz7_1
      try clear hfz7_2
      try clear hfz7_3
      try clear hfz7_4
      try clear hfz9_0
      try clear hfz9_1
      try clear hfz9_2
      try clear hfz9_3
      try clear hfz9_4
      obtain ⟨kq, x40_4, rfl, HA, HJ4, BK226, HB⟩ := hcut
      cases kq with
      | zero => exact absurd HA.out (by simp [stackyardref08_Check.j0])
      | succ kj4 =>
        have H := HA.out
        clear HA
        simp only [stackyardref08_Check.j0] at H
        by_cases c25 : x40_4 = true
        · subst c25
          have H1 : (some 81) = some r := by rw [if_pos rfl] at H; exact H
          clear H
          have H := H1
          clear H1
          obtain rfl := Option.some.inj H
          go_wp2
          go_ret
          exact ⟨by first | rfl | (simp [errW_none, errW_some] <;> rfl) | (simp [*, errW_none, errW_some] <;> rfl), viB⟩
        · replace c25 := Bool.eq_false_iff.mpr c25
          subst c25
          have H1 : (stackyardref08_Check.l0 kj4 0 a0_0 a0_1 a0_2 a0_3 l0_4) = some r := by rw [if_neg (show ¬ (false = true) by decide)] at H; exact H
          clear H
          have H := H1
          clear H1
          have H' := Aside0.mk H
          clear H
          go_wp2
          go_loopg [3] kj4 (fun kq v3 w' => ∃ (x3_2 : Int), v3 = .int .i64 x3_2 ∧ Aside0 (stackyardref08_Check.l0 kq x3_2 a0_0 a0_1 a0_2 a0_3 l0_4 = some r) ∧ Aside0 (kq ≤ kj4) ∧ Aside0 (w'.heap[gb226]? = some (.cells #[.int .i64 a0_0, .int .i64 a0_1, .int .i64 a0_2, .int .i64 a0_3, (.slice A0_4 l0_4.length c0_4)] 31 (0, 0))) ∧ Aside0 (Below w.heap.size w w'))
          case atStart => exact ⟨(0), (by first | rfl | (simp; done) | (simp [*]; done)), H', ⟨Nat.le_refl _⟩, ⟨viK BK226.out⟩, ⟨viB⟩⟩
          case round =>
            clear H'
            try clear c1
            try clear c2
            try clear c2b0
            try clear c2b1
            try clear p2
            try clear c3
            try clear c8
            try clear c8b0
            try clear c10
            try clear c10b0
            try clear c12
            try clear c12b0
            try clear c14
            try clear c14b0
            try clear c17
            try clear c25
            try clear hcz11_0
            try clear hcz11_1
            try clear hcz11_2
            try clear hcz11_3
            try clear hcz11_4
            try clear hcz13_0
            try clear hcz13_1
            try clear hcz13_2
            try clear hcz13_3
            try clear hcz13_4
            try clear hcz15_0
            try clear hcz15_1
            try clear hcz15_2
            try clear hcz15_3
            try clear hcz15_4
            try clear hcz19_0
            try clear hcz19_1
            try clear hcz19_2
            try clear hcz19_3
            try clear hcz19_4
            try clear hcz21_0
            try clear hcz21_1
            try clear hcz21_2
            try clear hcz21_3
            try clear hcz21_4
            try clear hcz23_0
            try clear hcz23_1
            try clear hcz23_2
            try clear hcz23_3
            try clear hcz23_4
            try clear hcz4_0
            try clear hcz4_1
            try clear hcz4_2
            try clear hcz4_3
            try clear hcz4_4
            try clear hcz7_0
            try clear hcz7_1
            try clear hcz7_2
            try clear hcz7_3
            try clear hcz7_4
            try clear hcz9_0
            try clear hcz9_1
            try clear hcz9_2
            try clear hcz9_3
            try clear hcz9_4
            try clear hfz11_0
            try clear hfz11_1
            try clear hfz11_2
            try clear hfz11_3
            try clear hfz11_4
            try clear hfz13_0
            try clear hfz13_1
            try clear hfz13_2
            try clear hfz13_3
            try clear hfz13_4
            try clear hfz15_0
            try clear hfz15_1
            try clear hfz15_2
            try clear hfz15_3
            try clear hfz15_4
            try clear hfz19_0
            try clear hfz19_1
            try clear hfz19_2
            try clear hfz19_3
            try clear hfz19_4
            try clear hfz21_0
            try clear hfz21_1
            try clear hfz21_2
            try clear hfz21_3
            try clear hfz21_4
            try clear hfz23_0
            try clear hfz23_1
            try clear hfz23_2
            try clear hfz23_3
            try clear hfz23_4
            try clear hfz4_0
            try clear hfz4_1
            try clear hfz4_2
            try clear hfz4_3
            try clear hfz4_4
            try clear hfz7_0
            try clear hfz7_1
            try clear hfz7_2
            try clear hfz7_3
            try clear hfz7_4
            try clear hfz9_0
            try clear hfz9_1
            try clear hfz9_2
            try clear hfz9_3
            try clear hfz9_4
            try clear p2
            obtain ⟨x3_2, rfl, HA, HK2, BK226, HB⟩ := hrel
            cases gk with
            | zero => exact absurd HA.out (by simp [stackyardref08_Check.l0])
            | succ k2 =>
              have H := HA.out
              clear HA
              simp only [stackyardref08_Check.l0] at H
              by_cases c26 : x3_2 < (l0_4.length : Int)
              · rw [if_pos c26] at H
                have c26b0 : decide (x3_2 < (l0_4.length : Int)) = true := decide_eq_true c26
                clear c26
                by_cases c27 : 0 ≤ x3_2
                · rw [if_pos c27] at H
                  have c27b0 : decide (0 ≤ x3_2) = true := decide_eq_true c27
                  clear c27
                  replace H := Option.bind_eq_some_iff.mp H
                  obtain ⟨t231, A280, H⟩ := H
                  replace H : (if t231 = true then ((stackyardref08_State.f a0_0 a0_1 a0_2 a0_3 l0_4 ((rd_T78 l0_4 x3_2).f2)).bind fun t232 => (if t232 = true then (if ((rd_T78 l0_4 x3_2).f1) < (-2) then (some 81) else (if ((rd_T78 l0_4 x3_2).f1) ≥ a0_1 then (some 81) else (stackyardref08_Check.l0 k2 (wrap64 (x3_2 + 1)) a0_0 a0_1 a0_2 a0_3 l0_4))) else (some 81))) else (some 81)) = some r := H
                  have A28 := Aside0.mk A280
                  clear A280
                  by_cases c29 : t231 = true
                  · subst c29
                    have H1 : ((stackyardref08_State.f a0_0 a0_1 a0_2 a0_3 l0_4 ((rd_T78 l0_4 x3_2).f2)).bind fun t232 => (if t232 = true then (if ((rd_T78 l0_4 x3_2).f1) < (-2) then (some 81) else (if ((rd_T78 l0_4 x3_2).f1) ≥ a0_1 then (some 81) else (stackyardref08_Check.l0 k2 (wrap64 (x3_2 + 1)) a0_0 a0_1 a0_2 a0_3 l0_4))) else (some 81))) = some r := by rw [if_pos rfl] at H; exact H
                    clear H
                    have H := H1
                    clear H1
                    replace H := Option.bind_eq_some_iff.mp H
                    obtain ⟨t232, A300, H⟩ := H
                    replace H : (if t232 = true then (if ((rd_T78 l0_4 x3_2).f1) < (-2) then (some 81) else (if ((rd_T78 l0_4 x3_2).f1) ≥ a0_1 then (some 81) else (stackyardref08_Check.l0 k2 (wrap64 (x3_2 + 1)) a0_0 a0_1 a0_2 a0_3 l0_4))) else (some 81)) = some r := H
                    have A30 := Aside0.mk A300
                    clear A300
                    by_cases c31 : t232 = true
                    · subst c31
                      have H1 : (if ((rd_T78 l0_4 x3_2).f1) < (-2) then (some 81) else (if ((rd_T78 l0_4 x3_2).f1) ≥ a0_1 then (some 81) else (stackyardref08_Check.l0 k2 (wrap64 (x3_2 + 1)) a0_0 a0_1 a0_2 a0_3 l0_4))) = some r := by rw [if_pos rfl] at H; exact H
                      clear H
                      have H := H1
                      clear H1
                      by_cases c32 : ((rd_T78 l0_4 x3_2).f1) < (-2)
                      · rw [if_pos c32] at H
                        have c32b0 : decide (((rd_T78 l0_4 x3_2).f1) < (-2)) = true := decide_eq_true c32
                        clear c32
                        obtain rfl := Option.some.inj H
                        have hcz33_0 : wr.cell? ⟨gb226, 0, none⟩ = some (.int .i64 a0_0) := (blk_cell BK226.out 0).trans rfl
                        have hcz33_1 : wr.cell? ⟨gb226, 1, none⟩ = some (.int .i64 a0_1) := (blk_cell BK226.out 1).trans rfl
                        have hcz33_2 : wr.cell? ⟨gb226, 2, none⟩ = some (.int .i64 a0_2) := (blk_cell BK226.out 2).trans rfl
                        have hcz33_3 : wr.cell? ⟨gb226, 3, none⟩ = some (.int .i64 a0_3) := (blk_cell BK226.out 3).trans rfl
                        have hcz33_4 : wr.cell? ⟨gb226, 4, none⟩ = some (.slice A0_4 l0_4.length c0_4) := (blk_cell BK226.out 4).trans rfl
                        have hfz33_0 := blk_frozen BK226.out 0
                        have hfz33_1 := blk_frozen BK226.out 1
                        have hfz33_2 := blk_frozen BK226.out 2
                        have hfz33_3 := blk_frozen BK226.out 3
                        have hfz33_4 := blk_frozen BK226.out 4
                        have p229 : 0 ≤ (x3_2 : Int) := viA
                        have q229 : x3_2 < (l0_4.length : Int) := viA
                        obtain ⟨ad229, e229, hx229_0, hx229_1, hx229_2⟩ := at_T78 HR0_4.out x3_2 p229 q229
                        cases e229
                        replace hx229_0 := (HB.out.cell (World.block_lt_of_cell? w _ hx229_0)).trans hx229_0
                        replace hx229_1 := (HB.out.cell (World.block_lt_of_cell? w _ hx229_1)).trans hx229_1
                        replace hx229_2 := (HB.out.cell (World.block_lt_of_cell? w _ hx229_2)).trans hx229_2
                        replace p229 := eq_true p229
                        replace q229 := eq_true q229
                        go_wp2_with (first | ((with_reducible refine gate_dst (N := 4) rfl ?_); refine box_event ?hg (N := 4) ?hd (cs := #[.int .i64 0, .int .i64 0, .int .i64 0]) (t := 78) ?hr ?_; (case hd => rfl); (case hg => rfl); (case hr => first | (go_simp; done) | (go_simp; rfl)); intro gb230 hg w34 hbox hb; have n0_ := Aside0.mk (blk_below (g := gb226) (o := .cells #[.int .i64 a0_0, .int .i64 a0_1, .int .i64 a0_2, .int .i64 a0_3, .slice (some ad229) l0_4.length c0_4] 31 (0, 0)) (viK BK226.out) hb); have n1_ := Aside0.mk (below_step viB hb); have n2_ := Aside0.mk (hbox); have n3_ := Aside0.mk ((by rw [hg]; exact (below_size viB) : w.heap.size ≤ gb230)); have n4_ := Aside0.mk ((by rw [hg]; exact (below_size viB) : w.heap.size ≤ gb230)); have n5_ := Aside0.mk ((by rw [hg]; exact Nat.ne_of_lt (blk_lt (g := gb226) (o := .cells #[.int .i64 a0_0, .int .i64 a0_1, .int .i64 a0_2, .int .i64 a0_3, .slice (some ad229) l0_4.length c0_4] 31 (0, 0)) (viK BK226.out)) : gb226 ≠ gb230)); have n6_ := Aside0.mk ((by rw [hg]; exact Nat.ne_of_gt (blk_lt (g := gb226) (o := .cells #[.int .i64 a0_0, .int .i64 a0_1, .int .i64 a0_2, .int .i64 a0_3, .slice (some ad229) l0_4.length c0_4] 31 (0, 0)) (viK BK226.out)) : gb230 ≠ gb226)); clear BK226; clear HB; have BK226 := n0_; have HB := n1_; have BK230 := n2_; have GW230 := n3_; have GE230 := n4_; have NB226_230 := n5_; have NB230_226 := n6_; clear n0_ n1_ n2_ n3_ n4_ n5_ n6_; clear hb hbox hg; have hnb35 := NB230_226.out; have hnc35 := NB226_230.out; have hcz36_0 : w34.cell? ⟨gb230, 0, none⟩ = some (.int .i64 0) := (blk_cell BK230.out 0).trans rfl; have hcz36_1 : w34.cell? ⟨gb230, 1, none⟩ = some (.int .i64 0) := (blk_cell BK230.out 1).trans rfl; have hcz36_2 : w34.cell? ⟨gb230, 2, none⟩ = some (.int .i64 0) := (blk_cell BK230.out 2).trans rfl; have hfz36_0 := blk_frozen BK230.out 0; have hfz36_1 := blk_frozen BK230.out 1; have hfz36_2 := blk_frozen BK230.out 2; have hcz37_0 : w34.cell? ⟨gb226, 0, none⟩ = some (.int .i64 a0_0) := (blk_cell BK226.out 0).trans rfl; have hcz37_1 : w34.cell? ⟨gb226, 1, none⟩ = some (.int .i64 a0_1) := (blk_cell BK226.out 1).trans rfl; have hcz37_2 : w34.cell? ⟨gb226, 2, none⟩ = some (.int .i64 a0_2) := (blk_cell BK226.out 2).trans rfl; have hcz37_3 : w34.cell? ⟨gb226, 3, none⟩ = some (.int .i64 a0_3) := (blk_cell BK226.out 3).trans rfl; have hcz37_4 : w34.cell? ⟨gb226, 4, none⟩ = some (.slice (some ad229) l0_4.length c0_4) := (blk_cell BK226.out 4).trans rfl; have hfz37_0 := blk_frozen BK226.out 0; have hfz37_1 := blk_frozen BK226.out 1; have hfz37_2 := blk_frozen BK226.out 2; have hfz37_3 := blk_frozen BK226.out 3; have hfz37_4 := blk_frozen BK226.out 4) | ((with_reducible refine gate_callee (f := 63) rfl ?_); refine goesL_ (some 56) rfl rfl Try.func63 (by kernel_rfl) rfl #[.agg #[.int .i64 a0_0, .int .i64 a0_1, .int .i64 a0_2, .int .i64 a0_3, .slice (some ad229) l0_4.length c0_4], .int .i64 ((rd_T78 l0_4 x3_2).f0)] rfl (by (try simp only [List.map_toArray, List.map_cons, List.map_nil]); first | done | rfl | (simp only [List.length_drop, List.length_take]; rfl)) ?_; (with_reducible refine (stackyardref08_State.calls a0_0 a0_1 a0_2 a0_3 _ _ l0_4 ((rd_T78 l0_4 x3_2).f0) true _ ?side1 ?side2 A28.out).mono ?_); (case side1 => exact Kd.C_below HR0_4.out viB); (case side2 => exact HC0_4.out); rintro e w38 ⟨rfl, hb⟩; refine ⟨_, rfl, ?_⟩; have n0_ := Aside0.mk (blk_below (g := gb226) (o := .cells #[.int .i64 a0_0, .int .i64 a0_1, .int .i64 a0_2, .int .i64 a0_3, .slice (some ad229) l0_4.length c0_4] 31 (0, 0)) (by refine viK ?_; refine blk_far ?_ NB226_230.out _; refine viK ?_; refine blk_far ?_ NB226_230.out _; refine viK ?_; refine blk_far ?_ NB226_230.out _; refine viK ?_; exact BK226.out) hb); have n1_ := Aside0.mk (blk_below (g := gb230) (o := .cells #[.int .i64 ((rd_T78 l0_4 x3_2).f0), .int .i64 ((rd_T78 l0_4 x3_2).f1), .int .i64 ((rd_T78 l0_4 x3_2).f2)] 78 (0, 0)) (by refine viK ?_; refine blk_put (cs := #[.int .i64 ((rd_T78 l0_4 x3_2).f0), .int .i64 ((rd_T78 l0_4 x3_2).f1), .int .i64 0]) ?_ 2 _ rfl; refine viK ?_; refine blk_put (cs := #[.int .i64 ((rd_T78 l0_4 x3_2).f0), .int .i64 0, .int .i64 0]) ?_ 1 _ rfl; refine viK ?_; refine blk_put (cs := #[.int .i64 0, .int .i64 0, .int .i64 0]) ?_ 0 _ rfl; refine viK ?_; exact BK230.out) hb); have n2_ := Aside0.mk (below_step viB hb); clear BK226; clear BK230; clear HB; have BK226 := n0_; have BK230 := n1_; have HB := n2_; clear n0_ n1_ n2_; (try clear hb); (try clear hb2); (try clear hk); (try clear hi); have hcz39_0 : w38.cell? ⟨gb226, 0, none⟩ = some (.int .i64 a0_0) := (blk_cell BK226.out 0).trans rfl; have hcz39_1 : w38.cell? ⟨gb226, 1, none⟩ = some (.int .i64 a0_1) := (blk_cell BK226.out 1).trans rfl; have hcz39_2 : w38.cell? ⟨gb226, 2, none⟩ = some (.int .i64 a0_2) := (blk_cell BK226.out 2).trans rfl; have hcz39_3 : w38.cell? ⟨gb226, 3, none⟩ = some (.int .i64 a0_3) := (blk_cell BK226.out 3).trans rfl; have hcz39_4 : w38.cell? ⟨gb226, 4, none⟩ = some (.slice (some ad229) l0_4.length c0_4) := (blk_cell BK226.out 4).trans rfl; have hfz39_0 := blk_frozen BK226.out 0; have hfz39_1 := blk_frozen BK226.out 1; have hfz39_2 := blk_frozen BK226.out 2; have hfz39_3 := blk_frozen BK226.out 3; have hfz39_4 := blk_frozen BK226.out 4; have hcz40_0 : w38.cell? ⟨gb230, 0, none⟩ = some (.int .i64 ((rd_T78 l0_4 x3_2).f0)) := (blk_cell BK230.out 0).trans rfl; have hcz40_1 : w38.cell? ⟨gb230, 1, none⟩ = some (.int .i64 ((rd_T78 l0_4 x3_2).f1)) := (blk_cell BK230.out 1).trans rfl; have hcz40_2 : w38.cell? ⟨gb230, 2, none⟩ = some (.int .i64 ((rd_T78 l0_4 x3_2).f2)) := (blk_cell BK230.out 2).trans rfl; have hfz40_0 := blk_frozen BK230.out 0; have hfz40_1 := blk_frozen BK230.out 1; have hfz40_2 := blk_frozen BK230.out 2) | (go_at_call 63; (with_reducible refine (stackyardref08_State.calls a0_0 a0_1 a0_2 a0_3 _ _ l0_4 ((rd_T78 l0_4 x3_2).f2) true _ ?side1 ?side2 A30.out).mono ?_); (case side1 => repeat (first | exact (Kd.C_below HR0_4.out HB.out) | (with_reducible refine Kd.C_alloc ?_ _) | (with_reducible refine Kd.C_drewN ?_ _) | (with_reducible refine Kd.C_drew ?_))); (case side2 => exact HC0_4.out); rintro e w41 ⟨rfl, hb⟩; have n0_ := Aside0.mk (blk_below (g := gb226) (o := .cells #[.int .i64 a0_0, .int .i64 a0_1, .int .i64 a0_2, .int .i64 a0_3, .slice (some ad229) l0_4.length c0_4] 31 (0, 0)) (viK BK226.out) hb); have n1_ := Aside0.mk (blk_below (g := gb230) (o := .cells #[.int .i64 ((rd_T78 l0_4 x3_2).f0), .int .i64 ((rd_T78 l0_4 x3_2).f1), .int .i64 ((rd_T78 l0_4 x3_2).f2)] 78 (0, 0)) (viK BK230.out) hb); have n2_ := Aside0.mk (below_step viB hb); clear BK226; clear BK230; clear HB; have BK226 := n0_; have BK230 := n1_; have HB := n2_; clear n0_ n1_ n2_; (try clear hb); (try clear hb2); (try clear hk); (try clear hi); have hcz42_0 : w41.cell? ⟨gb230, 0, none⟩ = some (.int .i64 ((rd_T78 l0_4 x3_2).f0)) := (blk_cell BK230.out 0).trans rfl; have hcz42_1 : w41.cell? ⟨gb230, 1, none⟩ = some (.int .i64 ((rd_T78 l0_4 x3_2).f1)) := (blk_cell BK230.out 1).trans rfl; have hcz42_2 : w41.cell? ⟨gb230, 2, none⟩ = some (.int .i64 ((rd_T78 l0_4 x3_2).f2)) := (blk_cell BK230.out 2).trans rfl; have hfz42_0 := blk_frozen BK230.out 0; have hfz42_1 := blk_frozen BK230.out 1; have hfz42_2 := blk_frozen BK230.out 2))
                        go_ret
                        exact ⟨by first | rfl | (simp [errW_none, errW_some] <;> rfl) | (simp [*, errW_none, errW_some] <;> rfl), viB⟩
                      · rw [if_neg c32] at H
                        have c32b0 : decide (((rd_T78 l0_4 x3_2).f1) < (-2)) = false := decide_eq_false c32
                        clear c32
                        by_cases c43 : ((rd_T78 l0_4 x3_2).f1) ≥ a0_1
                        · rw [if_pos c43] at H
                          have c43b0 : decide (a0_1 ≤ ((rd_T78 l0_4 x3_2).f1)) = true := decide_eq_true c43
                          clear c43
                          obtain rfl := Option.some.inj H
                          have hcz44_0 : wr.cell? ⟨gb226, 0, none⟩ = some (.int .i64 a0_0) := (blk_cell BK226.out 0).trans rfl
                          have hcz44_1 : wr.cell? ⟨gb226, 1, none⟩ = some (.int .i64 a0_1) := (blk_cell BK226.out 1).trans rfl
                          have hcz44_2 : wr.cell? ⟨gb226, 2, none⟩ = some (.int .i64 a0_2) := (blk_cell BK226.out 2).trans rfl
                          have hcz44_3 : wr.cell? ⟨gb226, 3, none⟩ = some (.int .i64 a0_3) := (blk_cell BK226.out 3).trans rfl
                          have hcz44_4 : wr.cell? ⟨gb226, 4, none⟩ = some (.slice A0_4 l0_4.length c0_4) := (blk_cell BK226.out 4).trans rfl
                          have hfz44_0 := blk_frozen BK226.out 0
                          have hfz44_1 := blk_frozen BK226.out 1
                          have hfz44_2 := blk_frozen BK226.out 2
                          have hfz44_3 := blk_frozen BK226.out 3
                          have hfz44_4 := blk_frozen BK226.out 4
                          have p229 : 0 ≤ (x3_2 : Int) := viA
                          have q229 : x3_2 < (l0_4.length : Int) := viA
                          obtain ⟨ad229, e229, hx229_0, hx229_1, hx229_2⟩ := at_T78 HR0_4.out x3_2 p229 q229
                          cases e229
                          replace hx229_0 := (HB.out.cell (World.block_lt_of_cell? w _ hx229_0)).trans hx229_0
                          replace hx229_1 := (HB.out.cell (World.block_lt_of_cell? w _ hx229_1)).trans hx229_1
                          replace hx229_2 := (HB.out.cell (World.block_lt_of_cell? w _ hx229_2)).trans hx229_2
                          replace p229 := eq_true p229
                          replace q229 := eq_true q229
                          go_wp2_with (first | ((with_reducible refine gate_dst (N := 4) rfl ?_); refine box_event ?hg (N := 4) ?hd (cs := #[.int .i64 0, .int .i64 0, .int .i64 0]) (t := 78) ?hr ?_; (case hd => rfl); (case hg => rfl); (case hr => first | (go_simp; done) | (go_simp; rfl)); intro gb230 hg w45 hbox hb; have n0_ := Aside0.mk (blk_below (g := gb226) (o := .cells #[.int .i64 a0_0, .int .i64 a0_1, .int .i64 a0_2, .int .i64 a0_3, .slice (some ad229) l0_4.length c0_4] 31 (0, 0)) (viK BK226.out) hb); have n1_ := Aside0.mk (below_step viB hb); have n2_ := Aside0.mk (hbox); have n3_ := Aside0.mk ((by rw [hg]; exact (below_size viB) : w.heap.size ≤ gb230)); have n4_ := Aside0.mk ((by rw [hg]; exact (below_size viB) : w.heap.size ≤ gb230)); have n5_ := Aside0.mk ((by rw [hg]; exact Nat.ne_of_lt (blk_lt (g := gb226) (o := .cells #[.int .i64 a0_0, .int .i64 a0_1, .int .i64 a0_2, .int .i64 a0_3, .slice (some ad229) l0_4.length c0_4] 31 (0, 0)) (viK BK226.out)) : gb226 ≠ gb230)); have n6_ := Aside0.mk ((by rw [hg]; exact Nat.ne_of_gt (blk_lt (g := gb226) (o := .cells #[.int .i64 a0_0, .int .i64 a0_1, .int .i64 a0_2, .int .i64 a0_3, .slice (some ad229) l0_4.length c0_4] 31 (0, 0)) (viK BK226.out)) : gb230 ≠ gb226)); clear BK226; clear HB; have BK226 := n0_; have HB := n1_; have BK230 := n2_; have GW230 := n3_; have GE230 := n4_; have NB226_230 := n5_; have NB230_226 := n6_; clear n0_ n1_ n2_ n3_ n4_ n5_ n6_; clear hb hbox hg; have hnb46 := NB230_226.out; have hnc46 := NB226_230.out; have hcz47_0 : w45.cell? ⟨gb230, 0, none⟩ = some (.int .i64 0) := (blk_cell BK230.out 0).trans rfl; have hcz47_1 : w45.cell? ⟨gb230, 1, none⟩ = some (.int .i64 0) := (blk_cell BK230.out 1).trans rfl; have hcz47_2 : w45.cell? ⟨gb230, 2, none⟩ = some (.int .i64 0) := (blk_cell BK230.out 2).trans rfl; have hfz47_0 := blk_frozen BK230.out 0; have hfz47_1 := blk_frozen BK230.out 1; have hfz47_2 := blk_frozen BK230.out 2; have hcz48_0 : w45.cell? ⟨gb226, 0, none⟩ = some (.int .i64 a0_0) := (blk_cell BK226.out 0).trans rfl; have hcz48_1 : w45.cell? ⟨gb226, 1, none⟩ = some (.int .i64 a0_1) := (blk_cell BK226.out 1).trans rfl; have hcz48_2 : w45.cell? ⟨gb226, 2, none⟩ = some (.int .i64 a0_2) := (blk_cell BK226.out 2).trans rfl; have hcz48_3 : w45.cell? ⟨gb226, 3, none⟩ = some (.int .i64 a0_3) := (blk_cell BK226.out 3).trans rfl; have hcz48_4 : w45.cell? ⟨gb226, 4, none⟩ = some (.slice (some ad229) l0_4.length c0_4) := (blk_cell BK226.out 4).trans rfl; have hfz48_0 := blk_frozen BK226.out 0; have hfz48_1 := blk_frozen BK226.out 1; have hfz48_2 := blk_frozen BK226.out 2; have hfz48_3 := blk_frozen BK226.out 3; have hfz48_4 := blk_frozen BK226.out 4) | ((with_reducible refine gate_callee (f := 63) rfl ?_); refine goesL_ (some 56) rfl rfl Try.func63 (by kernel_rfl) rfl #[.agg #[.int .i64 a0_0, .int .i64 a0_1, .int .i64 a0_2, .int .i64 a0_3, .slice (some ad229) l0_4.length c0_4], .int .i64 ((rd_T78 l0_4 x3_2).f0)] rfl (by (try simp only [List.map_toArray, List.map_cons, List.map_nil]); first | done | rfl | (simp only [List.length_drop, List.length_take]; rfl)) ?_; (with_reducible refine (stackyardref08_State.calls a0_0 a0_1 a0_2 a0_3 _ _ l0_4 ((rd_T78 l0_4 x3_2).f0) true _ ?side1 ?side2 A28.out).mono ?_); (case side1 => exact Kd.C_below HR0_4.out viB); (case side2 => exact HC0_4.out); rintro e w49 ⟨rfl, hb⟩; refine ⟨_, rfl, ?_⟩; have n0_ := Aside0.mk (blk_below (g := gb226) (o := .cells #[.int .i64 a0_0, .int .i64 a0_1, .int .i64 a0_2, .int .i64 a0_3, .slice (some ad229) l0_4.length c0_4] 31 (0, 0)) (by refine viK ?_; refine blk_far ?_ NB226_230.out _; refine viK ?_; refine blk_far ?_ NB226_230.out _; refine viK ?_; refine blk_far ?_ NB226_230.out _; refine viK ?_; exact BK226.out) hb); have n1_ := Aside0.mk (blk_below (g := gb230) (o := .cells #[.int .i64 ((rd_T78 l0_4 x3_2).f0), .int .i64 ((rd_T78 l0_4 x3_2).f1), .int .i64 ((rd_T78 l0_4 x3_2).f2)] 78 (0, 0)) (by refine viK ?_; refine blk_put (cs := #[.int .i64 ((rd_T78 l0_4 x3_2).f0), .int .i64 ((rd_T78 l0_4 x3_2).f1), .int .i64 0]) ?_ 2 _ rfl; refine viK ?_; refine blk_put (cs := #[.int .i64 ((rd_T78 l0_4 x3_2).f0), .int .i64 0, .int .i64 0]) ?_ 1 _ rfl; refine viK ?_; refine blk_put (cs := #[.int .i64 0, .int .i64 0, .int .i64 0]) ?_ 0 _ rfl; refine viK ?_; exact BK230.out) hb); have n2_ := Aside0.mk (below_step viB hb); clear BK226; clear BK230; clear HB; have BK226 := n0_; have BK230 := n1_; have HB := n2_; clear n0_ n1_ n2_; (try clear hb); (try clear hb2); (try clear hk); (try clear hi); have hcz50_0 : w49.cell? ⟨gb226, 0, none⟩ = some (.int .i64 a0_0) := (blk_cell BK226.out 0).trans rfl; have hcz50_1 : w49.cell? ⟨gb226, 1, none⟩ = some (.int .i64 a0_1) := (blk_cell BK226.out 1).trans rfl; have hcz50_2 : w49.cell? ⟨gb226, 2, none⟩ = some (.int .i64 a0_2) := (blk_cell BK226.out 2).trans rfl; have hcz50_3 : w49.cell? ⟨gb226, 3, none⟩ = some (.int .i64 a0_3) := (blk_cell BK226.out 3).trans rfl; have hcz50_4 : w49.cell? ⟨gb226, 4, none⟩ = some (.slice (some ad229) l0_4.length c0_4) := (blk_cell BK226.out 4).trans rfl; have hfz50_0 := blk_frozen BK226.out 0; have hfz50_1 := blk_frozen BK226.out 1; have hfz50_2 := blk_frozen BK226.out 2; have hfz50_3 := blk_frozen BK226.out 3; have hfz50_4 := blk_frozen BK226.out 4; have hcz51_0 : w49.cell? ⟨gb230, 0, none⟩ = some (.int .i64 ((rd_T78 l0_4 x3_2).f0)) := (blk_cell BK230.out 0).trans rfl; have hcz51_1 : w49.cell? ⟨gb230, 1, none⟩ = some (.int .i64 ((rd_T78 l0_4 x3_2).f1)) := (blk_cell BK230.out 1).trans rfl; have hcz51_2 : w49.cell? ⟨gb230, 2, none⟩ = some (.int .i64 ((rd_T78 l0_4 x3_2).f2)) := (blk_cell BK230.out 2).trans rfl; have hfz51_0 := blk_frozen BK230.out 0; have hfz51_1 := blk_frozen BK230.out 1; have hfz51_2 := blk_frozen BK230.out 2) | (go_at_call 63; (with_reducible refine (stackyardref08_State.calls a0_0 a0_1 a0_2 a0_3 _ _ l0_4 ((rd_T78 l0_4 x3_2).f2) true _ ?side1 ?side2 A30.out).mono ?_); (case side1 => repeat (first | exact (Kd.C_below HR0_4.out HB.out) | (with_reducible refine Kd.C_alloc ?_ _) | (with_reducible refine Kd.C_drewN ?_ _) | (with_reducible refine Kd.C_drew ?_))); (case side2 => exact HC0_4.out); rintro e w52 ⟨rfl, hb⟩; have n0_ := Aside0.mk (blk_below (g := gb226) (o := .cells #[.int .i64 a0_0, .int .i64 a0_1, .int .i64 a0_2, .int .i64 a0_3, .slice (some ad229) l0_4.length c0_4] 31 (0, 0)) (viK BK226.out) hb); have n1_ := Aside0.mk (blk_below (g := gb230) (o := .cells #[.int .i64 ((rd_T78 l0_4 x3_2).f0), .int .i64 ((rd_T78 l0_4 x3_2).f1), .int .i64 ((rd_T78 l0_4 x3_2).f2)] 78 (0, 0)) (viK BK230.out) hb); have n2_ := Aside0.mk (below_step viB hb); clear BK226; clear BK230; clear HB; have BK226 := n0_; have BK230 := n1_; have HB := n2_; clear n0_ n1_ n2_; (try clear hb); (try clear hb2); (try clear hk); (try clear hi); have hcz53_0 : w52.cell? ⟨gb230, 0, none⟩ = some (.int .i64 ((rd_T78 l0_4 x3_2).f0)) := (blk_cell BK230.out 0).trans rfl; have hcz53_1 : w52.cell? ⟨gb230, 1, none⟩ = some (.int .i64 ((rd_T78 l0_4 x3_2).f1)) := (blk_cell BK230.out 1).trans rfl; have hcz53_2 : w52.cell? ⟨gb230, 2, none⟩ = some (.int .i64 ((rd_T78 l0_4 x3_2).f2)) := (blk_cell BK230.out 2).trans rfl; have hfz53_0 := blk_frozen BK230.out 0; have hfz53_1 := blk_frozen BK230.out 1; have hfz53_2 := blk_frozen BK230.out 2; have hcz54_0 : w52.cell? ⟨gb226, 0, none⟩ = some (.int .i64 a0_0) := (blk_cell BK226.out 0).trans rfl; have hcz54_1 : w52.cell? ⟨gb226, 1, none⟩ = some (.int .i64 a0_1) := (blk_cell BK226.out 1).trans rfl; have hcz54_2 : w52.cell? ⟨gb226, 2, none⟩ = some (.int .i64 a0_2) := (blk_cell BK226.out 2).trans rfl; have hcz54_3 : w52.cell? ⟨gb226, 3, none⟩ = some (.int .i64 a0_3) := (blk_cell BK226.out 3).trans rfl; have hcz54_4 : w52.cell? ⟨gb226, 4, none⟩ = some (.slice (some ad229) l0_4.length c0_4) := (blk_cell BK226.out 4).trans rfl; have hfz54_0 := blk_frozen BK226.out 0; have hfz54_1 := blk_frozen BK226.out 1; have hfz54_2 := blk_frozen BK226.out 2; have hfz54_3 := blk_frozen BK226.out 3; have hfz54_4 := blk_frozen BK226.out 4))
                          go_ret
                          exact ⟨by first | rfl | (simp [errW_none, errW_some] <;> rfl) | (simp [*, errW_none, errW_some] <;> rfl), viB⟩
                        · rw [if_neg c43] at H
                          have c43b0 : decide (a0_1 ≤ ((rd_T78 l0_4 x3_2).f1)) = false := decide_eq_false c43
                          clear c43
                          have H' := Aside0.mk H
                          clear H
                          have hcz55_0 : wr.cell? ⟨gb226, 0, none⟩ = some (.int .i64 a0_0) := (blk_cell BK226.out 0).trans rfl
                          have hcz55_1 : wr.cell? ⟨gb226, 1, none⟩ = some (.int .i64 a0_1) := (blk_cell BK226.out 1).trans rfl
                          have hcz55_2 : wr.cell? ⟨gb226, 2, none⟩ = some (.int .i64 a0_2) := (blk_cell BK226.out 2).trans rfl
                          have hcz55_3 : wr.cell? ⟨gb226, 3, none⟩ = some (.int .i64 a0_3) := (blk_cell BK226.out 3).trans rfl
                          have hcz55_4 : wr.cell? ⟨gb226, 4, none⟩ = some (.slice A0_4 l0_4.length c0_4) := (blk_cell BK226.out 4).trans rfl
                          have hfz55_0 := blk_frozen BK226.out 0
                          have hfz55_1 := blk_frozen BK226.out 1
                          have hfz55_2 := blk_frozen BK226.out 2
                          have hfz55_3 := blk_frozen BK226.out 3
                          have hfz55_4 := blk_frozen BK226.out 4
                          have p229 : 0 ≤ (x3_2 : Int) := viA
                          have q229 : x3_2 < (l0_4.length : Int) := viA
                          obtain ⟨ad229, e229, hx229_0, hx229_1, hx229_2⟩ := at_T78 HR0_4.out x3_2 p229 q229
                          cases e229
                          replace hx229_0 := (HB.out.cell (World.block_lt_of_cell? w _ hx229_0)).trans hx229_0
                          replace hx229_1 := (HB.out.cell (World.block_lt_of_cell? w _ hx229_1)).trans hx229_1
                          replace hx229_2 := (HB.out.cell (World.block_lt_of_cell? w _ hx229_2)).trans hx229_2
                          replace p229 := eq_true p229
                          replace q229 := eq_true q229
                          go_wp2_with (first | ((with_reducible refine gate_dst (N := 4) rfl ?_); refine box_event ?hg (N := 4) ?hd (cs := #[.int .i64 0, .int .i64 0, .int .i64 0]) (t := 78) ?hr ?_; (case hd => rfl); (case hg => rfl); (case hr => first | (go_simp; done) | (go_simp; rfl)); intro gb230 hg w56 hbox hb; have n0_ := Aside0.mk (blk_below (g := gb226) (o := .cells #[.int .i64 a0_0, .int .i64 a0_1, .int .i64 a0_2, .int .i64 a0_3, .slice (some ad229) l0_4.length c0_4] 31 (0, 0)) (viK BK226.out) hb); have n1_ := Aside0.mk (below_step viB hb); have n2_ := Aside0.mk (hbox); have n3_ := Aside0.mk ((by rw [hg]; exact (below_size viB) : w.heap.size ≤ gb230)); have n4_ := Aside0.mk ((by rw [hg]; exact (below_size viB) : w.heap.size ≤ gb230)); have n5_ := Aside0.mk ((by rw [hg]; exact Nat.ne_of_lt (blk_lt (g := gb226) (o := .cells #[.int .i64 a0_0, .int .i64 a0_1, .int .i64 a0_2, .int .i64 a0_3, .slice (some ad229) l0_4.length c0_4] 31 (0, 0)) (viK BK226.out)) : gb226 ≠ gb230)); have n6_ := Aside0.mk ((by rw [hg]; exact Nat.ne_of_gt (blk_lt (g := gb226) (o := .cells #[.int .i64 a0_0, .int .i64 a0_1, .int .i64 a0_2, .int .i64 a0_3, .slice (some ad229) l0_4.length c0_4] 31 (0, 0)) (viK BK226.out)) : gb230 ≠ gb226)); clear BK226; clear HB; have BK226 := n0_; have HB := n1_; have BK230 := n2_; have GW230 := n3_; have GE230 := n4_; have NB226_230 := n5_; have NB230_226 := n6_; clear n0_ n1_ n2_ n3_ n4_ n5_ n6_; clear hb hbox hg; have hnb57 := NB230_226.out; have hnc57 := NB226_230.out; have hcz58_0 : w56.cell? ⟨gb230, 0, none⟩ = some (.int .i64 0) := (blk_cell BK230.out 0).trans rfl; have hcz58_1 : w56.cell? ⟨gb230, 1, none⟩ = some (.int .i64 0) := (blk_cell BK230.out 1).trans rfl; have hcz58_2 : w56.cell? ⟨gb230, 2, none⟩ = some (.int .i64 0) := (blk_cell BK230.out 2).trans rfl; have hfz58_0 := blk_frozen BK230.out 0; have hfz58_1 := blk_frozen BK230.out 1; have hfz58_2 := blk_frozen BK230.out 2; have hcz59_0 : w56.cell? ⟨gb226, 0, none⟩ = some (.int .i64 a0_0) := (blk_cell BK226.out 0).trans rfl; have hcz59_1 : w56.cell? ⟨gb226, 1, none⟩ = some (.int .i64 a0_1) := (blk_cell BK226.out 1).trans rfl; have hcz59_2 : w56.cell? ⟨gb226, 2, none⟩ = some (.int .i64 a0_2) := (blk_cell BK226.out 2).trans rfl; have hcz59_3 : w56.cell? ⟨gb226, 3, none⟩ = some (.int .i64 a0_3) := (blk_cell BK226.out 3).trans rfl; have hcz59_4 : w56.cell? ⟨gb226, 4, none⟩ = some (.slice (some ad229) l0_4.length c0_4) := (blk_cell BK226.out 4).trans rfl; have hfz59_0 := blk_frozen BK226.out 0; have hfz59_1 := blk_frozen BK226.out 1; have hfz59_2 := blk_frozen BK226.out 2; have hfz59_3 := blk_frozen BK226.out 3; have hfz59_4 := blk_frozen BK226.out 4) | ((with_reducible refine gate_callee (f := 63) rfl ?_); refine goesL_ (some 56) rfl rfl Try.func63 (by kernel_rfl) rfl #[.agg #[.int .i64 a0_0, .int .i64 a0_1, .int .i64 a0_2, .int .i64 a0_3, .slice (some ad229) l0_4.length c0_4], .int .i64 ((rd_T78 l0_4 x3_2).f0)] rfl (by (try simp only [List.map_toArray, List.map_cons, List.map_nil]); first | done | rfl | (simp only [List.length_drop, List.length_take]; rfl)) ?_; (with_reducible refine (stackyardref08_State.calls a0_0 a0_1 a0_2 a0_3 _ _ l0_4 ((rd_T78 l0_4 x3_2).f0) true _ ?side1 ?side2 A28.out).mono ?_); (case side1 => exact Kd.C_below HR0_4.out viB); (case side2 => exact HC0_4.out); rintro e w60 ⟨rfl, hb⟩; refine ⟨_, rfl, ?_⟩; have n0_ := Aside0.mk (blk_below (g := gb226) (o := .cells #[.int .i64 a0_0, .int .i64 a0_1, .int .i64 a0_2, .int .i64 a0_3, .slice (some ad229) l0_4.length c0_4] 31 (0, 0)) (by refine viK ?_; refine blk_far ?_ NB226_230.out _; refine viK ?_; refine blk_far ?_ NB226_230.out _; refine viK ?_; refine blk_far ?_ NB226_230.out _; refine viK ?_; exact BK226.out) hb); have n1_ := Aside0.mk (blk_below (g := gb230) (o := .cells #[.int .i64 ((rd_T78 l0_4 x3_2).f0), .int .i64 ((rd_T78 l0_4 x3_2).f1), .int .i64 ((rd_T78 l0_4 x3_2).f2)] 78 (0, 0)) (by refine viK ?_; refine blk_put (cs := #[.int .i64 ((rd_T78 l0_4 x3_2).f0), .int .i64 ((rd_T78 l0_4 x3_2).f1), .int .i64 0]) ?_ 2 _ rfl; refine viK ?_; refine blk_put (cs := #[.int .i64 ((rd_T78 l0_4 x3_2).f0), .int .i64 0, .int .i64 0]) ?_ 1 _ rfl; refine viK ?_; refine blk_put (cs := #[.int .i64 0, .int .i64 0, .int .i64 0]) ?_ 0 _ rfl; refine viK ?_; exact BK230.out) hb); have n2_ := Aside0.mk (below_step viB hb); clear BK226; clear BK230; clear HB; have BK226 := n0_; have BK230 := n1_; have HB := n2_; clear n0_ n1_ n2_; (try clear hb); (try clear hb2); (try clear hk); (try clear hi); have hcz61_0 : w60.cell? ⟨gb226, 0, none⟩ = some (.int .i64 a0_0) := (blk_cell BK226.out 0).trans rfl; have hcz61_1 : w60.cell? ⟨gb226, 1, none⟩ = some (.int .i64 a0_1) := (blk_cell BK226.out 1).trans rfl; have hcz61_2 : w60.cell? ⟨gb226, 2, none⟩ = some (.int .i64 a0_2) := (blk_cell BK226.out 2).trans rfl; have hcz61_3 : w60.cell? ⟨gb226, 3, none⟩ = some (.int .i64 a0_3) := (blk_cell BK226.out 3).trans rfl; have hcz61_4 : w60.cell? ⟨gb226, 4, none⟩ = some (.slice (some ad229) l0_4.length c0_4) := (blk_cell BK226.out 4).trans rfl; have hfz61_0 := blk_frozen BK226.out 0; have hfz61_1 := blk_frozen BK226.out 1; have hfz61_2 := blk_frozen BK226.out 2; have hfz61_3 := blk_frozen BK226.out 3; have hfz61_4 := blk_frozen BK226.out 4; have hcz62_0 : w60.cell? ⟨gb230, 0, none⟩ = some (.int .i64 ((rd_T78 l0_4 x3_2).f0)) := (blk_cell BK230.out 0).trans rfl; have hcz62_1 : w60.cell? ⟨gb230, 1, none⟩ = some (.int .i64 ((rd_T78 l0_4 x3_2).f1)) := (blk_cell BK230.out 1).trans rfl; have hcz62_2 : w60.cell? ⟨gb230, 2, none⟩ = some (.int .i64 ((rd_T78 l0_4 x3_2).f2)) := (blk_cell BK230.out 2).trans rfl; have hfz62_0 := blk_frozen BK230.out 0; have hfz62_1 := blk_frozen BK230.out 1; have hfz62_2 := blk_frozen BK230.out 2) | (go_at_call 63; (with_reducible refine (stackyardref08_State.calls a0_0 a0_1 a0_2 a0_3 _ _ l0_4 ((rd_T78 l0_4 x3_2).f2) true _ ?side1 ?side2 A30.out).mono ?_); (case side1 => repeat (first | exact (Kd.C_below HR0_4.out HB.out) | (with_reducible refine Kd.C_alloc ?_ _) | (with_reducible refine Kd.C_drewN ?_ _) | (with_reducible refine Kd.C_drew ?_))); (case side2 => exact HC0_4.out); rintro e w63 ⟨rfl, hb⟩; have n0_ := Aside0.mk (blk_below (g := gb226) (o := .cells #[.int .i64 a0_0, .int .i64 a0_1, .int .i64 a0_2, .int .i64 a0_3, .slice (some ad229) l0_4.length c0_4] 31 (0, 0)) (viK BK226.out) hb); have n1_ := Aside0.mk (blk_below (g := gb230) (o := .cells #[.int .i64 ((rd_T78 l0_4 x3_2).f0), .int .i64 ((rd_T78 l0_4 x3_2).f1), .int .i64 ((rd_T78 l0_4 x3_2).f2)] 78 (0, 0)) (viK BK230.out) hb); have n2_ := Aside0.mk (below_step viB hb); clear BK226; clear BK230; clear HB; have BK226 := n0_; have BK230 := n1_; have HB := n2_; clear n0_ n1_ n2_; (try clear hb); (try clear hb2); (try clear hk); (try clear hi); have hcz64_0 : w63.cell? ⟨gb230, 0, none⟩ = some (.int .i64 ((rd_T78 l0_4 x3_2).f0)) := (blk_cell BK230.out 0).trans rfl; have hcz64_1 : w63.cell? ⟨gb230, 1, none⟩ = some (.int .i64 ((rd_T78 l0_4 x3_2).f1)) := (blk_cell BK230.out 1).trans rfl; have hcz64_2 : w63.cell? ⟨gb230, 2, none⟩ = some (.int .i64 ((rd_T78 l0_4 x3_2).f2)) := (blk_cell BK230.out 2).trans rfl; have hfz64_0 := blk_frozen BK230.out 0; have hfz64_1 := blk_frozen BK230.out 1; have hfz64_2 := blk_frozen BK230.out 2; have hcz65_0 : w63.cell? ⟨gb226, 0, none⟩ = some (.int .i64 a0_0) := (blk_cell BK226.out 0).trans rfl; have hcz65_1 : w63.cell? ⟨gb226, 1, none⟩ = some (.int .i64 a0_1) := (blk_cell BK226.out 1).trans rfl; have hcz65_2 : w63.cell? ⟨gb226, 2, none⟩ = some (.int .i64 a0_2) := (blk_cell BK226.out 2).trans rfl; have hcz65_3 : w63.cell? ⟨gb226, 3, none⟩ = some (.int .i64 a0_3) := (blk_cell BK226.out 3).trans rfl; have hcz65_4 : w63.cell? ⟨gb226, 4, none⟩ = some (.slice (some ad229) l0_4.length c0_4) := (blk_cell BK226.out 4).trans rfl; have hfz65_0 := blk_frozen BK226.out 0; have hfz65_1 := blk_frozen BK226.out 1; have hfz65_2 := blk_frozen BK226.out 2; have hfz65_3 := blk_frozen BK226.out 3; have hfz65_4 := blk_frozen BK226.out 4))
                          go_roundg k2
                          case measure => have := HJ4.out; have := HK2.out; omega
                          case rel => exact ⟨(wrap64 (x3_2 + 1)), (by first | rfl | (simp; done) | (simp [*]; done)), H', ⟨by have := HJ4.out; have := HK2.out; omega⟩, ⟨viK BK226.out⟩, ⟨viB⟩⟩
                    · replace c31 := Bool.eq_false_iff.mpr c31
                      subst c31
                      have H1 : (some 81) = some r := by rw [if_neg (show ¬ (false = true) by decide)] at H; exact H
                      clear H
                      have H := H1
                      clear H1
                      obtain rfl := Option.some.inj H
                      have hcz66_0 : wr.cell? ⟨gb226, 0, none⟩ = some (.int .i64 a0_0) := (blk_cell BK226.out 0).trans rfl
                      have hcz66_1 : wr.cell? ⟨gb226, 1, none⟩ = some (.int .i64 a0_1) := (blk_cell BK226.out 1).trans rfl
                      have hcz66_2 : wr.cell? ⟨gb226, 2, none⟩ = some (.int .i64 a0_2) := (blk_cell BK226.out 2).trans rfl
                      have hcz66_3 : wr.cell? ⟨gb226, 3, none⟩ = some (.int .i64 a0_3) := (blk_cell BK226.out 3).trans rfl
                      have hcz66_4 : wr.cell? ⟨gb226, 4, none⟩ = some (.slice A0_4 l0_4.length c0_4) := (blk_cell BK226.out 4).trans rfl
                      have hfz66_0 := blk_frozen BK226.out 0
                      have hfz66_1 := blk_frozen BK226.out 1
                      have hfz66_2 := blk_frozen BK226.out 2
                      have hfz66_3 := blk_frozen BK226.out 3
                      have hfz66_4 := blk_frozen BK226.out 4
                      have p229 : 0 ≤ (x3_2 : Int) := viA
                      have q229 : x3_2 < (l0_4.length : Int) := viA
                      obtain ⟨ad229, e229, hx229_0, hx229_1, hx229_2⟩ := at_T78 HR0_4.out x3_2 p229 q229
                      cases e229
                      replace hx229_0 := (HB.out.cell (World.block_lt_of_cell? w _ hx229_0)).trans hx229_0
                      replace hx229_1 := (HB.out.cell (World.block_lt_of_cell? w _ hx229_1)).trans hx229_1
                      replace hx229_2 := (HB.out.cell (World.block_lt_of_cell? w _ hx229_2)).trans hx229_2
                      replace p229 := eq_true p229
                      replace q229 := eq_true q229
                      go_wp2_with (first | ((with_reducible refine gate_dst (N := 4) rfl ?_); refine box_event ?hg (N := 4) ?hd (cs := #[.int .i64 0, .int .i64 0, .int .i64 0]) (t := 78) ?hr ?_; (case hd => rfl); (case hg => rfl); (case hr => first | (go_simp; done) | (go_simp; rfl)); intro gb230 hg w67 hbox hb; have n0_ := Aside0.mk (blk_below (g := gb226) (o := .cells #[.int .i64 a0_0, .int .i64 a0_1, .int .i64 a0_2, .int .i64 a0_3, .slice (some ad229) l0_4.length c0_4] 31 (0, 0)) (viK BK226.out) hb); have n1_ := Aside0.mk (below_step viB hb); have n2_ := Aside0.mk (hbox); have n3_ := Aside0.mk ((by rw [hg]; exact (below_size viB) : w.heap.size ≤ gb230)); have n4_ := Aside0.mk ((by rw [hg]; exact (below_size viB) : w.heap.size ≤ gb230)); have n5_ := Aside0.mk ((by rw [hg]; exact Nat.ne_of_lt (blk_lt (g := gb226) (o := .cells #[.int .i64 a0_0, .int .i64 a0_1, .int .i64 a0_2, .int .i64 a0_3, .slice (some ad229) l0_4.length c0_4] 31 (0, 0)) (viK BK226.out)) : gb226 ≠ gb230)); have n6_ := Aside0.mk ((by rw [hg]; exact Nat.ne_of_gt (blk_lt (g := gb226) (o := .cells #[.int .i64 a0_0, .int .i64 a0_1, .int .i64 a0_2, .int .i64 a0_3, .slice (some ad229) l0_4.length c0_4] 31 (0, 0)) (viK BK226.out)) : gb230 ≠ gb226)); clear BK226; clear HB; have BK226 := n0_; have HB := n1_; have BK230 := n2_; have GW230 := n3_; have GE230 := n4_; have NB226_230 := n5_; have NB230_226 := n6_; clear n0_ n1_ n2_ n3_ n4_ n5_ n6_; clear hb hbox hg; have hnb68 := NB230_226.out; have hnc68 := NB226_230.out; have hcz69_0 : w67.cell? ⟨gb230, 0, none⟩ = some (.int .i64 0) := (blk_cell BK230.out 0).trans rfl; have hcz69_1 : w67.cell? ⟨gb230, 1, none⟩ = some (.int .i64 0) := (blk_cell BK230.out 1).trans rfl; have hcz69_2 : w67.cell? ⟨gb230, 2, none⟩ = some (.int .i64 0) := (blk_cell BK230.out 2).trans rfl; have hfz69_0 := blk_frozen BK230.out 0; have hfz69_1 := blk_frozen BK230.out 1; have hfz69_2 := blk_frozen BK230.out 2; have hcz70_0 : w67.cell? ⟨gb226, 0, none⟩ = some (.int .i64 a0_0) := (blk_cell BK226.out 0).trans rfl; have hcz70_1 : w67.cell? ⟨gb226, 1, none⟩ = some (.int .i64 a0_1) := (blk_cell BK226.out 1).trans rfl; have hcz70_2 : w67.cell? ⟨gb226, 2, none⟩ = some (.int .i64 a0_2) := (blk_cell BK226.out 2).trans rfl; have hcz70_3 : w67.cell? ⟨gb226, 3, none⟩ = some (.int .i64 a0_3) := (blk_cell BK226.out 3).trans rfl; have hcz70_4 : w67.cell? ⟨gb226, 4, none⟩ = some (.slice (some ad229) l0_4.length c0_4) := (blk_cell BK226.out 4).trans rfl; have hfz70_0 := blk_frozen BK226.out 0; have hfz70_1 := blk_frozen BK226.out 1; have hfz70_2 := blk_frozen BK226.out 2; have hfz70_3 := blk_frozen BK226.out 3; have hfz70_4 := blk_frozen BK226.out 4) | ((with_reducible refine gate_callee (f := 63) rfl ?_); refine goesL_ (some 56) rfl rfl Try.func63 (by kernel_rfl) rfl #[.agg #[.int .i64 a0_0, .int .i64 a0_1, .int .i64 a0_2, .int .i64 a0_3, .slice (some ad229) l0_4.length c0_4], .int .i64 ((rd_T78 l0_4 x3_2).f0)] rfl (by (try simp only [List.map_toArray, List.map_cons, List.map_nil]); first | done | rfl | (simp only [List.length_drop, List.length_take]; rfl)) ?_; (with_reducible refine (stackyardref08_State.calls a0_0 a0_1 a0_2 a0_3 _ _ l0_4 ((rd_T78 l0_4 x3_2).f0) true _ ?side1 ?side2 A28.out).mono ?_); (case side1 => exact Kd.C_below HR0_4.out viB); (case side2 => exact HC0_4.out); rintro e w71 ⟨rfl, hb⟩; refine ⟨_, rfl, ?_⟩; have n0_ := Aside0.mk (blk_below (g := gb226) (o := .cells #[.int .i64 a0_0, .int .i64 a0_1, .int .i64 a0_2, .int .i64 a0_3, .slice (some ad229) l0_4.length c0_4] 31 (0, 0)) (by refine viK ?_; refine blk_far ?_ NB226_230.out _; refine viK ?_; refine blk_far ?_ NB226_230.out _; refine viK ?_; refine blk_far ?_ NB226_230.out _; refine viK ?_; exact BK226.out) hb); have n1_ := Aside0.mk (blk_below (g := gb230) (o := .cells #[.int .i64 ((rd_T78 l0_4 x3_2).f0), .int .i64 ((rd_T78 l0_4 x3_2).f1), .int .i64 ((rd_T78 l0_4 x3_2).f2)] 78 (0, 0)) (by refine viK ?_; refine blk_put (cs := #[.int .i64 ((rd_T78 l0_4 x3_2).f0), .int .i64 ((rd_T78 l0_4 x3_2).f1), .int .i64 0]) ?_ 2 _ rfl; refine viK ?_; refine blk_put (cs := #[.int .i64 ((rd_T78 l0_4 x3_2).f0), .int .i64 0, .int .i64 0]) ?_ 1 _ rfl; refine viK ?_; refine blk_put (cs := #[.int .i64 0, .int .i64 0, .int .i64 0]) ?_ 0 _ rfl; refine viK ?_; exact BK230.out) hb); have n2_ := Aside0.mk (below_step viB hb); clear BK226; clear BK230; clear HB; have BK226 := n0_; have BK230 := n1_; have HB := n2_; clear n0_ n1_ n2_; (try clear hb); (try clear hb2); (try clear hk); (try clear hi); have hcz72_0 : w71.cell? ⟨gb226, 0, none⟩ = some (.int .i64 a0_0) := (blk_cell BK226.out 0).trans rfl; have hcz72_1 : w71.cell? ⟨gb226, 1, none⟩ = some (.int .i64 a0_1) := (blk_cell BK226.out 1).trans rfl; have hcz72_2 : w71.cell? ⟨gb226, 2, none⟩ = some (.int .i64 a0_2) := (blk_cell BK226.out 2).trans rfl; have hcz72_3 : w71.cell? ⟨gb226, 3, none⟩ = some (.int .i64 a0_3) := (blk_cell BK226.out 3).trans rfl; have hcz72_4 : w71.cell? ⟨gb226, 4, none⟩ = some (.slice (some ad229) l0_4.length c0_4) := (blk_cell BK226.out 4).trans rfl; have hfz72_0 := blk_frozen BK226.out 0; have hfz72_1 := blk_frozen BK226.out 1; have hfz72_2 := blk_frozen BK226.out 2; have hfz72_3 := blk_frozen BK226.out 3; have hfz72_4 := blk_frozen BK226.out 4; have hcz73_0 : w71.cell? ⟨gb230, 0, none⟩ = some (.int .i64 ((rd_T78 l0_4 x3_2).f0)) := (blk_cell BK230.out 0).trans rfl; have hcz73_1 : w71.cell? ⟨gb230, 1, none⟩ = some (.int .i64 ((rd_T78 l0_4 x3_2).f1)) := (blk_cell BK230.out 1).trans rfl; have hcz73_2 : w71.cell? ⟨gb230, 2, none⟩ = some (.int .i64 ((rd_T78 l0_4 x3_2).f2)) := (blk_cell BK230.out 2).trans rfl; have hfz73_0 := blk_frozen BK230.out 0; have hfz73_1 := blk_frozen BK230.out 1; have hfz73_2 := blk_frozen BK230.out 2) | (go_at_call 63; (with_reducible refine (stackyardref08_State.calls a0_0 a0_1 a0_2 a0_3 _ _ l0_4 ((rd_T78 l0_4 x3_2).f2) false _ ?side1 ?side2 A30.out).mono ?_); (case side1 => repeat (first | exact (Kd.C_below HR0_4.out HB.out) | (with_reducible refine Kd.C_alloc ?_ _) | (with_reducible refine Kd.C_drewN ?_ _) | (with_reducible refine Kd.C_drew ?_))); (case side2 => exact HC0_4.out); rintro e w74 ⟨rfl, hb⟩; have n0_ := Aside0.mk (blk_below (g := gb226) (o := .cells #[.int .i64 a0_0, .int .i64 a0_1, .int .i64 a0_2, .int .i64 a0_3, .slice (some ad229) l0_4.length c0_4] 31 (0, 0)) (viK BK226.out) hb); have n1_ := Aside0.mk (blk_below (g := gb230) (o := .cells #[.int .i64 ((rd_T78 l0_4 x3_2).f0), .int .i64 ((rd_T78 l0_4 x3_2).f1), .int .i64 ((rd_T78 l0_4 x3_2).f2)] 78 (0, 0)) (viK BK230.out) hb); have n2_ := Aside0.mk (below_step viB hb); clear BK226; clear BK230; clear HB; have BK226 := n0_; have BK230 := n1_; have HB := n2_; clear n0_ n1_ n2_; (try clear hb); (try clear hb2); (try clear hk); (try clear hi)))
                      go_ret
                      exact ⟨by first | rfl | (simp [errW_none, errW_some] <;> rfl) | (simp [*, errW_none, errW_some] <;> rfl), viB⟩
                  · replace c29 := Bool.eq_false_iff.mpr c29
                    subst c29
                    have H1 : (some 81) = some r := by rw [if_neg (show ¬ (false = true) by decide)] at H; exact H
                    clear H
                    have H := H1
                    clear H1
                    obtain rfl := Option.some.inj H
                    have hcz75_0 : wr.cell? ⟨gb226, 0, none⟩ = some (.int .i64 a0_0) := (blk_cell BK226.out 0).trans rfl
                    have hcz75_1 : wr.cell? ⟨gb226, 1, none⟩ = some (.int .i64 a0_1) := (blk_cell BK226.out 1).trans rfl
                    have hcz75_2 : wr.cell? ⟨gb226, 2, none⟩ = some (.int .i64 a0_2) := (blk_cell BK226.out 2).trans rfl
                    have hcz75_3 : wr.cell? ⟨gb226, 3, none⟩ = some (.int .i64 a0_3) := (blk_cell BK226.out 3).trans rfl
                    have hcz75_4 : wr.cell? ⟨gb226, 4, none⟩ = some (.slice A0_4 l0_4.length c0_4) := (blk_cell BK226.out 4).trans rfl
                    have hfz75_0 := blk_frozen BK226.out 0
                    have hfz75_1 := blk_frozen BK226.out 1
                    have hfz75_2 := blk_frozen BK226.out 2
                    have hfz75_3 := blk_frozen BK226.out 3
                    have hfz75_4 := blk_frozen BK226.out 4
                    have p229 : 0 ≤ (x3_2 : Int) := viA
                    have q229 : x3_2 < (l0_4.length : Int) := viA
                    obtain ⟨ad229, e229, hx229_0, hx229_1, hx229_2⟩ := at_T78 HR0_4.out x3_2 p229 q229
                    cases e229
                    replace hx229_0 := (HB.out.cell (World.block_lt_of_cell? w _ hx229_0)).trans hx229_0
                    replace hx229_1 := (HB.out.cell (World.block_lt_of_cell? w _ hx229_1)).trans hx229_1
                    replace hx229_2 := (HB.out.cell (World.block_lt_of_cell? w _ hx229_2)).trans hx229_2
                    replace p229 := eq_true p229
                    replace q229 := eq_true q229
                    go_wp2_with (first | ((with_reducible refine gate_dst (N := 4) rfl ?_); refine box_event ?hg (N := 4) ?hd (cs := #[.int .i64 0, .int .i64 0, .int .i64 0]) (t := 78) ?hr ?_; (case hd => rfl); (case hg => rfl); (case hr => first | (go_simp; done) | (go_simp; rfl)); intro gb230 hg w76 hbox hb; have n0_ := Aside0.mk (blk_below (g := gb226) (o := .cells #[.int .i64 a0_0, .int .i64 a0_1, .int .i64 a0_2, .int .i64 a0_3, .slice (some ad229) l0_4.length c0_4] 31 (0, 0)) (viK BK226.out) hb); have n1_ := Aside0.mk (below_step viB hb); have n2_ := Aside0.mk (hbox); have n3_ := Aside0.mk ((by rw [hg]; exact (below_size viB) : w.heap.size ≤ gb230)); have n4_ := Aside0.mk ((by rw [hg]; exact (below_size viB) : w.heap.size ≤ gb230)); have n5_ := Aside0.mk ((by rw [hg]; exact Nat.ne_of_lt (blk_lt (g := gb226) (o := .cells #[.int .i64 a0_0, .int .i64 a0_1, .int .i64 a0_2, .int .i64 a0_3, .slice (some ad229) l0_4.length c0_4] 31 (0, 0)) (viK BK226.out)) : gb226 ≠ gb230)); have n6_ := Aside0.mk ((by rw [hg]; exact Nat.ne_of_gt (blk_lt (g := gb226) (o := .cells #[.int .i64 a0_0, .int .i64 a0_1, .int .i64 a0_2, .int .i64 a0_3, .slice (some ad229) l0_4.length c0_4] 31 (0, 0)) (viK BK226.out)) : gb230 ≠ gb226)); clear BK226; clear HB; have BK226 := n0_; have HB := n1_; have BK230 := n2_; have GW230 := n3_; have GE230 := n4_; have NB226_230 := n5_; have NB230_226 := n6_; clear n0_ n1_ n2_ n3_ n4_ n5_ n6_; clear hb hbox hg; have hnb77 := NB230_226.out; have hnc77 := NB226_230.out; have hcz78_0 : w76.cell? ⟨gb230, 0, none⟩ = some (.int .i64 0) := (blk_cell BK230.out 0).trans rfl; have hcz78_1 : w76.cell? ⟨gb230, 1, none⟩ = some (.int .i64 0) := (blk_cell BK230.out 1).trans rfl; have hcz78_2 : w76.cell? ⟨gb230, 2, none⟩ = some (.int .i64 0) := (blk_cell BK230.out 2).trans rfl; have hfz78_0 := blk_frozen BK230.out 0; have hfz78_1 := blk_frozen BK230.out 1; have hfz78_2 := blk_frozen BK230.out 2; have hcz79_0 : w76.cell? ⟨gb226, 0, none⟩ = some (.int .i64 a0_0) := (blk_cell BK226.out 0).trans rfl; have hcz79_1 : w76.cell? ⟨gb226, 1, none⟩ = some (.int .i64 a0_1) := (blk_cell BK226.out 1).trans rfl; have hcz79_2 : w76.cell? ⟨gb226, 2, none⟩ = some (.int .i64 a0_2) := (blk_cell BK226.out 2).trans rfl; have hcz79_3 : w76.cell? ⟨gb226, 3, none⟩ = some (.int .i64 a0_3) := (blk_cell BK226.out 3).trans rfl; have hcz79_4 : w76.cell? ⟨gb226, 4, none⟩ = some (.slice (some ad229) l0_4.length c0_4) := (blk_cell BK226.out 4).trans rfl; have hfz79_0 := blk_frozen BK226.out 0; have hfz79_1 := blk_frozen BK226.out 1; have hfz79_2 := blk_frozen BK226.out 2; have hfz79_3 := blk_frozen BK226.out 3; have hfz79_4 := blk_frozen BK226.out 4) | ((with_reducible refine gate_callee (f := 63) rfl ?_); refine goesL_ (some 56) rfl rfl Try.func63 (by kernel_rfl) rfl #[.agg #[.int .i64 a0_0, .int .i64 a0_1, .int .i64 a0_2, .int .i64 a0_3, .slice (some ad229) l0_4.length c0_4], .int .i64 ((rd_T78 l0_4 x3_2).f0)] rfl (by (try simp only [List.map_toArray, List.map_cons, List.map_nil]); first | done | rfl | (simp only [List.length_drop, List.length_take]; rfl)) ?_; (with_reducible refine (stackyardref08_State.calls a0_0 a0_1 a0_2 a0_3 _ _ l0_4 ((rd_T78 l0_4 x3_2).f0) false _ ?side1 ?side2 A28.out).mono ?_); (case side1 => exact Kd.C_below HR0_4.out viB); (case side2 => exact HC0_4.out); rintro e w80 ⟨rfl, hb⟩; refine ⟨_, rfl, ?_⟩; have n0_ := Aside0.mk (blk_below (g := gb226) (o := .cells #[.int .i64 a0_0, .int .i64 a0_1, .int .i64 a0_2, .int .i64 a0_3, .slice (some ad229) l0_4.length c0_4] 31 (0, 0)) (by refine viK ?_; refine blk_far ?_ NB226_230.out _; refine viK ?_; refine blk_far ?_ NB226_230.out _; refine viK ?_; refine blk_far ?_ NB226_230.out _; refine viK ?_; exact BK226.out) hb); have n1_ := Aside0.mk (blk_below (g := gb230) (o := .cells #[.int .i64 ((rd_T78 l0_4 x3_2).f0), .int .i64 ((rd_T78 l0_4 x3_2).f1), .int .i64 ((rd_T78 l0_4 x3_2).f2)] 78 (0, 0)) (by refine viK ?_; refine blk_put (cs := #[.int .i64 ((rd_T78 l0_4 x3_2).f0), .int .i64 ((rd_T78 l0_4 x3_2).f1), .int .i64 0]) ?_ 2 _ rfl; refine viK ?_; refine blk_put (cs := #[.int .i64 ((rd_T78 l0_4 x3_2).f0), .int .i64 0, .int .i64 0]) ?_ 1 _ rfl; refine viK ?_; refine blk_put (cs := #[.int .i64 0, .int .i64 0, .int .i64 0]) ?_ 0 _ rfl; refine viK ?_; exact BK230.out) hb); have n2_ := Aside0.mk (below_step viB hb); clear BK226; clear BK230; clear HB; have BK226 := n0_; have BK230 := n1_; have HB := n2_; clear n0_ n1_ n2_; (try clear hb); (try clear hb2); (try clear hk); (try clear hi)))
                    go_ret
                    exact ⟨by first | rfl | (simp [errW_none, errW_some] <;> rfl) | (simp [*, errW_none, errW_some] <;> rfl), viB⟩
                · rw [if_neg c27] at H
                  exact absurd H (by simp)
              · rw [if_neg c26] at H
                have c26b0 : decide (x3_2 < (l0_4.length : Int)) = false := decide_eq_false c26
                clear c26
                obtain rfl := Option.some.inj H
                have hcz81_0 : wr.cell? ⟨gb226, 0, none⟩ = some (.int .i64 a0_0) := (blk_cell BK226.out 0).trans rfl
                have hcz81_1 : wr.cell? ⟨gb226, 1, none⟩ = some (.int .i64 a0_1) := (blk_cell BK226.out 1).trans rfl
                have hcz81_2 : wr.cell? ⟨gb226, 2, none⟩ = some (.int .i64 a0_2) := (blk_cell BK226.out 2).trans rfl
                have hcz81_3 : wr.cell? ⟨gb226, 3, none⟩ = some (.int .i64 a0_3) := (blk_cell BK226.out 3).trans rfl
                have hcz81_4 : wr.cell? ⟨gb226, 4, none⟩ = some (.slice A0_4 l0_4.length c0_4) := (blk_cell BK226.out 4).trans rfl
                have hfz81_0 := blk_frozen BK226.out 0
                have hfz81_1 := blk_frozen BK226.out 1
                have hfz81_2 := blk_frozen BK226.out 2
                have hfz81_3 := blk_frozen BK226.out 3
                have hfz81_4 := blk_frozen BK226.out 4
                go_wp2
                go_ret
                exact ⟨by first | rfl | (simp [errW_none, errW_some] <;> rfl) | (simp [*, errW_none, errW_some] <;> rfl), viB⟩
end Go.Proofs.Ytapinbmkjkbkkaa.Lb
