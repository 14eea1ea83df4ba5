import Derived.Test.YtapinbmkjkbkkaaDfVi
namespace Go.Proofs.Ytapinbmkjkbkkaa.Lb
open Go.RowKit Go.Proofs.YtapinbmkjkbkkaaW.PrintWords Go.Proofs.YtapinbmkjkbkkaaW.PrintLast Go.Proofs.YtapinbmkjkbkkaaW.PrintMore
attribute [local go_sem] max2_int min2_int max_two min_two max_three min_three max_four min_four
set_option linter.unusedVariables false
set_option linter.unusedSimpArgs false
private theorem viB {P : Prop} (h : P := by repeat (first | (with_reducible first | exact HB.out | apply below_alloc | apply pw_below_drewN | apply below_drew1 | refine below_set ?_ GE101.out | refine below_set ?_ GE103.out) | exact HB.out)) : P := h
mutual
def regex_measure.l0 : Nat → Int → Int → List (S25) → Int → Int → Option (Int × Bool)
  | 0, _, _, _, _, _ => none
  | k + 1, x1, x6, x14, x15, x16 => if x16 < x15 then (if 0 ≤ x16 then (if x16 < (x14.length : Int) then ((regex_measure.f k ((rd_T25 x14 x16).f0) ((rd_T25 x14 x16).f1) ((rd_T25 x14 x16).f2) (wrap64 (x1 + 1))).bind fun bt104 => (if bt104.2 = true then (if (wrap64 (x6 + bt104.1)) > 500 then (some (wrap64 (x6 + bt104.1), false)) else (regex_measure.l0 k x1 (wrap64 (x6 + bt104.1)) x14 x15 (wrap64 (x16 + 1)))) else (some (wrap64 (x6 + bt104.1), false)))) else (none)) else (none)) else (some (x6, true))
def regex_measure.f : Nat → Int → ByteArray → List (S25) → Int → Option (Int × Bool)
  | 0, _, _, _, _ => none
  | k + 1, a0_0, a0_1, l0_2, a1 => if a1 > 50 then (some (1, false)) else (regex_measure.l0 k a1 1 l0_2 (l0_2.length : Int) 0)
end
theorem regex_measure.mono_l : ∀ k, (∀ y0 y1 y2 y3, LeO (regex_measure.f k y0 y1 y2 y3) (regex_measure.f (k + 1) y0 y1 y2 y3)) ∧ (∀ y0 y1 y2 y3 y4, LeO (regex_measure.l0 k y0 y1 y2 y3 y4) (regex_measure.l0 (k + 1) y0 y1 y2 y3 y4))
  | 0 => ⟨fun _ _ _ _ r h => by simp [regex_measure.f] at h, fun _ _ _ _ _ r h => by simp [regex_measure.l0] at h⟩
  | k + 1 => by
    obtain ⟨ih0, ih1⟩ := regex_measure.mono_l k
    refine ⟨?_, ?_⟩
    · intro y0 y1 y2 y3
      unfold regex_measure.f
      repeat' first
      | (with_reducible exact ih0 _ _ _ _)
      | (with_reducible exact ih1 _ _ _ _ _)
      | (with_reducible exact LeO.refl _)
      | (with_reducible exact LeO.none _)
      | (with_reducible refine LeO.ite ?_ ?_)
      | (with_reducible refine LeO.bind ?_ (fun _ => ?_))
      | exact ih0 _ _ _ _
      | exact ih1 _ _ _ _ _
      | exact LeO.none _
      | refine LeO.ite ?_ ?_
      | refine LeO.bind ?_ (fun _ => ?_)
    · intro y0 y1 y2 y3 y4
      unfold regex_measure.l0
      repeat' first
      | (with_reducible exact ih0 _ _ _ _)
      | (with_reducible exact ih1 _ _ _ _ _)
      | (with_reducible exact LeO.refl _)
      | (with_reducible exact LeO.none _)
      | (with_reducible refine LeO.ite ?_ ?_)
      | (with_reducible refine LeO.bind ?_ (fun _ => ?_))
      | exact ih0 _ _ _ _
      | exact ih1 _ _ _ _ _
      | exact LeO.none _
      | refine LeO.ite ?_ ?_
      | refine LeO.bind ?_ (fun _ => ?_)
theorem regex_measure.mono : ∀ a0 a1 a2 a3 k, LeO (regex_measure.f k a0 a1 a2 a3) (regex_measure.f (k + 1) a0 a1 a2 a3) := by
  intro a0 a1 a2 a3 k
  obtain ⟨ih0, ih1⟩ := regex_measure.mono_l k
  exact ih0 a0 a1 a2 a3
set_option maxHeartbeats 8000000 in
set_option maxRecDepth 100000 in
theorem regex_measure.calls (k : Nat) : ∀ (a0_0 : Int) (a0_1 : ByteArray) (A0_2 : Option Addr) (c0_2 : Nat) (l0_2 : List (S25)) (a1 : Int) (r1 : Int) (r2 : Bool) (w : World) (hr0_2 : Kd.C k25 w A0_2 l0_2.length l0_2) (hc0_2 : l0_2.length ≤ c0_2) (h : regex_measure.f k a0_0 a0_1 l0_2 a1 = some (r1, r2)),
    Calls Try.prog 64 #[.agg #[.int .i64 a0_0, .string a0_1, .slice A0_2 l0_2.length c0_2], .int .i64 a1] w fun e w' => e = .returned (.tuple #[.int .i64 r1, .bool r2]) ∧ Below w.heap.size w w' := by
  induction k using Nat.strongRecOn with
  | _ k ih =>
  intro a0_0 a0_1 A0_2 c0_2 l0_2 a1 r1 r2 w hr0_2 hc0_2 h
  cases k with
  | zero => exact absurd h (by simp [regex_measure.f])
  | succ k =>
  simp only [regex_measure.f] at h
  have hu25 := Try.underlying25
  have HR0_2 := Aside0.mk hr0_2
  have HC0_2 := Aside0.mk hc0_2
  clear hr0_2 hc0_2
  have HB := Aside0.mk (Below.refl w.heap.size w)
  have H : (if a1 > 50 then (some (1, false)) else (regex_measure.l0 k a1 1 l0_2 (l0_2.length : Int) 0)) = some (r1, r2) := h
  clear h
  by_cases c3 : a1 > 50
  · rw [if_pos c3] at H
    have c3b0 : decide (50 < a1) = true := decide_eq_true c3
    clear c3
    simp only [Option.some.injEq, Prod.mk.injEq] at H
    obtain ⟨rfl, rfl⟩ := H
    go_enter Try.func64, Try.ntmps64
    go_wp2_with (first | ((with_reducible refine gate_dst (N := 2) rfl ?_); refine box_event ?hg (N := 2) ?hd (cs := #[.int .i64 a0_0, .string a0_1, .slice A0_2 l0_2.length c0_2]) (t := 25) ?hr ?_; (case hd => rfl); (case hg => rfl); (case hr => first | (go_simp; done) | (go_simp; rfl)); intro gb101 hg w4 hbox hb; have n0_ := Aside0.mk (below_step viB hb); have n1_ := Aside0.mk (hbox); have n2_ := Aside0.mk ((by rw [hg]; exact (below_size viB) : w.heap.size ≤ gb101)); have n3_ := Aside0.mk ((by rw [hg]; exact (below_size viB) : w.heap.size ≤ gb101)); clear HB; have HB := n0_; have BK101 := n1_; have GW101 := n2_; have GE101 := n3_; clear n0_ n1_ n2_ n3_; clear hb hbox hg))
    go_ret2
    exact ⟨by first | rfl | (simp [errW_none, errW_some] <;> rfl) | (simp [*, errW_none, errW_some] <;> rfl), viB⟩
  · rw [if_neg c3] at H
    have c3b0 : decide (50 < a1) = false := decide_eq_false c3
    clear c3
    have H' := Aside0.mk H
    clear H
    go_enter Try.func64, Try.ntmps64
    go_wp2_with (first | ((with_reducible refine gate_dst (N := 2) rfl ?_); refine box_event ?hg (N := 2) ?hd (cs := #[.int .i64 a0_0, .string a0_1, .slice A0_2 l0_2.length c0_2]) (t := 25) ?hr ?_; (case hd => rfl); (case hg => rfl); (case hr => first | (go_simp; done) | (go_simp; rfl)); intro gb101 hg w5 hbox hb; have n0_ := Aside0.mk (below_step viB hb); have n1_ := Aside0.mk (hbox); have n2_ := Aside0.mk ((by rw [hg]; exact (below_size viB) : w.heap.size ≤ gb101)); have n3_ := Aside0.mk ((by rw [hg]; exact (below_size viB) : w.heap.size ≤ gb101)); clear HB; have HB := n0_; have BK101 := n1_; have GW101 := n2_; have GE101 := n3_; clear n0_ n1_ n2_ n3_; clear hb hbox hg; have hcz6_0 : w5.cell? ⟨gb101, 0, none⟩ = some (.int .i64 a0_0) := (blk_cell BK101.out 0).trans rfl; have hcz6_1 : w5.cell? ⟨gb101, 1, none⟩ = some (.string a0_1) := (blk_cell BK101.out 1).trans rfl; have hcz6_2 : w5.cell? ⟨gb101, 2, none⟩ = some (.slice A0_2 l0_2.length c0_2) := (blk_cell BK101.out 2).trans rfl; have hfz6_0 := blk_frozen BK101.out 0; have hfz6_1 := blk_frozen BK101.out 1; have hfz6_2 := blk_frozen BK101.out 2))
    go_loopg [6, 16] k (fun kq v6 v16 w' => ∃ (x6_1 : Int) (x16_1 : Int), v6 = .int .i64 x6_1 ∧ v16 = .int .i64 x16_1 ∧ Aside0 (regex_measure.l0 kq a1 x6_1 l0_2 (l0_2.length : Int) x16_1 = some (r1, r2)) ∧ Aside0 (kq ≤ k) ∧ Aside0 (w'.heap[gb101]? = some (.cells #[.int .i64 a0_0, .string a0_1, (.slice A0_2 l0_2.length c0_2)] 25 (0, 0))) ∧ Aside0 (Below w.heap.size w w'))
    case atStart => exact ⟨(1), (0), (by first | rfl | (simp; done) | (simp [*]; done)), (by first | rfl | (simp; done) | (simp [*]; done)), H', ⟨Nat.le_refl _⟩, ⟨viK BK101.out⟩, ⟨viB⟩⟩
    case round =>
      clear H'
      try clear p2
      try clear c3
      try clear c3b0
      try clear c6
      try clear hcz6_0
      try clear hcz6_1
      try clear hcz6_2
      try clear hfz6_0
      try clear hfz6_1
      try clear hfz6_2
      obtain ⟨x6_1, x16_1, rfl, rfl, HA, HK1, BK101, HB⟩ := hrel
      cases gk with
      | zero => exact absurd HA.out (by simp [regex_measure.l0])
      | succ k1 =>
        have H := HA.out
        clear HA
        simp only [regex_measure.l0] at H
        by_cases c7 : x16_1 < (l0_2.length : Int)
        · rw [if_pos c7] at H
          have c7b0 : decide (x16_1 < (l0_2.length : Int)) = true := decide_eq_true c7
          clear c7
          by_cases c8 : 0 ≤ x16_1
          · rw [if_pos c8] at H
            have c8b0 : decide (0 ≤ x16_1) = true := decide_eq_true c8
            clear c8
            by_cases c9 : x16_1 < (l0_2.length : Int)
            · rw [if_pos c9] at H
              have c9b0 : decide (x16_1 < (l0_2.length : Int)) = true := decide_eq_true c9
              clear c9
              replace H := Option.bind_eq_some_iff.mp H
              obtain ⟨⟨t104, t105⟩, A100, H⟩ := H
              replace H : (if t105 = true then (if (wrap64 (x6_1 + t104)) > 500 then (some (wrap64 (x6_1 + t104), false)) else (regex_measure.l0 k1 a1 (wrap64 (x6_1 + t104)) l0_2 (l0_2.length : Int) (wrap64 (x16_1 + 1)))) else (some (wrap64 (x6_1 + t104), false))) = some (r1, r2) := H
              have A10 := Aside0.mk A100
              clear A100
              by_cases c11 : t105 = true
              · subst c11
                have H1 : (if (wrap64 (x6_1 + t104)) > 500 then (some (wrap64 (x6_1 + t104), false)) else (regex_measure.l0 k1 a1 (wrap64 (x6_1 + t104)) l0_2 (l0_2.length : Int) (wrap64 (x16_1 + 1)))) = some (r1, r2) := by rw [if_pos rfl] at H; exact H
                clear H
                have H := H1
                clear H1
                by_cases c12 : (wrap64 (x6_1 + t104)) > 500
                · rw [if_pos c12] at H
                  have c12b0 : decide (500 < (wrap64 (x6_1 + t104))) = true := decide_eq_true c12
                  clear c12
                  simp only [Option.some.injEq, Prod.mk.injEq] at H
                  obtain ⟨rfl, rfl⟩ := H
                  have p102 : 0 ≤ (x16_1 : Int) := viA
                  have q102 : x16_1 < (l0_2.length : Int) := viA
                  obtain ⟨ad102, A102_2, c102_2, e102, hx102_0, hx102_1, hx102_2, hl102_2, hi102_2⟩ := at_T25 HR0_2.out x16_1 p102 q102
                  cases e102
                  replace hx102_0 := (HB.out.cell (World.block_lt_of_cell? w _ hx102_0)).trans hx102_0
                  replace hx102_1 := (HB.out.cell (World.block_lt_of_cell? w _ hx102_1)).trans hx102_1
                  replace hx102_2 := (HB.out.cell (World.block_lt_of_cell? w _ hx102_2)).trans hx102_2
                  have HR102_2 := Aside0.mk hi102_2
                  have HC102_2 := Aside0.mk hl102_2
                  clear hi102_2 hl102_2
                  replace p102 := eq_true p102
                  replace q102 := eq_true q102
                  go_wp2_with (first | ((with_reducible refine gate_dst (N := 8) rfl ?_); refine box_event ?hg (N := 8) ?hd (cs := #[.int .i64 0, .string (⟨#[]⟩ : ByteArray), .slice none 0 0]) (t := 25) ?hr ?_; (case hd => rfl); (case hg => rfl); (case hr => first | (go_simp; done) | (go_simp; rfl)); intro gb103 hg w13 hbox hb; have n0_ := Aside0.mk (blk_below (g := gb101) (o := .cells #[.int .i64 a0_0, .string a0_1, .slice (some ad102) l0_2.length c0_2] 25 (0, 0)) (viK BK101.out) hb); have n1_ := Aside0.mk (below_step viB hb); have n2_ := Aside0.mk (hbox); have n3_ := Aside0.mk ((by rw [hg]; exact (below_size viB) : w.heap.size ≤ gb103)); have n4_ := Aside0.mk ((by rw [hg]; exact (below_size viB) : w.heap.size ≤ gb103)); have n5_ := Aside0.mk ((by rw [hg]; exact Nat.ne_of_lt (blk_lt (g := gb101) (o := .cells #[.int .i64 a0_0, .string a0_1, .slice (some ad102) l0_2.length c0_2] 25 (0, 0)) (viK BK101.out)) : gb101 ≠ gb103)); have n6_ := Aside0.mk ((by rw [hg]; exact Nat.ne_of_gt (blk_lt (g := gb101) (o := .cells #[.int .i64 a0_0, .string a0_1, .slice (some ad102) l0_2.length c0_2] 25 (0, 0)) (viK BK101.out)) : gb103 ≠ gb101)); clear BK101; clear HB; have BK101 := n0_; have HB := n1_; have BK103 := n2_; have GW103 := n3_; have GE103 := n4_; have NB101_103 := n5_; have NB103_101 := n6_; clear n0_ n1_ n2_ n3_ n4_ n5_ n6_; clear hb hbox hg; have hnb14 := NB103_101.out; have hnc14 := NB101_103.out; have hcz15_0 : w13.cell? ⟨gb103, 0, none⟩ = some (.int .i64 0) := (blk_cell BK103.out 0).trans rfl; have hcz15_1 : w13.cell? ⟨gb103, 1, none⟩ = some (.string (⟨#[]⟩ : ByteArray)) := (blk_cell BK103.out 1).trans rfl; have hcz15_2 : w13.cell? ⟨gb103, 2, none⟩ = some (.slice none 0 0) := (blk_cell BK103.out 2).trans rfl; have hfz15_0 := blk_frozen BK103.out 0; have hfz15_1 := blk_frozen BK103.out 1; have hfz15_2 := blk_frozen BK103.out 2) | ((with_reducible refine gate_callee (f := 64) rfl ?_); refine goesL_ (some 24) rfl rfl Try.func64 (by kernel_rfl) rfl #[.agg #[.int .i64 ((rd_T25 l0_2 x16_1).f0), .string ((rd_T25 l0_2 x16_1).f1), .slice A102_2 ((rd_T25 l0_2 x16_1).f2).length c102_2], .int .i64 (wrap64 (a1 + 1))] rfl (by (try simp only [List.map_toArray, List.map_cons, List.map_nil]); first | done | rfl | (simp only [List.length_drop, List.length_take]; rfl)) ?_; (with_reducible refine (ih k1 (by have := HK1.out; omega) ((rd_T25 l0_2 x16_1).f0) ((rd_T25 l0_2 x16_1).f1) _ _ ((rd_T25 l0_2 x16_1).f2) (wrap64 (a1 + 1)) t104 true _ ?side1 ?side2 A10.out).mono ?_); (case side1 => exact Kd.C_below HR102_2.out viB); (case side2 => exact HC102_2.out); rintro e w16 ⟨rfl, hb⟩; refine ⟨_, rfl, ?_⟩; have n0_ := Aside0.mk (blk_below (g := gb101) (o := .cells #[.int .i64 a0_0, .string a0_1, .slice (some ad102) l0_2.length c0_2] 25 (0, 0)) (by refine viK ?_; refine blk_far ?_ NB101_103.out _; refine viK ?_; refine blk_far ?_ NB101_103.out _; refine viK ?_; refine blk_far ?_ NB101_103.out _; refine viK ?_; exact BK101.out) hb); have n1_ := Aside0.mk (blk_below (g := gb103) (o := .cells #[.int .i64 ((rd_T25 l0_2 x16_1).f0), .string ((rd_T25 l0_2 x16_1).f1), .slice A102_2 ((rd_T25 l0_2 x16_1).f2).length c102_2] 25 (0, 0)) (by refine viK ?_; refine blk_put (cs := #[.int .i64 ((rd_T25 l0_2 x16_1).f0), .string ((rd_T25 l0_2 x16_1).f1), .slice none 0 0]) ?_ 2 _ rfl; refine viK ?_; refine blk_put (cs := #[.int .i64 ((rd_T25 l0_2 x16_1).f0), .string (⟨#[]⟩ : ByteArray), .slice none 0 0]) ?_ 1 _ rfl; refine viK ?_; refine blk_put (cs := #[.int .i64 0, .string (⟨#[]⟩ : ByteArray), .slice none 0 0]) ?_ 0 _ rfl; refine viK ?_; exact BK103.out) hb); have n2_ := Aside0.mk (below_step viB hb); clear BK101; clear BK103; clear HB; have BK101 := n0_; have BK103 := n1_; have HB := n2_; clear n0_ n1_ n2_; (try clear hb); (try clear hb2); (try clear hk); (try clear hi)))
                  go_ret2
                  exact ⟨by first | rfl | (simp [errW_none, errW_some] <;> rfl) | (simp [*, errW_none, errW_some] <;> rfl), viB⟩
                · rw [if_neg c12] at H
                  have c12b0 : decide (500 < (wrap64 (x6_1 + t104))) = false := decide_eq_false c12
                  clear c12
                  have H' := Aside0.mk H
                  clear H
                  have p102 : 0 ≤ (x16_1 : Int) := viA
                  have q102 : x16_1 < (l0_2.length : Int) := viA
                  obtain ⟨ad102, A102_2, c102_2, e102, hx102_0, hx102_1, hx102_2, hl102_2, hi102_2⟩ := at_T25 HR0_2.out x16_1 p102 q102
                  cases e102
                  replace hx102_0 := (HB.out.cell (World.block_lt_of_cell? w _ hx102_0)).trans hx102_0
                  replace hx102_1 := (HB.out.cell (World.block_lt_of_cell? w _ hx102_1)).trans hx102_1
                  replace hx102_2 := (HB.out.cell (World.block_lt_of_cell? w _ hx102_2)).trans hx102_2
                  have HR102_2 := Aside0.mk hi102_2
                  have HC102_2 := Aside0.mk hl102_2
                  clear hi102_2 hl102_2
                  replace p102 := eq_true p102
                  replace q102 := eq_true q102
                  go_wp2_with (first | ((with_reducible refine gate_dst (N := 8) rfl ?_); refine box_event ?hg (N := 8) ?hd (cs := #[.int .i64 0, .string (⟨#[]⟩ : ByteArray), .slice none 0 0]) (t := 25) ?hr ?_; (case hd => rfl); (case hg => rfl); (case hr => first | (go_simp; done) | (go_simp; rfl)); intro gb103 hg w17 hbox hb; have n0_ := Aside0.mk (blk_below (g := gb101) (o := .cells #[.int .i64 a0_0, .string a0_1, .slice (some ad102) l0_2.length c0_2] 25 (0, 0)) (viK BK101.out) hb); have n1_ := Aside0.mk (below_step viB hb); have n2_ := Aside0.mk (hbox); have n3_ := Aside0.mk ((by rw [hg]; exact (below_size viB) : w.heap.size ≤ gb103)); have n4_ := Aside0.mk ((by rw [hg]; exact (below_size viB) : w.heap.size ≤ gb103)); have n5_ := Aside0.mk ((by rw [hg]; exact Nat.ne_of_lt (blk_lt (g := gb101) (o := .cells #[.int .i64 a0_0, .string a0_1, .slice (some ad102) l0_2.length c0_2] 25 (0, 0)) (viK BK101.out)) : gb101 ≠ gb103)); have n6_ := Aside0.mk ((by rw [hg]; exact Nat.ne_of_gt (blk_lt (g := gb101) (o := .cells #[.int .i64 a0_0, .string a0_1, .slice (some ad102) l0_2.length c0_2] 25 (0, 0)) (viK BK101.out)) : gb103 ≠ gb101)); clear BK101; clear HB; have BK101 := n0_; have HB := n1_; have BK103 := n2_; have GW103 := n3_; have GE103 := n4_; have NB101_103 := n5_; have NB103_101 := n6_; clear n0_ n1_ n2_ n3_ n4_ n5_ n6_; clear hb hbox hg; have hnb18 := NB103_101.out; have hnc18 := NB101_103.out; have hcz19_0 : w17.cell? ⟨gb103, 0, none⟩ = some (.int .i64 0) := (blk_cell BK103.out 0).trans rfl; have hcz19_1 : w17.cell? ⟨gb103, 1, none⟩ = some (.string (⟨#[]⟩ : ByteArray)) := (blk_cell BK103.out 1).trans rfl; have hcz19_2 : w17.cell? ⟨gb103, 2, none⟩ = some (.slice none 0 0) := (blk_cell BK103.out 2).trans rfl; have hfz19_0 := blk_frozen BK103.out 0; have hfz19_1 := blk_frozen BK103.out 1; have hfz19_2 := blk_frozen BK103.out 2) | ((with_reducible refine gate_callee (f := 64) rfl ?_); refine goesL_ (some 24) rfl rfl Try.func64 (by kernel_rfl) rfl #[.agg #[.int .i64 ((rd_T25 l0_2 x16_1).f0), .string ((rd_T25 l0_2 x16_1).f1), .slice A102_2 ((rd_T25 l0_2 x16_1).f2).length c102_2], .int .i64 (wrap64 (a1 + 1))] rfl (by (try simp only [List.map_toArray, List.map_cons, List.map_nil]); first | done | rfl | (simp only [List.length_drop, List.length_take]; rfl)) ?_; (with_reducible refine (ih k1 (by have := HK1.out; omega) ((rd_T25 l0_2 x16_1).f0) ((rd_T25 l0_2 x16_1).f1) _ _ ((rd_T25 l0_2 x16_1).f2) (wrap64 (a1 + 1)) t104 true _ ?side1 ?side2 A10.out).mono ?_); (case side1 => exact Kd.C_below HR102_2.out viB); (case side2 => exact HC102_2.out); rintro e w20 ⟨rfl, hb⟩; refine ⟨_, rfl, ?_⟩; have n0_ := Aside0.mk (blk_below (g := gb101) (o := .cells #[.int .i64 a0_0, .string a0_1, .slice (some ad102) l0_2.length c0_2] 25 (0, 0)) (by refine viK ?_; refine blk_far ?_ NB101_103.out _; refine viK ?_; refine blk_far ?_ NB101_103.out _; refine viK ?_; refine blk_far ?_ NB101_103.out _; refine viK ?_; exact BK101.out) hb); have n1_ := Aside0.mk (blk_below (g := gb103) (o := .cells #[.int .i64 ((rd_T25 l0_2 x16_1).f0), .string ((rd_T25 l0_2 x16_1).f1), .slice A102_2 ((rd_T25 l0_2 x16_1).f2).length c102_2] 25 (0, 0)) (by refine viK ?_; refine blk_put (cs := #[.int .i64 ((rd_T25 l0_2 x16_1).f0), .string ((rd_T25 l0_2 x16_1).f1), .slice none 0 0]) ?_ 2 _ rfl; refine viK ?_; refine blk_put (cs := #[.int .i64 ((rd_T25 l0_2 x16_1).f0), .string (⟨#[]⟩ : ByteArray), .slice none 0 0]) ?_ 1 _ rfl; refine viK ?_; refine blk_put (cs := #[.int .i64 0, .string (⟨#[]⟩ : ByteArray), .slice none 0 0]) ?_ 0 _ rfl; refine viK ?_; exact BK103.out) hb); have n2_ := Aside0.mk (below_step viB hb); clear BK101; clear BK103; clear HB; have BK101 := n0_; have BK103 := n1_; have HB := n2_; clear n0_ n1_ n2_; (try clear hb); (try clear hb2); (try clear hk); (try clear hi)))
                  go_roundg k1
                  case measure => have := HK1.out; omega
                  case rel => exact ⟨(wrap64 (x6_1 + t104)), (wrap64 (x16_1 + 1)), (by first | rfl | (simp; done) | (simp [*]; done)), (by first | rfl | (simp; done) | (simp [*]; done)), H', ⟨by have := HK1.out; omega⟩, ⟨viK BK101.out⟩, ⟨viB⟩⟩
              · replace c11 := Bool.eq_false_iff.mpr c11
                subst c11
                have H1 : (some (wrap64 (x6_1 + t104), false)) = some (r1, r2) := by rw [if_neg (show ¬ (false = true) by decide)] at H; exact H
                clear H
                have H := H1
                clear H1
                simp only [Option.some.injEq, Prod.mk.injEq] at H
                obtain ⟨rfl, rfl⟩ := H
                have p102 : 0 ≤ (x16_1 : Int) := viA
                have q102 : x16_1 < (l0_2.length : Int) := viA
                obtain ⟨ad102, A102_2, c102_2, e102, hx102_0, hx102_1, hx102_2, hl102_2, hi102_2⟩ := at_T25 HR0_2.out x16_1 p102 q102
                cases e102
                replace hx102_0 := (HB.out.cell (World.block_lt_of_cell? w _ hx102_0)).trans hx102_0
                replace hx102_1 := (HB.out.cell (World.block_lt_of_cell? w _ hx102_1)).trans hx102_1
                replace hx102_2 := (HB.out.cell (World.block_lt_of_cell? w _ hx102_2)).trans hx102_2
                have HR102_2 := Aside0.mk hi102_2
                have HC102_2 := Aside0.mk hl102_2
                clear hi102_2 hl102_2
                replace p102 := eq_true p102
                replace q102 := eq_true q102
                go_wp2_with (first | ((with_reducible refine gate_dst (N := 8) rfl ?_); refine box_event ?hg (N := 8) ?hd (cs := #[.int .i64 0, .string (⟨#[]⟩ : ByteArray), .slice none 0 0]) (t := 25) ?hr ?_; (case hd => rfl); (case hg => rfl); (case hr => first | (go_simp; done) | (go_simp; rfl)); intro gb103 hg w21 hbox hb; have n0_ := Aside0.mk (blk_below (g := gb101) (o := .cells #[.int .i64 a0_0, .string a0_1, .slice (some ad102) l0_2.length c0_2] 25 (0, 0)) (viK BK101.out) hb); have n1_ := Aside0.mk (below_step viB hb); have n2_ := Aside0.mk (hbox); have n3_ := Aside0.mk ((by rw [hg]; exact (below_size viB) : w.heap.size ≤ gb103)); have n4_ := Aside0.mk ((by rw [hg]; exact (below_size viB) : w.heap.size ≤ gb103)); have n5_ := Aside0.mk ((by rw [hg]; exact Nat.ne_of_lt (blk_lt (g := gb101) (o := .cells #[.int .i64 a0_0, .string a0_1, .slice (some ad102) l0_2.length c0_2] 25 (0, 0)) (viK BK101.out)) : gb101 ≠ gb103)); have n6_ := Aside0.mk ((by rw [hg]; exact Nat.ne_of_gt (blk_lt (g := gb101) (o := .cells #[.int .i64 a0_0, .string a0_1, .slice (some ad102) l0_2.length c0_2] 25 (0, 0)) (viK BK101.out)) : gb103 ≠ gb101)); clear BK101; clear HB; have BK101 := n0_; have HB := n1_; have BK103 := n2_; have GW103 := n3_; have GE103 := n4_; have NB101_103 := n5_; have NB103_101 := n6_; clear n0_ n1_ n2_ n3_ n4_ n5_ n6_; clear hb hbox hg; have hnb22 := NB103_101.out; have hnc22 := NB101_103.out; have hcz23_0 : w21.cell? ⟨gb103, 0, none⟩ = some (.int .i64 0) := (blk_cell BK103.out 0).trans rfl; have hcz23_1 : w21.cell? ⟨gb103, 1, none⟩ = some (.string (⟨#[]⟩ : ByteArray)) := (blk_cell BK103.out 1).trans rfl; have hcz23_2 : w21.cell? ⟨gb103, 2, none⟩ = some (.slice none 0 0) := (blk_cell BK103.out 2).trans rfl; have hfz23_0 := blk_frozen BK103.out 0; have hfz23_1 := blk_frozen BK103.out 1; have hfz23_2 := blk_frozen BK103.out 2) | ((with_reducible refine gate_callee (f := 64) rfl ?_); refine goesL_ (some 24) rfl rfl Try.func64 (by kernel_rfl) rfl #[.agg #[.int .i64 ((rd_T25 l0_2 x16_1).f0), .string ((rd_T25 l0_2 x16_1).f1), .slice A102_2 ((rd_T25 l0_2 x16_1).f2).length c102_2], .int .i64 (wrap64 (a1 + 1))] rfl (by (try simp only [List.map_toArray, List.map_cons, List.map_nil]); first | done | rfl | (simp only [List.length_drop, List.length_take]; rfl)) ?_; (with_reducible refine (ih k1 (by have := HK1.out; omega) ((rd_T25 l0_2 x16_1).f0) ((rd_T25 l0_2 x16_1).f1) _ _ ((rd_T25 l0_2 x16_1).f2) (wrap64 (a1 + 1)) t104 false _ ?side1 ?side2 A10.out).mono ?_); (case side1 => exact Kd.C_below HR102_2.out viB); (case side2 => exact HC102_2.out); rintro e w24 ⟨rfl, hb⟩; refine ⟨_, rfl, ?_⟩; have n0_ := Aside0.mk (blk_below (g := gb101) (o := .cells #[.int .i64 a0_0, .string a0_1, .slice (some ad102) l0_2.length c0_2] 25 (0, 0)) (by refine viK ?_; refine blk_far ?_ NB101_103.out _; refine viK ?_; refine blk_far ?_ NB101_103.out _; refine viK ?_; refine blk_far ?_ NB101_103.out _; refine viK ?_; exact BK101.out) hb); have n1_ := Aside0.mk (blk_below (g := gb103) (o := .cells #[.int .i64 ((rd_T25 l0_2 x16_1).f0), .string ((rd_T25 l0_2 x16_1).f1), .slice A102_2 ((rd_T25 l0_2 x16_1).f2).length c102_2] 25 (0, 0)) (by refine viK ?_; refine blk_put (cs := #[.int .i64 ((rd_T25 l0_2 x16_1).f0), .string ((rd_T25 l0_2 x16_1).f1), .slice none 0 0]) ?_ 2 _ rfl; refine viK ?_; refine blk_put (cs := #[.int .i64 ((rd_T25 l0_2 x16_1).f0), .string (⟨#[]⟩ : ByteArray), .slice none 0 0]) ?_ 1 _ rfl; refine viK ?_; refine blk_put (cs := #[.int .i64 0, .string (⟨#[]⟩ : ByteArray), .slice none 0 0]) ?_ 0 _ rfl; refine viK ?_; exact BK103.out) hb); have n2_ := Aside0.mk (below_step viB hb); clear BK101; clear BK103; clear HB; have BK101 := n0_; have BK103 := n1_; have HB := n2_; clear n0_ n1_ n2_; (try clear hb); (try clear hb2); (try clear hk); (try clear hi)))
                go_ret2
                exact ⟨by first | rfl | (simp [errW_none, errW_some] <;> rfl) | (simp [*, errW_none, errW_some] <;> rfl), viB⟩
            · rw [if_neg c9] at H
              exact absurd H (by simp)
          · rw [if_neg c8] at H
            exact absurd H (by simp)
        · rw [if_neg c7] at H
          have c7b0 : decide (x16_1 < (l0_2.length : Int)) = false := decide_eq_false c7
          clear c7
          simp only [Option.some.injEq, Prod.mk.injEq] at H
          obtain ⟨rfl, rfl⟩ := H
          go_wp2
          go_ret2
          exact ⟨by first | rfl | (simp [errW_none, errW_some] <;> rfl) | (simp [*, errW_none, errW_some] <;> rfl), viB⟩
def regex_letter.f (a0 : Int) : Option (Bool) := if a0 ≥ 97 then (if a0 ≤ 122 then (some true) else (if a0 ≥ 65 then (if a0 ≤ 90 then (some true) else (some (a0 == 95))) else (some (a0 == 95)))) else (if a0 ≥ 65 then (if a0 ≤ 90 then (some true) else (some (a0 == 95))) else (some (a0 == 95)))
set_option maxHeartbeats 8000000 in
set_option maxRecDepth 100000 in
theorem regex_letter.calls (a0 : Int) (r : Bool) (w : World) (h : regex_letter.f a0 = some r) :
    Calls Try.prog 91 #[.int .u8 a0] w fun e w' => e = .returned (.bool r) ∧ Drawn0 w w' := by
  have H : (if a0 ≥ 97 then (if a0 ≤ 122 then (some true) else (if a0 ≥ 65 then (if a0 ≤ 90 then (some true) else (some (a0 == 95))) else (some (a0 == 95)))) else (if a0 ≥ 65 then (if a0 ≤ 90 then (some true) else (some (a0 == 95))) else (some (a0 == 95)))) = some r := h
  clear h
  by_cases c2 : a0 ≥ 97
  · rw [if_pos c2] at H
    have c2b0 : decide (97 ≤ a0) = true := decide_eq_true c2
    clear c2
    by_cases c3 : a0 ≤ 122
    · rw [if_pos c3] at H
      have c3b0 : decide (a0 ≤ 122) = true := decide_eq_true c3
      clear c3
      obtain rfl := Option.some.inj H
      go_enter Try.func91, Try.ntmps91
      go_wp2
      go_ret
      exact ⟨by first | rfl | (simp; done) | (simp [*]; done), by repeat (first | exact Drawn0.refl _ | apply Drawn0.step)⟩
    · rw [if_neg c3] at H
      have c3b0 : decide (a0 ≤ 122) = false := decide_eq_false c3
      clear c3
      by_cases c4 : a0 ≥ 65
      · rw [if_pos c4] at H
        have c4b0 : decide (65 ≤ a0) = true := decide_eq_true c4
        clear c4
        by_cases c5 : a0 ≤ 90
        · rw [if_pos c5] at H
          have c5b0 : decide (a0 ≤ 90) = true := decide_eq_true c5
          clear c5
          obtain rfl := Option.some.inj H
          go_enter Try.func91, Try.ntmps91
          go_wp2
          go_ret
          exact ⟨by first | rfl | (simp; done) | (simp [*]; done), by repeat (first | exact Drawn0.refl _ | apply Drawn0.step)⟩
        · rw [if_neg c5] at H
          have c5b0 : decide (a0 ≤ 90) = false := decide_eq_false c5
          clear c5
          obtain rfl := Option.some.inj H
          go_enter Try.func91, Try.ntmps91
          go_wp2
          go_ret
          exact ⟨by first | rfl | (simp; done) | (simp [*]; done), by repeat (first | exact Drawn0.refl _ | apply Drawn0.step)⟩
      · rw [if_neg c4] at H
        have c4b0 : decide (65 ≤ a0) = false := decide_eq_false c4
        clear c4
        obtain rfl := Option.some.inj H
        go_enter Try.func91, Try.ntmps91
        go_wp2
        go_ret
        exact ⟨by first | rfl | (simp; done) | (simp [*]; done), by repeat (first | exact Drawn0.refl _ | apply Drawn0.step)⟩
  · rw [if_neg c2] at H
    have c2b0 : decide (97 ≤ a0) = false := decide_eq_false c2
    clear c2
    by_cases c6 : a0 ≥ 65
    · rw [if_pos c6] at H
      have c6b0 : decide (65 ≤ a0) = true := decide_eq_true c6
      clear c6
      by_cases c7 : a0 ≤ 90
      · rw [if_pos c7] at H
        have c7b0 : decide (a0 ≤ 90) = true := decide_eq_true c7
        clear c7
        obtain rfl := Option.some.inj H
        go_enter Try.func91, Try.ntmps91
        go_wp2
        go_ret
        exact ⟨by first | rfl | (simp; done) | (simp [*]; done), by repeat (first | exact Drawn0.refl _ | apply Drawn0.step)⟩
      · rw [if_neg c7] at H
        have c7b0 : decide (a0 ≤ 90) = false := decide_eq_false c7
        clear c7
        obtain rfl := Option.some.inj H
        go_enter Try.func91, Try.ntmps91
        go_wp2
        go_ret
        exact ⟨by first | rfl | (simp; done) | (simp [*]; done), by repeat (first | exact Drawn0.refl _ | apply Drawn0.step)⟩
    · rw [if_neg c6] at H
      have c6b0 : decide (65 ≤ a0) = false := decide_eq_false c6
      clear c6
      obtain rfl := Option.some.inj H
      go_enter Try.func91, Try.ntmps91
      go_wp2
      go_ret
      exact ⟨by first | rfl | (simp; done) | (simp [*]; done), by repeat (first | exact Drawn0.refl _ | apply Drawn0.step)⟩
def regex_digit.f (a0 : Int) : Option (Bool) := if a0 ≥ 48 then (some (decide (a0 ≤ 57))) else (some false)
set_option maxHeartbeats 8000000 in
set_option maxRecDepth 100000 in
theorem regex_digit.calls (a0 : Int) (r : Bool) (w : World) (h : regex_digit.f a0 = some r) :
    Calls Try.prog 92 #[.int .u8 a0] w fun e w' => e = .returned (.bool r) ∧ Drawn0 w w' := by
  have H : (if a0 ≥ 48 then (some (decide (a0 ≤ 57))) else (some false)) = some r := h
  clear h
  by_cases c2 : a0 ≥ 48
  · rw [if_pos c2] at H
    have c2b0 : decide (48 ≤ a0) = true := decide_eq_true c2
    clear c2
    obtain rfl := Option.some.inj H
    go_enter Try.func92, Try.ntmps92
    go_wp2
    go_ret
    exact ⟨by first | rfl | (simp; done) | (simp [*]; done), by repeat (first | exact Drawn0.refl _ | apply Drawn0.step)⟩
  · rw [if_neg c2] at H
    have c2b0 : decide (48 ≤ a0) = false := decide_eq_false c2
    clear c2
    obtain rfl := Option.some.inj H
    go_enter Try.func92, Try.ntmps92
    go_wp2
    go_ret
    exact ⟨by first | rfl | (simp; done) | (simp [*]; done), by repeat (first | exact Drawn0.refl _ | apply Drawn0.step)⟩
mutual
def regex_name.j0 : Nat → ByteArray → Bool → Option (Bool)
  | 0, _, _ => none
  | k + 1, x0, x16 => if x16 = true then (some false) else (regex_name.l0 k x0 (x0.size : Int) 0)
def regex_name.l0 : Nat → ByteArray → Int → Int → Option (Bool)
  | 0, _, _, _ => none
  | k + 1, x0, x18, x19 => if x19 < x18 then (if 0 ≤ x19 then (if x19 < (x0.size : Int) then ((regex_letter.f (bt x0 x19)).bind fun t107 => (if t107 = true then (regex_name.l0 k x0 x18 (wrap64 (x19 + 1))) else ((regex_digit.f (bt x0 x19)).bind fun t108 => (if t108 = true then (regex_name.l0 k x0 x18 (wrap64 (x19 + 1))) else (some false))))) else (none)) else (none)) else (some true)
end
def regex_name.f (k : Nat) (a0 : ByteArray) : Option (Bool) := if a0.toList = ([] : List UInt8) then (regex_name.j0 k a0 true) else (if (a0.size : Int) > 64 then (regex_name.j0 k a0 true) else (if 0 < (a0.size : Int) then ((regex_letter.f (bt a0 0)).bind fun t106 => (regex_name.j0 k a0 (!t106))) else (none)))
theorem regex_name.mono_l : ∀ k, (∀ y0 y1, LeO (regex_name.j0 k y0 y1) (regex_name.j0 (k + 1) y0 y1)) ∧ (∀ y0 y1 y2, LeO (regex_name.l0 k y0 y1 y2) (regex_name.l0 (k + 1) y0 y1 y2))
  | 0 => ⟨fun _ _ r h => by simp [regex_name.j0] at h, fun _ _ _ r h => by simp [regex_name.l0] at h⟩
  | k + 1 => by
    obtain ⟨ih0, ih1⟩ := regex_name.mono_l k
    refine ⟨?_, ?_⟩
    · intro y0 y1
      unfold regex_name.j0
      repeat' first
      | (with_reducible exact ih0 _ _)
      | (with_reducible exact ih1 _ _ _)
      | (with_reducible exact LeO.refl _)
      | (with_reducible exact LeO.none _)
      | (with_reducible refine LeO.ite ?_ ?_)
      | (with_reducible refine LeO.bind ?_ (fun _ => ?_))
      | exact ih0 _ _
      | exact ih1 _ _ _
      | exact LeO.none _
      | refine LeO.ite ?_ ?_
      | refine LeO.bind ?_ (fun _ => ?_)
    · intro y0 y1 y2
      unfold regex_name.l0
      repeat' first
      | (with_reducible exact ih0 _ _)
      | (with_reducible exact ih1 _ _ _)
      | (with_reducible exact LeO.refl _)
      | (with_reducible exact LeO.none _)
      | (with_reducible refine LeO.ite ?_ ?_)
      | (with_reducible refine LeO.bind ?_ (fun _ => ?_))
      | exact ih0 _ _
      | exact ih1 _ _ _
      | exact LeO.none _
      | refine LeO.ite ?_ ?_
      | refine LeO.bind ?_ (fun _ => ?_)
theorem regex_name.mono : ∀ a0 k, LeO (regex_name.f k a0) (regex_name.f (k + 1) a0) := by
  intro a0 k
  obtain ⟨ih0, ih1⟩ := regex_name.mono_l k
  unfold regex_name.f
  repeat' first
      | (with_reducible exact ih0 _ _)
      | (with_reducible exact ih1 _ _ _)
      | (with_reducible exact LeO.refl _)
      | (with_reducible exact LeO.none _)
      | (with_reducible refine LeO.ite ?_ ?_)
      | (with_reducible refine LeO.bind ?_ (fun _ => ?_))
      | exact ih0 _ _
      | exact ih1 _ _ _
      | exact LeO.none _
      | refine LeO.ite ?_ ?_
      | refine LeO.bind ?_ (fun _ => ?_)
set_option maxHeartbeats 8000000 in
set_option maxRecDepth 100000 in
theorem regex_name.calls (k : Nat) (a0 : ByteArray) (r : Bool) (w : World) (h : regex_name.f k a0 = some r) :
    Calls Try.prog 80 #[.string a0] w fun e w' => e = .returned (.bool r) ∧ Drawn0 w w' := by
  have H : (if a0.toList = ([] : List UInt8) then (regex_name.j0 k a0 true) else (if (a0.size : Int) > 64 then (regex_name.j0 k a0 true) else (if 0 < (a0.size : Int) then ((regex_letter.f (bt a0 0)).bind fun t106 => (regex_name.j0 k a0 (!t106))) else (none)))) = some r := h
  clear h
  have HC2 := Aside0.mk H
  clear H
  go_enter Try.func80, Try.ntmps80
  go_upto_region 1 with (fail)
  go_cut [16] (fun v16 wc => ∃ (kq : Nat) (x16_1 : Bool), v16 = .bool x16_1 ∧ Aside0 (regex_name.j0 kq a0 x16_1 = some r) ∧ Aside0 (kq ≤ k) ∧ Drawn0 w wc)
  case first =>
    have H := HC2.out
    clear HC2
    by_cases c3 : a0.toList = ([] : List UInt8)
    · rw [if_pos c3] at H
      have c3b0 : (a0.toList == ([] : List UInt8)) = true := beq_iff_eq.mpr c3
      have c3b1 : (a0.toList != ([] : List UInt8)) = false := bne_eq_false_iff_eq.mpr c3
      clear c3
      (first | rw [c3b0] | (simp only [i64_w, i32_w]; rw [c3b0]) | skip)
      have H' := Aside0.mk H
      clear H
      go_wp2
      go_meet
      case rel => exact ⟨_, (true), (by first | rfl | (simp; done) | (simp [*]; done)), H', ⟨by first | omega | exact Nat.le_refl _⟩, by repeat (first | exact Drawn0.refl _ | apply Drawn0.step)⟩
    · rw [if_neg c3] at H
      have c3b0 : (a0.toList == ([] : List UInt8)) = false := beq_eq_false_iff_ne.mpr c3
      have c3b1 : (a0.toList != ([] : List UInt8)) = true := bne_iff_ne.mpr c3
      (first | rw [c3b0] | (simp only [i64_w, i32_w]; rw [c3b0]) | skip)
      by_cases c4 : (a0.size : Int) > 64
      · rw [if_pos c4] at H
        have c4b0 : decide (64 < (a0.size : Int)) = true := decide_eq_true c4
        have c4b1 : decide (64 < a0.size) = true := decide_eq_true (by omega)
        clear c4
        have H' := Aside0.mk H
        clear H
        go_wp2
        go_meet
        case rel => exact ⟨_, (true), (by first | rfl | (simp; done) | (simp [*]; done)), H', ⟨by first | omega | exact Nat.le_refl _⟩, by repeat (first | exact Drawn0.refl _ | apply Drawn0.step)⟩
      · rw [if_neg c4] at H
        have c4b0 : decide (64 < (a0.size : Int)) = false := decide_eq_false c4
        have c4b1 : decide (64 < a0.size) = false := decide_eq_false (by omega)
        clear c4
        by_cases c5 : 0 < (a0.size : Int)
        · rw [if_pos c5] at H
          have c5b0 : decide (0 < (a0.size : Int)) = true := decide_eq_true c5
          have c5b1 : decide (0 < a0.size) = true := decide_eq_true (by omega)
          clear c5
          replace H := Option.bind_eq_some_iff.mp H
          obtain ⟨t106, A70, H⟩ := H
          replace H : (regex_name.j0 k a0 (!t106)) = some r := H
          have A7 := Aside0.mk A70
          clear A70
          have H' := Aside0.mk H
          clear H
          have p6 : 0 ≤ (0 : Int) := (by omega)
          have q6 : 0 < a0.size := (by have : (0 : Int) < (a0.size : Int) := viA; omega)
          have hx6 : ∀ h : 0 < a0.size, ((a0[0]'h).toNat : Int) = bt a0 0 := bt_at a0 0
          clear p6
          have qi6 : (0 < (a0.size : Int)) = True := eq_true viA
          replace q6 := eq_true q6
          go_wp2_with (first | (go_at_call 91; (with_reducible refine (regex_letter.calls (bt a0 0) t106 _ A7.out).mono ?_); rintro e w' ⟨rfl, ⟨nd, rfl⟩⟩))
          go_meet
          case rel => exact ⟨_, (!t106), (by first | rfl | (simp; done) | (simp [*]; done)), H', ⟨by first | omega | exact Nat.le_refl _⟩, by repeat (first | exact Drawn0.refl _ | apply Drawn0.step)⟩
        · rw [if_neg c5] at H
          exact absurd H (by simp)
  case rest =>
    clear HC2
    try clear p2
    try clear c3
    try clear c3b0
    try clear c3b1
    try clear c4
    try clear c4b0
    try clear c4b1
    try clear c5
    try clear c5b0
    try clear c5b1
    try clear p6
    try clear q6
    try clear hx6
    try clear qi6
    try clear p6
    try clear q6
    obtain ⟨kq, x16_1, rfl, HA, HJ1, ⟨mc1, rfl⟩⟩ := hcut
    cases kq with
    | zero => exact absurd HA.out (by simp [regex_name.j0])
    | succ kj1 =>
      have H := HA.out
      clear HA
      simp only [regex_name.j0] at H
      by_cases c8 : x16_1 = true
      · subst c8
        have H1 : (some false) = some r := by rw [if_pos rfl] at H; exact H
        clear H
        have H := H1
        clear H1
        obtain rfl := Option.some.inj H
        go_wp2
        go_ret
        exact ⟨by first | rfl | (simp; done) | (simp [*]; done), by repeat (first | exact Drawn0.refl _ | apply Drawn0.step)⟩
      · replace c8 := Bool.eq_false_iff.mpr c8
        subst c8
        have H1 : (regex_name.l0 kj1 a0 (a0.size : Int) 0) = some r := by rw [if_neg (show ¬ (false = true) by decide)] at H; exact H
        clear H
        have H := H1
        clear H1
        have H' := Aside0.mk H
        clear H
        go_wp2
        go_loopg [19] kj1 (fun kq v19 w' => ∃ (x19_2 : Int), v19 = .int .i64 x19_2 ∧ Aside0 (regex_name.l0 kq a0 (a0.size : Int) x19_2 = some r) ∧ Aside0 (kq ≤ kj1) ∧ Drawn0 w w')
        case atStart => exact ⟨(0), (by first | rfl | (simp; done) | (simp [*]; done)), H', ⟨Nat.le_refl _⟩, by repeat (first | exact Drawn0.refl _ | apply Drawn0.step)⟩
        case round =>
          clear H'
          try clear c1
          try clear p2
          try clear c3
          try clear c3b0
          try clear c3b1
          try clear c4
          try clear c4b0
          try clear c4b1
          try clear c5
          try clear c5b0
          try clear c5b1
          try clear p6
          try clear q6
          try clear hx6
          try clear qi6
          try clear c8
          try clear p2
          try clear p6
          try clear q6
          obtain ⟨x19_2, rfl, HA, HK2, ⟨m2, rfl⟩⟩ := hrel
          cases gk with
          | zero => exact absurd HA.out (by simp [regex_name.l0])
          | succ k2 =>
            have H := HA.out
            clear HA
            simp only [regex_name.l0] at H
            by_cases c9 : x19_2 < (a0.size : Int)
            · rw [if_pos c9] at H
              have c9b0 : decide (x19_2 < (a0.size : Int)) = true := decide_eq_true c9
              clear c9
              by_cases c10 : 0 ≤ x19_2
              · rw [if_pos c10] at H
                have c10b0 : decide (0 ≤ x19_2) = true := decide_eq_true c10
                clear c10
                by_cases c11 : x19_2 < (a0.size : Int)
                · rw [if_pos c11] at H
                  have c11b0 : decide (x19_2 < (a0.size : Int)) = true := decide_eq_true c11
                  clear c11
                  replace H := Option.bind_eq_some_iff.mp H
                  obtain ⟨t107, A130, H⟩ := H
                  replace H : (if t107 = true then (regex_name.l0 k2 a0 (a0.size : Int) (wrap64 (x19_2 + 1))) else ((regex_digit.f (bt a0 x19_2)).bind fun t108 => (if t108 = true then (regex_name.l0 k2 a0 (a0.size : Int) (wrap64 (x19_2 + 1))) else (some false)))) = some r := H
                  have A13 := Aside0.mk A130
                  clear A130
                  by_cases c14 : t107 = true
                  · subst c14
                    have H1 : (regex_name.l0 k2 a0 (a0.size : Int) (wrap64 (x19_2 + 1))) = some r := by rw [if_pos rfl] at H; exact H
                    clear H
                    have H := H1
                    clear H1
                    have H' := Aside0.mk H
                    clear H
                    have p12 : 0 ≤ (x19_2 : Int) := viA
                    have q12 : x19_2 < (a0.size : Int) := viA
                    have hx12 := bt_at a0 x19_2
                    replace p12 := eq_true p12
                    replace q12 := eq_true q12
                    go_wp2_with (first | ((with_reducible refine gate_callee (f := 91) rfl ?_); refine goesL_ (some 25) rfl rfl Try.func91 (by kernel_rfl) rfl #[.int .u8 (bt a0 x19_2)] rfl (by (try simp only [List.map_toArray, List.map_cons, List.map_nil]); first | done | rfl | (simp only [List.length_drop, List.length_take]; rfl)) ?_; (with_reducible refine (regex_letter.calls (bt a0 x19_2) true _ A13.out).mono ?_); rintro e w' ⟨rfl, ⟨nd, rfl⟩⟩; refine ⟨_, rfl, ?_⟩))
                    go_roundg k2
                    case measure => have := HJ1.out; have := HK2.out; omega
                    case rel => exact ⟨(wrap64 (x19_2 + 1)), (by first | rfl | (simp; done) | (simp [*]; done)), H', ⟨by have := HJ1.out; have := HK2.out; omega⟩, by repeat (first | exact Drawn0.refl _ | apply Drawn0.step)⟩
                  · replace c14 := Bool.eq_false_iff.mpr c14
                    subst c14
                    have H1 : ((regex_digit.f (bt a0 x19_2)).bind fun t108 => (if t108 = true then (regex_name.l0 k2 a0 (a0.size : Int) (wrap64 (x19_2 + 1))) else (some false))) = some r := by rw [if_neg (show ¬ (false = true) by decide)] at H; exact H
                    clear H
                    have H := H1
                    clear H1
                    replace H := Option.bind_eq_some_iff.mp H
                    obtain ⟨t108, A160, H⟩ := H
                    replace H : (if t108 = true then (regex_name.l0 k2 a0 (a0.size : Int) (wrap64 (x19_2 + 1))) else (some false)) = some r := H
                    have A16 := Aside0.mk A160
                    clear A160
                    by_cases c17 : t108 = true
                    · subst c17
                      have H1 : (regex_name.l0 k2 a0 (a0.size : Int) (wrap64 (x19_2 + 1))) = some r := by rw [if_pos rfl] at H; exact H
                      clear H
                      have H := H1
                      clear H1
                      have H' := Aside0.mk H
                      clear H
                      have p12 : 0 ≤ (x19_2 : Int) := viA
                      have q12 : x19_2 < (a0.size : Int) := viA
                      have hx12 := bt_at a0 x19_2
                      replace p12 := eq_true p12
                      replace q12 := eq_true q12
                      go_wp2_with (first | ((with_reducible refine gate_callee (f := 91) rfl ?_); refine goesL_ (some 25) rfl rfl Try.func91 (by kernel_rfl) rfl #[.int .u8 (bt a0 x19_2)] rfl (by (try simp only [List.map_toArray, List.map_cons, List.map_nil]); first | done | rfl | (simp only [List.length_drop, List.length_take]; rfl)) ?_; (with_reducible refine (regex_letter.calls (bt a0 x19_2) false _ A13.out).mono ?_); rintro e w' ⟨rfl, ⟨nd, rfl⟩⟩; refine ⟨_, rfl, ?_⟩; have p15 : 0 ≤ (x19_2 : Int) := viA; have q15 : x19_2 < (a0.size : Int) := viA; have hx15 := bt_at a0 x19_2; replace p15 := eq_true p15; replace q15 := eq_true q15) | (go_at_call 92; (with_reducible refine (regex_digit.calls (bt a0 x19_2) true _ A16.out).mono ?_); rintro e w' ⟨rfl, ⟨nd, rfl⟩⟩))
                      go_roundg k2
                      case measure => have := HJ1.out; have := HK2.out; omega
                      case rel => exact ⟨(wrap64 (x19_2 + 1)), (by first | rfl | (simp; done) | (simp [*]; done)), H', ⟨by have := HJ1.out; have := HK2.out; omega⟩, by repeat (first | exact Drawn0.refl _ | apply Drawn0.step)⟩
                    · replace c17 := Bool.eq_false_iff.mpr c17
                      subst c17
                      have H1 : (some false) = some r := by rw [if_neg (show ¬ (false = true) by decide)] at H; exact H
                      clear H
                      have H := H1
                      clear H1
                      obtain rfl := Option.some.inj H
                      have p12 : 0 ≤ (x19_2 : Int) := viA
                      have q12 : x19_2 < (a0.size : Int) := viA
                      have hx12 := bt_at a0 x19_2
                      replace p12 := eq_true p12
                      replace q12 := eq_true q12
                      go_wp2_with (first | ((with_reducible refine gate_callee (f := 91) rfl ?_); refine goesL_ (some 25) rfl rfl Try.func91 (by kernel_rfl) rfl #[.int .u8 (bt a0 x19_2)] rfl (by (try simp only [List.map_toArray, List.map_cons, List.map_nil]); first | done | rfl | (simp only [List.length_drop, List.length_take]; rfl)) ?_; (with_reducible refine (regex_letter.calls (bt a0 x19_2) false _ A13.out).mono ?_); rintro e w' ⟨rfl, ⟨nd, rfl⟩⟩; refine ⟨_, rfl, ?_⟩; have p15 : 0 ≤ (x19_2 : Int) := viA; have q15 : x19_2 < (a0.size : Int) := viA; have hx15 := bt_at a0 x19_2; replace p15 := eq_true p15; replace q15 := eq_true q15) | (go_at_call 92; (with_reducible refine (regex_digit.calls (bt a0 x19_2) false _ A16.out).mono ?_); rintro e w' ⟨rfl, ⟨nd, rfl⟩⟩))
                      go_ret
                      exact ⟨by first | rfl | (simp; done) | (simp [*]; done), by repeat (first | exact Drawn0.refl _ | apply Drawn0.step)⟩
                · rw [if_neg c11] at H
                  exact absurd H (by simp)
              · rw [if_neg c10] at H
                exact absurd H (by simp)
            · rw [if_neg c9] at H
              have c9b0 : decide (x19_2 < (a0.size : Int)) = false := decide_eq_false c9
              clear c9
              obtain rfl := Option.some.inj H
              go_wp2
              go_ret
              exact ⟨by first | rfl | (simp; done) | (simp [*]; done), by repeat (first | exact Drawn0.refl _ | apply Drawn0.step)⟩
set_option maxHeartbeats 400000 in
theorem nfa_is_yes (s st : Int) (w : World) (h0 : 0 ≤ s) (h1 : s < st) {B : Nat} (hc : w.cell? ⟨B, 0, none⟩ = some (.int .i64 st)) :
    Calls Try.prog 62 #[.int .i64 s, .pointer (some ⟨B, 0, none⟩)] w fun e w' => e = .returned (.bool true) ∧ Drawn0 w w' := by
  go_enter Try.func62, Try.ntmps62
  go_wp2
  go_ret
  exact ⟨rfl, by repeat (first | exact Drawn0.refl _ | apply Drawn0.step)⟩
set_option maxHeartbeats 400000 in
theorem nfa_is_no (s st : Int) (w : World) (h : ¬ (0 ≤ s ∧ s < st)) {B : Nat} (hc : w.cell? ⟨B, 0, none⟩ = some (.int .i64 st)) :
    Calls Try.prog 62 #[.int .i64 s, .pointer (some ⟨B, 0, none⟩)] w fun e w' => e = .returned (.bool false) ∧ Drawn0 w w' := by
  by_cases h0 : 0 ≤ s
  · have h1 : ¬ s < st := fun q => h ⟨h0, q⟩
    clear h
    go_enter Try.func62, Try.ntmps62
    go_wp2
    go_ret
    exact ⟨rfl, by repeat (first | exact Drawn0.refl _ | apply Drawn0.step)⟩
  · clear h
    go_enter Try.func62, Try.ntmps62
    go_wp2
    go_ret
    exact ⟨rfl, by repeat (first | exact Drawn0.refl _ | apply Drawn0.step)⟩
def nfa_headOk (st sy s e : Int) : Bool := decide (1 ≤ st ∧ st ≤ 4096 ∧ 0 ≤ sy ∧ sy ≤ 4096 ∧ (0 ≤ s ∧ s < st) ∧ (0 ≤ e ∧ e < st))
def nfa_arcOk (st sy : Int) (x : S78) : Bool := decide ((0 ≤ x.f0 ∧ x.f0 < st) ∧ (0 ≤ x.f2 ∧ x.f2 < st) ∧ -2 ≤ x.f1 ∧ x.f1 < sy)
def nfa_Check.f (a0_0 a0_1 a0_2 a0_3 : Int) (l0_4 : List S78) : Option Int :=
  some (if 65536 < l0_4.length then 3 else if nfa_headOk a0_0 a0_1 a0_2 a0_3 = true then (if l0_4.all (nfa_arcOk a0_0 a0_1) = true then 0 else 81) else 81)
def nfa_boxA (a0_0 a0_1 a0_2 a0_3 : Int) (A : Option Addr) (n c : Nat) : Obj := .cells #[.int .i64 a0_0, .int .i64 a0_1, .int .i64 a0_2, .int .i64 a0_3, .slice A n c] 31 (0, 0)
set_option maxHeartbeats 1600000 in
theorem nfa_Check_head (a0_0 a0_1 a0_2 a0_3 : Int) (A : Option Addr) (c n : Nat) (w : World) (hn : n ≤ 65536) (h : nfa_headOk a0_0 a0_1 a0_2 a0_3 = false) :
    Calls Try.prog 31 #[.agg #[.int .i64 a0_0, .int .i64 a0_1, .int .i64 a0_2, .int .i64 a0_3, .slice A n c]] w fun e w' => e = .returned (.int .i64 81) ∧ Below w.heap.size w w' := by
  have hmf : ∀ (fn : Fn) (first cap : Array Value) (w : World), (Instr.makeFunc fn first cap).run Try.prog w = .ok (.func fn first cap) w := fun _ _ _ _ => rfl
  have hd0 : decide ((65536 : Int) < (n : Int)) = false := decide_eq_false (by omega)
  have hd1 : decide (65536 < n) = false := decide_eq_false (by omega)
  have h := of_decide_eq_false h
  have HX : Aside0 ((w.alloc (nfa_boxA a0_0 a0_1 a0_2 a0_3 A n c)).cell? ⟨w.heap.size, 0, none⟩ = some (.int .i64 a0_0)) := ⟨(blk_cell (blk_new _ _) 0).trans rfl⟩
  unfold nfa_boxA at HX
  clear hn
  by_cases c1 : a0_0 < 1
  · have b1 : decide (a0_0 < 1) = true := decide_eq_true c1
    clear c1 h HX
    go_enter Try.func31, Try.ntmps31
    go_wp2
    go_ret
    exact ⟨rfl, by repeat (first | exact Below.refl _ _ | apply below_alloc | apply pw_below_drewN)⟩
  · have b1 : decide (a0_0 < 1) = false := decide_eq_false c1
    by_cases c2 : 4096 < a0_0
    · have b2 : decide (4096 < a0_0) = true := decide_eq_true c2
      clear c1 c2 h HX
      go_enter Try.func31, Try.ntmps31
      go_wp2
      go_ret
      exact ⟨rfl, by repeat (first | exact Below.refl _ _ | apply below_alloc | apply pw_below_drewN)⟩
    · have b2 : decide (4096 < a0_0) = false := decide_eq_false c2
      by_cases c3 : a0_1 < 0
      · have b3 : decide (a0_1 < 0) = true := decide_eq_true c3
        clear c1 c2 c3 h HX
        go_enter Try.func31, Try.ntmps31
        go_wp2
        go_ret
        exact ⟨rfl, by repeat (first | exact Below.refl _ _ | apply below_alloc | apply pw_below_drewN)⟩
      · have b3 : decide (a0_1 < 0) = false := decide_eq_false c3
        by_cases c4 : 4096 < a0_1
        · have b4 : decide (4096 < a0_1) = true := decide_eq_true c4
          clear c1 c2 c3 c4 h HX
          go_enter Try.func31, Try.ntmps31
          go_wp2
          go_ret
          exact ⟨rfl, by repeat (first | exact Below.refl _ _ | apply below_alloc | apply pw_below_drewN)⟩
        · have b4 : decide (4096 < a0_1) = false := decide_eq_false c4
          by_cases c5 : 0 ≤ a0_2 ∧ a0_2 < a0_0
          · have HY := Aside0.mk (nfa_is_yes a0_2 a0_0 _ c5.1 c5.2 HX.out)
            have c6 : ¬ (0 ≤ a0_3 ∧ a0_3 < a0_0) := by omega
            have HN := fun W => nfa_is_no a0_3 a0_0 W c6 (B := w.heap.size)
            have HN := Aside0.mk HN
            clear c1 c2 c3 c4 c5 c6 h HX
            go_enter Try.func31, Try.ntmps31
            go_wp2_with (first | (go_at_call 62; refine HY.out.mono ?_; rintro e w1 ⟨rfl, ⟨nd, rfl⟩⟩; clear HY) | (go_at_call 62; refine (HN.out _ ((blk_cell (blk_drewN (blk_new _ _) nd) 0).trans rfl)).mono ?_; rintro e w1 ⟨rfl, ⟨nd2, rfl⟩⟩))
            go_ret
            exact ⟨rfl, by repeat (first | exact Below.refl _ _ | apply below_alloc | apply pw_below_drewN)⟩
          · have HN := Aside0.mk (nfa_is_no a0_2 a0_0 _ c5 HX.out)
            clear c1 c2 c3 c4 c5 h HX
            go_enter Try.func31, Try.ntmps31
            go_wp2_with (first | (go_at_call 62; refine HN.out.mono ?_; rintro e w1 ⟨rfl, ⟨nd, rfl⟩⟩))
            go_ret
            exact ⟨rfl, by repeat (first | exact Below.refl _ _ | apply below_alloc | apply pw_below_drewN)⟩
set_option maxHeartbeats 1600000 in
theorem nfa_Check_many (a0_0 a0_1 a0_2 a0_3 : Int) (A : Option Addr) (c n : Nat) (w : World) (hn : 65536 < n) :
    Calls Try.prog 31 #[.agg #[.int .i64 a0_0, .int .i64 a0_1, .int .i64 a0_2, .int .i64 a0_3, .slice A n c]] w fun e w' => e = .returned (.int .i64 3) ∧ Below w.heap.size w w' := by
  have hd0 : decide ((65536 : Int) < (n : Int)) = true := decide_eq_true (by omega)
  have hd1 : decide (65536 < n) = true := decide_eq_true (by omega)
  clear hn
  go_enter Try.func31, Try.ntmps31
  go_wp2
  go_ret
  exact ⟨rfl, by repeat (first | exact Below.refl _ _ | apply below_alloc | apply pw_below_drewN)⟩
theorem nfa_all_step {f : S78 → Bool} {l : List S78} {k : Nat} (h : k < l.length) : (l.drop k).all f = (f (rd_T78 l k) && (l.drop (k + 1)).all f) := by
  rw [List.drop_eq_getElem_cons h, List.all_cons]
  unfold rd_T78
  simp [List.getElem?_eq_getElem h]
theorem nfa_all_end {f : S78 → Bool} {l : List S78} {k : Nat} (h : l.length ≤ k) : (l.drop k).all f = true := by
  rw [List.drop_eq_nil_of_le h]; rfl
set_option maxHeartbeats 3200000 in
theorem nfa_Check_arcs (a0_0 a0_1 a0_2 a0_3 : Int) (A : Option Addr) (c : Nat) (l : List S78) (r : Int) (w : World) (hrr : (if l.all (nfa_arcOk a0_0 a0_1) = true then (0 : Int) else 81) = r) (hn : l.length ≤ 65536) (h : nfa_headOk a0_0 a0_1 a0_2 a0_3 = true) (hr : Kd.C k78 w A l.length l) :
    Calls Try.prog 31 #[.agg #[.int .i64 a0_0, .int .i64 a0_1, .int .i64 a0_2, .int .i64 a0_3, .slice A l.length c]] w fun e w' => e = .returned (.int .i64 r) ∧ Below w.heap.size w w' := by
  have hmf : ∀ (fn : Fn) (first cap : Array Value) (w : World), (Instr.makeFunc fn first cap).run Try.prog w = .ok (.func fn first cap) w := fun _ _ _ _ => rfl
  have hd0 : decide ((65536 : Int) < (l.length : Int)) = false := decide_eq_false (by omega)
  have hd1 : decide (65536 < l.length) = false := decide_eq_false (by omega)
  obtain ⟨c1, c2, c3, c4, c5, c6⟩ := of_decide_eq_true h
  have b1 : decide (a0_0 < 1) = false := decide_eq_false (by omega)
  have b2 : decide (4096 < a0_0) = false := decide_eq_false (by omega)
  have b3 : decide (a0_1 < 0) = false := decide_eq_false (by omega)
  have b4 : decide (4096 < a0_1) = false := decide_eq_false (by omega)
  have HR := Aside0.mk hr
  have HRR := Aside0.mk hrr
  have hm : l.length ≤ 9223372036854775807 := hr.2.1
  have HX : Aside0 ((w.alloc (nfa_boxA a0_0 a0_1 a0_2 a0_3 A l.length c)).heap[w.heap.size]? = some (nfa_boxA a0_0 a0_1 a0_2 a0_3 A l.length c)) := ⟨blk_new _ _⟩
  unfold nfa_boxA at HX
  have HY := Aside0.mk (nfa_is_yes a0_2 a0_0 _ c5.1 c5.2 ((blk_cell HX.out 0).trans rfl))
  have HZ := Aside0.mk (fun W => nfa_is_yes a0_3 a0_0 W c6.1 c6.2 (B := w.heap.size))
  have HT := Aside0.mk (fun (s : Int) (W : World) (hs : 0 ≤ s ∧ s < a0_0) (hW : W.heap[w.heap.size]? = some (.cells #[.int .i64 a0_0, .int .i64 a0_1, .int .i64 a0_2, .int .i64 a0_3, .slice A l.length c] 31 (0, 0))) => nfa_is_yes s a0_0 W hs.1 hs.2 (B := w.heap.size) ((blk_cell hW 0).trans rfl))
  have HF := Aside0.mk (fun (s : Int) (W : World) (hs : ¬ (0 ≤ s ∧ s < a0_0)) (hW : W.heap[w.heap.size]? = some (.cells #[.int .i64 a0_0, .int .i64 a0_1, .int .i64 a0_2, .int .i64 a0_3, .slice A l.length c] 31 (0, 0))) => nfa_is_no s a0_0 W hs (B := w.heap.size) ((blk_cell hW 0).trans rfl))
  clear h c1 c2 c3 c4 c5 c6 hr hn hrr
  go_enter Try.func31, Try.ntmps31
  go_wp2_with (first | (go_at_call 62; refine HY.out.mono ?_; rintro e w1 ⟨rfl, ⟨nd, rfl⟩⟩; clear HY) | (go_at_call 62; refine (HZ.out _ ((blk_cell (blk_drewN (blk_new _ _) nd) 0).trans rfl)).mono ?_; rintro e w1 ⟨rfl, ⟨nd2, rfl⟩⟩))
  go_loopw [5, 46] (fun _ i wr => ∃ k : Nat, k ≤ l.length ∧ i = .int .i64 k ∧ Aside0 (l.all (nfa_arcOk a0_0 a0_1) = (l.drop k).all (nfa_arcOk a0_0 a0_1)) ∧ Aside0 (Below w.heap.size w wr) ∧ Aside0 (wr.heap[w.heap.size]? = some (.cells #[.int .i64 a0_0, .int .i64 a0_1, .int .i64 a0_2, .int .i64 a0_3, .slice A l.length c] 31 (0, 0)))) (fun _ i _ => l.length - (intOf i).toNat)
  case atStart => exact ⟨0, Nat.zero_le _, rfl, ⟨rfl⟩, ⟨by repeat (first | exact Below.refl _ _ | apply below_alloc | apply pw_below_drewN)⟩, ⟨by repeat (first | exact blk_new _ _ | refine blk_drewN ?_ _)⟩⟩
  case round =>
    obtain ⟨k, hk, rfl, hall, HB, BK⟩ := hrel
    clear HX HZ b1 b2 b3 b4 hd0 hd1 hmf
    by_cases hlt : k < l.length
    · obtain ⟨ad, rfl, hx0, hx1, hx2⟩ := at_T78 HR.out (k : Int) (by omega) (by omega)
      rw [Int.toNat_natCast] at hx0 hx1 hx2
      have hy0 := pw_cell_below HB.out hx0
      have hy1 := pw_cell_below HB.out hx1
      have hy2 := pw_cell_below HB.out hx2
      have HS := Aside0.mk (nfa_all_step (f := nfa_arcOk a0_0 a0_1) hlt)
      clear hx0 hx1 hx2
      by_cases q0 : 0 ≤ (rd_T78 l k).f0 ∧ (rd_T78 l k).f0 < a0_0
      · have Q0 := Aside0.mk q0
        by_cases q1 : 0 ≤ (rd_T78 l k).f2 ∧ (rd_T78 l k).f2 < a0_0
        · have Q1 := Aside0.mk q1
          by_cases q2 : -2 ≤ (rd_T78 l k).f1
          · have d2 : decide ((rd_T78 l k).f1 < -2) = false := decide_eq_false (by omega)
            have hcb : ∀ o : Obj, (wr.alloc o).cell? ⟨w.heap.size, 1, none⟩ = some (.int .i64 a0_1) := fun o => (blk_cell (blk_alloc BK.out o) 1).trans rfl
            by_cases q3 : (rd_T78 l k).f1 < a0_1
            · have hok : nfa_arcOk a0_0 a0_1 (rd_T78 l k) = true := decide_eq_true ⟨q0, q1, q2, q3⟩
              have HOK := Aside0.mk hok
              have d3 : decide (a0_1 ≤ (rd_T78 l k).f1) = false := decide_eq_false (by omega)
              clear q0 q1 q2 q3 hok
              go_wp2_with (first | (go_at_call 62; refine (HT.out _ _ Q0.out (blk_alloc BK.out _)).mono ?_; rintro e w1 ⟨rfl, ⟨nd3, rfl⟩⟩; clear Q0) | (go_at_call 62; refine (HT.out _ _ Q1.out (blk_drewN (blk_alloc BK.out _) _)).mono ?_; rintro e w1 ⟨rfl, ⟨nd4, rfl⟩⟩))
              go_roundw
              case rel => exact ⟨k + 1, by omega, by go_num, ⟨by rw [hall.out, HS.out, HOK.out]; rfl⟩, ⟨by repeat (first | exact HB.out | apply below_alloc | apply pw_below_drewN)⟩, ⟨by repeat (first | exact BK.out | refine blk_drewN ?_ _ | refine blk_alloc ?_ _)⟩⟩
              case measure => simp [intOf]; omega
            · have hok : nfa_arcOk a0_0 a0_1 (rd_T78 l k) = false := decide_eq_false (fun q => q3 q.2.2.2)
              have HOK := Aside0.mk hok
              have d3 : decide (a0_1 ≤ (rd_T78 l k).f1) = true := decide_eq_true (by omega)
              clear q0 q1 q2 q3 hok
              go_wp2_with (first | (go_at_call 62; refine (HT.out _ _ Q0.out (blk_alloc BK.out _)).mono ?_; rintro e w1 ⟨rfl, ⟨nd3, rfl⟩⟩; clear Q0) | (go_at_call 62; refine (HT.out _ _ Q1.out (blk_drewN (blk_alloc BK.out _) _)).mono ?_; rintro e w1 ⟨rfl, ⟨nd4, rfl⟩⟩))
              go_ret
              exact ⟨by rw [← HRR.out, hall.out, HS.out, HOK.out]; rfl, by repeat (first | exact HB.out | apply below_alloc | apply pw_below_drewN)⟩
          · have hok : nfa_arcOk a0_0 a0_1 (rd_T78 l k) = false := decide_eq_false (fun q => q2 q.2.2.1)
            have HOK := Aside0.mk hok
            have d2 : decide ((rd_T78 l k).f1 < -2) = true := decide_eq_true (by omega)
            clear q0 q1 q2 hok
            go_wp2_with (first | (go_at_call 62; refine (HT.out _ _ Q0.out (blk_alloc BK.out _)).mono ?_; rintro e w1 ⟨rfl, ⟨nd3, rfl⟩⟩; clear Q0) | (go_at_call 62; refine (HT.out _ _ Q1.out (blk_drewN (blk_alloc BK.out _) _)).mono ?_; rintro e w1 ⟨rfl, ⟨nd4, rfl⟩⟩))
            go_ret
            exact ⟨by rw [← HRR.out, hall.out, HS.out, HOK.out]; rfl, by repeat (first | exact HB.out | apply below_alloc | apply pw_below_drewN)⟩
        · have hok : nfa_arcOk a0_0 a0_1 (rd_T78 l k) = false := decide_eq_false (fun q => q1 q.2.1)
          have HOK := Aside0.mk hok
          have Q1 := Aside0.mk q1
          clear q0 q1 hok
          go_wp2_with (first | (go_at_call 62; refine (HT.out _ _ Q0.out (blk_alloc BK.out _)).mono ?_; rintro e w1 ⟨rfl, ⟨nd3, rfl⟩⟩; clear Q0) | (go_at_call 62; refine (HF.out _ _ Q1.out (blk_drewN (blk_alloc BK.out _) _)).mono ?_; rintro e w1 ⟨rfl, ⟨nd4, rfl⟩⟩))
          go_ret
          exact ⟨by rw [← HRR.out, hall.out, HS.out, HOK.out]; rfl, by repeat (first | exact HB.out | apply below_alloc | apply pw_below_drewN)⟩
      · have hok : nfa_arcOk a0_0 a0_1 (rd_T78 l k) = false := decide_eq_false (fun q => q0 q.1)
        have HOK := Aside0.mk hok
        have Q0 := Aside0.mk q0
        clear q0 hok
        go_wp2_with (first | (go_at_call 62; refine (HF.out _ _ Q0.out (blk_alloc BK.out _)).mono ?_; rintro e w1 ⟨rfl, ⟨nd3, rfl⟩⟩; clear Q0))
        go_ret
        exact ⟨by rw [← HRR.out, hall.out, HS.out, HOK.out]; rfl, by repeat (first | exact HB.out | apply below_alloc | apply pw_below_drewN)⟩
    · have hge : l.length ≤ k := by omega
      have HE := Aside0.mk (nfa_all_end (f := nfa_arcOk a0_0 a0_1) hge)
      go_wp2
      go_ret
      exact ⟨by rw [← HRR.out, hall.out, HE.out]; rfl, HB.out⟩
theorem nfa_Check.calls (a0_0 : Int) (a0_1 : Int) (a0_2 : Int) (a0_3 : Int) (A0_4 : Option Addr) (c0_4 : Nat) (l0_4 : List (S78)) (r : Int) (w : World) (hr0_4 : Kd.C k78 w A0_4 l0_4.length l0_4) (hc0_4 : l0_4.length ≤ c0_4) (h : nfa_Check.f a0_0 a0_1 a0_2 a0_3 l0_4 = some r) :
    Calls Try.prog 31 #[.agg #[.int .i64 a0_0, .int .i64 a0_1, .int .i64 a0_2, .int .i64 a0_3, .slice A0_4 l0_4.length c0_4]] w fun e w' => e = .returned (.int .i64 r) ∧ Below w.heap.size w w' := by
  unfold nfa_Check.f at h
  have h := Option.some.inj h
  by_cases h1 : 65536 < l0_4.length
  · rw [if_pos h1] at h
    subst h
    exact nfa_Check_many _ _ _ _ _ _ _ w h1
  · rw [if_neg h1] at h
    by_cases h2 : nfa_headOk a0_0 a0_1 a0_2 a0_3 = true
    · rw [if_pos h2] at h
      exact nfa_Check_arcs _ _ _ _ _ _ _ _ w h (by omega) h2 hr0_4
    · rw [if_neg h2] at h
      subst h
      exact nfa_Check_head _ _ _ _ _ _ _ w (by omega) (by simpa using h2)
end Go.Proofs.Ytapinbmkjkbkkaa.Lb
