import Derived.Test.YtapinbmkjkbkkaaDfVi
namespace Go.Proofs.Ytapinbmkjkbkkaa.Lb
open Go.RowKit Go.Proofs.YtapinbmkjkbkkaaW.PrintWords Go.Proofs.YtapinbmkjkbkkaaW.PrintLast Go.Proofs.YtapinbmkjkbkkaaW.PrintMore
attribute [local go_sem] max2_int min2_int max_two min_two max_three min_three max_four min_four
set_option linter.unusedVariables false
set_option linter.unusedSimpArgs false
private theorem viB {P : Prop} (h : P := by repeat (first | (with_reducible first | exact HB.out | apply below_alloc | apply pw_below_drewN | apply below_drew1 | refine below_set ?_ GE197.out | refine below_set ?_ GE199.out | refine below_set ?_ GE203.out) | exact HB.out)) : P := h
mutual
def nfa_some_list.l0 : Nat → List Int → List Int → Int → Int → Option (List Int)
  | 0, _, _, _, _ => none
  | k + 1, x3, x7, x8, x9 => if x9 < x8 then (if 0 ≤ x9 then (if x9 < (x7.length : Int) then (nfa_some_list.l1 k x3 x9 (rd x7 x9) 0 x7 x8 x9) else (none)) else (none)) else (some x3)
def nfa_some_list.l1 : Nat → List Int → Int → Int → Int → List Int → Int → Int → Option (List Int)
  | 0, _, _, _, _, _, _, _ => none
  | k + 1, x3, x4, x5, x6, x7, x8, x9 => if 0 ≤ x6 then (if (shr .u64 x5 x6) = 0 then (nfa_some_list.j2 k x3 x4 x5 x6 x7 x8 x9 false) else (nfa_some_list.j2 k x3 x4 x5 x6 x7 x8 x9 (decide (x6 < 64)))) else (none)
def nfa_some_list.j2 : Nat → List Int → Int → Int → Int → List Int → Int → Int → Bool → Option (List Int)
  | 0, _, _, _, _, _, _, _, _ => none
  | k + 1, x3, x4, x5, x6, x7, x8, x9, x21 => if x21 = true then (if 0 ≤ x6 then (if (Go.bits .and .u64 (shr .u64 x5 x6) 1) = 1 then (if x3.length < 17592186044416 then (nfa_some_list.l1 k (x3 ++ [wrap64 ((wrap64 (x4 * 64)) + x6)]) x4 x5 (wrap64 (x6 + 1)) x7 x8 x9) else (none)) else (nfa_some_list.l1 k x3 x4 x5 (wrap64 (x6 + 1)) x7 x8 x9)) else (none)) else (nfa_some_list.l0 k x3 x7 x8 (wrap64 (x9 + 1)))
end
def nfa_some_list.f (k : Nat) (l0 : List Int) : Option (List Int) := nfa_some_list.l0 k ([] : List Int) l0 (l0.length : Int) 0
theorem nfa_some_list.mono_l : ∀ k, (∀ y0 y1 y2 y3, LeO (nfa_some_list.l0 k y0 y1 y2 y3) (nfa_some_list.l0 (k + 1) y0 y1 y2 y3)) ∧ (∀ y0 y1 y2 y3 y4 y5 y6, LeO (nfa_some_list.l1 k y0 y1 y2 y3 y4 y5 y6) (nfa_some_list.l1 (k + 1) y0 y1 y2 y3 y4 y5 y6)) ∧ (∀ y0 y1 y2 y3 y4 y5 y6 y7, LeO (nfa_some_list.j2 k y0 y1 y2 y3 y4 y5 y6 y7) (nfa_some_list.j2 (k + 1) y0 y1 y2 y3 y4 y5 y6 y7))
  | 0 => ⟨fun _ _ _ _ r h => by simp [nfa_some_list.l0] at h, fun _ _ _ _ _ _ _ r h => by simp [nfa_some_list.l1] at h, fun _ _ _ _ _ _ _ _ r h => by simp [nfa_some_list.j2] at h⟩
  | k + 1 => by
    obtain ⟨ih0, ih1, ih2⟩ := nfa_some_list.mono_l k
    refine ⟨?_, ?_, ?_⟩
    · intro y0 y1 y2 y3
      unfold nfa_some_list.l0
      repeat' first
      | (with_reducible exact ih0 _ _ _ _)
      | (with_reducible exact ih1 _ _ _ _ _ _ _)
      | (with_reducible exact ih2 _ _ _ _ _ _ _ _)
      | (with_reducible exact LeO.refl _)
      | (with_reducible exact LeO.none _)
      | (with_reducible refine LeO.ite ?_ ?_)
      | (with_reducible refine LeO.bind ?_ (fun _ => ?_))
      | exact ih0 _ _ _ _
      | exact ih1 _ _ _ _ _ _ _
      | exact ih2 _ _ _ _ _ _ _ _
      | exact LeO.none _
      | refine LeO.ite ?_ ?_
      | refine LeO.bind ?_ (fun _ => ?_)
    · intro y0 y1 y2 y3 y4 y5 y6
      unfold nfa_some_list.l1
      repeat' first
      | (with_reducible exact ih0 _ _ _ _)
      | (with_reducible exact ih1 _ _ _ _ _ _ _)
      | (with_reducible exact ih2 _ _ _ _ _ _ _ _)
      | (with_reducible exact LeO.refl _)
      | (with_reducible exact LeO.none _)
      | (with_reducible refine LeO.ite ?_ ?_)
      | (with_reducible refine LeO.bind ?_ (fun _ => ?_))
      | exact ih0 _ _ _ _
      | exact ih1 _ _ _ _ _ _ _
      | exact ih2 _ _ _ _ _ _ _ _
      | exact LeO.none _
      | refine LeO.ite ?_ ?_
      | refine LeO.bind ?_ (fun _ => ?_)
    · intro y0 y1 y2 y3 y4 y5 y6 y7
      unfold nfa_some_list.j2
      repeat' first
      | (with_reducible exact ih0 _ _ _ _)
      | (with_reducible exact ih1 _ _ _ _ _ _ _)
      | (with_reducible exact ih2 _ _ _ _ _ _ _ _)
      | (with_reducible exact LeO.refl _)
      | (with_reducible exact LeO.none _)
      | (with_reducible refine LeO.ite ?_ ?_)
      | (with_reducible refine LeO.bind ?_ (fun _ => ?_))
      | exact ih0 _ _ _ _
      | exact ih1 _ _ _ _ _ _ _
      | exact ih2 _ _ _ _ _ _ _ _
      | exact LeO.none _
      | refine LeO.ite ?_ ?_
      | refine LeO.bind ?_ (fun _ => ?_)
theorem nfa_some_list.mono : ∀ a0 k, LeO (nfa_some_list.f k a0) (nfa_some_list.f (k + 1) a0) := by
  intro a0 k
  obtain ⟨ih0, ih1, ih2⟩ := nfa_some_list.mono_l k
  unfold nfa_some_list.f
  repeat' first
      | (with_reducible exact ih0 _ _ _ _)
      | (with_reducible exact ih1 _ _ _ _ _ _ _)
      | (with_reducible exact ih2 _ _ _ _ _ _ _ _)
      | (with_reducible exact LeO.refl _)
      | (with_reducible exact LeO.none _)
      | (with_reducible refine LeO.ite ?_ ?_)
      | (with_reducible refine LeO.bind ?_ (fun _ => ?_))
      | exact ih0 _ _ _ _
      | exact ih1 _ _ _ _ _ _ _
      | exact ih2 _ _ _ _ _ _ _ _
      | exact LeO.none _
      | refine LeO.ite ?_ ?_
      | refine LeO.bind ?_ (fun _ => ?_)
set_option maxHeartbeats 8000000 in
set_option maxRecDepth 100000 in
theorem nfa_some_list.calls (k : Nat) (A0 : Option Addr) (c0 : Nat) (l0 : List Int) (r : List Int) (w : World) (hr0 : Kd.C (Kd.int .u64) w A0 l0.length l0) (hc0 : l0.length ≤ c0) (h : nfa_some_list.f k l0 = some r) :
    Calls Try.prog 56 #[.slice A0 l0.length c0] w fun e w' => ∃ v0_ : Value, e = .returned (v0_) ∧ Kd.R (Kd.int .i64) 3 w' w.heap.size (fun _ => True) v0_ r ∧ Below w.heap.size w w' := by
  have HR0 := Aside0.mk hr0
  have HC0 := Aside0.mk hc0
  clear hr0 hc0
  have HB := Aside0.mk (Below.refl w.heap.size w)
  have H : (nfa_some_list.l0 k ([] : List Int) l0 (l0.length : Int) 0) = some r := h
  clear h
  have H' := Aside0.mk H
  clear H
  go_enter Try.func56, Try.ntmps56
  go_wp2
  go_loopg [3, 9] k (fun kq v3 v9 w' => ∃ (x3_1 : List Int) (x9_1 : Int), v9 = .int .i64 x9_1 ∧ Aside0 (nfa_some_list.l0 kq x3_1 l0 (l0.length : Int) x9_1 = some r) ∧ Aside0 (kq ≤ k) ∧ Aside0 (Kd.R (Kd.int .i64) 3 w' w.heap.size (fun _ => True) v3 x3_1) ∧ Aside0 (Below w.heap.size w w'))
  case atStart => exact ⟨(([] : List Int)), (0), (by first | rfl | (simp; done) | (simp [*]; done)), H', ⟨Nat.le_refl _⟩, ⟨by first | exact Kd.R_nil _ _ _ _ _ | exact Kd.N_nil _ _ _ _ _ | exact Kd.V_nil _ _ _ _ _ | exact Kd.Q_nil _ _ _ _ _ | exact Kd.S_nil _ _ _ _ _⟩, ⟨viB⟩⟩
  case round =>
    clear H'
    obtain ⟨x3_1, x9_1, rfl, HA, HK1, HO_3, HB⟩ := hrel
    cases gk with
    | zero => exact absurd HA.out (by simp [nfa_some_list.l0])
    | succ k1 =>
      have H := HA.out
      clear HA
      simp only [nfa_some_list.l0] at H
      by_cases c2 : x9_1 < (l0.length : Int)
      · rw [if_pos c2] at H
        have c2b0 : decide (x9_1 < (l0.length : Int)) = true := decide_eq_true c2
        clear c2
        by_cases c3 : 0 ≤ x9_1
        · rw [if_pos c3] at H
          have c3b0 : decide (0 ≤ x9_1) = true := decide_eq_true c3
          clear c3
          by_cases c4 : x9_1 < (l0.length : Int)
          · rw [if_pos c4] at H
            have c4b0 : decide (x9_1 < (l0.length : Int)) = true := decide_eq_true c4
            clear c4
            have H' := Aside0.mk H
            clear H
            have p185 : 0 ≤ (x9_1 : Int) := viA
            have q185 : x9_1 < (l0.length : Int) := viA
            obtain ⟨ad185, e185, hx185_0⟩ := Kd.at_int HR0.out x9_1 p185 q185
            cases e185
            replace hx185_0 := (HB.out.cell (World.block_lt_of_cell? w _ hx185_0)).trans hx185_0
            replace p185 := eq_true p185
            replace q185 := eq_true q185
            go_wp2
            go_loopg [3, 6] k1 (fun kq v3 v6 w' => ∃ (x3_2 : List Int) (x6_2 : Int), v6 = .int .i64 x6_2 ∧ Aside0 (nfa_some_list.l1 kq x3_2 x9_1 (rd l0 x9_1) x6_2 l0 (l0.length : Int) x9_1 = some r) ∧ Aside0 (kq ≤ k1) ∧ Aside0 (Kd.R (Kd.int .i64) 3 w' w.heap.size (fun _ => True) v3 x3_2) ∧ Aside0 (Below w.heap.size w w'))
            case atStart => exact ⟨(x3_1), (0), (by first | rfl | (simp; done) | (simp [*]; done)), H', ⟨Nat.le_refl _⟩, ⟨viR HO_3.out⟩, ⟨viB⟩⟩
            case round =>
              clear H'
              try clear p1
              try clear q1
              try clear hx1
              try clear c2
              try clear c2b0
              try clear p2
              try clear c3
              try clear c3b0
              try clear c4
              try clear c4b0
              try clear hx185_0
              try clear p185
              try clear q185
              obtain ⟨x3_2, x6_2, rfl, HA, HK2, HO_3, HB⟩ := hrel
              cases gk with
              | zero => exact absurd HA.out (by simp [nfa_some_list.l1])
              | succ k2 =>
                have H := HA.out
                clear HA
                simp only [nfa_some_list.l1] at H
                have HC5 := Aside0.mk H
                clear H
                go_upto_region 6 with (fail)
                go_cut [21] (fun v21 wc => ∃ (kq : Nat) (x21_4 : Bool), v21 = .bool x21_4 ∧ Aside0 (nfa_some_list.j2 kq x3_2 x9_1 (rd l0 x9_1) x6_2 l0 (l0.length : Int) x9_1 x21_4 = some r) ∧ Aside0 (kq ≤ k2) ∧ Aside0 (Kd.R (Kd.int .i64) 3 wc w.heap.size (fun _ => True) u3 x3_2) ∧ Aside0 (Below w.heap.size w wc))
                case first =>
                  have H := HC5.out
                  clear HC5
                  by_cases c6 : 0 ≤ x6_2
                  · rw [if_pos c6] at H
                    have c6b0 := eq_true c6
                    have c6b1 : decide (0 ≤ x6_2) = true := decide_eq_true c6
                    clear c6
                    obtain ⟨ji7, hji7⟩ : ∃ j_ : Int, (shr .u64 (rd l0 x9_1) x6_2) = j_ := ⟨_, rfl⟩
                    replace H : (if (ji7) = 0 then (nfa_some_list.j2 k2 x3_2 x9_1 (rd l0 x9_1) x6_2 l0 (l0.length : Int) x9_1 false) else (nfa_some_list.j2 k2 x3_2 x9_1 (rd l0 x9_1) x6_2 l0 (l0.length : Int) x9_1 (decide (x6_2 < 64)))) = some r := by first | (rw [hji7] at H; exact H) | (simp only [hji7] at H ⊢; exact H)
                    have hji7_ : ((rd l0 x9_1) / 2 ^ min x6_2.toNat 64) = ji7 := hji7
                    have hji7z : x6_2 ≤ 64 → ((rd l0 x9_1) / 2 ^ x6_2.toNat) = ji7 := shr_small hji7
                    by_cases c8 : (ji7) = 0
                    · rw [if_pos c8] at H
                      have c8b0 : ((ji7) == 0) = true := beq_iff_eq.mpr c8
                      have c8b1 : ((ji7) != 0) = false := bne_eq_false_iff_eq.mpr c8
                      clear c8
                      (first | rw [c8b0] | (simp only [i64_w, i32_w]; rw [c8b0]) | skip)
                      have H' := Aside0.mk H
                      clear H
                      go_wp2
                      go_meet
                      case rel => exact ⟨_, (false), (by first | rfl | (simp; done) | (simp [*]; done)), H', ⟨by have := HK1.out; have := HK2.out; first | omega | exact Nat.le_refl _⟩, ⟨viR HO_3.out⟩, ⟨viB⟩⟩
                    · rw [if_neg c8] at H
                      have c8b0 : ((ji7) == 0) = false := beq_eq_false_iff_ne.mpr c8
                      have c8b1 : ((ji7) != 0) = true := bne_iff_ne.mpr c8
                      (first | rw [c8b0] | (simp only [i64_w, i32_w]; rw [c8b0]) | skip)
                      have H' := Aside0.mk H
                      clear H
                      go_wp2
                      go_meet
                      case rel => exact ⟨_, (decide (x6_2 < 64)), (by first | rfl | (simp; done) | (simp [*]; done)), H', ⟨by have := HK1.out; have := HK2.out; first | omega | exact Nat.le_refl _⟩, ⟨viR HO_3.out⟩, ⟨viB⟩⟩
                  · rw [if_neg c6] at H
                    exact absurd H (by simp)
                case rest =>
                  clear HC5
                  try clear p1
                  try clear q1
                  try clear hx1
                  try clear c2
                  try clear c2b0
                  try clear p2
                  try clear c3
                  try clear c3b0
                  try clear c4
                  try clear c4b0
                  try clear c5
                  try clear c6
                  try clear c6b0
                  try clear c6b1
                  try clear c8
                  try clear c8b0
                  try clear c8b1
                  try clear hx185_0
                  try clear p1
                  try clear p185
                  try clear p2
                  try clear q1
                  try clear q185
                  obtain ⟨kq, x21_4, rfl, HA, HJ4, HO_3, HB⟩ := hcut
                  cases kq with
                  | zero => exact absurd HA.out (by simp [nfa_some_list.j2])
                  | succ kj4 =>
                    have H := HA.out
                    clear HA
                    simp only [nfa_some_list.j2] at H
                    by_cases c9 : x21_4 = true
                    · subst c9
                      have H1 : (if 0 ≤ x6_2 then (if (Go.bits .and .u64 (shr .u64 (rd l0 x9_1) x6_2) 1) = 1 then (if x3_2.length < 17592186044416 then (nfa_some_list.l1 kj4 (x3_2 ++ [wrap64 ((wrap64 (x9_1 * 64)) + x6_2)]) x9_1 (rd l0 x9_1) (wrap64 (x6_2 + 1)) l0 (l0.length : Int) x9_1) else (none)) else (nfa_some_list.l1 kj4 x3_2 x9_1 (rd l0 x9_1) (wrap64 (x6_2 + 1)) l0 (l0.length : Int) x9_1)) else (none)) = some r := by rw [if_pos rfl] at H; exact H
                      clear H
                      have H := H1
                      clear H1
                      by_cases c10 : 0 ≤ x6_2
                      · rw [if_pos c10] at H
                        have c10b0 := eq_true c10
                        have c10b1 : decide (0 ≤ x6_2) = true := decide_eq_true c10
                        clear c10
                        obtain ⟨ji11, hji11⟩ : ∃ j_ : Int, (shr .u64 (rd l0 x9_1) x6_2) = j_ := ⟨_, rfl⟩
                        replace H : (if (Go.bits .and .u64 (ji11) 1) = 1 then (if x3_2.length < 17592186044416 then (nfa_some_list.l1 kj4 (x3_2 ++ [wrap64 ((wrap64 (x9_1 * 64)) + x6_2)]) x9_1 (rd l0 x9_1) (wrap64 (x6_2 + 1)) l0 (l0.length : Int) x9_1) else (none)) else (nfa_some_list.l1 kj4 x3_2 x9_1 (rd l0 x9_1) (wrap64 (x6_2 + 1)) l0 (l0.length : Int) x9_1)) = some r := by first | (rw [hji11] at H; exact H) | (simp only [hji11] at H ⊢; exact H)
                        have hji11_ : ((rd l0 x9_1) / 2 ^ min x6_2.toNat 64) = ji11 := hji11
                        have hji11z : x6_2 ≤ 64 → ((rd l0 x9_1) / 2 ^ x6_2.toNat) = ji11 := shr_small hji11
                        by_cases c12 : (Go.bits .and .u64 (ji11) 1) = 1
                        · rw [if_pos c12] at H
                          have c12b0 : ((Go.bits .and .u64 (ji11) 1) == 1) = true := beq_iff_eq.mpr c12
                          have c12b1 : ((Go.bits .and .u64 (ji11) 1) != 1) = false := bne_eq_false_iff_eq.mpr c12
                          clear c12
                          by_cases c13 : x3_2.length < 17592186044416
                          · rw [if_pos c13] at H
                            have LMc13 := Aside0.mk c13
                            clear c13
                            obtain ⟨y186, hy186⟩ : ∃ y_ : List Int, y_ = (x3_2 ++ [wrap64 ((wrap64 (x9_1 * 64)) + x6_2)]) := ⟨_, rfl⟩
                            replace H : (nfa_some_list.l1 kj4 y186 x9_1 (rd l0 x9_1) (wrap64 (x6_2 + 1)) l0 (l0.length : Int) x9_1) = some r := by first | (rw [hy186]; with_reducible exact H) | (have H2_ := (Option.bind_some _ _).symm.trans H; rw [hy186]; with_reducible exact H2_) | (have H2_ := (Option.bind_some _ _).symm.trans H; with_reducible exact H2_) | with_reducible exact H | (rw [hy186]; exact H) | exact H
                            have Ny186 := Aside0.mk hy186
                            clear hy186
                            have H' := Aside0.mk H
                            clear H
                            go_wp2_with (first | ((with_reducible refine gate_builtin (b := .append) (xs := #[.tmp 29, .tmp 34]) rfl ?_); at_builtin; refine Kd.R_append (Kd.int .i64) (w0 := w) w.heap.size rfl (.tmp 29) (.tmp 34) 27 3 (.int .i64 0) 8 rfl Try.underlying27 info3 rfl (by decide) (by omega) u3 x3_2 (wrap64 ((wrap64 (x9_1 * 64)) + x6_2)) [.int .i64 (wrap64 ((wrap64 (x9_1 * 64)) + x6_2))] (fun _ => True) (fun _ => False) rfl rfl ?aP (fun _ hk => hk.elim) ?aF ?aO ?aB ?aS ?aL ?_; (case aP => exact rfl); (case aB => exact viB); (case aF => exact (fun _ _ => trivial)); (case aO => exact (viR HO_3.out)); (case aS => exact (below_size viB)); (case aL => have := LMc13.out; omega); intro v187 w14 ho hb hg hat; rw [← Ny186.out] at ho; have n0_ := Aside0.mk (hb); have n1_ := Aside0.mk (ho); clear HB; clear HO_3; have HB := n0_; have HO188 := n1_; clear n0_ n1_; clear ho hb hg hat))
                            go_roundg kj4
                            case measure => have := HK1.out; have := HK2.out; have := HJ4.out; omega
                            case rel => exact ⟨(y186), (wrap64 (x6_2 + 1)), (by first | rfl | (simp; done) | (simp [*]; done)), H', ⟨by have := HK1.out; have := HK2.out; have := HJ4.out; omega⟩, ⟨viR HO188.out⟩, ⟨viB⟩⟩
                          · rw [if_neg c13] at H
                            exact absurd H (by simp)
                        · rw [if_neg c12] at H
                          have c12b0 : ((Go.bits .and .u64 (ji11) 1) == 1) = false := beq_eq_false_iff_ne.mpr c12
                          have c12b1 : ((Go.bits .and .u64 (ji11) 1) != 1) = true := bne_iff_ne.mpr c12
                          have H' := Aside0.mk H
                          clear H
                          go_wp2
                          go_roundg kj4
                          case measure => have := HK1.out; have := HK2.out; have := HJ4.out; omega
                          case rel => exact ⟨(x3_2), (wrap64 (x6_2 + 1)), (by first | rfl | (simp; done) | (simp [*]; done)), H', ⟨by have := HK1.out; have := HK2.out; have := HJ4.out; omega⟩, ⟨viR HO_3.out⟩, ⟨viB⟩⟩
                      · rw [if_neg c10] at H
                        exact absurd H (by simp)
                    · replace c9 := Bool.eq_false_iff.mpr c9
                      subst c9
                      have H1 : (nfa_some_list.l0 kj4 x3_2 l0 (l0.length : Int) (wrap64 (x9_1 + 1))) = some r := by rw [if_neg (show ¬ (false = true) by decide)] at H; exact H
                      clear H
                      have H := H1
                      clear H1
                      have H' := Aside0.mk H
                      clear H
                      go_wp2
                      go_roundg kj4
                      case measure => have := HK1.out; have := HK2.out; have := HJ4.out; omega
                      case rel => exact ⟨(x3_2), (wrap64 (x9_1 + 1)), (by first | rfl | (simp; done) | (simp [*]; done)), H', ⟨by have := HK1.out; have := HK2.out; have := HJ4.out; omega⟩, ⟨viR HO_3.out⟩, ⟨viB⟩⟩
          · rw [if_neg c4] at H
            exact absurd H (by simp)
        · rw [if_neg c3] at H
          exact absurd H (by simp)
      · rw [if_neg c2] at H
        have c2b0 : decide (x9_1 < (l0.length : Int)) = false := decide_eq_false c2
        clear c2
        obtain rfl := Option.some.inj H
        go_wp2
        go_ret
        exact ⟨_, by first | rfl | (simp [errW_none, errW_some] <;> rfl) | (simp [*, errW_none, errW_some] <;> rfl), viR HO_3.out, viB⟩
mutual
def stackyardref08_hand.l0 : Nat → List Bool → Bool → Int → Int → Int → Int → List (S78) → Option (List Bool)
  | 0, _, _, _, _, _, _, _ => none
  | k + 1, x1, x5, x198000, x198001, x198002, x198003, x198004 => if x5 = true then (stackyardref08_hand.l1 k x1 false 0 x198000 x198001 x198002 x198003 x198004) else (some x1)
def stackyardref08_hand.l1 : Nat → List Bool → Bool → Int → Int → Int → Int → Int → List (S78) → Option (List Bool)
  | 0, _, _, _, _, _, _, _, _ => none
  | k + 1, x1, x5, x6, x198000, x198001, x198002, x198003, x198004 => if x6 < (x198004.length : Int) then (if 0 ≤ x6 then (if ((rd_T78 x198004 x6).f1) = (-1) then (if 0 ≤ ((rd_T78 x198004 x6).f0) then (if ((rd_T78 x198004 x6).f0) < (x1.length : Int) then (if rdOf false x1 ((rd_T78 x198004 x6).f0) = true then (if 0 ≤ ((rd_T78 x198004 x6).f2) then (if ((rd_T78 x198004 x6).f2) < (x1.length : Int) then (if (rdOf false x1 ((rd_T78 x198004 x6).f2) = true) then (stackyardref08_hand.l1 k x1 x5 (wrap64 (x6 + 1)) x198000 x198001 x198002 x198003 x198004) else (stackyardref08_hand.l1 k (x1.set (((rd_T78 x198004 x6).f2) : Int).toNat true) true (wrap64 (x6 + 1)) x198000 x198001 x198002 x198003 x198004)) else (none)) else (none)) else (stackyardref08_hand.l1 k x1 x5 (wrap64 (x6 + 1)) x198000 x198001 x198002 x198003 x198004)) else (none)) else (none)) else (stackyardref08_hand.l1 k x1 x5 (wrap64 (x6 + 1)) x198000 x198001 x198002 x198003 x198004)) else (none)) else (stackyardref08_hand.l0 k x1 x5 x198000 x198001 x198002 x198003 x198004)
end
def stackyardref08_hand.f (k : Nat) (a0_0 : Int) (a0_1 : Int) (a0_2 : Int) (a0_3 : Int) (l0_4 : List (S78)) (l1 : List Bool) : Option (List Bool) := stackyardref08_hand.l0 k l1 true a0_0 a0_1 a0_2 a0_3 l0_4
theorem stackyardref08_hand.mono_l : ∀ k, (∀ y0 y1 y2 y3 y4 y5 y6, LeO (stackyardref08_hand.l0 k y0 y1 y2 y3 y4 y5 y6) (stackyardref08_hand.l0 (k + 1) y0 y1 y2 y3 y4 y5 y6)) ∧ (∀ y0 y1 y2 y3 y4 y5 y6 y7, LeO (stackyardref08_hand.l1 k y0 y1 y2 y3 y4 y5 y6 y7) (stackyardref08_hand.l1 (k + 1) y0 y1 y2 y3 y4 y5 y6 y7))
  | 0 => ⟨fun _ _ _ _ _ _ _ r h => by simp [stackyardref08_hand.l0] at h, fun _ _ _ _ _ _ _ _ r h => by simp [stackyardref08_hand.l1] at h⟩
  | k + 1 => by
    obtain ⟨ih0, ih1⟩ := stackyardref08_hand.mono_l k
    refine ⟨?_, ?_⟩
    · intro y0 y1 y2 y3 y4 y5 y6
      unfold stackyardref08_hand.l0
      repeat' first
      | (with_reducible exact ih0 _ _ _ _ _ _ _)
      | (with_reducible exact ih1 _ _ _ _ _ _ _ _)
      | (with_reducible exact LeO.refl _)
      | (with_reducible exact LeO.none _)
      | (with_reducible refine LeO.ite ?_ ?_)
      | (with_reducible refine LeO.bind ?_ (fun _ => ?_))
      | exact ih0 _ _ _ _ _ _ _
      | exact ih1 _ _ _ _ _ _ _ _
      | exact LeO.none _
      | refine LeO.ite ?_ ?_
      | refine LeO.bind ?_ (fun _ => ?_)
    · intro y0 y1 y2 y3 y4 y5 y6 y7
      unfold stackyardref08_hand.l1
      repeat' first
      | (with_reducible exact ih0 _ _ _ _ _ _ _)
      | (with_reducible exact ih1 _ _ _ _ _ _ _ _)
      | (with_reducible exact LeO.refl _)
      | (with_reducible exact LeO.none _)
      | (with_reducible refine LeO.ite ?_ ?_)
      | (with_reducible refine LeO.bind ?_ (fun _ => ?_))
      | exact ih0 _ _ _ _ _ _ _
      | exact ih1 _ _ _ _ _ _ _ _
      | exact LeO.none _
      | refine LeO.ite ?_ ?_
      | refine LeO.bind ?_ (fun _ => ?_)
theorem stackyardref08_hand.mono : ∀ a0 a1 a2 a3 a4 a5 k, LeO (stackyardref08_hand.f k a0 a1 a2 a3 a4 a5) (stackyardref08_hand.f (k + 1) a0 a1 a2 a3 a4 a5) := by
  intro a0 a1 a2 a3 a4 a5 k
  obtain ⟨ih0, ih1⟩ := stackyardref08_hand.mono_l k
  unfold stackyardref08_hand.f
  repeat' first
      | (with_reducible exact ih0 _ _ _ _ _ _ _)
      | (with_reducible exact ih1 _ _ _ _ _ _ _ _)
      | (with_reducible exact LeO.refl _)
      | (with_reducible exact LeO.none _)
      | (with_reducible refine LeO.ite ?_ ?_)
      | (with_reducible refine LeO.bind ?_ (fun _ => ?_))
      | exact ih0 _ _ _ _ _ _ _
      | exact ih1 _ _ _ _ _ _ _ _
      | exact LeO.none _
      | refine LeO.ite ?_ ?_
      | refine LeO.bind ?_ (fun _ => ?_)
set_option maxHeartbeats 8000000 in
set_option maxRecDepth 100000 in
theorem stackyardref08_hand.calls (k : Nat) (a0_0 : Int) (a0_1 : Int) (a0_2 : Int) (a0_3 : Int) (A0_4 : Option Addr) (c0_4 : Nat) (l0_4 : List (S78)) (P1_ : Nat → Prop) (u9000_ : Value) (l1 : List Bool) (r : List Bool) (w0 w : World) (hB : Below w0.heap.size w0 w) (hr0_4 : ∀ W_, Kept w W_ (fun k_ => P1_ k_) → Kd.C k78 W_ A0_4 l0_4.length l0_4) (hc0_4 : l0_4.length ≤ c0_4) (ho1 : Kd.R Kd.bool 4 w w0.heap.size P1_ u9000_ l1) (h : stackyardref08_hand.f k a0_0 a0_1 a0_2 a0_3 l0_4 l1 = some r) :
    Calls Try.prog 78 #[.agg #[.int .i64 a0_0, .int .i64 a0_1, .int .i64 a0_2, .int .i64 a0_3, .slice A0_4 l0_4.length c0_4], u9000_] w fun e w' => ∃ v0_ : Value, e = .returned (v0_) ∧ Kd.R Kd.bool 4 w' w0.heap.size (fun k_ => (P1_ k_ ∨ w.heap.size ≤ k_)) v0_ r ∧ Below w0.heap.size w0 w' ∧ Kept w w' (fun k_ => P1_ k_) := by
  have hu31 := Try.underlying31
  have hu78 := Try.underlying78
  have HR0_4 := Aside0.mk hr0_4
  have HC0_4 := Aside0.mk hc0_4
  clear hr0_4 hc0_4
  have HO1 := Aside0.mk (show Kd.R Kd.bool 4 w w0.heap.size (fun k_ => (P1_ k_ ∨ w.heap.size ≤ k_)) u9000_ l1 from Kd.R_mono ho1 (fun k_ hk => (.inl hk)))
  have HK := Aside0.mk (Kept.refl w (fun k_ => P1_ k_))
  have HW0 := Aside0.mk hB.size
  have HB := Aside0.mk hB
  clear hB
  have H : (stackyardref08_hand.l0 k l1 true a0_0 a0_1 a0_2 a0_3 l0_4) = some r := h
  clear h
  have H' := Aside0.mk H
  clear H
  go_enter Try.func78, Try.ntmps78
  go_wp2_with (first | ((with_reducible refine gate_dst (N := 2) rfl ?_); refine box_event ?hg (N := 2) ?hd (cs := #[.int .i64 a0_0, .int .i64 a0_1, .int .i64 a0_2, .int .i64 a0_3, .slice A0_4 l0_4.length c0_4]) (t := 31) ?hr ?_; (case hd => rfl); (case hg => rfl); (case hr => first | (go_simp; done) | (go_simp; rfl)); intro gb197 hg w3 hbox hb; have n0_ := Aside0.mk (Kd.R_below (viR HO1.out) hb); have n1_ := Aside0.mk (Kept.below (S := (fun k_ => P1_ k_)) (by repeat (first | (with_reducible first | exact HK.out | apply Kept.alloc | apply Kept.drewN | apply Kept.drew) | exact HK.out)) hb); have n2_ := Aside0.mk (below_step viB hb); have n3_ := Aside0.mk (hbox); have n4_ := Aside0.mk ((by rw [hg]; exact (by first | exact HK.out.1 | exact (show Kept w _ (fun k_ => P1_ k_) from by repeat (first | (with_reducible first | exact HK.out | apply Kept.alloc | apply Kept.drewN | apply Kept.drew) | exact HK.out)).1) : w.heap.size ≤ gb197)); have n5_ := Aside0.mk ((by rw [hg]; exact (below_size viB) : w0.heap.size ≤ gb197)); clear HO1; clear HK; clear HB; have HO1 := n0_; have HK := n1_; have HB := n2_; have BK197 := n3_; have GW197 := n4_; have GE197 := n5_; clear n0_ n1_ n2_ n3_ n4_ n5_; clear hb hbox hg))
  go_loopg [5] k (fun kq v5 w' => ∃ (x1_1 : List Bool) (x5_1 : Bool), v5 = .bool x5_1 ∧ Aside0 (stackyardref08_hand.l0 kq x1_1 x5_1 a0_0 a0_1 a0_2 a0_3 l0_4 = some r) ∧ Aside0 (kq ≤ k) ∧ Aside0 (Kd.R Kd.bool 4 w' w0.heap.size (fun k_ => (P1_ k_ ∨ w.heap.size ≤ k_)) u9000_ x1_1) ∧ Aside0 (w'.heap[gb197]? = some (.cells #[.int .i64 a0_0, .int .i64 a0_1, .int .i64 a0_2, .int .i64 a0_3, (.slice A0_4 l0_4.length c0_4)] 31 (0, 0))) ∧ Aside0 (Kept w w' (fun k_ => P1_ k_)) ∧ Aside0 (Below w0.heap.size w0 w'))
  case atStart => exact ⟨(l1), (true), (by first | rfl | (simp; done) | (simp [*]; done)), H', ⟨Nat.le_refl _⟩, ⟨viR HO1.out⟩, ⟨viK BK197.out⟩, ⟨by repeat (first | (with_reducible first | exact HK.out | apply Kept.alloc | apply Kept.drewN | apply Kept.drew | refine Kept.setCell ?_ (.inr GW197.out) _) | exact HK.out)⟩, ⟨viB⟩⟩
  case round =>
    clear H'
    try clear p2
    obtain ⟨x1_1, x5_1, rfl, HA, HK1, HO_1, BK197, HK, HB⟩ := hrel
    cases gk with
    | zero => exact absurd HA.out (by simp [stackyardref08_hand.l0])
    | succ k1 =>
      have H := HA.out
      clear HA
      simp only [stackyardref08_hand.l0] at H
      by_cases c4 : x5_1 = true
      · subst c4
        have H1 : (stackyardref08_hand.l1 k1 x1_1 false 0 a0_0 a0_1 a0_2 a0_3 l0_4) = some r := by rw [if_pos rfl] at H; exact H
        clear H
        have H := H1
        clear H1
        have H' := Aside0.mk H
        clear H
        go_wp2
        go_loopg [5, 6] k1 (fun kq v5 v6 w' => ∃ (x1_2 : List Bool) (x5_2 : Bool) (x6_2 : Int), v5 = .bool x5_2 ∧ v6 = .int .i64 x6_2 ∧ Aside0 (stackyardref08_hand.l1 kq x1_2 x5_2 x6_2 a0_0 a0_1 a0_2 a0_3 l0_4 = some r) ∧ Aside0 (kq ≤ k1) ∧ Aside0 (Kd.R Kd.bool 4 w' w0.heap.size (fun k_ => (P1_ k_ ∨ w.heap.size ≤ k_)) u9000_ x1_2) ∧ Aside0 (w'.heap[gb197]? = some (.cells #[.int .i64 a0_0, .int .i64 a0_1, .int .i64 a0_2, .int .i64 a0_3, (.slice A0_4 l0_4.length c0_4)] 31 (0, 0))) ∧ Aside0 (Kept w w' (fun k_ => P1_ k_)) ∧ Aside0 (Below w0.heap.size w0 w'))
        case atStart => exact ⟨(x1_1), (false), (0), (by first | rfl | (simp; done) | (simp [*]; done)), (by first | rfl | (simp; done) | (simp [*]; done)), H', ⟨Nat.le_refl _⟩, ⟨viR HO_1.out⟩, ⟨viK BK197.out⟩, ⟨by repeat (first | (with_reducible first | exact HK.out | apply Kept.alloc | apply Kept.drewN | apply Kept.drew | refine Kept.setCell ?_ (.inr GW197.out) _) | exact HK.out)⟩, ⟨viB⟩⟩
        case round =>
          clear H'
          try clear p2
          try clear c4
          try clear p2
          obtain ⟨x1_2, x5_2, x6_2, rfl, rfl, HA, HK2, HO_1, BK197, HK, HB⟩ := hrel
          cases gk with
          | zero => exact absurd HA.out (by simp [stackyardref08_hand.l1])
          | succ k2 =>
            have H := HA.out
            clear HA
            simp only [stackyardref08_hand.l1] at H
            by_cases c5 : x6_2 < (l0_4.length : Int)
            · rw [if_pos c5] at H
              have c5b0 : decide (x6_2 < (l0_4.length : Int)) = true := decide_eq_true c5
              clear c5
              by_cases c6 : 0 ≤ x6_2
              · rw [if_pos c6] at H
                have c6b0 : decide (0 ≤ x6_2) = true := decide_eq_true c6
                clear c6
                by_cases c7 : ((rd_T78 l0_4 x6_2).f1) = (-1)
                · rw [if_pos c7] at H
                  have c7b0 : (((rd_T78 l0_4 x6_2).f1) == (-1)) = true := beq_iff_eq.mpr c7
                  have c7b1 : (((rd_T78 l0_4 x6_2).f1) != (-1)) = false := bne_eq_false_iff_eq.mpr c7
                  clear c7
                  by_cases c8 : 0 ≤ ((rd_T78 l0_4 x6_2).f0)
                  · rw [if_pos c8] at H
                    have c8b0 : decide (0 ≤ ((rd_T78 l0_4 x6_2).f0)) = true := decide_eq_true c8
                    clear c8
                    by_cases c9 : ((rd_T78 l0_4 x6_2).f0) < (x1_2.length : Int)
                    · rw [if_pos c9] at H
                      have c9b0 : decide (((rd_T78 l0_4 x6_2).f0) < (x1_2.length : Int)) = true := decide_eq_true c9
                      clear c9
                      obtain ⟨bq10, hbq10⟩ : ∃ b_ : Bool, b_ = (rdOf false x1_2 ((rd_T78 l0_4 x6_2).f0)) := ⟨_, rfl⟩
                      replace H : (if bq10 = true then (if 0 ≤ ((rd_T78 l0_4 x6_2).f2) then (if ((rd_T78 l0_4 x6_2).f2) < (x1_2.length : Int) then (if (rdOf false x1_2 ((rd_T78 l0_4 x6_2).f2) = true) then (stackyardref08_hand.l1 k2 x1_2 x5_2 (wrap64 (x6_2 + 1)) a0_0 a0_1 a0_2 a0_3 l0_4) else (stackyardref08_hand.l1 k2 (x1_2.set (((rd_T78 l0_4 x6_2).f2) : Int).toNat true) true (wrap64 (x6_2 + 1)) a0_0 a0_1 a0_2 a0_3 l0_4)) else (none)) else (none)) else (stackyardref08_hand.l1 k2 x1_2 x5_2 (wrap64 (x6_2 + 1)) a0_0 a0_1 a0_2 a0_3 l0_4)) = some r := by rw [← hbq10] at H; exact H
                      have Nbq10 := Aside0.mk hbq10
                      clear hbq10
                      by_cases c11 : bq10 = true
                      · subst c11
                        have H1 : (if 0 ≤ ((rd_T78 l0_4 x6_2).f2) then (if ((rd_T78 l0_4 x6_2).f2) < (x1_2.length : Int) then (if (rdOf false x1_2 ((rd_T78 l0_4 x6_2).f2) = true) then (stackyardref08_hand.l1 k2 x1_2 x5_2 (wrap64 (x6_2 + 1)) a0_0 a0_1 a0_2 a0_3 l0_4) else (stackyardref08_hand.l1 k2 (x1_2.set (((rd_T78 l0_4 x6_2).f2) : Int).toNat true) true (wrap64 (x6_2 + 1)) a0_0 a0_1 a0_2 a0_3 l0_4)) else (none)) else (none)) = some r := by rw [if_pos rfl] at H; exact H
                        clear H
                        have H := H1
                        clear H1
                        by_cases c12 : 0 ≤ ((rd_T78 l0_4 x6_2).f2)
                        · rw [if_pos c12] at H
                          have c12b0 : decide (0 ≤ ((rd_T78 l0_4 x6_2).f2)) = true := decide_eq_true c12
                          clear c12
                          by_cases c13 : ((rd_T78 l0_4 x6_2).f2) < (x1_2.length : Int)
                          · rw [if_pos c13] at H
                            have c13b0 : decide (((rd_T78 l0_4 x6_2).f2) < (x1_2.length : Int)) = true := decide_eq_true c13
                            clear c13
                            obtain ⟨bq14, hbq14⟩ : ∃ b_ : Bool, b_ = (rdOf false x1_2 ((rd_T78 l0_4 x6_2).f2)) := ⟨_, rfl⟩
                            replace H : (if (bq14 = true) then (stackyardref08_hand.l1 k2 x1_2 x5_2 (wrap64 (x6_2 + 1)) a0_0 a0_1 a0_2 a0_3 l0_4) else (stackyardref08_hand.l1 k2 (x1_2.set (((rd_T78 l0_4 x6_2).f2) : Int).toNat true) true (wrap64 (x6_2 + 1)) a0_0 a0_1 a0_2 a0_3 l0_4)) = some r := by rw [← hbq14] at H; exact H
                            have Nbq14 := Aside0.mk hbq14
                            clear hbq14
                            by_cases c15 : (bq14 = true)
                            · subst c15
                              have H1 : (stackyardref08_hand.l1 k2 x1_2 x5_2 (wrap64 (x6_2 + 1)) a0_0 a0_1 a0_2 a0_3 l0_4) = some r := by rw [if_pos rfl] at H; exact H
                              clear H
                              have H := H1
                              clear H1
                              have H' := Aside0.mk H
                              clear H
                              have hcz16_0 : wr.cell? ⟨gb197, 0, none⟩ = some (.int .i64 a0_0) := (blk_cell BK197.out 0).trans rfl
                              have hcz16_1 : wr.cell? ⟨gb197, 1, none⟩ = some (.int .i64 a0_1) := (blk_cell BK197.out 1).trans rfl
                              have hcz16_2 : wr.cell? ⟨gb197, 2, none⟩ = some (.int .i64 a0_2) := (blk_cell BK197.out 2).trans rfl
                              have hcz16_3 : wr.cell? ⟨gb197, 3, none⟩ = some (.int .i64 a0_3) := (blk_cell BK197.out 3).trans rfl
                              have hcz16_4 : wr.cell? ⟨gb197, 4, none⟩ = some (.slice A0_4 l0_4.length c0_4) := (blk_cell BK197.out 4).trans rfl
                              have hfz16_0 := blk_frozen BK197.out 0
                              have hfz16_1 := blk_frozen BK197.out 1
                              have hfz16_2 := blk_frozen BK197.out 2
                              have hfz16_3 := blk_frozen BK197.out 3
                              have hfz16_4 := blk_frozen BK197.out 4
                              have p198 : 0 ≤ (x6_2 : Int) := viA
                              have q198 : x6_2 < (l0_4.length : Int) := viA
                              obtain ⟨ad198, e198, hx198_0, hx198_1, hx198_2⟩ := at_T78 (Kd.C_kept_now HR0_4.out HK.out) x6_2 p198 q198
                              cases e198
                              replace p198 := eq_true p198
                              replace q198 := eq_true q198
                              go_wp2_with (first | ((with_reducible refine gate_dst (N := 7) rfl ?_); refine box_event ?hg (N := 7) ?hd (cs := #[.int .i64 0, .int .i64 0, .int .i64 0]) (t := 78) ?hr ?_; (case hd => rfl); (case hg => rfl); (case hr => first | (go_simp; done) | (go_simp; rfl)); intro gb199 hg w17 hbox hb; have n0_ := Aside0.mk (Kd.R_below (viR HO_1.out) hb); have n1_ := Aside0.mk (blk_below (g := gb197) (o := .cells #[.int .i64 a0_0, .int .i64 a0_1, .int .i64 a0_2, .int .i64 a0_3, .slice (some ad198) l0_4.length c0_4] 31 (0, 0)) (viK BK197.out) hb); have n2_ := Aside0.mk (Kept.below (S := (fun k_ => P1_ k_)) (by repeat (first | (with_reducible first | exact HK.out | apply Kept.alloc | apply Kept.drewN | apply Kept.drew | refine Kept.setCell ?_ (.inr GW197.out) _) | exact HK.out)) hb); have n3_ := Aside0.mk (below_step viB hb); have n4_ := Aside0.mk (hbox); have n5_ := Aside0.mk ((by rw [hg]; exact (by first | exact HK.out.1 | exact (show Kept w _ (fun k_ => P1_ k_) from by repeat (first | (with_reducible first | exact HK.out | apply Kept.alloc | apply Kept.drewN | apply Kept.drew | refine Kept.setCell ?_ (.inr GW197.out) _) | exact HK.out)).1) : w.heap.size ≤ gb199)); have n6_ := Aside0.mk ((by rw [hg]; exact (below_size viB) : w0.heap.size ≤ gb199)); have n7_ := Aside0.mk ((by rw [hg]; exact Nat.ne_of_lt (blk_lt (g := gb197) (o := .cells #[.int .i64 a0_0, .int .i64 a0_1, .int .i64 a0_2, .int .i64 a0_3, .slice (some ad198) l0_4.length c0_4] 31 (0, 0)) (viK BK197.out)) : gb197 ≠ gb199)); have n8_ := Aside0.mk ((by rw [hg]; exact Nat.ne_of_gt (blk_lt (g := gb197) (o := .cells #[.int .i64 a0_0, .int .i64 a0_1, .int .i64 a0_2, .int .i64 a0_3, .slice (some ad198) l0_4.length c0_4] 31 (0, 0)) (viK BK197.out)) : gb199 ≠ gb197)); clear HO_1; clear BK197; clear HK; clear HB; have HO_1 := n0_; have BK197 := n1_; have HK := n2_; have HB := n3_; have BK199 := n4_; have GW199 := n5_; have GE199 := n6_; have NB197_199 := n7_; have NB199_197 := n8_; clear n0_ n1_ n2_ n3_ n4_ n5_ n6_ n7_ n8_; clear hb hbox hg; have hnb18 := NB199_197.out; have hnc18 := NB197_199.out; have hcz19_0 : w17.cell? ⟨gb199, 0, none⟩ = some (.int .i64 0) := (blk_cell BK199.out 0).trans rfl; have hcz19_1 : w17.cell? ⟨gb199, 1, none⟩ = some (.int .i64 0) := (blk_cell BK199.out 1).trans rfl; have hcz19_2 : w17.cell? ⟨gb199, 2, none⟩ = some (.int .i64 0) := (blk_cell BK199.out 2).trans rfl; have hfz19_0 := blk_frozen BK199.out 0; have hfz19_1 := blk_frozen BK199.out 1; have hfz19_2 := blk_frozen BK199.out 2; obtain ⟨Ao20, co20, eo20⟩ := Kd.R_slice HO_1.out; subst eo20; have p200 : 0 ≤ (((rd_T78 l0_4 x6_2).f0) : Int) := viA; have q200 : ((rd_T78 l0_4 x6_2).f0) < (x1_2.length : Int) := viA; obtain ⟨ad200, e200, hx200_0⟩ := Kd.at_bool (Kd.R_reads' HO_1.out).2.2 ((rd_T78 l0_4 x6_2).f0) p200 q200; (try rw [← Nbq10.out] at hx200_0); (try rw [← Nbq14.out] at hx200_0); cases e200; have hn200_0 : ad200.block ≠ gb199 := Kd.own_blk (Kd.R_ne HO_1.out BK199.out (by decide)); have hn200_1 : ad200.block ≠ gb199 := Kd.own_blk (Kd.R_ne HO_1.out BK199.out (by decide)); have hn200_2 : ad200.block ≠ gb199 := Kd.own_blk (Kd.R_ne HO_1.out BK199.out (by decide)); replace hx200_0 := (cell_far (p := ⟨gb199, 0, none⟩) (by first | (rw [add_block]; exact hn200_0) | (show (Addr.add _ _).block ≠ _; rw [add_block]; exact hn200_0) | exact hn200_0) (.int .i64 ((rd_T78 l0_4 x6_2).f0))).trans hx200_0; replace hx200_0 := (cell_far (p := ⟨gb199, 1, none⟩) (by first | (rw [add_block]; exact hn200_1) | (show (Addr.add _ _).block ≠ _; rw [add_block]; exact hn200_1) | exact hn200_1) (.int .i64 ((rd_T78 l0_4 x6_2).f1))).trans hx200_0; replace hx200_0 := (cell_far (p := ⟨gb199, 2, none⟩) (by first | (rw [add_block]; exact hn200_2) | (show (Addr.add _ _).block ≠ _; rw [add_block]; exact hn200_2) | exact hn200_2) (.int .i64 ((rd_T78 l0_4 x6_2).f2))).trans hx200_0; clear hn200_0; clear hn200_1; clear hn200_2; replace p200 := eq_true p200; replace q200 := eq_true q200; have p201 : 0 ≤ (((rd_T78 l0_4 x6_2).f2) : Int) := viA; have q201 : ((rd_T78 l0_4 x6_2).f2) < (x1_2.length : Int) := viA; obtain ⟨ad201, e201, hx201_0⟩ := Kd.at_bool (Kd.R_reads' HO_1.out).2.2 ((rd_T78 l0_4 x6_2).f2) p201 q201; (try rw [← Nbq10.out] at hx201_0); (try rw [← Nbq14.out] at hx201_0); obtain rfl : ad200 = ad201 := (by injection e201); have hn201_0 : ad200.block ≠ gb199 := Kd.own_blk (Kd.R_ne HO_1.out BK199.out (by decide)); have hn201_1 : ad200.block ≠ gb199 := Kd.own_blk (Kd.R_ne HO_1.out BK199.out (by decide)); have hn201_2 : ad200.block ≠ gb199 := Kd.own_blk (Kd.R_ne HO_1.out BK199.out (by decide)); replace hx201_0 := (cell_far (p := ⟨gb199, 0, none⟩) (by first | (rw [add_block]; exact hn201_0) | (show (Addr.add _ _).block ≠ _; rw [add_block]; exact hn201_0) | exact hn201_0) (.int .i64 ((rd_T78 l0_4 x6_2).f0))).trans hx201_0; replace hx201_0 := (cell_far (p := ⟨gb199, 1, none⟩) (by first | (rw [add_block]; exact hn201_1) | (show (Addr.add _ _).block ≠ _; rw [add_block]; exact hn201_1) | exact hn201_1) (.int .i64 ((rd_T78 l0_4 x6_2).f1))).trans hx201_0; replace hx201_0 := (cell_far (p := ⟨gb199, 2, none⟩) (by first | (rw [add_block]; exact hn201_2) | (show (Addr.add _ _).block ≠ _; rw [add_block]; exact hn201_2) | exact hn201_2) (.int .i64 ((rd_T78 l0_4 x6_2).f2))).trans hx201_0; clear hn201_0; clear hn201_1; clear hn201_2; replace p201 := eq_true p201; replace q201 := eq_true q201))
                              go_roundg k2
                              case measure => have := HK1.out; have := HK2.out; omega
                              case rel => exact ⟨(x1_2), (x5_2), (wrap64 (x6_2 + 1)), (by first | rfl | (simp; done) | (simp [*]; done)), (by first | rfl | (simp; done) | (simp [*]; done)), H', ⟨by have := HK1.out; have := HK2.out; omega⟩, ⟨by refine viR ?_; exact Kd.R_mono (Kd.R_far (p := ⟨gb199, 2, none⟩) (Kd.R_far (p := ⟨gb199, 1, none⟩) (Kd.R_far (p := ⟨gb199, 0, none⟩) (Kd.R_types HO_1.out BK199.out (by decide)) (fun _ hk => hk.2) (.int .i64 ((rd_T78 l0_4 x6_2).f0))) (fun _ hk => hk.2) (.int .i64 ((rd_T78 l0_4 x6_2).f1))) (fun _ hk => hk.2) (.int .i64 ((rd_T78 l0_4 x6_2).f2))) (fun _ hk => hk.1)⟩, ⟨by refine viK ?_; refine blk_far ?_ NB197_199.out _; refine viK ?_; refine blk_far ?_ NB197_199.out _; refine viK ?_; refine blk_far ?_ NB197_199.out _; refine viK ?_; exact BK197.out⟩, ⟨by repeat (first | (with_reducible first | exact HK.out | apply Kept.alloc | apply Kept.drewN | apply Kept.drew | refine Kept.setCell ?_ (.inr GW197.out) _ | refine Kept.setCell ?_ (.inr GW199.out) _) | exact HK.out)⟩, ⟨viB⟩⟩
                            · replace c15 := Bool.eq_false_iff.mpr c15
                              subst c15
                              have H1 : (stackyardref08_hand.l1 k2 (x1_2.set (((rd_T78 l0_4 x6_2).f2) : Int).toNat true) true (wrap64 (x6_2 + 1)) a0_0 a0_1 a0_2 a0_3 l0_4) = some r := by rw [if_neg (show ¬ (false = true) by decide)] at H; exact H
                              clear H
                              have H := H1
                              clear H1
                              obtain ⟨y202, hy202⟩ : ∃ y_ : List Bool, y_ = (x1_2.set (((rd_T78 l0_4 x6_2).f2) : Int).toNat true) := ⟨_, rfl⟩
                              replace H : (stackyardref08_hand.l1 k2 y202 true (wrap64 (x6_2 + 1)) a0_0 a0_1 a0_2 a0_3 l0_4) = some r := by first | (rw [hy202]; with_reducible exact H) | (have H2_ := (Option.bind_some _ _).symm.trans H; rw [hy202]; with_reducible exact H2_) | (have H2_ := (Option.bind_some _ _).symm.trans H; with_reducible exact H2_) | with_reducible exact H | (rw [hy202]; exact H) | exact H
                              have Ny202 := Aside0.mk hy202
                              clear hy202
                              have H' := Aside0.mk H
                              clear H
                              have hcz22_0 : wr.cell? ⟨gb197, 0, none⟩ = some (.int .i64 a0_0) := (blk_cell BK197.out 0).trans rfl
                              have hcz22_1 : wr.cell? ⟨gb197, 1, none⟩ = some (.int .i64 a0_1) := (blk_cell BK197.out 1).trans rfl
                              have hcz22_2 : wr.cell? ⟨gb197, 2, none⟩ = some (.int .i64 a0_2) := (blk_cell BK197.out 2).trans rfl
                              have hcz22_3 : wr.cell? ⟨gb197, 3, none⟩ = some (.int .i64 a0_3) := (blk_cell BK197.out 3).trans rfl
                              have hcz22_4 : wr.cell? ⟨gb197, 4, none⟩ = some (.slice A0_4 l0_4.length c0_4) := (blk_cell BK197.out 4).trans rfl
                              have hfz22_0 := blk_frozen BK197.out 0
                              have hfz22_1 := blk_frozen BK197.out 1
                              have hfz22_2 := blk_frozen BK197.out 2
                              have hfz22_3 := blk_frozen BK197.out 3
                              have hfz22_4 := blk_frozen BK197.out 4
                              have p198 : 0 ≤ (x6_2 : Int) := viA
                              have q198 : x6_2 < (l0_4.length : Int) := viA
                              obtain ⟨ad198, e198, hx198_0, hx198_1, hx198_2⟩ := at_T78 (Kd.C_kept_now HR0_4.out HK.out) x6_2 p198 q198
                              cases e198
                              replace p198 := eq_true p198
                              replace q198 := eq_true q198
                              go_wp2_with (first | ((with_reducible refine gate_dst (N := 7) rfl ?_); refine box_event ?hg (N := 7) ?hd (cs := #[.int .i64 0, .int .i64 0, .int .i64 0]) (t := 78) ?hr ?_; (case hd => rfl); (case hg => rfl); (case hr => first | (go_simp; done) | (go_simp; rfl)); intro gb199 hg w23 hbox hb; have n0_ := Aside0.mk (Kd.R_below (viR HO_1.out) hb); have n1_ := Aside0.mk (blk_below (g := gb197) (o := .cells #[.int .i64 a0_0, .int .i64 a0_1, .int .i64 a0_2, .int .i64 a0_3, .slice (some ad198) l0_4.length c0_4] 31 (0, 0)) (viK BK197.out) hb); have n2_ := Aside0.mk (Kept.below (S := (fun k_ => P1_ k_)) (by repeat (first | (with_reducible first | exact HK.out | apply Kept.alloc | apply Kept.drewN | apply Kept.drew | refine Kept.setCell ?_ (.inr GW197.out) _) | exact HK.out)) hb); have n3_ := Aside0.mk (below_step viB hb); have n4_ := Aside0.mk (hbox); have n5_ := Aside0.mk ((by rw [hg]; exact (by first | exact HK.out.1 | exact (show Kept w _ (fun k_ => P1_ k_) from by repeat (first | (with_reducible first | exact HK.out | apply Kept.alloc | apply Kept.drewN | apply Kept.drew | refine Kept.setCell ?_ (.inr GW197.out) _) | exact HK.out)).1) : w.heap.size ≤ gb199)); have n6_ := Aside0.mk ((by rw [hg]; exact (below_size viB) : w0.heap.size ≤ gb199)); have n7_ := Aside0.mk ((by rw [hg]; exact Nat.ne_of_lt (blk_lt (g := gb197) (o := .cells #[.int .i64 a0_0, .int .i64 a0_1, .int .i64 a0_2, .int .i64 a0_3, .slice (some ad198) l0_4.length c0_4] 31 (0, 0)) (viK BK197.out)) : gb197 ≠ gb199)); have n8_ := Aside0.mk ((by rw [hg]; exact Nat.ne_of_gt (blk_lt (g := gb197) (o := .cells #[.int .i64 a0_0, .int .i64 a0_1, .int .i64 a0_2, .int .i64 a0_3, .slice (some ad198) l0_4.length c0_4] 31 (0, 0)) (viK BK197.out)) : gb199 ≠ gb197)); clear HO_1; clear BK197; clear HK; clear HB; have HO_1 := n0_; have BK197 := n1_; have HK := n2_; have HB := n3_; have BK199 := n4_; have GW199 := n5_; have GE199 := n6_; have NB197_199 := n7_; have NB199_197 := n8_; clear n0_ n1_ n2_ n3_ n4_ n5_ n6_ n7_ n8_; clear hb hbox hg; have hnb24 := NB199_197.out; have hnc24 := NB197_199.out; have hcz25_0 : w23.cell? ⟨gb199, 0, none⟩ = some (.int .i64 0) := (blk_cell BK199.out 0).trans rfl; have hcz25_1 : w23.cell? ⟨gb199, 1, none⟩ = some (.int .i64 0) := (blk_cell BK199.out 1).trans rfl; have hcz25_2 : w23.cell? ⟨gb199, 2, none⟩ = some (.int .i64 0) := (blk_cell BK199.out 2).trans rfl; have hfz25_0 := blk_frozen BK199.out 0; have hfz25_1 := blk_frozen BK199.out 1; have hfz25_2 := blk_frozen BK199.out 2) | ((with_reducible refine gate_store (t := 78) (p := 7) rfl ?_); refine store_event (t := 78) (p := 7) (v := ?vo_w26) (w1 := (((w23.setCell ⟨gb199, 0, none⟩ (.int .i64 ((rd_T78 l0_4 x6_2).f0))).setCell ⟨gb199, 1, none⟩ (.int .i64 ((rd_T78 l0_4 x6_2).f1))).setCell ⟨gb199, 2, none⟩ (.int .i64 ((rd_T78 l0_4 x6_2).f2)))) ?hg ?ho ?hn ?hr ?_; (case ho => rfl); (case hg => rfl); (case hn => rfl); (case hr => first | (go_simp; done) | (go_simp; rfl)); intro w26 hw; have n0_ : Aside0 (Kd.R Kd.bool 4 w26 w0.heap.size (fun k_ => (P1_ k_ ∨ w.heap.size ≤ k_)) u9000_ x1_2) := ⟨(by rw [hw]; exact (by refine viR ?_; exact Kd.R_mono (Kd.R_far (p := ⟨gb199, 2, none⟩) (Kd.R_far (p := ⟨gb199, 1, none⟩) (Kd.R_far (p := ⟨gb199, 0, none⟩) (Kd.R_types HO_1.out BK199.out (by decide)) (fun _ hk => hk.2) (.int .i64 ((rd_T78 l0_4 x6_2).f0))) (fun _ hk => hk.2) (.int .i64 ((rd_T78 l0_4 x6_2).f1))) (fun _ hk => hk.2) (.int .i64 ((rd_T78 l0_4 x6_2).f2))) (fun _ hk => hk.1)))⟩; have n1_ : Aside0 (w26.heap[gb197]? = some (.cells #[.int .i64 a0_0, .int .i64 a0_1, .int .i64 a0_2, .int .i64 a0_3, .slice (some ad198) l0_4.length c0_4] 31 (0, 0))) := ⟨(by rw [hw]; exact (by refine viK ?_; refine blk_far ?_ NB197_199.out _; refine viK ?_; refine blk_far ?_ NB197_199.out _; refine viK ?_; refine blk_far ?_ NB197_199.out _; refine viK ?_; exact BK197.out))⟩; have n2_ : Aside0 (w26.heap[gb199]? = some (.cells #[.int .i64 ((rd_T78 l0_4 x6_2).f0), .int .i64 ((rd_T78 l0_4 x6_2).f1), .int .i64 ((rd_T78 l0_4 x6_2).f2)] 78 (0, 0))) := ⟨(by rw [hw]; exact (by refine viK ?_; refine blk_put (cs := #[.int .i64 ((rd_T78 l0_4 x6_2).f0), .int .i64 ((rd_T78 l0_4 x6_2).f1), .int .i64 0]) ?_ 2 _ rfl; refine viK ?_; refine blk_put (cs := #[.int .i64 ((rd_T78 l0_4 x6_2).f0), .int .i64 0, .int .i64 0]) ?_ 1 _ rfl; refine viK ?_; refine blk_put (cs := #[.int .i64 0, .int .i64 0, .int .i64 0]) ?_ 0 _ rfl; refine viK ?_; exact BK199.out))⟩; have n3_ : Aside0 (Kept w w26 (fun k_ => P1_ k_)) := ⟨(by rw [hw]; exact (by repeat (first | (with_reducible first | exact HK.out | apply Kept.alloc | apply Kept.drewN | apply Kept.drew | refine Kept.setCell ?_ (.inr GW197.out) _ | refine Kept.setCell ?_ (.inr GW199.out) _) | exact HK.out)))⟩; have n4_ : Aside0 (Below w0.heap.size w0 w26) := ⟨(by rw [hw]; exact viB)⟩; clear hw; clear HO_1; clear BK197; clear BK199; clear HK; clear HB; have HO_1 := n0_; have BK197 := n1_; have BK199 := n2_; have HK := n3_; have HB := n4_; clear n0_ n1_ n2_ n3_ n4_; have hcz27_0 : w26.cell? ⟨gb199, 0, none⟩ = some (.int .i64 ((rd_T78 l0_4 x6_2).f0)) := (blk_cell BK199.out 0).trans rfl; have hcz27_1 : w26.cell? ⟨gb199, 1, none⟩ = some (.int .i64 ((rd_T78 l0_4 x6_2).f1)) := (blk_cell BK199.out 1).trans rfl; have hcz27_2 : w26.cell? ⟨gb199, 2, none⟩ = some (.int .i64 ((rd_T78 l0_4 x6_2).f2)) := (blk_cell BK199.out 2).trans rfl; have hfz27_0 := blk_frozen BK199.out 0; have hfz27_1 := blk_frozen BK199.out 1; have hfz27_2 := blk_frozen BK199.out 2; obtain ⟨Ao28, co28, eo28⟩ := Kd.R_slice HO_1.out; subst eo28; have p200 : 0 ≤ (((rd_T78 l0_4 x6_2).f0) : Int) := viA; have q200 : ((rd_T78 l0_4 x6_2).f0) < (x1_2.length : Int) := viA; obtain ⟨ad200, e200, hx200_0⟩ := Kd.at_bool (Kd.R_reads' HO_1.out).2.2 ((rd_T78 l0_4 x6_2).f0) p200 q200; (try rw [← Nbq10.out] at hx200_0); (try rw [← Nbq14.out] at hx200_0); cases e200; replace p200 := eq_true p200; replace q200 := eq_true q200; have p201 : 0 ≤ (((rd_T78 l0_4 x6_2).f2) : Int) := viA; have q201 : ((rd_T78 l0_4 x6_2).f2) < (x1_2.length : Int) := viA; obtain ⟨ad201, e201, hx201_0⟩ := Kd.at_bool (Kd.R_reads' HO_1.out).2.2 ((rd_T78 l0_4 x6_2).f2) p201 q201; (try rw [← Nbq10.out] at hx201_0); (try rw [← Nbq14.out] at hx201_0); obtain rfl : ad200 = ad201 := (by injection e201); replace p201 := eq_true p201; replace q201 := eq_true q201; have p21 : 0 ≤ (((rd_T78 l0_4 x6_2).f2) : Int) := viA; have q21 : (((rd_T78 l0_4 x6_2).f2) : Int) < ((x1_2.length : Int) : Int) := viA; obtain ⟨go21, co21, eo21, gb21, gl21, cl21, HG21⟩ := Kd.R_form HO_1.out (by omega); (first | cases eo21 | (injection eo21 with ea_ en_ ec_; (first | subst ea_ | (injection ea_ with ea_; subst ea_)); subst ec_; clear en_)); have GB21 := Aside0.mk gb21; have GG21 := Aside0.mk HG21; clear gb21 gl21 HG21; have HMgo21 := Aside0.mk (show (P1_ go21 ∨ w.heap.size ≤ go21) from (HO_1.out.1 _ rfl)); (first | simp only [add_plain] at hx200_0 | skip); (first | simp only [add_plain] at hx201_0 | skip); obtain ⟨hx21_0, hf21_0⟩ := Kd.R_celln false HO_1.out (((rd_T78 l0_4 x6_2).f2) : Int) p21 q21; replace p21 := eq_true p21; replace q21 := eq_true q21; obtain ⟨hy29_, hz29_⟩ := Kd.R_celln false HO_1.out (((rd_T78 l0_4 x6_2).f2) : Int) viA viA; have HP29 := Kd.R_putg HO_1.out (((rd_T78 l0_4 x6_2).f2) : Int) true) | ((with_reducible refine gate_store (t := 4) (p := 42) rfl ?_); refine store_event (t := 4) (p := 42) (v := ?vo_w30) (w1 := (w26.setCell ⟨go21, (((rd_T78 l0_4 x6_2).f2) : Int).toNat, none⟩ (.bool true))) ?hg ?ho ?hn ?hr ?_; (case ho => rfl); (case hg => rfl); (case hn => rfl); (case hr => first | (go_simp; done) | (go_simp; rfl)); intro w30 hw; have hg : w26.grownBy w30 (some go21) := (by rw [hw]; exact HP29.2); have hp_ : Kd.R Kd.bool 4 w30 w0.heap.size (fun k_ => (P1_ k_ ∨ w.heap.size ≤ k_)) (.slice (some ⟨go21, 0, none⟩) x1_2.length co28) y202 := (by rw [hw, Ny202.out]; exact HP29.1); clear HP29; have n0_ := Aside0.mk (hp_); have n1_ := Aside0.mk (blk_grown (g := gb197) (o := .cells #[.int .i64 a0_0, .int .i64 a0_1, .int .i64 a0_2, .int .i64 a0_3, .slice (some ad198) l0_4.length c0_4] 31 (0, 0)) (viK BK197.out) hg (Kd.R_ne HO_1.out BK197.out (by decide))); have n2_ := Aside0.mk (blk_grown (g := gb199) (o := .cells #[.int .i64 ((rd_T78 l0_4 x6_2).f0), .int .i64 ((rd_T78 l0_4 x6_2).f1), .int .i64 ((rd_T78 l0_4 x6_2).f2)] 78 (0, 0)) (viK BK199.out) hg (Kd.R_ne HO_1.out BK199.out (by decide))); have n3_ := Aside0.mk ((by rw [hw]; exact below_set (HB.out) GB21.out : Below w0.heap.size w0 w30)); have n4_ := Aside0.mk (Kept.of_grown (S := (fun k_ => P1_ k_)) hg (by repeat (first | (with_reducible first | exact HK.out | apply Kept.alloc | apply Kept.drewN | apply Kept.drew | refine Kept.setCell ?_ (.inr GW197.out) _ | refine Kept.setCell ?_ (.inr GW199.out) _) | exact HK.out)) (fun k_ e_ => (HO_1.out.1 k_ e_))); clear HO_1; clear BK197; clear BK199; clear HB; clear HK; have HO_1 := n0_; have BK197 := n1_; have BK199 := n2_; have HB := n3_; have HK := n4_; clear n0_ n1_ n2_ n3_ n4_; clear hg hw hp_))
                              go_roundg k2
                              case measure => have := HK1.out; have := HK2.out; omega
                              case rel => exact ⟨(y202), (true), (wrap64 (x6_2 + 1)), (by first | rfl | (simp; done) | (simp [*]; done)), (by first | rfl | (simp; done) | (simp [*]; done)), H', ⟨by have := HK1.out; have := HK2.out; omega⟩, ⟨viR HO_1.out⟩, ⟨viK BK197.out⟩, ⟨by repeat (first | (with_reducible first | exact HK.out | apply Kept.alloc | apply Kept.drewN | apply Kept.drew | refine Kept.setCell ?_ (.inr GW197.out) _ | refine Kept.setCell ?_ (.inr GW199.out) _) | exact HK.out)⟩, ⟨viB⟩⟩
                          · rw [if_neg c13] at H
                            exact absurd H (by simp)
                        · rw [if_neg c12] at H
                          exact absurd H (by simp)
                      · replace c11 := Bool.eq_false_iff.mpr c11
                        subst c11
                        have H1 : (stackyardref08_hand.l1 k2 x1_2 x5_2 (wrap64 (x6_2 + 1)) a0_0 a0_1 a0_2 a0_3 l0_4) = some r := by rw [if_neg (show ¬ (false = true) by decide)] at H; exact H
                        clear H
                        have H := H1
                        clear H1
                        have H' := Aside0.mk H
                        clear H
                        have hcz31_0 : wr.cell? ⟨gb197, 0, none⟩ = some (.int .i64 a0_0) := (blk_cell BK197.out 0).trans rfl
                        have hcz31_1 : wr.cell? ⟨gb197, 1, none⟩ = some (.int .i64 a0_1) := (blk_cell BK197.out 1).trans rfl
                        have hcz31_2 : wr.cell? ⟨gb197, 2, none⟩ = some (.int .i64 a0_2) := (blk_cell BK197.out 2).trans rfl
                        have hcz31_3 : wr.cell? ⟨gb197, 3, none⟩ = some (.int .i64 a0_3) := (blk_cell BK197.out 3).trans rfl
                        have hcz31_4 : wr.cell? ⟨gb197, 4, none⟩ = some (.slice A0_4 l0_4.length c0_4) := (blk_cell BK197.out 4).trans rfl
                        have hfz31_0 := blk_frozen BK197.out 0
                        have hfz31_1 := blk_frozen BK197.out 1
                        have hfz31_2 := blk_frozen BK197.out 2
                        have hfz31_3 := blk_frozen BK197.out 3
                        have hfz31_4 := blk_frozen BK197.out 4
                        have p198 : 0 ≤ (x6_2 : Int) := viA
                        have q198 : x6_2 < (l0_4.length : Int) := viA
                        obtain ⟨ad198, e198, hx198_0, hx198_1, hx198_2⟩ := at_T78 (Kd.C_kept_now HR0_4.out HK.out) x6_2 p198 q198
                        cases e198
                        replace p198 := eq_true p198
                        replace q198 := eq_true q198
                        go_wp2_with (first | ((with_reducible refine gate_dst (N := 7) rfl ?_); refine box_event ?hg (N := 7) ?hd (cs := #[.int .i64 0, .int .i64 0, .int .i64 0]) (t := 78) ?hr ?_; (case hd => rfl); (case hg => rfl); (case hr => first | (go_simp; done) | (go_simp; rfl)); intro gb199 hg w32 hbox hb; have n0_ := Aside0.mk (Kd.R_below (viR HO_1.out) hb); have n1_ := Aside0.mk (blk_below (g := gb197) (o := .cells #[.int .i64 a0_0, .int .i64 a0_1, .int .i64 a0_2, .int .i64 a0_3, .slice (some ad198) l0_4.length c0_4] 31 (0, 0)) (viK BK197.out) hb); have n2_ := Aside0.mk (Kept.below (S := (fun k_ => P1_ k_)) (by repeat (first | (with_reducible first | exact HK.out | apply Kept.alloc | apply Kept.drewN | apply Kept.drew | refine Kept.setCell ?_ (.inr GW197.out) _) | exact HK.out)) hb); have n3_ := Aside0.mk (below_step viB hb); have n4_ := Aside0.mk (hbox); have n5_ := Aside0.mk ((by rw [hg]; exact (by first | exact HK.out.1 | exact (show Kept w _ (fun k_ => P1_ k_) from by repeat (first | (with_reducible first | exact HK.out | apply Kept.alloc | apply Kept.drewN | apply Kept.drew | refine Kept.setCell ?_ (.inr GW197.out) _) | exact HK.out)).1) : w.heap.size ≤ gb199)); have n6_ := Aside0.mk ((by rw [hg]; exact (below_size viB) : w0.heap.size ≤ gb199)); have n7_ := Aside0.mk ((by rw [hg]; exact Nat.ne_of_lt (blk_lt (g := gb197) (o := .cells #[.int .i64 a0_0, .int .i64 a0_1, .int .i64 a0_2, .int .i64 a0_3, .slice (some ad198) l0_4.length c0_4] 31 (0, 0)) (viK BK197.out)) : gb197 ≠ gb199)); have n8_ := Aside0.mk ((by rw [hg]; exact Nat.ne_of_gt (blk_lt (g := gb197) (o := .cells #[.int .i64 a0_0, .int .i64 a0_1, .int .i64 a0_2, .int .i64 a0_3, .slice (some ad198) l0_4.length c0_4] 31 (0, 0)) (viK BK197.out)) : gb199 ≠ gb197)); clear HO_1; clear BK197; clear HK; clear HB; have HO_1 := n0_; have BK197 := n1_; have HK := n2_; have HB := n3_; have BK199 := n4_; have GW199 := n5_; have GE199 := n6_; have NB197_199 := n7_; have NB199_197 := n8_; clear n0_ n1_ n2_ n3_ n4_ n5_ n6_ n7_ n8_; clear hb hbox hg; have hnb33 := NB199_197.out; have hnc33 := NB197_199.out; have hcz34_0 : w32.cell? ⟨gb199, 0, none⟩ = some (.int .i64 0) := (blk_cell BK199.out 0).trans rfl; have hcz34_1 : w32.cell? ⟨gb199, 1, none⟩ = some (.int .i64 0) := (blk_cell BK199.out 1).trans rfl; have hcz34_2 : w32.cell? ⟨gb199, 2, none⟩ = some (.int .i64 0) := (blk_cell BK199.out 2).trans rfl; have hfz34_0 := blk_frozen BK199.out 0; have hfz34_1 := blk_frozen BK199.out 1; have hfz34_2 := blk_frozen BK199.out 2; obtain ⟨Ao35, co35, eo35⟩ := Kd.R_slice HO_1.out; subst eo35; have p200 : 0 ≤ (((rd_T78 l0_4 x6_2).f0) : Int) := viA; have q200 : ((rd_T78 l0_4 x6_2).f0) < (x1_2.length : Int) := viA; obtain ⟨ad200, e200, hx200_0⟩ := Kd.at_bool (Kd.R_reads' HO_1.out).2.2 ((rd_T78 l0_4 x6_2).f0) p200 q200; (try rw [← Nbq10.out] at hx200_0); cases e200; have hn200_0 : ad200.block ≠ gb199 := Kd.own_blk (Kd.R_ne HO_1.out BK199.out (by decide)); have hn200_1 : ad200.block ≠ gb199 := Kd.own_blk (Kd.R_ne HO_1.out BK199.out (by decide)); have hn200_2 : ad200.block ≠ gb199 := Kd.own_blk (Kd.R_ne HO_1.out BK199.out (by decide)); replace hx200_0 := (cell_far (p := ⟨gb199, 0, none⟩) (by first | (rw [add_block]; exact hn200_0) | (show (Addr.add _ _).block ≠ _; rw [add_block]; exact hn200_0) | exact hn200_0) (.int .i64 ((rd_T78 l0_4 x6_2).f0))).trans hx200_0; replace hx200_0 := (cell_far (p := ⟨gb199, 1, none⟩) (by first | (rw [add_block]; exact hn200_1) | (show (Addr.add _ _).block ≠ _; rw [add_block]; exact hn200_1) | exact hn200_1) (.int .i64 ((rd_T78 l0_4 x6_2).f1))).trans hx200_0; replace hx200_0 := (cell_far (p := ⟨gb199, 2, none⟩) (by first | (rw [add_block]; exact hn200_2) | (show (Addr.add _ _).block ≠ _; rw [add_block]; exact hn200_2) | exact hn200_2) (.int .i64 ((rd_T78 l0_4 x6_2).f2))).trans hx200_0; clear hn200_0; clear hn200_1; clear hn200_2; replace p200 := eq_true p200; replace q200 := eq_true q200))
                        go_roundg k2
                        case measure => have := HK1.out; have := HK2.out; omega
                        case rel => exact ⟨(x1_2), (x5_2), (wrap64 (x6_2 + 1)), (by first | rfl | (simp; done) | (simp [*]; done)), (by first | rfl | (simp; done) | (simp [*]; done)), H', ⟨by have := HK1.out; have := HK2.out; omega⟩, ⟨by refine viR ?_; exact Kd.R_mono (Kd.R_far (p := ⟨gb199, 2, none⟩) (Kd.R_far (p := ⟨gb199, 1, none⟩) (Kd.R_far (p := ⟨gb199, 0, none⟩) (Kd.R_types HO_1.out BK199.out (by decide)) (fun _ hk => hk.2) (.int .i64 ((rd_T78 l0_4 x6_2).f0))) (fun _ hk => hk.2) (.int .i64 ((rd_T78 l0_4 x6_2).f1))) (fun _ hk => hk.2) (.int .i64 ((rd_T78 l0_4 x6_2).f2))) (fun _ hk => hk.1)⟩, ⟨by refine viK ?_; refine blk_far ?_ NB197_199.out _; refine viK ?_; refine blk_far ?_ NB197_199.out _; refine viK ?_; refine blk_far ?_ NB197_199.out _; refine viK ?_; exact BK197.out⟩, ⟨by repeat (first | (with_reducible first | exact HK.out | apply Kept.alloc | apply Kept.drewN | apply Kept.drew | refine Kept.setCell ?_ (.inr GW197.out) _ | refine Kept.setCell ?_ (.inr GW199.out) _) | exact HK.out)⟩, ⟨viB⟩⟩
                    · rw [if_neg c9] at H
                      exact absurd H (by simp)
                  · rw [if_neg c8] at H
                    exact absurd H (by simp)
                · rw [if_neg c7] at H
                  have c7b0 : (((rd_T78 l0_4 x6_2).f1) == (-1)) = false := beq_eq_false_iff_ne.mpr c7
                  have c7b1 : (((rd_T78 l0_4 x6_2).f1) != (-1)) = true := bne_iff_ne.mpr c7
                  have H' := Aside0.mk H
                  clear H
                  have hcz36_0 : wr.cell? ⟨gb197, 0, none⟩ = some (.int .i64 a0_0) := (blk_cell BK197.out 0).trans rfl
                  have hcz36_1 : wr.cell? ⟨gb197, 1, none⟩ = some (.int .i64 a0_1) := (blk_cell BK197.out 1).trans rfl
                  have hcz36_2 : wr.cell? ⟨gb197, 2, none⟩ = some (.int .i64 a0_2) := (blk_cell BK197.out 2).trans rfl
                  have hcz36_3 : wr.cell? ⟨gb197, 3, none⟩ = some (.int .i64 a0_3) := (blk_cell BK197.out 3).trans rfl
                  have hcz36_4 : wr.cell? ⟨gb197, 4, none⟩ = some (.slice A0_4 l0_4.length c0_4) := (blk_cell BK197.out 4).trans rfl
                  have hfz36_0 := blk_frozen BK197.out 0
                  have hfz36_1 := blk_frozen BK197.out 1
                  have hfz36_2 := blk_frozen BK197.out 2
                  have hfz36_3 := blk_frozen BK197.out 3
                  have hfz36_4 := blk_frozen BK197.out 4
                  have p198 : 0 ≤ (x6_2 : Int) := viA
                  have q198 : x6_2 < (l0_4.length : Int) := viA
                  obtain ⟨ad198, e198, hx198_0, hx198_1, hx198_2⟩ := at_T78 (Kd.C_kept_now HR0_4.out HK.out) x6_2 p198 q198
                  cases e198
                  replace p198 := eq_true p198
                  replace q198 := eq_true q198
                  go_wp2_with (first | ((with_reducible refine gate_dst (N := 7) rfl ?_); refine box_event ?hg (N := 7) ?hd (cs := #[.int .i64 0, .int .i64 0, .int .i64 0]) (t := 78) ?hr ?_; (case hd => rfl); (case hg => rfl); (case hr => first | (go_simp; done) | (go_simp; rfl)); intro gb199 hg w37 hbox hb; have n0_ := Aside0.mk (Kd.R_below (viR HO_1.out) hb); have n1_ := Aside0.mk (blk_below (g := gb197) (o := .cells #[.int .i64 a0_0, .int .i64 a0_1, .int .i64 a0_2, .int .i64 a0_3, .slice (some ad198) l0_4.length c0_4] 31 (0, 0)) (viK BK197.out) hb); have n2_ := Aside0.mk (Kept.below (S := (fun k_ => P1_ k_)) (by repeat (first | (with_reducible first | exact HK.out | apply Kept.alloc | apply Kept.drewN | apply Kept.drew | refine Kept.setCell ?_ (.inr GW197.out) _) | exact HK.out)) hb); have n3_ := Aside0.mk (below_step viB hb); have n4_ := Aside0.mk (hbox); have n5_ := Aside0.mk ((by rw [hg]; exact (by first | exact HK.out.1 | exact (show Kept w _ (fun k_ => P1_ k_) from by repeat (first | (with_reducible first | exact HK.out | apply Kept.alloc | apply Kept.drewN | apply Kept.drew | refine Kept.setCell ?_ (.inr GW197.out) _) | exact HK.out)).1) : w.heap.size ≤ gb199)); have n6_ := Aside0.mk ((by rw [hg]; exact (below_size viB) : w0.heap.size ≤ gb199)); have n7_ := Aside0.mk ((by rw [hg]; exact Nat.ne_of_lt (blk_lt (g := gb197) (o := .cells #[.int .i64 a0_0, .int .i64 a0_1, .int .i64 a0_2, .int .i64 a0_3, .slice (some ad198) l0_4.length c0_4] 31 (0, 0)) (viK BK197.out)) : gb197 ≠ gb199)); have n8_ := Aside0.mk ((by rw [hg]; exact Nat.ne_of_gt (blk_lt (g := gb197) (o := .cells #[.int .i64 a0_0, .int .i64 a0_1, .int .i64 a0_2, .int .i64 a0_3, .slice (some ad198) l0_4.length c0_4] 31 (0, 0)) (viK BK197.out)) : gb199 ≠ gb197)); clear HO_1; clear BK197; clear HK; clear HB; have HO_1 := n0_; have BK197 := n1_; have HK := n2_; have HB := n3_; have BK199 := n4_; have GW199 := n5_; have GE199 := n6_; have NB197_199 := n7_; have NB199_197 := n8_; clear n0_ n1_ n2_ n3_ n4_ n5_ n6_ n7_ n8_; clear hb hbox hg; have hnb38 := NB199_197.out; have hnc38 := NB197_199.out; have hcz39_0 : w37.cell? ⟨gb199, 0, none⟩ = some (.int .i64 0) := (blk_cell BK199.out 0).trans rfl; have hcz39_1 : w37.cell? ⟨gb199, 1, none⟩ = some (.int .i64 0) := (blk_cell BK199.out 1).trans rfl; have hcz39_2 : w37.cell? ⟨gb199, 2, none⟩ = some (.int .i64 0) := (blk_cell BK199.out 2).trans rfl; have hfz39_0 := blk_frozen BK199.out 0; have hfz39_1 := blk_frozen BK199.out 1; have hfz39_2 := blk_frozen BK199.out 2))
                  go_roundg k2
                  case measure => have := HK1.out; have := HK2.out; omega
                  case rel => exact ⟨(x1_2), (x5_2), (wrap64 (x6_2 + 1)), (by first | rfl | (simp; done) | (simp [*]; done)), (by first | rfl | (simp; done) | (simp [*]; done)), H', ⟨by have := HK1.out; have := HK2.out; omega⟩, ⟨by refine viR ?_; exact Kd.R_mono (Kd.R_far (p := ⟨gb199, 2, none⟩) (Kd.R_far (p := ⟨gb199, 1, none⟩) (Kd.R_far (p := ⟨gb199, 0, none⟩) (Kd.R_types HO_1.out BK199.out (by decide)) (fun _ hk => hk.2) (.int .i64 ((rd_T78 l0_4 x6_2).f0))) (fun _ hk => hk.2) (.int .i64 ((rd_T78 l0_4 x6_2).f1))) (fun _ hk => hk.2) (.int .i64 ((rd_T78 l0_4 x6_2).f2))) (fun _ hk => hk.1)⟩, ⟨by refine viK ?_; refine blk_far ?_ NB197_199.out _; refine viK ?_; refine blk_far ?_ NB197_199.out _; refine viK ?_; refine blk_far ?_ NB197_199.out _; refine viK ?_; exact BK197.out⟩, ⟨by repeat (first | (with_reducible first | exact HK.out | apply Kept.alloc | apply Kept.drewN | apply Kept.drew | refine Kept.setCell ?_ (.inr GW197.out) _ | refine Kept.setCell ?_ (.inr GW199.out) _) | exact HK.out)⟩, ⟨viB⟩⟩
              · rw [if_neg c6] at H
                exact absurd H (by simp)
            · rw [if_neg c5] at H
              have c5b0 : decide (x6_2 < (l0_4.length : Int)) = false := decide_eq_false c5
              clear c5
              have H' := Aside0.mk H
              clear H
              have hcz40_0 : wr.cell? ⟨gb197, 0, none⟩ = some (.int .i64 a0_0) := (blk_cell BK197.out 0).trans rfl
              have hcz40_1 : wr.cell? ⟨gb197, 1, none⟩ = some (.int .i64 a0_1) := (blk_cell BK197.out 1).trans rfl
              have hcz40_2 : wr.cell? ⟨gb197, 2, none⟩ = some (.int .i64 a0_2) := (blk_cell BK197.out 2).trans rfl
              have hcz40_3 : wr.cell? ⟨gb197, 3, none⟩ = some (.int .i64 a0_3) := (blk_cell BK197.out 3).trans rfl
              have hcz40_4 : wr.cell? ⟨gb197, 4, none⟩ = some (.slice A0_4 l0_4.length c0_4) := (blk_cell BK197.out 4).trans rfl
              have hfz40_0 := blk_frozen BK197.out 0
              have hfz40_1 := blk_frozen BK197.out 1
              have hfz40_2 := blk_frozen BK197.out 2
              have hfz40_3 := blk_frozen BK197.out 3
              have hfz40_4 := blk_frozen BK197.out 4
              go_wp2
              go_roundg k2
              case measure => have := HK1.out; have := HK2.out; omega
              case rel => exact ⟨(x1_2), (x5_2), (by first | rfl | (simp; done) | (simp [*]; done)), H', ⟨by have := HK1.out; have := HK2.out; omega⟩, ⟨viR HO_1.out⟩, ⟨viK BK197.out⟩, ⟨by repeat (first | (with_reducible first | exact HK.out | apply Kept.alloc | apply Kept.drewN | apply Kept.drew | refine Kept.setCell ?_ (.inr GW197.out) _) | exact HK.out)⟩, ⟨viB⟩⟩
      · replace c4 := Bool.eq_false_iff.mpr c4
        subst c4
        have H1 : (some x1_1) = some r := by rw [if_neg (show ¬ (false = true) by decide)] at H; exact H
        clear H
        have H := H1
        clear H1
        obtain rfl := Option.some.inj H
        go_wp2
        go_ret
        exact ⟨_, by first | rfl | (simp [errW_none, errW_some] <;> rfl) | (simp [*, errW_none, errW_some] <;> rfl), viR HO_1.out, viB, by repeat (first | (with_reducible first | exact HK.out | apply Kept.alloc | apply Kept.drewN | apply Kept.drew | refine Kept.setCell ?_ (.inr GW197.out) _) | exact HK.out)⟩
def stackyardref08_marks.l0 : Nat → List Int → List Bool → Int → Int → Int → Int → Int → List (S78) → Option (List Bool)
  | 0, _, _, _, _, _, _, _, _ => none
  | k + 1, x1, x5, x6, x204000, x204001, x204002, x204003, x204004 => if x6 < (x1.length : Int) then (if 0 ≤ x6 then (if 0 ≤ (rd x1 x6) then (if (rd x1 x6) < (x5.length : Int) then (stackyardref08_marks.l0 k x1 (x5.set ((rd x1 x6) : Int).toNat true) (wrap64 (x6 + 1)) x204000 x204001 x204002 x204003 x204004) else (none)) else (none)) else (none)) else ((stackyardref08_hand.f k x204000 x204001 x204002 x204003 x204004 x5).bind fun t209 => (some t209))
def stackyardref08_marks.f (k : Nat) (a0_0 : Int) (a0_1 : Int) (a0_2 : Int) (a0_3 : Int) (l0_4 : List (S78)) (l1 : List Int) : Option (List Bool) := if 0 ≤ a0_0 then (if (a0_0 : Int).toNat ≤ 281474976710656 then (stackyardref08_marks.l0 k l1 (List.replicate (a0_0 : Int).toNat false) 0 a0_0 a0_1 a0_2 a0_3 l0_4) else (none)) else (none)
theorem stackyardref08_marks.mono_l : ∀ k, (∀ y0 y1 y2 y3 y4 y5 y6 y7, LeO (stackyardref08_marks.l0 k y0 y1 y2 y3 y4 y5 y6 y7) (stackyardref08_marks.l0 (k + 1) y0 y1 y2 y3 y4 y5 y6 y7))
  | 0 => fun _ _ _ _ _ _ _ _ r h => by simp [stackyardref08_marks.l0] at h
  | k + 1 => by
    have ih0 := stackyardref08_marks.mono_l k
    · intro y0 y1 y2 y3 y4 y5 y6 y7
      unfold stackyardref08_marks.l0
      repeat' first
      | (with_reducible exact ih0 _ _ _ _ _ _ _ _)
      | (with_reducible exact stackyardref08_hand.mono _ _ _ _ _ _ _)
      | (with_reducible exact LeO.refl _)
      | (with_reducible exact LeO.none _)
      | (with_reducible refine LeO.ite ?_ ?_)
      | (with_reducible refine LeO.bind ?_ (fun _ => ?_))
      | exact ih0 _ _ _ _ _ _ _ _
      | exact stackyardref08_hand.mono _ _ _ _ _ _ _
      | exact LeO.none _
      | refine LeO.ite ?_ ?_
      | refine LeO.bind ?_ (fun _ => ?_)
theorem stackyardref08_marks.mono : ∀ a0 a1 a2 a3 a4 a5 k, LeO (stackyardref08_marks.f k a0 a1 a2 a3 a4 a5) (stackyardref08_marks.f (k + 1) a0 a1 a2 a3 a4 a5) := by
  intro a0 a1 a2 a3 a4 a5 k
  have ih0 := stackyardref08_marks.mono_l k
  unfold stackyardref08_marks.f
  repeat' first
      | (with_reducible exact ih0 _ _ _ _ _ _ _ _)
      | (with_reducible exact stackyardref08_hand.mono _ _ _ _ _ _ _)
      | (with_reducible exact LeO.refl _)
      | (with_reducible exact LeO.none _)
      | (with_reducible refine LeO.ite ?_ ?_)
      | (with_reducible refine LeO.bind ?_ (fun _ => ?_))
      | exact ih0 _ _ _ _ _ _ _ _
      | exact stackyardref08_hand.mono _ _ _ _ _ _ _
      | exact LeO.none _
      | refine LeO.ite ?_ ?_
      | refine LeO.bind ?_ (fun _ => ?_)
set_option maxHeartbeats 8000000 in
set_option maxRecDepth 100000 in
theorem stackyardref08_marks.calls (k : Nat) (a0_0 : Int) (a0_1 : Int) (a0_2 : Int) (a0_3 : Int) (A0_4 : Option Addr) (c0_4 : Nat) (l0_4 : List (S78)) (A1 : Option Addr) (c1 : Nat) (l1 : List Int) (r : List Bool) (w : World) (hr0_4 : Kd.C k78 w A0_4 l0_4.length l0_4) (hc0_4 : l0_4.length ≤ c0_4) (hr1 : Kd.C (Kd.int .i64) w A1 l1.length l1) (hc1 : l1.length ≤ c1) (h : stackyardref08_marks.f k a0_0 a0_1 a0_2 a0_3 l0_4 l1 = some r) :
    Calls Try.prog 50 #[.agg #[.int .i64 a0_0, .int .i64 a0_1, .int .i64 a0_2, .int .i64 a0_3, .slice A0_4 l0_4.length c0_4], .slice A1 l1.length c1] w fun e w' => ∃ v0_ : Value, e = .returned (v0_) ∧ Kd.R Kd.bool 4 w' w.heap.size (fun _ => True) v0_ r ∧ Below w.heap.size w w' := by
  have hu31 := Try.underlying31
  have HR0_4 := Aside0.mk hr0_4
  have HC0_4 := Aside0.mk hc0_4
  clear hr0_4 hc0_4
  have HR1 := Aside0.mk hr1
  have HC1 := Aside0.mk hc1
  clear hr1 hc1
  have HB := Aside0.mk (Below.refl w.heap.size w)
  have H : (if 0 ≤ a0_0 then (if (a0_0 : Int).toNat ≤ 281474976710656 then (stackyardref08_marks.l0 k l1 (List.replicate (a0_0 : Int).toNat false) 0 a0_0 a0_1 a0_2 a0_3 l0_4) else (none)) else (none)) = some r := h
  clear h
  by_cases c3 : 0 ≤ a0_0
  · rw [if_pos c3] at H
    have c3b0 := eq_true c3
    have c3b1 : decide (0 ≤ a0_0) = true := decide_eq_true c3
    clear c3
    by_cases c4 : (a0_0 : Int).toNat ≤ 281474976710656
    · rw [if_pos c4] at H
      have c4b0 := eq_true c4
      have c4b1 : decide ((a0_0 : Int).toNat ≤ 281474976710656) = true := decide_eq_true c4
      clear c4
      obtain ⟨y204, hy204⟩ : ∃ y_ : List Bool, y_ = (List.replicate (a0_0 : Int).toNat false) := ⟨_, rfl⟩
      replace H : (stackyardref08_marks.l0 k l1 y204 0 a0_0 a0_1 a0_2 a0_3 l0_4) = some r := by first | (rw [hy204]; with_reducible exact H) | (have H2_ := (Option.bind_some _ _).symm.trans H; rw [hy204]; with_reducible exact H2_) | (have H2_ := (Option.bind_some _ _).symm.trans H; with_reducible exact H2_) | with_reducible exact H | (rw [hy204]; exact H) | exact H
      have Ny204 := Aside0.mk hy204
      clear hy204
      have H' := Aside0.mk H
      clear H
      go_enter Try.func50, Try.ntmps50
      go_wp2_with (first | ((with_reducible refine gate_dst (N := 2) rfl ?_); refine box_event ?hg (N := 2) ?hd (cs := #[.int .i64 a0_0, .int .i64 a0_1, .int .i64 a0_2, .int .i64 a0_3, .slice A0_4 l0_4.length c0_4]) (t := 31) ?hr ?_; (case hd => rfl); (case hg => rfl); (case hr => first | (go_simp; done) | (go_simp; rfl)); intro gb203 hg w5 hbox hb; have n0_ := Aside0.mk (below_step viB hb); have n1_ := Aside0.mk (hbox); have n2_ := Aside0.mk ((by rw [hg]; exact (below_size viB) : w.heap.size ≤ gb203)); have n3_ := Aside0.mk ((by rw [hg]; exact (below_size viB) : w.heap.size ≤ gb203)); clear HB; have HB := n0_; have BK203 := n1_; have GW203 := n2_; have GE203 := n3_; clear n0_ n1_ n2_ n3_; clear hb hbox hg; have hcz6_0 : w5.cell? ⟨gb203, 0, none⟩ = some (.int .i64 a0_0) := (blk_cell BK203.out 0).trans rfl; have hcz6_1 : w5.cell? ⟨gb203, 1, none⟩ = some (.int .i64 a0_1) := (blk_cell BK203.out 1).trans rfl; have hcz6_2 : w5.cell? ⟨gb203, 2, none⟩ = some (.int .i64 a0_2) := (blk_cell BK203.out 2).trans rfl; have hcz6_3 : w5.cell? ⟨gb203, 3, none⟩ = some (.int .i64 a0_3) := (blk_cell BK203.out 3).trans rfl; have hcz6_4 : w5.cell? ⟨gb203, 4, none⟩ = some (.slice A0_4 l0_4.length c0_4) := (blk_cell BK203.out 4).trans rfl; have hfz6_0 := blk_frozen BK203.out 0; have hfz6_1 := blk_frozen BK203.out 1; have hfz6_2 := blk_frozen BK203.out 2; have hfz6_3 := blk_frozen BK203.out 3; have hfz6_4 := blk_frozen BK203.out 4) | ((with_reducible refine gate_dst (N := 9) rfl ?_); refine Kd.R_make Kd.bool _ 4 rfl (N := 9) rfl 44 _ _ rfl a0_0 rfl rfl Try.underlying44 (.bool false) 1 info4 rfl (by decide) (by omega) false (ok := fun _ => True) (okp := fun _ => True) rfl (fun _ hk => hk) trivial viA (Nat.le_trans (Nat.mul_le_mul_right _ (viA : a0_0.toNat ≤ 281474976710656)) (by omega)) (Below.refl _ _) (Nat.le_refl _) ?_; intro v205 w7 ho8 hb hg_ hnew_; clear hg_ hnew_; (first | rw [← Ny204.out] at ho8 | (simp only [Int.reduceToNat] at ho8; rw [← Ny204.out] at ho8)); have n0_ := Aside0.mk (Kd.R_lower ho8 (below_size viB)); have n1_ := Aside0.mk (blk_below (g := gb203) (o := .cells #[.int .i64 a0_0, .int .i64 a0_1, .int .i64 a0_2, .int .i64 a0_3, .slice A0_4 l0_4.length c0_4] 31 (0, 0)) (viK BK203.out) hb); have n2_ := Aside0.mk (below_step viB hb); clear BK203; clear HB; have HO206 := n0_; have BK203 := n1_; have HB := n2_; clear n0_ n1_ n2_; clear hb ho8))
      go_loopg [6] k (fun kq v6 w' => ∃ (x5_1 : List Bool) (x6_1 : Int), v6 = .int .i64 x6_1 ∧ Aside0 (stackyardref08_marks.l0 kq l1 x5_1 x6_1 a0_0 a0_1 a0_2 a0_3 l0_4 = some r) ∧ Aside0 (kq ≤ k) ∧ Aside0 (Kd.R Kd.bool 4 w' w.heap.size (fun _ => True) v205 x5_1) ∧ Aside0 (w'.heap[gb203]? = some (.cells #[.int .i64 a0_0, .int .i64 a0_1, .int .i64 a0_2, .int .i64 a0_3, (.slice A0_4 l0_4.length c0_4)] 31 (0, 0))) ∧ Aside0 (Below w.heap.size w w'))
      case atStart => exact ⟨(y204), (0), (by first | rfl | (simp; done) | (simp [*]; done)), H', ⟨Nat.le_refl _⟩, ⟨viR HO206.out⟩, ⟨viK BK203.out⟩, ⟨viB⟩⟩
      case round =>
        clear H'
        try clear c1
        try clear p2
        try clear c3
        try clear c3b0
        try clear c3b1
        try clear c4
        try clear c4b0
        try clear c4b1
        try clear c5
        try clear hcz6_0
        try clear hcz6_1
        try clear hcz6_2
        try clear hcz6_3
        try clear hcz6_4
        try clear hfz6_0
        try clear hfz6_1
        try clear hfz6_2
        try clear hfz6_3
        try clear hfz6_4
        obtain ⟨x5_1, x6_1, rfl, HA, HK1, HO_5, BK203, HB⟩ := hrel
        cases gk with
        | zero => exact absurd HA.out (by simp [stackyardref08_marks.l0])
        | succ k1 =>
          have H := HA.out
          clear HA
          simp only [stackyardref08_marks.l0] at H
          by_cases c9 : x6_1 < (l1.length : Int)
          · rw [if_pos c9] at H
            have c9b0 : decide (x6_1 < (l1.length : Int)) = true := decide_eq_true c9
            clear c9
            by_cases c10 : 0 ≤ x6_1
            · rw [if_pos c10] at H
              have c10b0 : decide (0 ≤ x6_1) = true := decide_eq_true c10
              clear c10
              by_cases c11 : 0 ≤ (rd l1 x6_1)
              · rw [if_pos c11] at H
                have c11b0 : decide (0 ≤ (rd l1 x6_1)) = true := decide_eq_true c11
                clear c11
                by_cases c12 : (rd l1 x6_1) < (x5_1.length : Int)
                · rw [if_pos c12] at H
                  have c12b0 : decide ((rd l1 x6_1) < (x5_1.length : Int)) = true := decide_eq_true c12
                  clear c12
                  obtain ⟨y208, hy208⟩ : ∃ y_ : List Bool, y_ = (x5_1.set ((rd l1 x6_1) : Int).toNat true) := ⟨_, rfl⟩
                  replace H : (stackyardref08_marks.l0 k1 l1 y208 (wrap64 (x6_1 + 1)) a0_0 a0_1 a0_2 a0_3 l0_4) = some r := by first | (rw [hy208]; with_reducible exact H) | (have H2_ := (Option.bind_some _ _).symm.trans H; rw [hy208]; with_reducible exact H2_) | (have H2_ := (Option.bind_some _ _).symm.trans H; with_reducible exact H2_) | with_reducible exact H | (rw [hy208]; exact H) | exact H
                  have Ny208 := Aside0.mk hy208
                  clear hy208
                  have H' := Aside0.mk H
                  clear H
                  have p207 : 0 ≤ (x6_1 : Int) := viA
                  have q207 : x6_1 < (l1.length : Int) := viA
                  obtain ⟨ad207, e207, hx207_0⟩ := Kd.at_int HR1.out x6_1 p207 q207
                  cases e207
                  replace hx207_0 := (HB.out.cell (World.block_lt_of_cell? w _ hx207_0)).trans hx207_0
                  replace p207 := eq_true p207
                  replace q207 := eq_true q207
                  have p13 : 0 ≤ ((rd l1 x6_1) : Int) := viA
                  have q13 : ((rd l1 x6_1) : Int) < ((x5_1.length : Int) : Int) := viA
                  obtain ⟨go13, co13, eo13, gb13, gl13, cl13, HG13⟩ := Kd.R_form HO_5.out (by omega)
                  (first | cases eo13 | (injection eo13 with ea_ en_ ec_; (first | subst ea_ | (injection ea_ with ea_; subst ea_)); subst ec_; clear en_))
                  have GB13 := Aside0.mk gb13
                  have GG13 := Aside0.mk HG13
                  clear gb13 gl13 HG13
                  obtain ⟨hx13_0, hf13_0⟩ := Kd.R_celln false HO_5.out ((rd l1 x6_1) : Int) p13 q13
                  replace p13 := eq_true p13
                  replace q13 := eq_true q13
                  have HP14 := Kd.R_putg HO_5.out ((rd l1 x6_1) : Int) true
                  go_wp2_with (first | ((with_reducible refine gate_store (t := 4) (p := 21) rfl ?_); refine store_event (t := 4) (p := 21) (v := ?vo_w15) (w1 := (wr.setCell ⟨go13, ((rd l1 x6_1) : Int).toNat, none⟩ (.bool true))) ?hg ?ho ?hn ?hr ?_; (case ho => rfl); (case hg => rfl); (case hn => rfl); (case hr => first | (go_simp; done) | (go_simp; rfl)); intro w15 hw; have hg : wr.grownBy w15 (some go13) := (by rw [hw]; exact HP14.2); have hp_ : Kd.R Kd.bool 4 w15 w.heap.size (fun _ => True) (.slice (some ⟨go13, 0, none⟩) x5_1.length co13) y208 := (by rw [hw, Ny208.out]; exact HP14.1); clear HP14; have n0_ := Aside0.mk (hp_); have n1_ := Aside0.mk (blk_grown (g := gb203) (o := .cells #[.int .i64 a0_0, .int .i64 a0_1, .int .i64 a0_2, .int .i64 a0_3, .slice A0_4 l0_4.length c0_4] 31 (0, 0)) (viK BK203.out) hg (Kd.R_ne HO_5.out BK203.out (by decide))); have n2_ := Aside0.mk ((by rw [hw]; exact below_set (HB.out) GB13.out : Below w.heap.size w w15)); clear HO_5; clear BK203; clear HB; have HO_5 := n0_; have BK203 := n1_; have HB := n2_; clear n0_ n1_ n2_; clear hg hw hp_))
                  go_roundg k1
                  case measure => have := HK1.out; omega
                  case rel => exact ⟨(y208), (wrap64 (x6_1 + 1)), (by first | rfl | (simp; done) | (simp [*]; done)), H', ⟨by have := HK1.out; omega⟩, ⟨viR HO_5.out⟩, ⟨viK BK203.out⟩, ⟨viB⟩⟩
                · rw [if_neg c12] at H
                  exact absurd H (by simp)
              · rw [if_neg c11] at H
                exact absurd H (by simp)
            · rw [if_neg c10] at H
              exact absurd H (by simp)
          · rw [if_neg c9] at H
            have c9b0 : decide (x6_1 < (l1.length : Int)) = false := decide_eq_false c9
            clear c9
            replace H := Option.bind_eq_some_iff.mp H
            obtain ⟨t209, A160, H⟩ := H
            replace H : (some t209) = some r := H
            have A16 := Aside0.mk A160
            clear A160
            obtain rfl := Option.some.inj H
            have hcz17_0 : wr.cell? ⟨gb203, 0, none⟩ = some (.int .i64 a0_0) := (blk_cell BK203.out 0).trans rfl
            have hcz17_1 : wr.cell? ⟨gb203, 1, none⟩ = some (.int .i64 a0_1) := (blk_cell BK203.out 1).trans rfl
            have hcz17_2 : wr.cell? ⟨gb203, 2, none⟩ = some (.int .i64 a0_2) := (blk_cell BK203.out 2).trans rfl
            have hcz17_3 : wr.cell? ⟨gb203, 3, none⟩ = some (.int .i64 a0_3) := (blk_cell BK203.out 3).trans rfl
            have hcz17_4 : wr.cell? ⟨gb203, 4, none⟩ = some (.slice A0_4 l0_4.length c0_4) := (blk_cell BK203.out 4).trans rfl
            have hfz17_0 := blk_frozen BK203.out 0
            have hfz17_1 := blk_frozen BK203.out 1
            have hfz17_2 := blk_frozen BK203.out 2
            have hfz17_3 := blk_frozen BK203.out 3
            have hfz17_4 := blk_frozen BK203.out 4
            obtain ⟨Ao18, co18, eo18⟩ := Kd.R_slice HO_5.out
            subst eo18
            go_wp2_with (first | ((with_reducible refine gate_callee (f := 78) rfl ?_); refine goesL_ (some 24) rfl rfl Try.func78 (by kernel_rfl) rfl #[.agg #[.int .i64 a0_0, .int .i64 a0_1, .int .i64 a0_2, .int .i64 a0_3, .slice A0_4 l0_4.length c0_4], .slice Ao18 x5_1.length co18] rfl (by (try simp only [List.map_toArray, List.map_cons, List.map_nil]); first | done | rfl | (simp only [List.length_drop, List.length_take]; rfl)) ?_; (with_reducible refine (stackyardref08_hand.calls k1 a0_0 a0_1 a0_2 a0_3 _ _ l0_4 (fun k_ => some k_ = (.slice Ao18 x5_1.length co18 : Value).ownBlock) (.slice Ao18 x5_1.length co18) x5_1 t209 w _ ?side1 ?side2 ?side3 ?side4 A16.out).mono ?_); (case side1 => repeat (first | (with_reducible first | exact HB.out | apply below_alloc | apply pw_below_drewN | apply below_drew1 | refine below_set ?_ GE203.out) | exact HB.out)); (case side2 => exact Kd.C_kept_came k78_heap HR0_4.out viB (fun k_ hs_ => (fun e_ => Kd.R_base HO_5.out k_ e_.symm) hs_)); (case side3 => exact HC0_4.out); (case side4 => exact Kd.R_tight rfl HO_5.out); rintro e w19 ⟨v210, rfl, ho0, hb, hkp⟩; refine ⟨_, rfl, ?_⟩; have n0_ := Aside0.mk (blk_kept (viK BK203.out) hkp (fun hs_ => (fun e_ => (Kd.R_ne HO_5.out BK203.out (by decide)) e_) hs_)); have n1_ := Aside0.mk (Kd.R_mono (ok' := fun k_ => True) ho0 (fun k_ hk_ => trivial)); have n2_ := Aside0.mk (hb); clear BK203; clear HB; clear HO_5; have BK203 := n0_; have HO211 := n1_; have HB := n2_; clear n0_ n1_ n2_; (try clear hb); (try clear hkp); (try clear ho0)))
            go_ret
            exact ⟨_, by first | rfl | (simp [errW_none, errW_some] <;> rfl) | (simp [*, errW_none, errW_some] <;> rfl), viR HO211.out, viB⟩
    · rw [if_neg c4] at H
      exact absurd H (by simp)
  · rw [if_neg c3] at H
    exact absurd H (by simp)
end Go.Proofs.Ytapinbmkjkbkkaa.Lb
