import Derived.Test.YtapinbmkjkbkkaaDfVi
import Derived.Test.YtapinbmkjkbkkaaDfDu
import Derived.Test.YtapinbmkjkbkkaaDfP4
import Derived.Test.YtapinbmkjkbkkaaDfLbx20
import Derived.Test.YtapinbmkjkbkkaaDfLbe
import Derived.Test.YtapinbmkjkbkkaaDfLbx4
import Derived.Test.YtapinbmkjkbkkaaDfLbx18
import Derived.Test.YtapinbmkjkbkkaaDfLbx19
namespace Go.Proofs.Ytapinbmkjkbkkaa.Lb
open Go.RowKit Go.Proofs.YtapinbmkjkbkkaaW.PrintWords Go.Proofs.YtapinbmkjkbkkaaW.PrintLast Go.Proofs.YtapinbmkjkbkkaaW.PrintMore Go.Proofs.Ytapinbmkjkbkkaa.Ls Go.Proofs.Ytapinbmkjkbkkaa.Mk
attribute [local go_sem] max2_int min2_int max_two min_two max_three min_three max_four min_four
set_option linter.unusedVariables false
set_option linter.unusedSimpArgs false
private theorem viB {P : Prop} (h : P := by repeat (first | (with_reducible first | exact HB.out | apply below_alloc | apply pw_below_drewN | apply below_drew1 | refine below_set ?_ GE513.out | refine below_set ?_ GE523.out | refine below_set ?_ GE532.out) | exact HB.out)) : P := h
def stackyardlaw08_NfaDfas.j0 : Nat → List Int → Int → Bool → Int → Int → Int → Int → List (S78) → Int → List (List Int) → List Bool → Option (Bool)
  | 0, _, _, _, _, _, _, _, _, _, _, _ => none
  | k + 1, x1, x8, x31, x514000, x514001, x514002, x514003, x514004, x533000, x533001, x533002 => if x31 = true then (none) else ((nfa_Run.f k x514000 x514001 x514002 x514003 x514004 x1).bind fun bt534 => (if x8 = 0 then (if bt534.2 = 0 then ((stackyardlaw08_runs.f k x533000 x533001 x533002 x1).bind fun t536 => (some (bt534.1 == t536))) else (some true)) else (some true)))
def stackyardlaw08_NfaDfas.f (k : Nat) (a0_0 : Int) (a0_1 : Int) (a0_2 : Int) (a0_3 : Int) (l0_4 : List (S78)) (l1 : List Int) : Option (Bool) := (stackyardlaw08_awake.f).bind fun t514 => (if t514 = true then ((nfa_Dfa.f k a0_0 a0_1 a0_2 a0_3 l0_4).bind fun bt515 => ((stackyardref08_Dfa.f k a0_0 a0_1 a0_2 a0_3 l0_4).bind fun bt524 => (if bt515.2.2.2 = bt524.2.2.2 then ((stackyardlaw08_same.f k bt515.1 bt515.2.1 bt515.2.2.1 bt524.1 bt524.2.1 bt524.2.2.1).bind fun t533 => (stackyardlaw08_NfaDfas.j0 k l1 bt524.2.2.2 (!t533) a0_0 a0_1 a0_2 a0_3 l0_4 bt524.1 bt524.2.1 bt524.2.2.1)) else (none)))) else (none))
theorem stackyardlaw08_NfaDfas.mono_l : ∀ k, (∀ y0 y1 y2 y3 y4 y5 y6 y7 y8 y9 y10, LeO (stackyardlaw08_NfaDfas.j0 k y0 y1 y2 y3 y4 y5 y6 y7 y8 y9 y10) (stackyardlaw08_NfaDfas.j0 (k + 1) y0 y1 y2 y3 y4 y5 y6 y7 y8 y9 y10))
  | 0 => fun _ _ _ _ _ _ _ _ _ _ _ r h => by simp [stackyardlaw08_NfaDfas.j0] at h
  | k + 1 => by
    have ih0 := stackyardlaw08_NfaDfas.mono_l k
    · intro y0 y1 y2 y3 y4 y5 y6 y7 y8 y9 y10
      unfold stackyardlaw08_NfaDfas.j0
      repeat' first
      | (with_reducible exact ih0 _ _ _ _ _ _ _ _ _ _ _)
      | (with_reducible exact nfa_Dfa.mono _ _ _ _ _ _)
      | (with_reducible exact nfa_Run.mono _ _ _ _ _ _ _)
      | (with_reducible exact stackyardlaw08_runs.mono _ _ _ _ _)
      | (with_reducible exact stackyardlaw08_same.mono _ _ _ _ _ _ _)
      | (with_reducible exact stackyardref08_Dfa.mono _ _ _ _ _ _)
      | (with_reducible exact LeO.refl _)
      | (with_reducible exact LeO.none _)
      | (with_reducible refine LeO.ite ?_ ?_)
      | (with_reducible refine LeO.bind ?_ (fun _ => ?_))
      | exact ih0 _ _ _ _ _ _ _ _ _ _ _
      | exact nfa_Dfa.mono _ _ _ _ _ _
      | exact nfa_Run.mono _ _ _ _ _ _ _
      | exact stackyardlaw08_runs.mono _ _ _ _ _
      | exact stackyardlaw08_same.mono _ _ _ _ _ _ _
      | exact stackyardref08_Dfa.mono _ _ _ _ _ _
      | exact LeO.none _
      | refine LeO.ite ?_ ?_
      | refine LeO.bind ?_ (fun _ => ?_)
theorem stackyardlaw08_NfaDfas.mono : ∀ a0 a1 a2 a3 a4 a5 k, LeO (stackyardlaw08_NfaDfas.f k a0 a1 a2 a3 a4 a5) (stackyardlaw08_NfaDfas.f (k + 1) a0 a1 a2 a3 a4 a5) := by
  intro a0 a1 a2 a3 a4 a5 k
  have ih0 := stackyardlaw08_NfaDfas.mono_l k
  unfold stackyardlaw08_NfaDfas.f
  repeat' first
      | (with_reducible exact ih0 _ _ _ _ _ _ _ _ _ _ _)
      | (with_reducible exact nfa_Dfa.mono _ _ _ _ _ _)
      | (with_reducible exact nfa_Run.mono _ _ _ _ _ _ _)
      | (with_reducible exact stackyardlaw08_runs.mono _ _ _ _ _)
      | (with_reducible exact stackyardlaw08_same.mono _ _ _ _ _ _ _)
      | (with_reducible exact stackyardref08_Dfa.mono _ _ _ _ _ _)
      | (with_reducible exact LeO.refl _)
      | (with_reducible exact LeO.none _)
      | (with_reducible refine LeO.ite ?_ ?_)
      | (with_reducible refine LeO.bind ?_ (fun _ => ?_))
      | exact ih0 _ _ _ _ _ _ _ _ _ _ _
      | exact nfa_Dfa.mono _ _ _ _ _ _
      | exact nfa_Run.mono _ _ _ _ _ _ _
      | exact stackyardlaw08_runs.mono _ _ _ _ _
      | exact stackyardlaw08_same.mono _ _ _ _ _ _ _
      | exact stackyardref08_Dfa.mono _ _ _ _ _ _
      | exact LeO.none _
      | refine LeO.ite ?_ ?_
      | refine LeO.bind ?_ (fun _ => ?_)
set_option maxHeartbeats 8000000 in
set_option maxRecDepth 100000 in
theorem stackyardlaw08_NfaDfas.calls (k : Nat) (a0_0 : Int) (a0_1 : Int) (a0_2 : Int) (a0_3 : Int) (A0_4 : Option Addr) (c0_4 : Nat) (l0_4 : List (S78)) (A1 : Option Addr) (c1 : Nat) (l1 : List Int) (r : Bool) (w : World) (hr0_4 : Kd.C k78 w A0_4 l0_4.length l0_4) (hc0_4 : l0_4.length ≤ c0_4) (hr1 : Kd.C (Kd.int .i64) w A1 l1.length l1) (hc1 : l1.length ≤ c1) (h : stackyardlaw08_NfaDfas.f k a0_0 a0_1 a0_2 a0_3 l0_4 l1 = some r) :
    Calls Try.prog 4 #[.agg #[.int .i64 a0_0, .int .i64 a0_1, .int .i64 a0_2, .int .i64 a0_3, .slice A0_4 l0_4.length c0_4], .slice A1 l1.length c1] w fun e w' => e = .returned (.bool r) ∧ Below w.heap.size w w' := by
  have hu31 := Try.underlying31
  have hu46 := Try.underlying46
  have HR0_4 := Aside0.mk hr0_4
  have HC0_4 := Aside0.mk hc0_4
  clear hr0_4 hc0_4
  have HR1 := Aside0.mk hr1
  have HC1 := Aside0.mk hc1
  clear hr1 hc1
  have HB := Aside0.mk (Below.refl w.heap.size w)
  have H : ((stackyardlaw08_awake.f).bind fun t514 => (if t514 = true then ((nfa_Dfa.f k a0_0 a0_1 a0_2 a0_3 l0_4).bind fun bt515 => ((stackyardref08_Dfa.f k a0_0 a0_1 a0_2 a0_3 l0_4).bind fun bt524 => (if bt515.2.2.2 = bt524.2.2.2 then ((stackyardlaw08_same.f k bt515.1 bt515.2.1 bt515.2.2.1 bt524.1 bt524.2.1 bt524.2.2.1).bind fun t533 => (stackyardlaw08_NfaDfas.j0 k l1 bt524.2.2.2 (!t533) a0_0 a0_1 a0_2 a0_3 l0_4 bt524.1 bt524.2.1 bt524.2.2.1)) else (none)))) else (none))) = some r := h
  clear h
  replace H := Option.bind_eq_some_iff.mp H
  obtain ⟨t514, A30, H⟩ := H
  replace H : (if t514 = true then ((nfa_Dfa.f k a0_0 a0_1 a0_2 a0_3 l0_4).bind fun bt515 => ((stackyardref08_Dfa.f k a0_0 a0_1 a0_2 a0_3 l0_4).bind fun bt524 => (if bt515.2.2.2 = bt524.2.2.2 then ((stackyardlaw08_same.f k bt515.1 bt515.2.1 bt515.2.2.1 bt524.1 bt524.2.1 bt524.2.2.1).bind fun t533 => (stackyardlaw08_NfaDfas.j0 k l1 bt524.2.2.2 (!t533) a0_0 a0_1 a0_2 a0_3 l0_4 bt524.1 bt524.2.1 bt524.2.2.1)) else (none)))) else (none)) = some r := H
  have A3 := Aside0.mk A30
  clear A30
  by_cases c4 : t514 = true
  · subst c4
    have H1 : ((nfa_Dfa.f k a0_0 a0_1 a0_2 a0_3 l0_4).bind fun bt515 => ((stackyardref08_Dfa.f k a0_0 a0_1 a0_2 a0_3 l0_4).bind fun bt524 => (if bt515.2.2.2 = bt524.2.2.2 then ((stackyardlaw08_same.f k bt515.1 bt515.2.1 bt515.2.2.1 bt524.1 bt524.2.1 bt524.2.2.1).bind fun t533 => (stackyardlaw08_NfaDfas.j0 k l1 bt524.2.2.2 (!t533) a0_0 a0_1 a0_2 a0_3 l0_4 bt524.1 bt524.2.1 bt524.2.2.1)) else (none)))) = some r := by rw [if_pos rfl] at H; exact H
    clear H
    have H := H1
    clear H1
    replace H := Option.bind_eq_some_iff.mp H
    obtain ⟨⟨t515, t516, t519, t522⟩, A50, H⟩ := H
    replace H : ((stackyardref08_Dfa.f k a0_0 a0_1 a0_2 a0_3 l0_4).bind fun bt524 => (if t522 = bt524.2.2.2 then ((stackyardlaw08_same.f k t515 t516 t519 bt524.1 bt524.2.1 bt524.2.2.1).bind fun t533 => (stackyardlaw08_NfaDfas.j0 k l1 bt524.2.2.2 (!t533) a0_0 a0_1 a0_2 a0_3 l0_4 bt524.1 bt524.2.1 bt524.2.2.1)) else (none))) = some r := H
    have A5 := Aside0.mk A50
    clear A50
    replace H := Option.bind_eq_some_iff.mp H
    obtain ⟨⟨t524, t525, t528, t531⟩, A60, H⟩ := H
    replace H : (if t522 = t531 then ((stackyardlaw08_same.f k t515 t516 t519 t524 t525 t528).bind fun t533 => (stackyardlaw08_NfaDfas.j0 k l1 t531 (!t533) a0_0 a0_1 a0_2 a0_3 l0_4 t524 t525 t528)) else (none)) = some r := H
    have A6 := Aside0.mk A60
    clear A60
    have HC7 := Aside0.mk H
    clear H
    go_enter Try.func4, Try.ntmps4
    go_upto_region 5 with (first | ((with_reducible refine gate_dst (N := 2) rfl ?_); refine box_event ?hg (N := 2) ?hd (cs := #[.int .i64 a0_0, .int .i64 a0_1, .int .i64 a0_2, .int .i64 a0_3, .slice A0_4 l0_4.length c0_4]) (t := 31) ?hr ?_; (case hd => rfl); (case hg => rfl); (case hr => first | (go_simp; done) | (go_simp; rfl)); intro gb513 hg w8 hbox hb; have n0_ := Aside0.mk (below_step viB hb); have n1_ := Aside0.mk (hbox); have n2_ := Aside0.mk ((by rw [hg]; exact (below_size viB) : w.heap.size ≤ gb513)); have n3_ := Aside0.mk ((by rw [hg]; exact (below_size viB) : w.heap.size ≤ gb513)); clear HB; have HB := n0_; have BK513 := n1_; have GW513 := n2_; have GE513 := n3_; clear n0_ n1_ n2_ n3_; clear hb hbox hg) | ((with_reducible refine gate_callee (f := 10) rfl ?_); refine goesL_ (some 11) rfl rfl Try.func10 (by kernel_rfl) rfl #[] rfl (by (try simp only [List.map_toArray, List.map_cons, List.map_nil]); first | done | rfl | (simp only [List.length_drop, List.length_take]; rfl)) ?_; (with_reducible refine (stackyardlaw08_awake.calls  true _ A3.out).mono ?_); rintro e w9 ⟨rfl, hb⟩; refine ⟨_, rfl, ?_⟩; have n0_ := Aside0.mk (blk_below (g := gb513) (o := .cells #[.int .i64 a0_0, .int .i64 a0_1, .int .i64 a0_2, .int .i64 a0_3, .slice A0_4 l0_4.length c0_4] 31 (0, 0)) (viK BK513.out) hb); have n1_ := Aside0.mk (below_step viB hb); clear BK513; clear HB; have BK513 := n0_; have HB := n1_; clear n0_ n1_; (try clear hb); (try clear hb2); (try clear hk); (try clear hi); have hcz10_0 : w9.cell? ⟨gb513, 0, none⟩ = some (.int .i64 a0_0) := (blk_cell BK513.out 0).trans rfl; have hcz10_1 : w9.cell? ⟨gb513, 1, none⟩ = some (.int .i64 a0_1) := (blk_cell BK513.out 1).trans rfl; have hcz10_2 : w9.cell? ⟨gb513, 2, none⟩ = some (.int .i64 a0_2) := (blk_cell BK513.out 2).trans rfl; have hcz10_3 : w9.cell? ⟨gb513, 3, none⟩ = some (.int .i64 a0_3) := (blk_cell BK513.out 3).trans rfl; have hcz10_4 : w9.cell? ⟨gb513, 4, none⟩ = some (.slice A0_4 l0_4.length c0_4) := (blk_cell BK513.out 4).trans rfl; have hfz10_0 := blk_frozen BK513.out 0; have hfz10_1 := blk_frozen BK513.out 1; have hfz10_2 := blk_frozen BK513.out 2; have hfz10_3 := blk_frozen BK513.out 3; have hfz10_4 := blk_frozen BK513.out 4) | ((with_reducible refine gate_callee (f := 17) rfl ?_); refine goesL_ (some 15) rfl rfl Try.func17 (by kernel_rfl) rfl #[.agg #[.int .i64 a0_0, .int .i64 a0_1, .int .i64 a0_2, .int .i64 a0_3, .slice A0_4 l0_4.length c0_4]] rfl (by (try simp only [List.map_toArray, List.map_cons, List.map_nil]); first | done | rfl | (simp only [List.length_drop, List.length_take]; rfl)) ?_; (with_reducible refine (nfa_Dfa.calls k a0_0 a0_1 a0_2 a0_3 _ _ l0_4 t515 t516 t519 t522 _ ?side1 ?side2 A5.out).mono ?_); (case side1 => repeat (first | exact (Kd.C_below HR0_4.out HB.out) | (with_reducible refine Kd.C_alloc ?_ _) | (with_reducible refine Kd.C_drewN ?_ _) | (with_reducible refine Kd.C_drew ?_))); (case side2 => exact HC0_4.out); rintro e w11 ⟨v517, v520, rfl, ho0, ho1, hb⟩; refine ⟨_, rfl, ?_⟩; have n0_ := Aside0.mk (Kd.N_lower (Kd.N_mono (ok' := fun k_ => some k_ ≠ (v520 : Value).ownBlock ∧ k_ ≠ gb513) (Kd.S_N (Kd.S_bound (Kd.S_apart' ho0 (Kd.R_typed ho1) (by decide)))) (fun k_ hk_ => ⟨hk_.1.2, (Kd.freshB (g := gb513) (o := .cells #[.int .i64 a0_0, .int .i64 a0_1, .int .i64 a0_2, .int .i64 a0_3, .slice A0_4 l0_4.length c0_4] 31 (0, 0)) (viK BK513.out) k_ hk_.2.1)⟩)) (below_size viB)); have n1_ := Aside0.mk (Kd.R_lower ho1 (below_size viB)); have n2_ := Aside0.mk (blk_below (g := gb513) (o := .cells #[.int .i64 a0_0, .int .i64 a0_1, .int .i64 a0_2, .int .i64 a0_3, .slice A0_4 l0_4.length c0_4] 31 (0, 0)) (viK BK513.out) hb); have n3_ := Aside0.mk (below_step viB hb); clear BK513; clear HB; have HO518 := n0_; have HO521 := n1_; have BK513 := n2_; have HB := n3_; clear n0_ n1_ n2_ n3_; (try clear hb); (try clear hb2); (try clear hk); (try clear hi); (try clear ho0); (try clear ho1)) | ((with_reducible refine gate_dst (N := 5) rfl ?_); refine box_event ?hg (N := 5) ?hd (cs := #[.int .i64 0, .slice none 0 0, .slice none 0 0]) (t := 46) ?hr ?_; (case hd => rfl); (case hg => rfl); (case hr => first | (go_simp; done) | (go_simp; rfl)); intro gb523 hg w12 hbox hb; have n0_ := Aside0.mk (Kd.N_below (Kd.N_elderB (viN HO518.out) gb523 (Nat.le_of_eq hg.symm)) hb); have n1_ := Aside0.mk (Kd.R_below (viR HO521.out) hb); have n2_ := Aside0.mk (blk_below (g := gb513) (o := .cells #[.int .i64 a0_0, .int .i64 a0_1, .int .i64 a0_2, .int .i64 a0_3, .slice A0_4 l0_4.length c0_4] 31 (0, 0)) (viK BK513.out) hb); have n3_ := Aside0.mk (below_step viB hb); have n4_ := Aside0.mk (hbox); have n5_ := Aside0.mk ((by rw [hg]; exact (below_size viB) : w.heap.size ≤ gb523)); have n6_ := Aside0.mk ((by rw [hg]; exact (below_size viB) : w.heap.size ≤ gb523)); have n7_ := Aside0.mk ((by rw [hg]; exact Nat.ne_of_lt (blk_lt (g := gb513) (o := .cells #[.int .i64 a0_0, .int .i64 a0_1, .int .i64 a0_2, .int .i64 a0_3, .slice A0_4 l0_4.length c0_4] 31 (0, 0)) (viK BK513.out)) : gb513 ≠ gb523)); have n8_ := Aside0.mk ((by rw [hg]; exact Nat.ne_of_gt (blk_lt (g := gb513) (o := .cells #[.int .i64 a0_0, .int .i64 a0_1, .int .i64 a0_2, .int .i64 a0_3, .slice A0_4 l0_4.length c0_4] 31 (0, 0)) (viK BK513.out)) : gb523 ≠ gb513)); clear HO518; clear HO521; clear BK513; clear HB; have HO518 := n0_; have HO521 := n1_; have BK513 := n2_; have HB := n3_; have BK523 := n4_; have GW523 := n5_; have GE523 := n6_; have NB513_523 := n7_; have NB523_513 := n8_; clear n0_ n1_ n2_ n3_ n4_ n5_ n6_ n7_ n8_; clear hb hbox hg; have hnb13 := NB523_513.out; have hnc13 := NB513_523.out; have hcz14_0 : w12.cell? ⟨gb523, 0, none⟩ = some (.int .i64 0) := (blk_cell BK523.out 0).trans rfl; have hcz14_1 : w12.cell? ⟨gb523, 1, none⟩ = some (.slice none 0 0) := (blk_cell BK523.out 1).trans rfl; have hcz14_2 : w12.cell? ⟨gb523, 2, none⟩ = some (.slice none 0 0) := (blk_cell BK523.out 2).trans rfl; have hfz14_0 := blk_frozen BK523.out 0; have hfz14_1 := blk_frozen BK523.out 1; have hfz14_2 := blk_frozen BK523.out 2; obtain ⟨Ao15, co15, eo15⟩ := Kd.N_slice HO518.out; subst eo15; obtain ⟨Ao16, co16, eo16⟩ := Kd.R_slice HO521.out; subst eo16; have hcz17_0 : w12.cell? ⟨gb513, 0, none⟩ = some (.int .i64 a0_0) := (blk_cell BK513.out 0).trans rfl; have hcz17_1 : w12.cell? ⟨gb513, 1, none⟩ = some (.int .i64 a0_1) := (blk_cell BK513.out 1).trans rfl; have hcz17_2 : w12.cell? ⟨gb513, 2, none⟩ = some (.int .i64 a0_2) := (blk_cell BK513.out 2).trans rfl; have hcz17_3 : w12.cell? ⟨gb513, 3, none⟩ = some (.int .i64 a0_3) := (blk_cell BK513.out 3).trans rfl; have hcz17_4 : w12.cell? ⟨gb513, 4, none⟩ = some (.slice A0_4 l0_4.length c0_4) := (blk_cell BK513.out 4).trans rfl; have hfz17_0 := blk_frozen BK513.out 0; have hfz17_1 := blk_frozen BK513.out 1; have hfz17_2 := blk_frozen BK513.out 2; have hfz17_3 := blk_frozen BK513.out 3; have hfz17_4 := blk_frozen BK513.out 4) | ((with_reducible refine gate_callee (f := 18) rfl ?_); refine goesL_ (some 20) rfl rfl Try.func18 (by kernel_rfl) rfl #[.agg #[.int .i64 a0_0, .int .i64 a0_1, .int .i64 a0_2, .int .i64 a0_3, .slice A0_4 l0_4.length c0_4]] rfl (by (try simp only [List.map_toArray, List.map_cons, List.map_nil]); first | done | rfl | (simp only [List.length_drop, List.length_take]; rfl)) ?_; (with_reducible refine (stackyardref08_Dfa.calls k a0_0 a0_1 a0_2 a0_3 _ _ l0_4 t524 t525 t528 t531 _ ?side1 ?side2 A6.out).mono ?_); (case side1 => exact Kd.C_below HR0_4.out viB); (case side2 => exact HC0_4.out); rintro e w18 ⟨v526, v529, rfl, ho0, ho1, hb⟩; refine ⟨_, rfl, ?_⟩; have n0_ := Aside0.mk (Kd.N_mono (Kd.N_told (Kd.N_told (Kd.N_old (by refine viN ?_; exact (Kd.N_mono (Kd.N_far (p := ⟨gb523, 2, none⟩) (Kd.N_far (p := ⟨gb523, 1, none⟩) (Kd.N_far (p := ⟨gb523, 0, none⟩) (Kd.N_mono HO518.out (fun k_ hk => (⟨hk, hk.2⟩ : _ ∧ k_ ≠ gb523))) (fun _ hk => hk.2) (.int .i64 t515)) (fun _ hk => hk.2) (.slice Ao15 t516.length co15)) (fun _ hk => hk.2) (.slice Ao16 t519.length co16)) (fun _ h_ => h_.1))) hb) (Kd.N_base ho0)) (Kd.R_base ho1)) (fun _ h_ => h_.1)); have n1_ := Aside0.mk (Kd.R_elder' (by refine viR ?_; exact (Kd.R_mono (Kd.R_far (p := ⟨gb523, 2, none⟩) (Kd.R_far (p := ⟨gb523, 1, none⟩) (Kd.R_far (p := ⟨gb523, 0, none⟩) (Kd.R_types HO521.out BK523.out (by decide)) (fun _ hk => hk.2) (.int .i64 t515)) (fun _ hk => hk.2) (.slice Ao15 t516.length co15)) (fun _ hk => hk.2) (.slice Ao16 t519.length co16)) (fun _ h_ => h_.1))) (Kd.R_base ho1) hb); have n2_ := Aside0.mk (Kd.N_lower (Kd.N_mono (ok' := fun k_ => some k_ ≠ (v529 : Value).ownBlock ∧ some k_ ≠ (.slice Ao15 t516.length co15 : Value).ownBlock ∧ some k_ ≠ (.slice Ao16 t519.length co16 : Value).ownBlock ∧ k_ ≠ gb513 ∧ k_ ≠ gb523) ho0 (fun k_ hk_ => ⟨hk_.2, (Kd.fresh' (Kd.N_lt (by refine viN ?_; exact (Kd.N_mono (Kd.N_far (p := ⟨gb523, 2, none⟩) (Kd.N_far (p := ⟨gb523, 1, none⟩) (Kd.N_far (p := ⟨gb523, 0, none⟩) (Kd.N_mono HO518.out (fun k_ hk => (⟨hk, hk.2⟩ : _ ∧ k_ ≠ gb523))) (fun _ hk => hk.2) (.int .i64 t515)) (fun _ hk => hk.2) (.slice Ao15 t516.length co15)) (fun _ hk => hk.2) (.slice Ao16 t519.length co16)) (fun _ h_ => h_.1)))) k_ hk_.1), (Kd.fresh' (Kd.R_lt (by refine viR ?_; exact (Kd.R_mono (Kd.R_far (p := ⟨gb523, 2, none⟩) (Kd.R_far (p := ⟨gb523, 1, none⟩) (Kd.R_far (p := ⟨gb523, 0, none⟩) (Kd.R_types HO521.out BK523.out (by decide)) (fun _ hk => hk.2) (.int .i64 t515)) (fun _ hk => hk.2) (.slice Ao15 t516.length co15)) (fun _ hk => hk.2) (.slice Ao16 t519.length co16)) (fun _ h_ => h_.1)))) k_ hk_.1), (Kd.freshB (g := gb513) (o := .cells #[.int .i64 a0_0, .int .i64 a0_1, .int .i64 a0_2, .int .i64 a0_3, .slice A0_4 l0_4.length c0_4] 31 (0, 0)) (by refine viK ?_; refine blk_far ?_ NB513_523.out _; refine viK ?_; refine blk_far ?_ NB513_523.out _; refine viK ?_; refine blk_far ?_ NB513_523.out _; refine viK ?_; exact BK513.out) k_ hk_.1), (Kd.freshB (g := gb523) (o := .cells #[.int .i64 t515, .slice Ao15 t516.length co15, .slice Ao16 t519.length co16] 46 (0, 0)) (by refine viK ?_; refine blk_put (cs := #[.int .i64 t515, .slice Ao15 t516.length co15, .slice none 0 0]) ?_ 2 _ rfl; refine viK ?_; refine blk_put (cs := #[.int .i64 t515, .slice none 0 0, .slice none 0 0]) ?_ 1 _ rfl; refine viK ?_; refine blk_put (cs := #[.int .i64 0, .slice none 0 0, .slice none 0 0]) ?_ 0 _ rfl; refine viK ?_; exact BK523.out) k_ hk_.1)⟩)) (below_size viB)); have n3_ := Aside0.mk (Kd.R_lower (Kd.R_new' (Kd.R_mono (ok' := fun k_ => True) ho1 (fun _ hk_ => trivial)) (Kd.R_lt (by refine viR ?_; exact (Kd.R_mono (Kd.R_far (p := ⟨gb523, 2, none⟩) (Kd.R_far (p := ⟨gb523, 1, none⟩) (Kd.R_far (p := ⟨gb523, 0, none⟩) (Kd.R_types HO521.out BK523.out (by decide)) (fun _ hk => hk.2) (.int .i64 t515)) (fun _ hk => hk.2) (.slice Ao15 t516.length co15)) (fun _ hk => hk.2) (.slice Ao16 t519.length co16)) (fun _ h_ => h_.1))))) (below_size viB)); have n4_ := Aside0.mk (blk_below (g := gb513) (o := .cells #[.int .i64 a0_0, .int .i64 a0_1, .int .i64 a0_2, .int .i64 a0_3, .slice A0_4 l0_4.length c0_4] 31 (0, 0)) (by refine viK ?_; refine blk_far ?_ NB513_523.out _; refine viK ?_; refine blk_far ?_ NB513_523.out _; refine viK ?_; refine blk_far ?_ NB513_523.out _; refine viK ?_; exact BK513.out) hb); have n5_ := Aside0.mk (blk_below (g := gb523) (o := .cells #[.int .i64 t515, .slice Ao15 t516.length co15, .slice Ao16 t519.length co16] 46 (0, 0)) (by refine viK ?_; refine blk_put (cs := #[.int .i64 t515, .slice Ao15 t516.length co15, .slice none 0 0]) ?_ 2 _ rfl; refine viK ?_; refine blk_put (cs := #[.int .i64 t515, .slice none 0 0, .slice none 0 0]) ?_ 1 _ rfl; refine viK ?_; refine blk_put (cs := #[.int .i64 0, .slice none 0 0, .slice none 0 0]) ?_ 0 _ rfl; refine viK ?_; exact BK523.out) hb); have n6_ := Aside0.mk (below_step viB hb); clear HO518; clear HO521; clear BK513; clear BK523; clear HB; have HO518 := n0_; have HO521 := n1_; have HO527 := n2_; have HO530 := n3_; have BK513 := n4_; have BK523 := n5_; have HB := n6_; clear n0_ n1_ n2_ n3_ n4_ n5_ n6_; (try clear hb); (try clear hb2); (try clear hk); (try clear hi); (try clear ho0); (try clear ho1)) | ((with_reducible refine gate_dst (N := 7) rfl ?_); refine box_event ?hg (N := 7) ?hd (cs := #[.int .i64 0, .slice none 0 0, .slice none 0 0]) (t := 46) ?hr ?_; (case hd => rfl); (case hg => rfl); (case hr => first | (go_simp; done) | (go_simp; rfl)); intro gb532 hg w19 hbox hb; have n0_ := Aside0.mk (Kd.N_below (Kd.N_elderB (viN HO518.out) gb532 (Nat.le_of_eq hg.symm)) hb); have n1_ := Aside0.mk (Kd.R_below (viR HO521.out) hb); have n2_ := Aside0.mk (Kd.N_below (Kd.N_elderB (viN HO527.out) gb532 (Nat.le_of_eq hg.symm)) hb); have n3_ := Aside0.mk (Kd.R_below (viR HO530.out) hb); have n4_ := Aside0.mk (blk_below (g := gb513) (o := .cells #[.int .i64 a0_0, .int .i64 a0_1, .int .i64 a0_2, .int .i64 a0_3, .slice A0_4 l0_4.length c0_4] 31 (0, 0)) (viK BK513.out) hb); have n5_ := Aside0.mk (blk_below (g := gb523) (o := .cells #[.int .i64 t515, .slice Ao15 t516.length co15, .slice Ao16 t519.length co16] 46 (0, 0)) (viK BK523.out) hb); have n6_ := Aside0.mk (below_step viB hb); have n7_ := Aside0.mk (hbox); have n8_ := Aside0.mk ((by rw [hg]; exact (below_size viB) : w.heap.size ≤ gb532)); have n9_ := Aside0.mk ((by rw [hg]; exact (below_size viB) : w.heap.size ≤ gb532)); have n10_ := Aside0.mk ((by rw [hg]; exact Nat.ne_of_lt (blk_lt (g := gb513) (o := .cells #[.int .i64 a0_0, .int .i64 a0_1, .int .i64 a0_2, .int .i64 a0_3, .slice A0_4 l0_4.length c0_4] 31 (0, 0)) (viK BK513.out)) : gb513 ≠ gb532)); have n11_ := Aside0.mk ((by rw [hg]; exact Nat.ne_of_gt (blk_lt (g := gb513) (o := .cells #[.int .i64 a0_0, .int .i64 a0_1, .int .i64 a0_2, .int .i64 a0_3, .slice A0_4 l0_4.length c0_4] 31 (0, 0)) (viK BK513.out)) : gb532 ≠ gb513)); have n12_ := Aside0.mk ((by rw [hg]; exact Nat.ne_of_lt (blk_lt (g := gb523) (o := .cells #[.int .i64 t515, .slice Ao15 t516.length co15, .slice Ao16 t519.length co16] 46 (0, 0)) (viK BK523.out)) : gb523 ≠ gb532)); have n13_ := Aside0.mk ((by rw [hg]; exact Nat.ne_of_gt (blk_lt (g := gb523) (o := .cells #[.int .i64 t515, .slice Ao15 t516.length co15, .slice Ao16 t519.length co16] 46 (0, 0)) (viK BK523.out)) : gb532 ≠ gb523)); clear HO518; clear HO521; clear HO527; clear HO530; clear BK513; clear BK523; clear HB; have HO518 := n0_; have HO521 := n1_; have HO527 := n2_; have HO530 := n3_; have BK513 := n4_; have BK523 := n5_; have HB := n6_; have BK532 := n7_; have GW532 := n8_; have GE532 := n9_; have NB513_532 := n10_; have NB532_513 := n11_; have NB523_532 := n12_; have NB532_523 := n13_; clear n0_ n1_ n2_ n3_ n4_ n5_ n6_ n7_ n8_ n9_ n10_ n11_ n12_ n13_; clear hb hbox hg; have hnb20 := NB532_513.out; have hnc20 := NB513_532.out; have hnb21 := NB532_523.out; have hnc21 := NB523_532.out; have hcz22_0 : w19.cell? ⟨gb532, 0, none⟩ = some (.int .i64 0) := (blk_cell BK532.out 0).trans rfl; have hcz22_1 : w19.cell? ⟨gb532, 1, none⟩ = some (.slice none 0 0) := (blk_cell BK532.out 1).trans rfl; have hcz22_2 : w19.cell? ⟨gb532, 2, none⟩ = some (.slice none 0 0) := (blk_cell BK532.out 2).trans rfl; have hfz22_0 := blk_frozen BK532.out 0; have hfz22_1 := blk_frozen BK532.out 1; have hfz22_2 := blk_frozen BK532.out 2; obtain ⟨Ao23, co23, eo23⟩ := Kd.N_slice HO527.out; subst eo23; obtain ⟨Ao24, co24, eo24⟩ := Kd.R_slice HO530.out; subst eo24))
    (try simp only [Act.put, List.setIfInBounds_toArray, List.set_cons_zero, List.set_cons_succ])
    go_cut [31] (fun v31 wc => ∃ (kq : Nat) (x31_6 : Bool), v31 = .bool x31_6 ∧ Aside0 (stackyardlaw08_NfaDfas.j0 kq l1 t531 x31_6 a0_0 a0_1 a0_2 a0_3 l0_4 t524 t525 t528 = some r) ∧ Aside0 (kq ≤ k) ∧ Aside0 (Kd.N (Kd.slice 3 (Kd.int .i64)) 27 wc w.heap.size (fun k_ => some k_ ≠ ((.slice Ao16 t519.length co16) : Value).ownBlock ∧ some k_ ≠ ((.slice Ao23 t525.length co23) : Value).ownBlock ∧ some k_ ≠ ((.slice Ao24 t528.length co24) : Value).ownBlock ∧ k_ ≠ gb513 ∧ k_ ≠ gb523 ∧ k_ ≠ gb532) (.slice Ao15 t516.length co15) t516) ∧ Aside0 (Kd.R Kd.bool 4 wc w.heap.size (fun k_ => some k_ ≠ ((.slice Ao24 t528.length co24) : Value).ownBlock) (.slice Ao16 t519.length co16) t519) ∧ Aside0 (Kd.N (Kd.slice 3 (Kd.int .i64)) 27 wc w.heap.size (fun k_ => some k_ ≠ ((.slice Ao15 t516.length co15) : Value).ownBlock ∧ some k_ ≠ ((.slice Ao16 t519.length co16) : Value).ownBlock ∧ some k_ ≠ ((.slice Ao24 t528.length co24) : Value).ownBlock ∧ k_ ≠ gb513 ∧ k_ ≠ gb523 ∧ k_ ≠ gb532) (.slice Ao23 t525.length co23) t525) ∧ Aside0 (Kd.R Kd.bool 4 wc w.heap.size (fun k_ => some k_ ≠ ((.slice Ao16 t519.length co16) : Value).ownBlock) (.slice Ao24 t528.length co24) t528) ∧ Aside0 (wc.heap[gb513]? = some (.cells #[.int .i64 a0_0, .int .i64 a0_1, .int .i64 a0_2, .int .i64 a0_3, (.slice A0_4 l0_4.length c0_4)] 31 (0, 0))) ∧ Aside0 (wc.heap[gb523]? = some (.cells #[.int .i64 t515, (.slice Ao15 t516.length co15), (.slice Ao16 t519.length co16)] 46 (0, 0))) ∧ Aside0 (wc.heap[gb532]? = some (.cells #[.int .i64 t524, (.slice Ao23 t525.length co23), (.slice Ao24 t528.length co24)] 46 (0, 0))) ∧ Aside0 (Below w.heap.size w wc))
    case first =>
      have H := HC7.out
      clear HC7
      by_cases c25 : t522 = t531
      · rw [if_pos c25] at H
        have c25b0 : (t522 == t531) = true := beq_iff_eq.mpr c25
        have c25b1 : (t522 != t531) = false := bne_eq_false_iff_eq.mpr c25
        clear c25
        (first | rw [c25b0] | (simp only [i64_w, i32_w]; rw [c25b0]) | skip)
        replace H := Option.bind_eq_some_iff.mp H
        obtain ⟨t533, A260, H⟩ := H
        replace H : (stackyardlaw08_NfaDfas.j0 k l1 t531 (!t533) a0_0 a0_1 a0_2 a0_3 l0_4 t524 t525 t528) = some r := H
        have A26 := Aside0.mk A260
        clear A260
        have H' := Aside0.mk H
        clear H
        have hnb27 := NB523_513.out
        have hnc27 := NB513_523.out
        have hnb28 := NB523_532.out
        have hnc28 := NB532_523.out
        have hcz29_0 : w19.cell? ⟨gb523, 0, none⟩ = some (.int .i64 t515) := (blk_cell BK523.out 0).trans rfl
        have hcz29_1 : w19.cell? ⟨gb523, 1, none⟩ = some (.slice Ao15 t516.length co15) := (blk_cell BK523.out 1).trans rfl
        have hcz29_2 : w19.cell? ⟨gb523, 2, none⟩ = some (.slice Ao16 t519.length co16) := (blk_cell BK523.out 2).trans rfl
        have hfz29_0 := blk_frozen BK523.out 0
        have hfz29_1 := blk_frozen BK523.out 1
        have hfz29_2 := blk_frozen BK523.out 2
        have hnb30 := NB532_513.out
        have hnc30 := NB513_532.out
        have hcz31_0 : w19.cell? ⟨gb532, 0, none⟩ = some (.int .i64 0) := (blk_cell BK532.out 0).trans rfl
        have hcz31_1 : w19.cell? ⟨gb532, 1, none⟩ = some (.slice none 0 0) := (blk_cell BK532.out 1).trans rfl
        have hcz31_2 : w19.cell? ⟨gb532, 2, none⟩ = some (.slice none 0 0) := (blk_cell BK532.out 2).trans rfl
        have hfz31_0 := blk_frozen BK532.out 0
        have hfz31_1 := blk_frozen BK532.out 1
        have hfz31_2 := blk_frozen BK532.out 2
        go_wp2_with (first | (go_at_call 19; (with_reducible refine (stackyardlaw08_same.calls k t515 _ _ t516 _ _ t519 t524 _ _ t525 _ _ t528 t533 _ ?side1 ?side2 ?side3 ?side4 ?side5 ?side6 ?side7 ?side8 A26.out).mono ?_); (case side1 => refine (Kd.N_reads' (e := 27) (base := w.heap.size) (ok := fun k_ => (((((some k_ ≠ (.slice Ao16 t519.length co16 : Value).ownBlock ∧ k_ ≠ gb513) ∧ k_ ≠ gb523) ∧ some k_ ≠ (.slice Ao23 t525.length co23 : Value).ownBlock) ∧ some k_ ≠ (.slice Ao24 t528.length co24 : Value).ownBlock) ∧ k_ ≠ gb532)) (n := t516.length) (c := co15) ?_).2.2; exact (by refine viN ?_; exact (Kd.N_mono (Kd.N_far (p := ⟨gb532, 2, none⟩) (Kd.N_far (p := ⟨gb532, 1, none⟩) (Kd.N_far (p := ⟨gb532, 0, none⟩) (Kd.N_mono HO518.out (fun k_ hk => (⟨hk, hk.2⟩ : _ ∧ k_ ≠ gb532))) (fun _ hk => hk.2) (.int .i64 t524)) (fun _ hk => hk.2) (.slice Ao23 t525.length co23)) (fun _ hk => hk.2) (.slice Ao24 t528.length co24)) (fun _ h_ => h_.1)))); (case side2 => exact (Kd.N_reads' HO518.out).2.1); (case side3 => refine (Kd.R_reads' (e := 4) (base := w.heap.size) (ok := fun k_ => (True ∧ some k_ ≠ (.slice Ao24 t528.length co24 : Value).ownBlock)) (n := t519.length) (c := co16) ?_).2.2; exact (by refine viR ?_; exact (Kd.R_mono (Kd.R_far (p := ⟨gb532, 2, none⟩) (Kd.R_far (p := ⟨gb532, 1, none⟩) (Kd.R_far (p := ⟨gb532, 0, none⟩) (Kd.R_types HO521.out BK532.out (by decide)) (fun _ hk => hk.2) (.int .i64 t524)) (fun _ hk => hk.2) (.slice Ao23 t525.length co23)) (fun _ hk => hk.2) (.slice Ao24 t528.length co24)) (fun _ h_ => h_.1)))); (case side4 => exact (Kd.R_reads' HO521.out).2.1); (case side5 => refine (Kd.N_reads' (e := 27) (base := w.heap.size) (ok := fun k_ => ((some k_ ≠ (.slice Ao24 t528.length co24 : Value).ownBlock ∧ (some k_ ≠ (.slice Ao15 t516.length co15 : Value).ownBlock ∧ (some k_ ≠ (.slice Ao16 t519.length co16 : Value).ownBlock ∧ (k_ ≠ gb513 ∧ k_ ≠ gb523)))) ∧ k_ ≠ gb532)) (n := t525.length) (c := co23) ?_).2.2; exact (by refine viN ?_; exact (Kd.N_mono (Kd.N_far (p := ⟨gb532, 2, none⟩) (Kd.N_far (p := ⟨gb532, 1, none⟩) (Kd.N_far (p := ⟨gb532, 0, none⟩) (Kd.N_mono HO527.out (fun k_ hk => (⟨hk, hk.2⟩ : _ ∧ k_ ≠ gb532))) (fun _ hk => hk.2) (.int .i64 t524)) (fun _ hk => hk.2) (.slice Ao23 t525.length co23)) (fun _ hk => hk.2) (.slice Ao24 t528.length co24)) (fun _ h_ => h_.1)))); (case side6 => exact (Kd.N_reads' HO527.out).2.1); (case side7 => refine (Kd.R_reads' (e := 4) (base := w.heap.size) (ok := fun k_ => (True ∧ some k_ ≠ (.slice Ao16 t519.length co16 : Value).ownBlock)) (n := t528.length) (c := co24) ?_).2.2; exact (by refine viR ?_; exact (Kd.R_mono (Kd.R_far (p := ⟨gb532, 2, none⟩) (Kd.R_far (p := ⟨gb532, 1, none⟩) (Kd.R_far (p := ⟨gb532, 0, none⟩) (Kd.R_types HO530.out BK532.out (by decide)) (fun _ hk => hk.2) (.int .i64 t524)) (fun _ hk => hk.2) (.slice Ao23 t525.length co23)) (fun _ hk => hk.2) (.slice Ao24 t528.length co24)) (fun _ h_ => h_.1)))); (case side8 => exact (Kd.R_reads' HO530.out).2.1); rintro e w32 ⟨rfl, hb⟩; have n0_ := Aside0.mk (Kd.N_below (by refine viN ?_; exact (Kd.N_mono (Kd.N_far (p := ⟨gb532, 2, none⟩) (Kd.N_far (p := ⟨gb532, 1, none⟩) (Kd.N_far (p := ⟨gb532, 0, none⟩) (Kd.N_mono HO518.out (fun k_ hk => (⟨hk, hk.2⟩ : _ ∧ k_ ≠ gb532))) (fun _ hk => hk.2) (.int .i64 t524)) (fun _ hk => hk.2) (.slice Ao23 t525.length co23)) (fun _ hk => hk.2) (.slice Ao24 t528.length co24)) (fun _ h_ => h_.1))) hb); have n1_ := Aside0.mk (Kd.R_below (by refine viR ?_; exact (Kd.R_mono (Kd.R_far (p := ⟨gb532, 2, none⟩) (Kd.R_far (p := ⟨gb532, 1, none⟩) (Kd.R_far (p := ⟨gb532, 0, none⟩) (Kd.R_types HO521.out BK532.out (by decide)) (fun _ hk => hk.2) (.int .i64 t524)) (fun _ hk => hk.2) (.slice Ao23 t525.length co23)) (fun _ hk => hk.2) (.slice Ao24 t528.length co24)) (fun _ h_ => h_.1))) hb); have n2_ := Aside0.mk (Kd.N_below (by refine viN ?_; exact (Kd.N_mono (Kd.N_far (p := ⟨gb532, 2, none⟩) (Kd.N_far (p := ⟨gb532, 1, none⟩) (Kd.N_far (p := ⟨gb532, 0, none⟩) (Kd.N_mono HO527.out (fun k_ hk => (⟨hk, hk.2⟩ : _ ∧ k_ ≠ gb532))) (fun _ hk => hk.2) (.int .i64 t524)) (fun _ hk => hk.2) (.slice Ao23 t525.length co23)) (fun _ hk => hk.2) (.slice Ao24 t528.length co24)) (fun _ h_ => h_.1))) hb); have n3_ := Aside0.mk (Kd.R_below (by refine viR ?_; exact (Kd.R_mono (Kd.R_far (p := ⟨gb532, 2, none⟩) (Kd.R_far (p := ⟨gb532, 1, none⟩) (Kd.R_far (p := ⟨gb532, 0, none⟩) (Kd.R_types HO530.out BK532.out (by decide)) (fun _ hk => hk.2) (.int .i64 t524)) (fun _ hk => hk.2) (.slice Ao23 t525.length co23)) (fun _ hk => hk.2) (.slice Ao24 t528.length co24)) (fun _ h_ => h_.1))) hb); have n4_ := Aside0.mk (blk_below (g := gb513) (o := .cells #[.int .i64 a0_0, .int .i64 a0_1, .int .i64 a0_2, .int .i64 a0_3, .slice A0_4 l0_4.length c0_4] 31 (0, 0)) (by refine viK ?_; refine blk_far ?_ NB513_532.out _; refine viK ?_; refine blk_far ?_ NB513_532.out _; refine viK ?_; refine blk_far ?_ NB513_532.out _; refine viK ?_; exact BK513.out) hb); have n5_ := Aside0.mk (blk_below (g := gb523) (o := .cells #[.int .i64 t515, .slice Ao15 t516.length co15, .slice Ao16 t519.length co16] 46 (0, 0)) (by refine viK ?_; refine blk_far ?_ NB523_532.out _; refine viK ?_; refine blk_far ?_ NB523_532.out _; refine viK ?_; refine blk_far ?_ NB523_532.out _; refine viK ?_; exact BK523.out) hb); have n6_ := Aside0.mk (blk_below (g := gb532) (o := .cells #[.int .i64 t524, .slice Ao23 t525.length co23, .slice Ao24 t528.length co24] 46 (0, 0)) (by refine viK ?_; refine blk_put (cs := #[.int .i64 t524, .slice Ao23 t525.length co23, .slice none 0 0]) ?_ 2 _ rfl; refine viK ?_; refine blk_put (cs := #[.int .i64 t524, .slice none 0 0, .slice none 0 0]) ?_ 1 _ rfl; refine viK ?_; refine blk_put (cs := #[.int .i64 0, .slice none 0 0, .slice none 0 0]) ?_ 0 _ rfl; refine viK ?_; exact BK532.out) hb); have n7_ := Aside0.mk (below_step viB hb); clear HO518; clear HO521; clear HO527; clear HO530; clear BK513; clear BK523; clear BK532; clear HB; have HO518 := n0_; have HO521 := n1_; have HO527 := n2_; have HO530 := n3_; have BK513 := n4_; have BK523 := n5_; have BK532 := n6_; have HB := n7_; clear n0_ n1_ n2_ n3_ n4_ n5_ n6_ n7_; (try clear hb); (try clear hb2); (try clear hk); (try clear hi)))
        go_meet
        case rel => exact ⟨_, (!t533), (by first | rfl | (simp; done) | (simp [*]; done)), H', ⟨by first | omega | exact Nat.le_refl _⟩, ⟨by refine viN ?_; exact Kd.N_mono HO518.out (fun _ hk => ⟨hk.1.1.1.1.1, ⟨hk.1.1.2, ⟨hk.1.2, ⟨hk.1.1.1.1.2, ⟨hk.1.1.1.2, hk.2⟩⟩⟩⟩⟩)⟩, ⟨by refine viR ?_; exact Kd.R_mono HO521.out (fun _ hk => hk.2)⟩, ⟨by refine viN ?_; exact Kd.N_mono HO527.out (fun _ hk => ⟨hk.1.2.1, ⟨hk.1.2.2.1, ⟨hk.1.1, ⟨hk.1.2.2.2.1, ⟨hk.1.2.2.2.2, hk.2⟩⟩⟩⟩⟩)⟩, ⟨by refine viR ?_; exact Kd.R_mono HO530.out (fun _ hk => hk.2)⟩, ⟨viK BK513.out⟩, ⟨viK BK523.out⟩, ⟨viK BK532.out⟩, ⟨viB⟩⟩
      · rw [if_neg c25] at H
        exact absurd H (by simp)
    case rest =>
      clear HC7
      try clear c1
      try clear c2
      try clear p2
      try clear c3
      try clear c4
      try clear c10
      try clear c13
      try clear c17
      try clear c18
      try clear c20
      try clear c21
      try clear c25
      try clear c25b0
      try clear c25b1
      try clear c27
      try clear c28
      try clear c30
      try clear hcz10_0
      try clear hcz10_1
      try clear hcz10_2
      try clear hcz10_3
      try clear hcz10_4
      try clear hcz14_0
      try clear hcz14_1
      try clear hcz14_2
      try clear hcz17_0
      try clear hcz17_1
      try clear hcz17_2
      try clear hcz17_3
      try clear hcz17_4
      try clear hcz22_0
      try clear hcz22_1
      try clear hcz22_2
      try clear hcz29_0
      try clear hcz29_1
      try clear hcz29_2
      try clear hcz31_0
      try clear hcz31_1
      try clear hcz31_2
      try clear hfz10_0
      try clear hfz10_1
      try clear hfz10_2
      try clear hfz10_3
      try clear hfz10_4
      try clear hfz14_0
      try clear hfz14_1
      try clear hfz14_2
      try clear hfz17_0
      try clear hfz17_1
      try clear hfz17_2
      try clear hfz17_3
      try clear hfz17_4
      try clear hfz22_0
      try clear hfz22_1
      try clear hfz22_2
      try clear hfz29_0
      try clear hfz29_1
      try clear hfz29_2
      try clear hfz31_0
      try clear hfz31_1
      try clear hfz31_2
      obtain ⟨kq, x31_6, rfl, HA, HJ6, HO_524001, HO_524002, HO_533001, HO_533002, BK513, BK523, BK532, HB⟩ := hcut
      cases kq with
      | zero => exact absurd HA.out (by simp [stackyardlaw08_NfaDfas.j0])
      | succ kj6 =>
        have H := HA.out
        clear HA
        simp only [stackyardlaw08_NfaDfas.j0] at H
        by_cases c33 : x31_6 = true
        · subst c33
          have H1 : (none) = some r := by rw [if_pos rfl] at H; exact H
          clear H
          have H := H1
          clear H1
          exact absurd H (by simp)
        · replace c33 := Bool.eq_false_iff.mpr c33
          subst c33
          have H1 : ((nfa_Run.f kj6 a0_0 a0_1 a0_2 a0_3 l0_4 l1).bind fun bt534 => (if t531 = 0 then (if bt534.2 = 0 then ((stackyardlaw08_runs.f kj6 t524 t525 t528 l1).bind fun t536 => (some (bt534.1 == t536))) else (some true)) else (some true))) = some r := by rw [if_neg (show ¬ (false = true) by decide)] at H; exact H
          clear H
          have H := H1
          clear H1
          replace H := Option.bind_eq_some_iff.mp H
          obtain ⟨⟨t534, t535⟩, A340, H⟩ := H
          replace H : (if t531 = 0 then (if t535 = 0 then ((stackyardlaw08_runs.f kj6 t524 t525 t528 l1).bind fun t536 => (some (t534 == t536))) else (some true)) else (some true)) = some r := H
          have A34 := Aside0.mk A340
          clear A340
          by_cases c35 : t531 = 0
          · rw [if_pos c35] at H
            have c35b0 : (t531 == 0) = true := beq_iff_eq.mpr c35
            have c35b1 : (t531 != 0) = false := bne_eq_false_iff_eq.mpr c35
            clear c35
            by_cases c36 : t535 = 0
            · rw [if_pos c36] at H
              have c36b0 : (t535 == 0) = true := beq_iff_eq.mpr c36
              have c36b1 : (t535 != 0) = false := bne_eq_false_iff_eq.mpr c36
              clear c36
              replace H := Option.bind_eq_some_iff.mp H
              obtain ⟨t536, A370, H⟩ := H
              replace H : (some (t534 == t536)) = some r := H
              have A37 := Aside0.mk A370
              clear A370
              obtain rfl := Option.some.inj H
              have hnb38 := NB513_523.out
              have hnc38 := NB523_513.out
              have hnb39 := NB513_532.out
              have hnc39 := NB532_513.out
              have hcz40_0 : wc.cell? ⟨gb513, 0, none⟩ = some (.int .i64 a0_0) := (blk_cell BK513.out 0).trans rfl
              have hcz40_1 : wc.cell? ⟨gb513, 1, none⟩ = some (.int .i64 a0_1) := (blk_cell BK513.out 1).trans rfl
              have hcz40_2 : wc.cell? ⟨gb513, 2, none⟩ = some (.int .i64 a0_2) := (blk_cell BK513.out 2).trans rfl
              have hcz40_3 : wc.cell? ⟨gb513, 3, none⟩ = some (.int .i64 a0_3) := (blk_cell BK513.out 3).trans rfl
              have hcz40_4 : wc.cell? ⟨gb513, 4, none⟩ = some (.slice A0_4 l0_4.length c0_4) := (blk_cell BK513.out 4).trans rfl
              have hfz40_0 := blk_frozen BK513.out 0
              have hfz40_1 := blk_frozen BK513.out 1
              have hfz40_2 := blk_frozen BK513.out 2
              have hfz40_3 := blk_frozen BK513.out 3
              have hfz40_4 := blk_frozen BK513.out 4
              go_wp2_with (first | ((with_reducible refine gate_callee (f := 14) rfl ?_); refine goesL_ (some 35) rfl rfl Try.func14 (by kernel_rfl) rfl #[.agg #[.int .i64 a0_0, .int .i64 a0_1, .int .i64 a0_2, .int .i64 a0_3, .slice A0_4 l0_4.length c0_4], .slice A1 l1.length c1] rfl (by (try simp only [List.map_toArray, List.map_cons, List.map_nil]); first | done | rfl | (simp only [List.length_drop, List.length_take]; rfl)) ?_; (with_reducible refine (nfa_Run.calls kj6 a0_0 a0_1 a0_2 a0_3 _ _ l0_4 _ _ l1 t534 t535 _ ?side1 ?side2 ?side3 ?side4 A34.out).mono ?_); (case side1 => repeat (first | exact (Kd.C_below HR0_4.out HB.out) | (with_reducible refine Kd.C_alloc ?_ _) | (with_reducible refine Kd.C_drewN ?_ _) | (with_reducible refine Kd.C_drew ?_))); (case side2 => exact HC0_4.out); (case side3 => repeat (first | exact (Kd.C_below HR1.out HB.out) | (with_reducible refine Kd.C_alloc ?_ _) | (with_reducible refine Kd.C_drewN ?_ _) | (with_reducible refine Kd.C_drew ?_))); (case side4 => exact HC1.out); rintro e w41 ⟨rfl, hb⟩; refine ⟨_, rfl, ?_⟩; have n0_ := Aside0.mk (Kd.N_below (viN HO_524001.out) hb); have n1_ := Aside0.mk (Kd.R_below (viR HO_524002.out) hb); have n2_ := Aside0.mk (Kd.N_below (viN HO_533001.out) hb); have n3_ := Aside0.mk (Kd.R_below (viR HO_533002.out) hb); have n4_ := Aside0.mk (blk_below (g := gb513) (o := .cells #[.int .i64 a0_0, .int .i64 a0_1, .int .i64 a0_2, .int .i64 a0_3, .slice A0_4 l0_4.length c0_4] 31 (0, 0)) (viK BK513.out) hb); have n5_ := Aside0.mk (blk_below (g := gb523) (o := .cells #[.int .i64 t515, .slice Ao15 t516.length co15, .slice Ao16 t519.length co16] 46 (0, 0)) (viK BK523.out) hb); have n6_ := Aside0.mk (blk_below (g := gb532) (o := .cells #[.int .i64 t524, .slice Ao23 t525.length co23, .slice Ao24 t528.length co24] 46 (0, 0)) (viK BK532.out) hb); have n7_ := Aside0.mk (below_step viB hb); clear HO_524001; clear HO_524002; clear HO_533001; clear HO_533002; clear BK513; clear BK523; clear BK532; clear HB; have HO_524001 := n0_; have HO_524002 := n1_; have HO_533001 := n2_; have HO_533002 := n3_; have BK513 := n4_; have BK523 := n5_; have BK532 := n6_; have HB := n7_; clear n0_ n1_ n2_ n3_ n4_ n5_ n6_ n7_; (try clear hb); (try clear hb2); (try clear hk); (try clear hi); have hnb42 := NB532_523.out; have hnc42 := NB523_532.out; have hcz43_0 : w41.cell? ⟨gb532, 0, none⟩ = some (.int .i64 t524) := (blk_cell BK532.out 0).trans rfl; have hcz43_1 : w41.cell? ⟨gb532, 1, none⟩ = some (.slice Ao23 t525.length co23) := (blk_cell BK532.out 1).trans rfl; have hcz43_2 : w41.cell? ⟨gb532, 2, none⟩ = some (.slice Ao24 t528.length co24) := (blk_cell BK532.out 2).trans rfl; have hfz43_0 := blk_frozen BK532.out 0; have hfz43_1 := blk_frozen BK532.out 1; have hfz43_2 := blk_frozen BK532.out 2) | (go_at_call 20; (with_reducible refine (stackyardlaw08_runs.calls kj6 t524 _ _ t525 _ _ t528 _ _ l1 t536 _ ?side1 ?side2 ?side3 ?side4 ?side5 ?side6 A37.out).mono ?_); (case side1 => repeat (first | exact (Kd.N_reads' HO_533001.out).2.2 | (with_reducible refine Kd.C_alloc ?_ _) | (with_reducible refine Kd.C_drewN ?_ _) | (with_reducible refine Kd.C_drew ?_))); (case side2 => exact (Kd.N_reads' HO_533001.out).2.1); (case side3 => repeat (first | exact (Kd.R_reads' HO_533002.out).2.2 | (with_reducible refine Kd.C_alloc ?_ _) | (with_reducible refine Kd.C_drewN ?_ _) | (with_reducible refine Kd.C_drew ?_))); (case side4 => exact (Kd.R_reads' HO_533002.out).2.1); (case side5 => repeat (first | exact (Kd.C_below HR1.out HB.out) | (with_reducible refine Kd.C_alloc ?_ _) | (with_reducible refine Kd.C_drewN ?_ _) | (with_reducible refine Kd.C_drew ?_))); (case side6 => exact HC1.out); rintro e w44 ⟨rfl, hb⟩; have n0_ := Aside0.mk (Kd.N_below (viN HO_524001.out) hb); have n1_ := Aside0.mk (Kd.R_below (viR HO_524002.out) hb); have n2_ := Aside0.mk (Kd.N_below (viN HO_533001.out) hb); have n3_ := Aside0.mk (Kd.R_below (viR HO_533002.out) hb); have n4_ := Aside0.mk (blk_below (g := gb513) (o := .cells #[.int .i64 a0_0, .int .i64 a0_1, .int .i64 a0_2, .int .i64 a0_3, .slice A0_4 l0_4.length c0_4] 31 (0, 0)) (viK BK513.out) hb); have n5_ := Aside0.mk (blk_below (g := gb523) (o := .cells #[.int .i64 t515, .slice Ao15 t516.length co15, .slice Ao16 t519.length co16] 46 (0, 0)) (viK BK523.out) hb); have n6_ := Aside0.mk (blk_below (g := gb532) (o := .cells #[.int .i64 t524, .slice Ao23 t525.length co23, .slice Ao24 t528.length co24] 46 (0, 0)) (viK BK532.out) hb); have n7_ := Aside0.mk (below_step viB hb); clear HO_524001; clear HO_524002; clear HO_533001; clear HO_533002; clear BK513; clear BK523; clear BK532; clear HB; have HO_524001 := n0_; have HO_524002 := n1_; have HO_533001 := n2_; have HO_533002 := n3_; have BK513 := n4_; have BK523 := n5_; have BK532 := n6_; have HB := n7_; clear n0_ n1_ n2_ n3_ n4_ n5_ n6_ n7_; (try clear hb); (try clear hb2); (try clear hk); (try clear hi)))
              go_ret
              exact ⟨by first | rfl | (simp [errW_none, errW_some] <;> rfl) | (simp [*, errW_none, errW_some] <;> rfl), viB⟩
            · rw [if_neg c36] at H
              have c36b0 : (t535 == 0) = false := beq_eq_false_iff_ne.mpr c36
              have c36b1 : (t535 != 0) = true := bne_iff_ne.mpr c36
              obtain rfl := Option.some.inj H
              have hnb45 := NB513_523.out
              have hnc45 := NB523_513.out
              have hnb46 := NB513_532.out
              have hnc46 := NB532_513.out
              have hcz47_0 : wc.cell? ⟨gb513, 0, none⟩ = some (.int .i64 a0_0) := (blk_cell BK513.out 0).trans rfl
              have hcz47_1 : wc.cell? ⟨gb513, 1, none⟩ = some (.int .i64 a0_1) := (blk_cell BK513.out 1).trans rfl
              have hcz47_2 : wc.cell? ⟨gb513, 2, none⟩ = some (.int .i64 a0_2) := (blk_cell BK513.out 2).trans rfl
              have hcz47_3 : wc.cell? ⟨gb513, 3, none⟩ = some (.int .i64 a0_3) := (blk_cell BK513.out 3).trans rfl
              have hcz47_4 : wc.cell? ⟨gb513, 4, none⟩ = some (.slice A0_4 l0_4.length c0_4) := (blk_cell BK513.out 4).trans rfl
              have hfz47_0 := blk_frozen BK513.out 0
              have hfz47_1 := blk_frozen BK513.out 1
              have hfz47_2 := blk_frozen BK513.out 2
              have hfz47_3 := blk_frozen BK513.out 3
              have hfz47_4 := blk_frozen BK513.out 4
              go_wp2_with (first | ((with_reducible refine gate_callee (f := 14) rfl ?_); refine goesL_ (some 35) rfl rfl Try.func14 (by kernel_rfl) rfl #[.agg #[.int .i64 a0_0, .int .i64 a0_1, .int .i64 a0_2, .int .i64 a0_3, .slice A0_4 l0_4.length c0_4], .slice A1 l1.length c1] rfl (by (try simp only [List.map_toArray, List.map_cons, List.map_nil]); first | done | rfl | (simp only [List.length_drop, List.length_take]; rfl)) ?_; (with_reducible refine (nfa_Run.calls kj6 a0_0 a0_1 a0_2 a0_3 _ _ l0_4 _ _ l1 t534 t535 _ ?side1 ?side2 ?side3 ?side4 A34.out).mono ?_); (case side1 => repeat (first | exact (Kd.C_below HR0_4.out HB.out) | (with_reducible refine Kd.C_alloc ?_ _) | (with_reducible refine Kd.C_drewN ?_ _) | (with_reducible refine Kd.C_drew ?_))); (case side2 => exact HC0_4.out); (case side3 => repeat (first | exact (Kd.C_below HR1.out HB.out) | (with_reducible refine Kd.C_alloc ?_ _) | (with_reducible refine Kd.C_drewN ?_ _) | (with_reducible refine Kd.C_drew ?_))); (case side4 => exact HC1.out); rintro e w48 ⟨rfl, hb⟩; refine ⟨_, rfl, ?_⟩; have n0_ := Aside0.mk (Kd.N_below (viN HO_524001.out) hb); have n1_ := Aside0.mk (Kd.R_below (viR HO_524002.out) hb); have n2_ := Aside0.mk (Kd.N_below (viN HO_533001.out) hb); have n3_ := Aside0.mk (Kd.R_below (viR HO_533002.out) hb); have n4_ := Aside0.mk (blk_below (g := gb513) (o := .cells #[.int .i64 a0_0, .int .i64 a0_1, .int .i64 a0_2, .int .i64 a0_3, .slice A0_4 l0_4.length c0_4] 31 (0, 0)) (viK BK513.out) hb); have n5_ := Aside0.mk (blk_below (g := gb523) (o := .cells #[.int .i64 t515, .slice Ao15 t516.length co15, .slice Ao16 t519.length co16] 46 (0, 0)) (viK BK523.out) hb); have n6_ := Aside0.mk (blk_below (g := gb532) (o := .cells #[.int .i64 t524, .slice Ao23 t525.length co23, .slice Ao24 t528.length co24] 46 (0, 0)) (viK BK532.out) hb); have n7_ := Aside0.mk (below_step viB hb); clear HO_524001; clear HO_524002; clear HO_533001; clear HO_533002; clear BK513; clear BK523; clear BK532; clear HB; have HO_524001 := n0_; have HO_524002 := n1_; have HO_533001 := n2_; have HO_533002 := n3_; have BK513 := n4_; have BK523 := n5_; have BK532 := n6_; have HB := n7_; clear n0_ n1_ n2_ n3_ n4_ n5_ n6_ n7_; (try clear hb); (try clear hb2); (try clear hk); (try clear hi)))
              go_ret
              exact ⟨by first | rfl | (simp [errW_none, errW_some] <;> rfl) | (simp [*, errW_none, errW_some] <;> rfl), viB⟩
          · rw [if_neg c35] at H
            have c35b0 : (t531 == 0) = false := beq_eq_false_iff_ne.mpr c35
            have c35b1 : (t531 != 0) = true := bne_iff_ne.mpr c35
            obtain rfl := Option.some.inj H
            have hnb49 := NB513_523.out
            have hnc49 := NB523_513.out
            have hnb50 := NB513_532.out
            have hnc50 := NB532_513.out
            have hcz51_0 : wc.cell? ⟨gb513, 0, none⟩ = some (.int .i64 a0_0) := (blk_cell BK513.out 0).trans rfl
            have hcz51_1 : wc.cell? ⟨gb513, 1, none⟩ = some (.int .i64 a0_1) := (blk_cell BK513.out 1).trans rfl
            have hcz51_2 : wc.cell? ⟨gb513, 2, none⟩ = some (.int .i64 a0_2) := (blk_cell BK513.out 2).trans rfl
            have hcz51_3 : wc.cell? ⟨gb513, 3, none⟩ = some (.int .i64 a0_3) := (blk_cell BK513.out 3).trans rfl
            have hcz51_4 : wc.cell? ⟨gb513, 4, none⟩ = some (.slice A0_4 l0_4.length c0_4) := (blk_cell BK513.out 4).trans rfl
            have hfz51_0 := blk_frozen BK513.out 0
            have hfz51_1 := blk_frozen BK513.out 1
            have hfz51_2 := blk_frozen BK513.out 2
            have hfz51_3 := blk_frozen BK513.out 3
            have hfz51_4 := blk_frozen BK513.out 4
            go_wp2_with (first | ((with_reducible refine gate_callee (f := 14) rfl ?_); refine goesL_ (some 35) rfl rfl Try.func14 (by kernel_rfl) rfl #[.agg #[.int .i64 a0_0, .int .i64 a0_1, .int .i64 a0_2, .int .i64 a0_3, .slice A0_4 l0_4.length c0_4], .slice A1 l1.length c1] rfl (by (try simp only [List.map_toArray, List.map_cons, List.map_nil]); first | done | rfl | (simp only [List.length_drop, List.length_take]; rfl)) ?_; (with_reducible refine (nfa_Run.calls kj6 a0_0 a0_1 a0_2 a0_3 _ _ l0_4 _ _ l1 t534 t535 _ ?side1 ?side2 ?side3 ?side4 A34.out).mono ?_); (case side1 => repeat (first | exact (Kd.C_below HR0_4.out HB.out) | (with_reducible refine Kd.C_alloc ?_ _) | (with_reducible refine Kd.C_drewN ?_ _) | (with_reducible refine Kd.C_drew ?_))); (case side2 => exact HC0_4.out); (case side3 => repeat (first | exact (Kd.C_below HR1.out HB.out) | (with_reducible refine Kd.C_alloc ?_ _) | (with_reducible refine Kd.C_drewN ?_ _) | (with_reducible refine Kd.C_drew ?_))); (case side4 => exact HC1.out); rintro e w52 ⟨rfl, hb⟩; refine ⟨_, rfl, ?_⟩; have n0_ := Aside0.mk (Kd.N_below (viN HO_524001.out) hb); have n1_ := Aside0.mk (Kd.R_below (viR HO_524002.out) hb); have n2_ := Aside0.mk (Kd.N_below (viN HO_533001.out) hb); have n3_ := Aside0.mk (Kd.R_below (viR HO_533002.out) hb); have n4_ := Aside0.mk (blk_below (g := gb513) (o := .cells #[.int .i64 a0_0, .int .i64 a0_1, .int .i64 a0_2, .int .i64 a0_3, .slice A0_4 l0_4.length c0_4] 31 (0, 0)) (viK BK513.out) hb); have n5_ := Aside0.mk (blk_below (g := gb523) (o := .cells #[.int .i64 t515, .slice Ao15 t516.length co15, .slice Ao16 t519.length co16] 46 (0, 0)) (viK BK523.out) hb); have n6_ := Aside0.mk (blk_below (g := gb532) (o := .cells #[.int .i64 t524, .slice Ao23 t525.length co23, .slice Ao24 t528.length co24] 46 (0, 0)) (viK BK532.out) hb); have n7_ := Aside0.mk (below_step viB hb); clear HO_524001; clear HO_524002; clear HO_533001; clear HO_533002; clear BK513; clear BK523; clear BK532; clear HB; have HO_524001 := n0_; have HO_524002 := n1_; have HO_533001 := n2_; have HO_533002 := n3_; have BK513 := n4_; have BK523 := n5_; have BK532 := n6_; have HB := n7_; clear n0_ n1_ n2_ n3_ n4_ n5_ n6_ n7_; (try clear hb); (try clear hb2); (try clear hk); (try clear hi)))
            go_ret
            exact ⟨by first | rfl | (simp [errW_none, errW_some] <;> rfl) | (simp [*, errW_none, errW_some] <;> rfl), viB⟩
  · replace c4 := Bool.eq_false_iff.mpr c4
    subst c4
    have H1 : (none) = some r := by rw [if_neg (show ¬ (false = true) by decide)] at H; exact H
    clear H
    have H := H1
    clear H1
    exact absurd H (by simp)
end Go.Proofs.Ytapinbmkjkbkkaa.Lb
