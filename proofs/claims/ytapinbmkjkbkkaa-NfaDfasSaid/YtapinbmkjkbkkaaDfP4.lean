import Derived.Test.YtapinbmkjkbkkaaDfVi
import Derived.Test.YtapinbmkjkbkkaaDfLbx5
import Derived.Test.YtapinbmkjkbkkaaDfLbx6
import Derived.Test.YtapinbmkjkbkkaaDfLbx7
import Derived.WalkLawsBesides
import Derived.Outline
import Derived.Lib.Hide
import Derived.Test.YtapinbmkjkbkkaaProg
import Derived.Maps.OwnSet
import Derived.Maps.Views
import Derived.WalkKit
import Derived.KernelRfl
import Derived.Below
import Derived.StringKeys
import Derived.RegionTactic
import Derived.ChangeAlike
import Derived.Tactics
import Derived.Tactics2
import Derived.Defers
import Derived.Recover
import Derived.Laws.Pointers
import Derived.Test.YtapinbmkjkbkkaaDfLbx2
import Derived.Test.YtapinbmkjkbkkaaDfLbx3
import Derived.Test.YtapinbmkjkbkkaaDfLbx4
import Derived.Test.YtapinbmkjkbkkaaDfP3
import Derived.Test.YtapinbmkjkbkkaaDfLbx8
import Derived.Test.YtapinbmkjkbkkaaDfLbx9
namespace Go.Proofs.Ytapinbmkjkbkkaa.Lb
open Go.RowKit Go.Proofs.YtapinbmkjkbkkaaW.PrintWords Go.Proofs.YtapinbmkjkbkkaaW.PrintLast Go.Proofs.YtapinbmkjkbkkaaW.PrintMore
attribute [local go_sem] max2_int min2_int max_two min_two max_three min_three max_four min_four
set_option linter.unusedVariables false
set_option linter.unusedSimpArgs false
def stackyardref08_Numbers.l0 : Nat → List Int → List Int → Int → Option (Bool)
  | 0, _, _, _ => none
  | k + 1, x0, x1, x5 => if x5 < (x0.length : Int) then (if 0 ≤ x5 then (if x5 < (x1.length : Int) then (if (rd x0 x5) = (rd x1 x5) then (stackyardref08_Numbers.l0 k x0 x1 (wrap64 (x5 + 1))) else (some false)) else (none)) else (none)) else (some true)
def stackyardref08_Numbers.f (k : Nat) (l0 : List Int) (l1 : List Int) : Option (Bool) := if (l0.length : Int) = (l1.length : Int) then (stackyardref08_Numbers.l0 k l0 l1 0) else (some false)
theorem stackyardref08_Numbers.mono_l : ∀ k, (∀ y0 y1 y2, LeO (stackyardref08_Numbers.l0 k y0 y1 y2) (stackyardref08_Numbers.l0 (k + 1) y0 y1 y2))
  | 0 => fun _ _ _ r h => by simp [stackyardref08_Numbers.l0] at h
  | k + 1 => by
    have ih0 := stackyardref08_Numbers.mono_l k
    · intro y0 y1 y2
      unfold stackyardref08_Numbers.l0
      repeat' first
      | (with_reducible exact ih0 _ _ _)
      | (with_reducible exact LeO.refl _)
      | (with_reducible exact LeO.none _)
      | (with_reducible refine LeO.ite ?_ ?_)
      | (with_reducible refine LeO.bind ?_ (fun _ => ?_))
      | exact ih0 _ _ _
      | exact LeO.none _
      | refine LeO.ite ?_ ?_
      | refine LeO.bind ?_ (fun _ => ?_)
theorem stackyardref08_Numbers.mono : ∀ a0 a1 k, LeO (stackyardref08_Numbers.f k a0 a1) (stackyardref08_Numbers.f (k + 1) a0 a1) := by
  intro a0 a1 k
  have ih0 := stackyardref08_Numbers.mono_l k
  unfold stackyardref08_Numbers.f
  repeat' first
      | (with_reducible exact ih0 _ _ _)
      | (with_reducible exact LeO.refl _)
      | (with_reducible exact LeO.none _)
      | (with_reducible refine LeO.ite ?_ ?_)
      | (with_reducible refine LeO.bind ?_ (fun _ => ?_))
      | exact ih0 _ _ _
      | exact LeO.none _
      | refine LeO.ite ?_ ?_
      | refine LeO.bind ?_ (fun _ => ?_)
set_option maxHeartbeats 8000000 in
set_option maxRecDepth 100000 in
theorem stackyardref08_Numbers.calls (k : Nat) (A0 : Option Addr) (c0 : Nat) (l0 : List Int) (A1 : Option Addr) (c1 : Nat) (l1 : List Int) (r : Bool) (w : World) (hr0 : Kd.C (Kd.int .i64) w A0 l0.length l0) (hc0 : l0.length ≤ c0) (hr1 : Kd.C (Kd.int .i64) w A1 l1.length l1) (hc1 : l1.length ≤ c1) (h : stackyardref08_Numbers.f k l0 l1 = some r) :
    Calls Try.prog 24 #[.slice A0 l0.length c0, .slice A1 l1.length c1] w fun e w' => e = .returned (.bool r) ∧ Drawn0 w w' := by
  have HR0 := Aside0.mk hr0
  have HC0 := Aside0.mk hc0
  clear hr0 hc0
  have HR1 := Aside0.mk hr1
  have HC1 := Aside0.mk hc1
  clear hr1 hc1
  have H : (if (l0.length : Int) = (l1.length : Int) then (stackyardref08_Numbers.l0 k l0 l1 0) else (some false)) = some r := h
  clear h
  by_cases c3 : (l0.length : Int) = (l1.length : Int)
  · rw [if_pos c3] at H
    have c3b0 : ((l0.length : Int) == (l1.length : Int)) = true := beq_iff_eq.mpr c3
    have c3b1 : ((l0.length : Int) != (l1.length : Int)) = false := bne_eq_false_iff_eq.mpr c3
    have c3b2 : (l0.length == l1.length) = true := by first | simpa using c3 | (simp at c3 ⊢; omega)
    clear c3
    have H' := Aside0.mk H
    clear H
    go_enter Try.func24, Try.ntmps24
    go_wp2
    repeat (go_quiet (fail); try go_wp2)
    go_loopg [5] k (fun kq v5 w' => ∃ (x5_1 : Int), v5 = .int .i64 x5_1 ∧ Aside0 (stackyardref08_Numbers.l0 kq l0 l1 x5_1 = some r) ∧ Aside0 (kq ≤ k) ∧ Drawn0 w w')
    case atStart => exact ⟨(0), (by first | rfl | (simp; done) | (simp [*]; done)), H', ⟨Nat.le_refl _⟩, by repeat (first | exact Drawn0.refl _ | apply Drawn0.step)⟩
    case round =>
      clear H'
      try clear c1
      try clear c2
      try clear p2
      try clear c3
      try clear c3b0
      try clear c3b1
      try clear c3b2
      obtain ⟨x5_1, rfl, HA, HK1, ⟨m1, rfl⟩⟩ := hrel
      cases gk with
      | zero => exact absurd HA.out (by simp [stackyardref08_Numbers.l0])
      | succ k1 =>
        have H := HA.out
        clear HA
        simp only [stackyardref08_Numbers.l0] at H
        by_cases c4 : x5_1 < (l0.length : Int)
        · rw [if_pos c4] at H
          have c4b0 : decide (x5_1 < (l0.length : Int)) = true := decide_eq_true c4
          clear c4
          by_cases c5 : 0 ≤ x5_1
          · rw [if_pos c5] at H
            have c5b0 : decide (0 ≤ x5_1) = true := decide_eq_true c5
            clear c5
            by_cases c6 : x5_1 < (l1.length : Int)
            · rw [if_pos c6] at H
              have c6b0 : decide (x5_1 < (l1.length : Int)) = true := decide_eq_true c6
              clear c6
              by_cases c7 : (rd l0 x5_1) = (rd l1 x5_1)
              · rw [if_pos c7] at H
                have c7b0 : ((rd l0 x5_1) == (rd l1 x5_1)) = true := beq_iff_eq.mpr c7
                have c7b1 : ((rd l0 x5_1) != (rd l1 x5_1)) = false := bne_eq_false_iff_eq.mpr c7
                clear c7
                have H' := Aside0.mk H
                clear H
                have p292 : 0 ≤ (x5_1 : Int) := of_decide_eq_true (by first | (with_reducible assumption) | assumption)
                have q292 : x5_1 < (l0.length : Int) := of_decide_eq_true (by first | (with_reducible assumption) | assumption)
                obtain ⟨ad292, e292, hx292_0⟩ := Kd.at_int HR0.out x5_1 p292 q292
                cases e292
                replace p292 := eq_true p292
                replace q292 := eq_true q292
                have p293 : 0 ≤ (x5_1 : Int) := of_decide_eq_true (by first | (with_reducible assumption) | assumption)
                have q293 : x5_1 < (l1.length : Int) := of_decide_eq_true (by first | (with_reducible assumption) | assumption)
                obtain ⟨ad293, e293, hx293_0⟩ := Kd.at_int HR1.out x5_1 p293 q293
                cases e293
                replace p293 := eq_true p293
                replace q293 := eq_true q293
                go_wp2
                repeat (go_quiet (fail); try go_wp2)
                go_roundg k1
                case measure => have := HK1.out; omega
                case rel => exact ⟨(wrap64 (x5_1 + 1)), (by first | rfl | (simp; done) | (simp [*]; done)), H', ⟨by have := HK1.out; omega⟩, by repeat (first | exact Drawn0.refl _ | apply Drawn0.step)⟩
              · rw [if_neg c7] at H
                have c7b0 : ((rd l0 x5_1) == (rd l1 x5_1)) = false := beq_eq_false_iff_ne.mpr c7
                have c7b1 : ((rd l0 x5_1) != (rd l1 x5_1)) = true := bne_iff_ne.mpr c7
                obtain rfl := Option.some.inj H
                have p292 : 0 ≤ (x5_1 : Int) := of_decide_eq_true (by first | (with_reducible assumption) | assumption)
                have q292 : x5_1 < (l0.length : Int) := of_decide_eq_true (by first | (with_reducible assumption) | assumption)
                obtain ⟨ad292, e292, hx292_0⟩ := Kd.at_int HR0.out x5_1 p292 q292
                cases e292
                replace p292 := eq_true p292
                replace q292 := eq_true q292
                have p293 : 0 ≤ (x5_1 : Int) := of_decide_eq_true (by first | (with_reducible assumption) | assumption)
                have q293 : x5_1 < (l1.length : Int) := of_decide_eq_true (by first | (with_reducible assumption) | assumption)
                obtain ⟨ad293, e293, hx293_0⟩ := Kd.at_int HR1.out x5_1 p293 q293
                cases e293
                replace p293 := eq_true p293
                replace q293 := eq_true q293
                go_wp2
                repeat (go_quiet (fail); try go_wp2)
                go_ret
                exact ⟨by first | rfl | (simp; done) | (simp [*]; done), by repeat (first | exact Drawn0.refl _ | apply Drawn0.step)⟩
            · rw [if_neg c6] at H
              exact absurd H (by simp)
          · rw [if_neg c5] at H
            exact absurd H (by simp)
        · rw [if_neg c4] at H
          have c4b0 : decide (x5_1 < (l0.length : Int)) = false := decide_eq_false c4
          clear c4
          obtain rfl := Option.some.inj H
          go_wp2
          repeat (go_quiet (fail); try go_wp2)
          go_ret
          exact ⟨by first | rfl | (simp; done) | (simp [*]; done), by repeat (first | exact Drawn0.refl _ | apply Drawn0.step)⟩
  · rw [if_neg c3] at H
    have c3b0 : ((l0.length : Int) == (l1.length : Int)) = false := beq_eq_false_iff_ne.mpr c3
    have c3b1 : ((l0.length : Int) != (l1.length : Int)) = true := bne_iff_ne.mpr c3
    have c3b2 : (l0.length == l1.length) = false := by first | simpa using c3 | (simp at c3 ⊢; omega)
    obtain rfl := Option.some.inj H
    go_enter Try.func24, Try.ntmps24
    go_wp2
    repeat (go_quiet (fail); try go_wp2)
    go_ret
    exact ⟨by first | rfl | (simp; done) | (simp [*]; done), by repeat (first | exact Drawn0.refl _ | apply Drawn0.step)⟩
end Go.Proofs.Ytapinbmkjkbkkaa.Lb
namespace Go.Proofs.Ytapinbmkjkbkkaa.Mk
open Go.RowKit Go.Proofs.YtapinbmkjkbkkaaW.PrintWords Go.Proofs.YtapinbmkjkbkkaaW.PrintLast Go.Proofs.YtapinbmkjkbkkaaW.PrintMore Lb
def mkCells (st sy : Int) (v mp : Value) : Array Value := #[.int .i64 st, .int .i64 sy, .int .i64 0, .int .i64 1, v, mp]
structure Maker (base M : Nat) (sy : Int) (mp : Value) (W : World) (st : Int) (l : List S78) : Prop where mk ::
  out : ∃ v, W.heap[M]? = some (.cells (mkCells st sy v mp) 71 (0, 0)) ∧ k78.R 78 W base (fun _ => True) v l
abbrev tooMany : Ending := .panicked [{ v := .iface 32 (.int .i64 3), recovered := false }]
def KeepT (W W' : World) : Prop := W.heap.size ≤ W'.heap.size ∧ ∀ (g : Nat) (cs : Array Value) (t : TypeId) (fr : Nat × Nat), t ≠ 71 → t ≠ 78 → W.heap[g]? = some (.cells cs t fr) → W'.heap[g]? = some (.cells cs t fr)
theorem keepT_trans {W W1 W2 : World} (h : KeepT W W1) (k : KeepT W1 W2) : KeepT W W2 := ⟨Nat.le_trans h.1 k.1, fun g cs t fr h1 h2 hg => k.2 g cs t fr h1 h2 (h.2 g cs t fr h1 h2 hg)⟩
theorem keepT_below {W W1 : World} (h : Below W.heap.size W W1) : KeepT W W1 := ⟨h.size, fun g _ _ _ _ _ hg => (h.block g (blk_lt hg)).trans hg⟩
theorem keepT_alloc (W : World) (o : Obj) : KeepT W (W.alloc o) := keepT_below (below_alloc (Below.refl _ _) o)
theorem keepT_drewN (W : World) (n : Nat) : KeepT W (W.drewN n) := keepT_below (pw_below_drewN (Below.refl _ _) n)
theorem keepT_set {W : World} {M j : Nat} {cs : Array Value} (hB : W.heap[M]? = some (.cells cs 71 (0, 0))) (u : Value) : KeepT W (W.setCell ⟨M, j, none⟩ u) := by
  refine ⟨?_, fun g cs' t fr h1 _ hg => ?_⟩
  · exact ((Below.refl 0 W).setCell (Nat.zero_le _) u).size
  · have hne : g ≠ M := by
      rintro rfl
      rw [hB] at hg
      injection hg with hg
      injection hg with _ hg
      exact h1 hg.symm
    exact (Below.heap_setCell W ⟨M, j, none⟩ u g hne).trans hg
theorem keepT_grown {W W1 : World} {base : Nat} {v : Value} {l : List S78} (hR : k78.R 78 W base (fun _ => True) v l) (hg : W.grownBy W1 v.ownBlock) : KeepT W W1 := by
  refine ⟨hg.size, fun g cs t fr _ h2 hc => ?_⟩
  refine (hg.block g (blk_lt hc) ?_).trans hc
  intro e
  obtain ⟨_, inner, hown, _⟩ := hR
  obtain ⟨cells, hcells⟩ := own_typed hown g e.symm
  rw [hc] at hcells
  injection hcells with hcells
  injection hcells with _ hcells
  exact h2 hcells
section
variable {base M : Nat} {sy st : Int} {mp : Value} {l : List S78} {w0 W : World}
theorem maker_st (h : Maker base M sy mp W st l) (st' : Int) : Maker base M sy mp (W.setCell ⟨M, 0, none⟩ (.int .i64 st')) st' l := by
  obtain ⟨v, hB, hR⟩ := h
  refine ⟨v, blk_put hB 0 _ rfl, ?_⟩
  exact Kd.R_mono (Kd.R_far (Kd.R_types hR hB (by decide)) (fun k hk => hk.2) _) (fun _ _ => trivial)
theorem maker_draw (h : Maker base M sy mp W st l) (n : Nat) : Maker base M sy mp (W.drewN n) st l := by
  obtain ⟨v, hB, hR⟩ := h
  exact ⟨v, hB, Kd.R_drewN hR n⟩
theorem below_st (hM : base ≤ M) (hb : Below base w0 W) (u : Value) : Below base w0 (W.setCell ⟨M, 0, none⟩ u) := hb.setCell hM _
set_option maxHeartbeats 400000 in
theorem state_ok (h0 : 0 ≤ st) (h1 : st < 4096) (hM : base ≤ M) (h : Maker base M sy mp W st l) (hb : Below base w0 W) :
    Calls Try.prog 84 #[.pointer (some ⟨M, 0, none⟩)] W fun e W' => e = .returned (.int .i64 st) ∧ Maker base M sy mp W' (st + 1) l ∧ Below base w0 W' ∧ KeepT W W' := by
  have HK := Aside0.mk h
  obtain ⟨v, hB, hR⟩ := h
  have HB := Aside0.mk hb
  have HS := Aside0.mk hB
  have hc0 : W.cell? ⟨M, 0, none⟩ = some (.int .i64 st) := (blk_cell hB 0).trans rfl
  have hf0 := blk_frozen hB 0
  clear hB hR hb
  go_enter Try.func84, Try.ntmps84
  go_wp2
  go_ret
  refine ⟨rfl, ?_, ?_, ?_⟩
  · exact maker_st HK.out _
  · exact below_st hM HB.out _
  · exact keepT_set HS.out _
theorem state_many (h1 : 4096 ≤ st) (h : Maker base M sy mp W st l) (hb : Below base w0 W) :
    Calls Try.prog 84 #[.pointer (some ⟨M, 0, none⟩)] W fun e W' => e = tooMany ∧ Below base w0 W' := by
  obtain ⟨v, hB, hR⟩ := h
  have HB := Aside0.mk hb
  have hc0 : W.cell? ⟨M, 0, none⟩ = some (.int .i64 st) := (blk_cell hB 0).trans rfl
  have hf0 := blk_frozen hB 0
  clear hB hR hb
  go_enter Try.func84, Try.ntmps84
  go_wp2
  exact ⟨rfl, rfl, HB.out⟩
theorem arc_many (fr s tt : Int) (h1 : 65536 ≤ l.length) (h : Maker base M sy mp W st l) (hb : Below base w0 W) :
    Calls Try.prog 83 #[.pointer (some ⟨M, 0, none⟩), .int .i64 fr, .int .i64 s, .int .i64 tt] W fun e W' => e = tooMany ∧ Below base w0 W' := by
  obtain ⟨v, hB, hR⟩ := h
  have HB := Aside0.mk hb
  obtain ⟨A, c, rfl⟩ := Kd.R_slice hR
  have hc0 : W.cell? ⟨M, 4, none⟩ = some (.slice A l.length c) := (blk_cell hB 4).trans rfl
  have hf0 := blk_frozen hB 4
  clear hB hR hb
  have hd0 : decide ((65536 : Int) ≤ (l.length : Int)) = true := decide_eq_true (by omega)
  have hd1 : decide (65536 ≤ l.length) = true := decide_eq_true h1
  clear h1
  go_enter Try.func83, Try.ntmps83
  go_wp2
  exact ⟨rfl, rfl, HB.out⟩
set_option maxHeartbeats 400000 in
theorem arc_ok (fr s tt : Int) (h1 : l.length < 65536) (hM : base ≤ M) (h : Maker base M sy mp W st l) (hb : Below base w0 W) :
    Calls Try.prog 83 #[.pointer (some ⟨M, 0, none⟩), .int .i64 fr, .int .i64 s, .int .i64 tt] W fun e W' => e = .returned (.tuple #[]) ∧ Maker base M sy mp W' st (l ++ [⟨fr, s, tt⟩]) ∧ Below base w0 W' ∧ KeepT W W' := by
  obtain ⟨v, hB, hR⟩ := h
  have HB := Aside0.mk hb
  have HK := Aside0.mk hB
  have HR := Aside0.mk hR
  obtain ⟨A, c, rfl⟩ := Kd.R_slice hR
  have hc0 : W.cell? ⟨M, 4, none⟩ = some (.slice A l.length c) := (blk_cell hB 4).trans rfl
  have hf0 := blk_frozen hB 4
  clear hB hR hb
  have hd0 : decide ((65536 : Int) ≤ (l.length : Int)) = false := decide_eq_false (by omega)
  have hd1 : decide (65536 ≤ l.length) = false := decide_eq_false (by omega)
  have H1 := Aside0.mk h1
  clear h1
  go_enter Try.func83, Try.ntmps83
  go_wp2_with (at_builtin; refine Kd.R_append k78 (w0 := w0) base rfl (.tmp 21) (.tmp 26) 29 78 (.agg #[.int .i64 0, .int .i64 0, .int .i64 0]) 24 rfl Try.underlying29 info78 rfl (by decide) (by decide) _ l ⟨fr, s, tt⟩ [.int .i64 fr, .int .i64 s, .int .i64 tt] (fun _ => True) (fun _ => False) rfl rfl ?aP (fun _ hk => hk.elim) ?aF ?aO ?aB ?aS ?aL ?_; (case aP => exact k78_mkM _ _ _ _); (case aF => exact (fun _ _ => trivial)); (case aO => exact HR.out); (case aB => exact HB.out); (case aS => have := blk_lt HK.out; omega); (case aL => have := H1.out; omega); intro v1 w1 hR1 hb1 hg hat; obtain ⟨A1, c1, rfl⟩ := Kd.R_slice hR1; rw [List.length_append, List.length_singleton] at hR1; rw [List.length_append, List.length_singleton]; have HK1 := Aside0.mk (blk_grown HK.out hg (Kd.R_ne HR.out HK.out (by decide))); have HR1 := Aside0.mk hR1; have HB1 := Aside0.mk hb1; have HKT := Aside0.mk (keepT_grown HR.out hg); have hc1 : w1.frozen? ⟨M, 4, none⟩ = false := blk_frozen HK1.out 4; have hc2 : w1.cell? ⟨M, 4, none⟩ = some (.slice A l.length c) := (blk_cell HK1.out 4).trans rfl; clear hR1 hb1 hg hat)
  go_end0
  refine ⟨rfl, ⟨_, blk_put HK1.out 4 _ rfl, ?_⟩, HB1.out.setCell hM _, keepT_trans HKT.out (keepT_set HK1.out _)⟩
  exact Kd.R_mono (Kd.R_far (Kd.R_types HR1.out HK1.out (by decide)) (fun k hk => hk.2) _) (fun _ _ => trivial)
end
end Go.Proofs.Ytapinbmkjkbkkaa.Mk
namespace Go.Proofs.Ytapinbmkjkbkkaa.Mk
open Go.Maps Go.WideShapes Go.ChangeShapes Go.ChangeMaps Go.RowKit
theorem zero3 (w : World) : (zeroValue 3).run Try.prog w = .ok (.int .i64 0) w := by kernel_rfl
def nk (s : ByteArray) : List UInt8 := s.data.toList
def nameAt (l : List (List UInt8)) (s : List UInt8) : Int := if s ∈ l then (l.idxOf s : Nat) else 0
def NamesAt (w : World) (b : Nat) (l : List (List UInt8)) : Prop :=
  ∃ D : DataW Unit, w.ownsMap Try.prog 9 (plainElem Try.prog 3) b l.length D ∧ IsMap D ∧ l.length ≤ 4096 ∧
    ∀ s : List UInt8, has D (.string s) = decide (s ∈ l) ∧ D.atKey (.string s) (.lit (.int .i64 0)) = .lit (.int .i64 (nameAt l s))
theorem names_new (w : World) : NamesAt (w.alloc (.map #[] 0)) w.heap.size [] :=
  ⟨.map [], World.ownsMap_made _ _ _ _, isMap_empty, by simp, fun s => ⟨by simp [has_eq], by simp [nameAt, DataW.atKey]⟩⟩
theorem names_lt {w : World} {b : Nat} {l : List (List UInt8)} (h : NamesAt w b l) : b < w.heap.size := by
  obtain ⟨D, h, _⟩ := h
  exact h.lt
theorem names_kept {w w' : World} {b : Nat} {l : List (List UInt8)} (h : NamesAt w b l) (hb : w'.heap[b]? = w.heap[b]?) : NamesAt w' b l := by
  obtain ⟨D, ⟨es, clock, h1, h2⟩, h3⟩ := h
  exact ⟨D, ⟨es, clock, hb.trans h1, h2⟩, h3⟩
theorem names_below {w w' : World} {b : Nat} {l : List (List UInt8)} (h : NamesAt w b l) (hb : Below w.heap.size w w') : NamesAt w' b l := names_kept h (hb.block b (names_lt h))
theorem litKey (s : List UInt8) : WideAt.IsKeyLit (.string s) := by simp [WideAt.IsKeyLit]
theorem names_look {w : World} {b : Nat} {l : List (List UInt8)} (h : NamesAt w b l) (s : ByteArray) (hs : s.size ≤ maxLen) :
    (Instr.lookup 69 (.map (some b)) (.string s) true).run Try.prog w = .ok (.tuple #[.int .i64 (nameAt l (nk s)), .bool (decide (nk s ∈ l))]) w := by
  obtain ⟨D, ho, _, _, hD⟩ := h
  obtain ⟨v, ps, hrun, hv⟩ := ho.look_ok (string_keyed Try.underlying9) Try.underlying69 (zero3 w) (plainElem_int Try.underlying3 (by decide)) (Go.WideMaps.keyOf_string_mk Try.underlying9 hs)
  have hs1 := (hD (nk s)).1
  have hs2 := (hD (nk s)).2
  unfold nk at hs1 hs2
  rw [hs1] at hrun
  rw [hs2] at hv
  obtain ⟨a, rfl, hz, _⟩ := plainElem_int_inv Try.underlying3 hv
  simp only [Prod.mk.injEq, DataW.lit.injEq, Lit.int.injEq, true_and] at hz
  rw [hrun, ← hz.1]
  rfl
theorem names_put {w : World} {b : Nat} {l : List (List UInt8)} (h : NamesAt w b l) (s : ByteArray) (hs : s.size ≤ maxLen) (hn : nk s ∉ l) (hl : l.length < 4096) :
    ∃ w', (Instr.mapUpdate 69 (.map (some b)) (.string s) (.int .i64 l.length)).run Try.prog w = .ok () w' ∧ NamesAt w' b (l ++ [nk s]) ∧ w.grownBy w' (some b) := by
  obtain ⟨D, ho, hI, _, hD⟩ := h
  have hwf : (Lit.int .i64 (l.length : Int)).wf = true := by
    have h1 : IntKind.i64.min = -9223372036854775808 := by decide
    have h2 : IntKind.i64.max = 9223372036854775807 := by decide
    simp only [Lit.wf, h1, h2, Bool.and_eq_true, decide_eq_true_eq]
    omega
  obtain ⟨w', hrun, ho', hg⟩ := ho.update (string_keyed Try.underlying9) Try.underlying69 (by unfold maxLen; omega) (Go.WideMaps.keyOf_string_mk Try.underlying9 hs) (plainElem_int (H := Unit) Try.underlying3 (a := (l.length : Int)) hwf)
  refine ⟨w', hrun, ⟨_, by simpa using ho', hI.put _ _, by simp; omega, fun t => ?_⟩, hg⟩
  by_cases ht : t = nk s
  · subst ht
    refine ⟨(has_put_same hI (litKey _) _).trans (by simp), ?_⟩
    refine (atKey_put_same hI (litKey _) _ _).trans ?_
    simp [nameAt, List.idxOf_append, hn]
  · have hne : (Lit.string t) ≠ (.string s.data.toList) := by
      intro e
      apply ht
      injection e with e
    refine ⟨(has_put_other hne _).trans (by rw [(hD t).1]; simp [ht]), ?_⟩
    refine (atKey_put_other hne _ _).trans ?_
    rw [(hD t).2]
    unfold nameAt
    by_cases hm : t ∈ l
    · simp [hm, List.idxOf_append]
    · simp [hm, ht]
end Go.Proofs.Ytapinbmkjkbkkaa.Mk
namespace Go.Proofs.Ytapinbmkjkbkkaa.Mk
open Go.RowKit Go.Proofs.YtapinbmkjkbkkaaW.PrintWords Go.Proofs.YtapinbmkjkbkkaaW.PrintLast Go.Proofs.YtapinbmkjkbkkaaW.PrintMore Lb
abbrev St := Int × List S78
def stateF (s : St) : Option (Int × St) := if s.1 < 4096 then some (s.1, (s.1 + 1, s.2)) else none
def arcF (s : St) (fr y tt : Int) : Option St := if s.2.length < 65536 then some (s.1, s.2 ++ [⟨fr, y, tt⟩]) else none
mutual
def mkF (nm : List (List UInt8)) (nn : St → Int → Int → St → Option St) : S25 → Int → Int → St → Option St
  | ⟨op, name, ks⟩, fr, tt, s =>
    if op = 1 then (if nk name ∈ nm then arcF s fr (nameAt nm (nk name)) tt else some s)
    else if op = 2 then arcF s fr (-2) tt
    else if op = 3 then arcF s fr (-1) tt
    else if op = 5 then seqF nm nn ks fr tt s
    else if op = 6 then altF nm nn ks fr tt s
    else if op = 7 then starF nm nn ks fr tt s
    else if op = 8 then notF nm nn ks fr tt s
    else some s
def seqF (nm : List (List UInt8)) (nn : St → Int → Int → St → Option St) : List S25 → Int → Int → St → Option St
  | [], _, _, s => some s
  | k :: ks, fr, tt, s => if ks.isEmpty then mkF nm nn k fr tt s else (stateF s).bind fun p => (mkF nm nn k fr p.1 p.2).bind fun s => seqF nm nn ks p.1 tt s
def altF (nm : List (List UInt8)) (nn : St → Int → Int → St → Option St) : List S25 → Int → Int → St → Option St
  | [], _, _, s => some s
  | k :: ks, fr, tt, s => (stateF s).bind fun p => (stateF p.2).bind fun q => (arcF q.2 fr (-1) p.1).bind fun s => (mkF nm nn k p.1 q.1 s).bind fun s => (arcF s q.1 (-1) tt).bind fun s => altF nm nn ks fr tt s
def starF (nm : List (List UInt8)) (nn : St → Int → Int → St → Option St) : List S25 → Int → Int → St → Option St
  | [], _, _, s => some s
  | k :: _, fr, tt, s => (stateF s).bind fun p => (stateF p.2).bind fun q => (arcF q.2 fr (-1) p.1).bind fun s => (mkF nm nn k p.1 q.1 s).bind fun s => (arcF s q.1 (-1) p.1).bind fun s => arcF s p.1 (-1) tt
def notF (nm : List (List UInt8)) (nn : St → Int → Int → St → Option St) : List S25 → Int → Int → St → Option St
  | [], _, _, s => some s
  | k :: _, fr, tt, s => (mkF nm nn k 0 1 (2, [])).bind fun a => nn a fr tt s
end
def Fin (base M : Nat) (sy : Int) (mp : Value) (w0 W0 : World) (o : Option St) (e : Ending) (W : World) : Prop :=
  match o with
  | some s => e = .returned (.tuple #[]) ∧ Maker base M sy mp W s.1 s.2 ∧ Below base w0 W ∧ KeepT W0 W ∧ 0 ≤ s.1
  | none => e = tooMany ∧ Below base w0 W
def FinS (base M : Nat) (sy : Int) (mp : Value) (w0 W0 : World) (o : Option (Int × St)) (e : Ending) (W : World) : Prop :=
  match o with
  | some p => e = .returned (.int .i64 p.1) ∧ Maker base M sy mp W p.2.1 p.2.2 ∧ Below base w0 W ∧ KeepT W0 W ∧ 0 ≤ p.2.1
  | none => e = tooMany ∧ Below base w0 W
section
variable {base M : Nat} {sy : Int} {mp : Value} {s : St} {w0 W : World}
theorem state_fin (h0 : 0 ≤ s.1) (hM : base ≤ M) (h : Maker base M sy mp W s.1 s.2) (hb : Below base w0 W) :
    Calls Try.prog 84 #[.pointer (some ⟨M, 0, none⟩)] W (FinS base M sy mp w0 W (stateF s)) := by
  unfold stateF
  by_cases h1 : s.1 < 4096
  · rw [if_pos h1]
    exact (state_ok h0 h1 hM h hb).mono fun _ _ k => ⟨k.1, k.2.1, k.2.2.1, k.2.2.2, by show 0 ≤ s.1 + 1; omega⟩
  · rw [if_neg h1]
    exact (state_many (by omega) h hb).mono fun _ _ k => k
theorem arc_fin (fr y tt : Int) (h0 : 0 ≤ s.1) (hM : base ≤ M) (h : Maker base M sy mp W s.1 s.2) (hb : Below base w0 W) :
    Calls Try.prog 83 #[.pointer (some ⟨M, 0, none⟩), .int .i64 fr, .int .i64 y, .int .i64 tt] W (Fin base M sy mp w0 W (arcF s fr y tt)) := by
  unfold arcF
  by_cases h1 : s.2.length < 65536
  · rw [if_pos h1]
    exact (arc_ok fr y tt h1 hM h hb).mono fun _ _ k => ⟨k.1, k.2.1, k.2.2.1, k.2.2.2, h0⟩
  · rw [if_neg h1]
    exact (arc_many fr y tt (by omega) h hb).mono fun _ _ k => k
theorem maker_lt (h : Maker base M sy mp W s.1 s.2) : M < W.heap.size := by
  obtain ⟨v, hB, _⟩ := h
  exact blk_lt hB
theorem maker_alloc (h : Maker base M sy mp W s.1 s.2) (o : Obj) : Maker base M sy mp (W.alloc o) s.1 s.2 := by
  obtain ⟨v, hB, hR⟩ := h
  exact ⟨v, blk_alloc hB o, Kd.R_alloc hR o⟩
theorem maker_drewN (h : Maker base M sy mp W s.1 s.2) (n : Nat) : Maker base M sy mp (W.drewN n) s.1 s.2 := maker_draw h n
theorem below_al (hM : base ≤ M) (h : Maker base M sy mp W s.1 s.2) (hb : Below base w0 W) (o : Obj) : Below base w0 (W.alloc o) :=
  hb.alloc (Nat.le_trans hM (Nat.le_of_lt (maker_lt h))) o
end
def MakeOk (nm : List (List UInt8)) (nn : St → Int → Int → St → Option St) (r : S25) : Prop :=
  ∀ (base M mb : Nat) (sy : Int) (w0 W : World) (A : Option Addr) (c : Nat) (s : St) (fr tt : Int), base ≤ M → w0.heap.size ≤ base → NamesAt w0 mb nm → Kd.C k25 w0 A r.f2.length r.f2 → r.f2.length ≤ c →
    Maker base M sy (.map (some mb)) W s.1 s.2 → Below base w0 W → 0 ≤ s.1 →
    Calls Try.prog 66 #[.pointer (some ⟨M, 0, none⟩), .agg #[.int .i64 r.f0, .string r.f1, .slice A r.f2.length c], .int .i64 fr, .int .i64 tt] W (Fin base M sy (.map (some mb)) w0 W (mkF nm nn r fr tt s))
theorem mkF_eq (nm : List (List UInt8)) (nn : St → Int → Int → St → Option St) (op : Int) (name : ByteArray) (ks : List S25) (fr tt : Int) (s : St) : mkF nm nn ⟨op, name, ks⟩ fr tt s =
    (if op = 1 then (if nk name ∈ nm then arcF s fr (nameAt nm (nk name)) tt else some s)
    else if op = 2 then arcF s fr (-2) tt
    else if op = 3 then arcF s fr (-1) tt
    else if op = 5 then seqF nm nn ks fr tt s
    else if op = 6 then altF nm nn ks fr tt s
    else if op = 7 then starF nm nn ks fr tt s
    else if op = 8 then notF nm nn ks fr tt s
    else some s) := by rw [mkF]
variable {nm : List (List UInt8)} {nn : St → Int → Int → St → Option St}
set_option maxHeartbeats 800000 in
theorem make_arc (op : Int) (name : ByteArray) (ks : List S25) (hop : op = 2 ∨ op = 3) : MakeOk nm nn ⟨op, name, ks⟩ := by
  intro base M mb sy w0 W A c s fr tt hM hw hn hr hc hK hb h0
  have HK := Aside0.mk hK
  have HB := Aside0.mk hb
  have HM := Aside0.mk hM
  have H0 := Aside0.mk h0
  have e : mkF nm nn ⟨op, name, ks⟩ fr tt s = arcF s fr (if op = 2 then -2 else -1) tt := by
    rw [mkF_eq]
    rcases hop with rfl | rfl <;> simp
  rw [e]
  clear hr hc hK hb hw hn h0 hM e
  show Calls Try.prog 66 #[.pointer (some ⟨M, 0, none⟩), .agg #[.int .i64 op, .string name, .slice A ks.length c], .int .i64 fr, .int .i64 tt] W _
  obtain ⟨o, ho⟩ : ∃ o, arcF s fr (if op = 2 then -2 else -1) tt = o := ⟨_, rfl⟩
  rw [ho]
  have HO := Aside0.mk ho
  clear ho
  rcases hop with rfl | rfl
  all_goals
    go_enter Try.func66, Try.ntmps66
    go_wp2_with (fail)
    go_at_call 83
    refine (arc_fin _ _ _ H0.out HM.out (maker_alloc HK.out _) (below_al HM.out HK.out HB.out _)).mono ?_
    rintro e w1 h1
    simp only [if_true, if_false, show ((3 : Int) = 2) = False by simp] at HO
    rw [HO.out] at h1
    cases o with
    | none =>
      obtain ⟨rfl, hb1⟩ := h1
      have HB1 := Aside0.mk hb1
      clear hb1
      go_wp2
      exact ⟨rfl, rfl, HB1.out⟩
    | some s1 =>
      obtain ⟨rfl, hk1, hb1, ht1, hp1⟩ := h1
      have HP1 := Aside0.mk hp1
      have HK1 := Aside0.mk hk1
      have HB1 := Aside0.mk hb1
      have HT1 := Aside0.mk ht1
      clear hb1 hk1 ht1 hp1
      go_wp2
      go_end0
      exact ⟨rfl, HK1.out, HB1.out, keepT_trans (keepT_alloc _ _) HT1.out, HP1.out⟩
set_option maxHeartbeats 1600000 in
theorem make_name (name : ByteArray) (ks : List S25) (hsz : name.size ≤ 64) : MakeOk nm nn ⟨1, name, ks⟩ := by
  intro base M mb sy w0 W A c s fr tt hM hw hn hr hc hK hb h0
  have HK := Aside0.mk hK
  have HB := Aside0.mk hb
  have HM := Aside0.mk hM
  have H0 := Aside0.mk h0
  rw [mkF_eq, if_pos rfl]
  obtain ⟨v, hBk, hR⟩ := hK
  have hbw : ∀ o n, Below w0.heap.size w0 ((W.alloc o).drewN n) := fun o n => pw_below_drewN (hb.mono hw |>.alloc (Nat.le_trans hw (Nat.le_trans hM (Nat.le_of_lt (blk_lt hBk)))) o) n
  have hlk : ∀ o n, (Instr.lookup 69 (.map (some mb)) (.string name) true).run Try.prog ((W.alloc o).drewN n) = .ok (.tuple #[.int .i64 (nameAt nm (nk name)), .bool (decide (nk name ∈ nm))]) ((W.alloc o).drewN n) :=
    fun o n => names_look (names_below hn (hbw o n)) name (by unfold maxLen; omega)
  have hc5 : ∀ o, (W.alloc o).cell? ⟨M, 5, none⟩ = some (.map (some mb)) := fun o => (blk_cell (blk_alloc hBk o) 5).trans rfl
  clear hr hc hb hw hn h0 hM hR hBk hbw
  show Calls Try.prog 66 #[.pointer (some ⟨M, 0, none⟩), .agg #[.int .i64 1, .string name, .slice A ks.length c], .int .i64 fr, .int .i64 tt] W _
  by_cases hin : nk name ∈ nm
  · rw [if_pos hin]
    rw [decide_eq_true hin] at hlk
    obtain ⟨o, ho⟩ : ∃ o, arcF s fr (nameAt nm (nk name)) tt = o := ⟨_, rfl⟩
    rw [ho]
    have HO := Aside0.mk ho
    clear ho hin
    go_enter Try.func66, Try.ntmps66
    go_wp2_with (fail)
    go_quiet (fail)
    go_wp2_with (fail)
    go_at_call 83
    refine (arc_fin _ _ _ H0.out HM.out (maker_drewN (maker_alloc HK.out _) _) (pw_below_drewN (below_al HM.out HK.out HB.out _) _)).mono ?_
    rintro e w1 h1
    rw [HO.out] at h1
    cases o with
    | none =>
      obtain ⟨rfl, hb1⟩ := h1
      have HB1 := Aside0.mk hb1
      clear hb1
      go_wp2
      exact ⟨rfl, rfl, HB1.out⟩
    | some s1 =>
      obtain ⟨rfl, hk1, hb1, ht1, hp1⟩ := h1
      have HP1 := Aside0.mk hp1
      have HK1 := Aside0.mk hk1
      have HB1 := Aside0.mk hb1
      have HT1 := Aside0.mk ht1
      clear hb1 hk1 ht1 hp1
      go_wp2
      go_end0
      exact ⟨rfl, HK1.out, HB1.out, keepT_trans (keepT_trans (keepT_alloc _ _) (keepT_drewN _ _)) HT1.out, HP1.out⟩
  · rw [if_neg hin]
    rw [decide_eq_false hin] at hlk
    clear hin
    go_enter Try.func66, Try.ntmps66
    go_wp2_with (fail)
    go_quiet (fail)
    go_wp2
    go_end0
    exact ⟨rfl, maker_drewN (maker_alloc HK.out _) _, pw_below_drewN (below_al HM.out HK.out HB.out _) _, keepT_trans (keepT_alloc _ _) (keepT_drewN _ _), H0.out⟩
theorem altF_cons (k : S25) (ks : List S25) (fr tt : Int) (s : St) : altF nm nn (k :: ks) fr tt s = ((stateF s).bind fun p => (stateF p.2).bind fun q => (arcF q.2 fr (-1) p.1).bind fun s => (mkF nm nn k p.1 q.1 s).bind fun s => (arcF s q.1 (-1) tt).bind fun s => altF nm nn ks fr tt s) := by rw [altF]
theorem seqF_cons (k : S25) (ks : List S25) (fr tt : Int) (s : St) : seqF nm nn (k :: ks) fr tt s = (if ks.isEmpty = true then mkF nm nn k fr tt s else (stateF s).bind fun p => (mkF nm nn k fr p.1 p.2).bind fun s => seqF nm nn ks p.1 tt s) := by rw [seqF]
theorem rd_drop (l : List S25) (k : Nat) (h : k < l.length) : l.drop k = rd_T25 l k :: l.drop (k + 1) := by
  rw [List.drop_eq_getElem_cons h]
  unfold rd_T25
  simp [List.getElem?_eq_getElem h]
set_option maxHeartbeats 6400000 in
theorem make_alt (name : ByteArray) (ks : List S25) (ih : ∀ k, k ∈ ks → MakeOk nm nn k) : MakeOk nm nn ⟨6, name, ks⟩ := by
  intro base M mb sy w0 W A c s fr tt hM hw hn hr hc hK hb h0
  have hr' : Kd.C k25 w0 A ks.length ks := hr
  have hm : ks.length ≤ 9223372036854775807 := hr'.2.1
  have HC := Aside0.mk hc
  have HR := Aside0.mk hr'
  have HIH := Aside0.mk ih
  have HN := Aside0.mk hn
  have HK0 := Aside0.mk (maker_alloc hK (.cells #[.int .i64 6, .string name, .slice A ks.length c] 25))
  have HB0 := Aside0.mk (below_al hM hK hb (.cells #[.int .i64 6, .string name, .slice A ks.length c] 25))
  have HT0 := Aside0.mk (keepT_alloc W (.cells #[.int .i64 6, .string name, .slice A ks.length c] 25))
  have HM := Aside0.mk hM
  have H0 := Aside0.mk h0
  have HW := Aside0.mk hw
  have BX0 : Aside0 ((W.alloc (.cells #[.int .i64 6, .string name, .slice A ks.length c] 25)).heap[W.heap.size]? = some (.cells #[.int .i64 6, .string name, .slice A ks.length c] 25 (0, 0))) := ⟨blk_new _ _⟩
  show Calls Try.prog 66 #[.pointer (some ⟨M, 0, none⟩), .agg #[.int .i64 6, .string name, .slice A ks.length c], .int .i64 fr, .int .i64 tt] W (Fin base M sy (.map (some mb)) w0 W (mkF nm nn ⟨6, name, ks⟩ fr tt s))
  obtain ⟨o, ho⟩ : ∃ o, mkF nm nn ⟨6, name, ks⟩ fr tt s = o := ⟨_, rfl⟩
  rw [ho]
  rw [mkF_eq, if_neg (by omega), if_neg (by omega), if_neg (by omega), if_neg (by omega), if_pos rfl] at ho
  have HO := Aside0.mk ho
  clear hr hc hK hb hw hn h0 hM ho hr' ih
  go_enter Try.func66, Try.ntmps66
  go_wp2
  go_loopw [14, 15, 16, 82] (fun _ _ _ i wr => ∃ (k : Nat) (sr : St), k ≤ ks.length ∧ i = .int .i64 k ∧ Aside0 (altF nm nn (ks.drop k) fr tt sr = o) ∧ Aside0 (Maker base M sy (.map (some mb)) wr sr.1 sr.2) ∧ Aside0 (Below base w0 wr) ∧ Aside0 (KeepT W wr) ∧ Aside0 (0 ≤ sr.1) ∧ Aside0 (wr.heap[W.heap.size]? = some (.cells #[.int .i64 6, .string name, .slice A ks.length c] 25 (0, 0)))) (fun _ _ _ i _ => ks.length - (intOf i).toNat)
  case atStart => exact ⟨0, s, Nat.zero_le _, rfl, HO, HK0, HB0, HT0, H0, BX0⟩
  case round =>
    obtain ⟨k, sr, hk, rfl, HO2, HKr, HBr, HTr, HPr, BXr⟩ := hrel
    clear HK0 HB0 HT0 BX0 H0 HO
    have HO := HO2
    clear HO2
    by_cases hlt : k < ks.length
    · obtain ⟨ad, A2, c2, rfl, hx0, hx1, hx2, hl2, hg2⟩ := at_T25 HR.out (k : Int) (by omega) (by omega)
      rw [Int.toNat_natCast] at hx0 hx1 hx2
      have HG := Aside0.mk hg2
      have HL := Aside0.mk hl2
      have HIK := Aside0.mk (HIH.out (rd_T25 ks k) (by unfold rd_T25; simp [List.getElem?_eq_getElem hlt]))
      have hy0 := pw_cell_below (HBr.out.mono HW.out) hx0
      have hy1 := pw_cell_below (HBr.out.mono HW.out) hx1
      have hy2 := pw_cell_below (HBr.out.mono HW.out) hx2
      clear hx0 hx1 hx2 hl2 hg2
      have BY0 := Aside0.mk (blk_new wr (.cells #[.int .i64 (rd_T25 ks k).f0, .string (rd_T25 ks k).f1, .slice A2 (rd_T25 ks k).f2.length c2] 25))
      have BX0 := Aside0.mk (blk_alloc BXr.out (.cells #[.int .i64 (rd_T25 ks k).f0, .string (rd_T25 ks k).f1, .slice A2 (rd_T25 ks k).f2.length c2] 25))
      have HK0 := Aside0.mk (maker_alloc HKr.out (.cells #[.int .i64 (rd_T25 ks k).f0, .string (rd_T25 ks k).f1, .slice A2 (rd_T25 ks k).f2.length c2] 25))
      have HB0 := Aside0.mk (below_al HM.out HKr.out HBr.out (.cells #[.int .i64 (rd_T25 ks k).f0, .string (rd_T25 ks k).f1, .slice A2 (rd_T25 ks k).f2.length c2] 25))
      have HT0 := Aside0.mk (keepT_trans HTr.out (keepT_alloc wr (.cells #[.int .i64 (rd_T25 ks k).f0, .string (rd_T25 ks k).f1, .slice A2 (rd_T25 ks k).f2.length c2] 25)))
      have HO := Aside0.mk (show _ = o from (congrArg (fun l => altF nm nn l fr tt sr) (rd_drop ks k hlt)).symm.trans HO.out)
      have HO := Aside0.mk ((altF_cons (nn := nn) _ _ fr tt sr).symm.trans HO.out)
      go_wp2_with (fail)
      go_at_call 84
      refine (state_fin HPr.out HM.out HK0.out HB0.out).mono ?_
      rintro e w1 h1
      cases hs1 : stateF sr with
      | none =>
        rw [hs1] at h1
        obtain ⟨rfl, hb1⟩ := h1
        have HB1 := Aside0.mk hb1
        have ho := HO.out
        rw [hs1] at ho
        obtain rfl : none = o := ho
        clear hb1 hs1 HO
        go_wp2
        exact ⟨rfl, rfl, HB1.out⟩
      | some p1 =>
        rw [hs1] at h1
        obtain ⟨rfl, hk1, hb1, ht1, hp1⟩ := h1
        have HK1 := Aside0.mk hk1
        have HB1 := Aside0.mk hb1
        have HT1 := Aside0.mk (keepT_trans HT0.out ht1)
        have HP1 := Aside0.mk hp1
        have BX1 := Aside0.mk (ht1.2 _ _ _ _ (by decide) (by decide) BX0.out)
        have BY1 := Aside0.mk (ht1.2 _ _ _ _ (by decide) (by decide) BY0.out)
        clear BY0
        have ho := HO.out
        rw [hs1, Option.bind_some] at ho
        clear HO
        have HO := Aside0.mk ho
        clear hk1 hb1 ht1 hp1 ho hs1 HT0 BX0
        clear hy0 hy1 hy2
        go_wp2_with (fail)
        go_at_call 84
        refine (state_fin HP1.out HM.out HK1.out HB1.out).mono ?_
        rintro e w2 h1
        cases hs1 : stateF p1.2 with
        | none =>
          rw [hs1] at h1
          obtain ⟨rfl, hb1⟩ := h1
          have HB2 := Aside0.mk hb1
          have ho := HO.out
          rw [hs1] at ho
          obtain rfl : none = o := ho
          clear hb1 hs1 HO
          go_wp2
          exact ⟨rfl, rfl, HB2.out⟩
        | some p2 =>
          rw [hs1] at h1
          obtain ⟨rfl, hk1, hb1, ht1, hp1⟩ := h1
          have HK2 := Aside0.mk hk1
          have HB2 := Aside0.mk hb1
          have HT2 := Aside0.mk (keepT_trans HT1.out ht1)
          have HP2 := Aside0.mk hp1
          have BX2 := Aside0.mk (ht1.2 _ _ _ _ (by decide) (by decide) BX1.out)
          have BY2 := Aside0.mk (ht1.2 _ _ _ _ (by decide) (by decide) BY1.out)
          clear BY1
          have ho := HO.out
          rw [hs1, Option.bind_some] at ho
          clear HO
          have HO := Aside0.mk ho
          clear hk1 hb1 ht1 hp1 ho hs1 HT1 BX1
          go_wp2_with (fail)
          go_at_call 83
          refine (arc_fin _ _ _ HP2.out HM.out HK2.out HB2.out).mono ?_
          rintro e w3 h1
          cases hs1 : arcF p2.2 fr (-1) p1.1 with
          | none =>
            rw [hs1] at h1
            obtain ⟨rfl, hb1⟩ := h1
            have HB3 := Aside0.mk hb1
            have ho := HO.out
            rw [hs1] at ho
            obtain rfl : none = o := ho
            clear hb1 hs1 HO
            go_wp2
            exact ⟨rfl, rfl, HB3.out⟩
          | some p3 =>
            rw [hs1] at h1
            obtain ⟨rfl, hk1, hb1, ht1, hp1⟩ := h1
            have HK3 := Aside0.mk hk1
            have HB3 := Aside0.mk hb1
            have HT3 := Aside0.mk (keepT_trans HT2.out ht1)
            have HP3 := Aside0.mk hp1
            have BX3 := Aside0.mk (ht1.2 _ _ _ _ (by decide) (by decide) BX2.out)
            have BY3 := Aside0.mk (ht1.2 _ _ _ _ (by decide) (by decide) BY2.out)
            clear BY2
            have ho := HO.out
            rw [hs1, Option.bind_some] at ho
            clear HO
            have HO := Aside0.mk ho
            clear hk1 hb1 ht1 hp1 ho hs1 HT2 BX2
            have hz0 := (blk_cell BY3.out 0)
            have hz1 := (blk_cell BY3.out 1)
            have hz2 := (blk_cell BY3.out 2)
            go_wp2_with (fail)
            go_at_call 66
            refine (HIK.out base M mb sy w0 _ A2 c2 p3 _ _ HM.out HW.out HN.out HG.out HL.out HK3.out HB3.out HP3.out).mono ?_
            rintro e w4 h1
            clear hz0 hz1 hz2
            cases hs1 : mkF nm nn (rd_T25 ks k) p1.1 p2.1 p3 with
            | none =>
              rw [hs1] at h1
              obtain ⟨rfl, hb1⟩ := h1
              have HB4 := Aside0.mk hb1
              have ho := HO.out
              rw [hs1] at ho
              obtain rfl : none = o := ho
              clear hb1 hs1 HO
              go_wp2
              exact ⟨rfl, rfl, HB4.out⟩
            | some p4 =>
              rw [hs1] at h1
              obtain ⟨rfl, hk1, hb1, ht1, hp1⟩ := h1
              have HK4 := Aside0.mk hk1
              have HB4 := Aside0.mk hb1
              have HT4 := Aside0.mk (keepT_trans HT3.out ht1)
              have HP4 := Aside0.mk hp1
              have BX4 := Aside0.mk (ht1.2 _ _ _ _ (by decide) (by decide) BX3.out)
              have BY4 := Aside0.mk (ht1.2 _ _ _ _ (by decide) (by decide) BY3.out)
              clear BY3
              have ho := HO.out
              rw [hs1, Option.bind_some] at ho
              clear HO
              have HO := Aside0.mk ho
              clear hk1 hb1 ht1 hp1 ho hs1 HT3 BX3
              go_wp2_with (fail)
              go_at_call 83
              refine (arc_fin _ _ _ HP4.out HM.out HK4.out HB4.out).mono ?_
              rintro e w5 h1
              cases hs1 : arcF p4 p2.1 (-1) tt with
              | none =>
                rw [hs1] at h1
                obtain ⟨rfl, hb1⟩ := h1
                have HB5 := Aside0.mk hb1
                have ho := HO.out
                rw [hs1] at ho
                obtain rfl : none = o := ho
                clear hb1 hs1 HO
                go_wp2
                exact ⟨rfl, rfl, HB5.out⟩
              | some p5 =>
                rw [hs1] at h1
                obtain ⟨rfl, hk1, hb1, ht1, hp1⟩ := h1
                have HK5 := Aside0.mk hk1
                have HB5 := Aside0.mk hb1
                have HT5 := Aside0.mk (keepT_trans HT4.out ht1)
                have HP5 := Aside0.mk hp1
                have BX5 := Aside0.mk (ht1.2 _ _ _ _ (by decide) (by decide) BX4.out)
                have BY5 := Aside0.mk (ht1.2 _ _ _ _ (by decide) (by decide) BY4.out)
                clear BY4
                have ho := HO.out
                rw [hs1, Option.bind_some] at ho
                clear HO
                have HO := Aside0.mk ho
                clear hk1 hb1 ht1 hp1 ho hs1 HT4 BX4
                go_wp2
                go_roundw
                case rel => exact ⟨k + 1, p5, by omega, by go_num, HO, HK5, HB5, HT5, HP5, BX5⟩
                case measure => simp [intOf]; omega
    · have he : ks.drop k = [] := List.drop_eq_nil_of_le (by omega)
      have ho := HO.out
      rw [he, altF] at ho
      obtain rfl : some sr = o := ho
      clear HO he
      go_wp2
      go_end0
      exact ⟨rfl, HKr.out, HBr.out, HTr.out, HPr.out⟩
set_option maxHeartbeats 6400000 in
theorem make_seq (name : ByteArray) (ks : List S25) (ih : ∀ k, k ∈ ks → MakeOk nm nn k) : MakeOk nm nn ⟨5, name, ks⟩ := by
  intro base M mb sy w0 W A c s fr tt hM hw hn hr hc hK hb h0
  have hr' : Kd.C k25 w0 A ks.length ks := hr
  have hm : ks.length ≤ 9223372036854775807 := hr'.2.1
  have HC := Aside0.mk hc
  have HR := Aside0.mk hr'
  have HIH := Aside0.mk ih
  have HN := Aside0.mk hn
  have HK0 := Aside0.mk (maker_alloc hK (.cells #[.int .i64 5, .string name, .slice A ks.length c] 25))
  have HB0 := Aside0.mk (below_al hM hK hb (.cells #[.int .i64 5, .string name, .slice A ks.length c] 25))
  have HT0 := Aside0.mk (keepT_alloc W (.cells #[.int .i64 5, .string name, .slice A ks.length c] 25))
  have HM := Aside0.mk hM
  have H0 := Aside0.mk h0
  have HW := Aside0.mk hw
  have BX0 : Aside0 ((W.alloc (.cells #[.int .i64 5, .string name, .slice A ks.length c] 25)).heap[W.heap.size]? = some (.cells #[.int .i64 5, .string name, .slice A ks.length c] 25 (0, 0))) := ⟨blk_new _ _⟩
  show Calls Try.prog 66 #[.pointer (some ⟨M, 0, none⟩), .agg #[.int .i64 5, .string name, .slice A ks.length c], .int .i64 fr, .int .i64 tt] W (Fin base M sy (.map (some mb)) w0 W (mkF nm nn ⟨5, name, ks⟩ fr tt s))
  obtain ⟨o, ho⟩ : ∃ o, mkF nm nn ⟨5, name, ks⟩ fr tt s = o := ⟨_, rfl⟩
  rw [ho]
  rw [mkF_eq, if_neg (by omega), if_neg (by omega), if_neg (by omega), if_pos rfl] at ho
  have HO := Aside0.mk ho
  clear hr hc hK hb hw hn h0 hM ho hr' ih
  go_enter Try.func66, Try.ntmps66
  go_wp2
  go_loopw [2, 10, 11, 12, 56] (fun f _ _ _ i wr => ∃ (k : Nat) (fr' : Int) (sr : St), k ≤ ks.length ∧ i = .int .i64 k ∧ f = .int .i64 fr' ∧ Aside0 (seqF nm nn (ks.drop k) fr' tt sr = o) ∧ Aside0 (Maker base M sy (.map (some mb)) wr sr.1 sr.2) ∧ Aside0 (Below base w0 wr) ∧ Aside0 (KeepT W wr) ∧ Aside0 (0 ≤ sr.1) ∧ Aside0 (wr.heap[W.heap.size]? = some (.cells #[.int .i64 5, .string name, .slice A ks.length c] 25 (0, 0)))) (fun _ _ _ _ i _ => ks.length - (intOf i).toNat)
  case atStart => exact ⟨0, fr, s, Nat.zero_le _, rfl, rfl, HO, HK0, HB0, HT0, H0, BX0⟩
  case round =>
    obtain ⟨k, fr', sr, hk, rfl, rfl, HO2, HKr, HBr, HTr, HPr, BXr⟩ := hrel
    clear HK0 HB0 HT0 BX0 H0 HO
    have HO := HO2
    clear HO2
    by_cases hlt : k < ks.length
    · obtain ⟨ad, A2, c2, rfl, hx0, hx1, hx2, hl2, hg2⟩ := at_T25 HR.out (k : Int) (by omega) (by omega)
      rw [Int.toNat_natCast] at hx0 hx1 hx2
      have HG := Aside0.mk hg2
      have HL := Aside0.mk hl2
      have HIK := Aside0.mk (HIH.out (rd_T25 ks k) (by unfold rd_T25; simp [List.getElem?_eq_getElem hlt]))
      have hy0 := pw_cell_below (HBr.out.mono HW.out) hx0
      have hy1 := pw_cell_below (HBr.out.mono HW.out) hx1
      have hy2 := pw_cell_below (HBr.out.mono HW.out) hx2
      clear hx0 hx1 hx2 hl2 hg2
      have BY0 := Aside0.mk (blk_new wr (.cells #[.int .i64 (rd_T25 ks k).f0, .string (rd_T25 ks k).f1, .slice A2 (rd_T25 ks k).f2.length c2] 25))
      have BX0 := Aside0.mk (blk_alloc BXr.out (.cells #[.int .i64 (rd_T25 ks k).f0, .string (rd_T25 ks k).f1, .slice A2 (rd_T25 ks k).f2.length c2] 25))
      have HK0 := Aside0.mk (maker_alloc HKr.out (.cells #[.int .i64 (rd_T25 ks k).f0, .string (rd_T25 ks k).f1, .slice A2 (rd_T25 ks k).f2.length c2] 25))
      have HB0 := Aside0.mk (below_al HM.out HKr.out HBr.out (.cells #[.int .i64 (rd_T25 ks k).f0, .string (rd_T25 ks k).f1, .slice A2 (rd_T25 ks k).f2.length c2] 25))
      have HT0 := Aside0.mk (keepT_trans HTr.out (keepT_alloc wr (.cells #[.int .i64 (rd_T25 ks k).f0, .string (rd_T25 ks k).f1, .slice A2 (rd_T25 ks k).f2.length c2] 25)))
      have HO := Aside0.mk (show _ = o from (congrArg (fun l => seqF nm nn l fr' tt sr) (rd_drop ks k hlt)).symm.trans HO.out)
      have HO := Aside0.mk ((seqF_cons (nn := nn) _ _ fr' tt sr).symm.trans HO.out)
      have hbx : ∀ o : Obj, (wr.alloc o).cell? ⟨W.heap.size, 2, none⟩ = some (.slice (some ad) ks.length c) := fun o => (blk_cell (blk_alloc BXr.out o) 2).trans rfl
      by_cases hl : k + 1 < ks.length
      · have hne : (ks.drop (k + 1)).isEmpty = false := by rw [List.isEmpty_eq_false_iff]; intro e; have := List.drop_eq_nil_iff.mp e; omega
        have hd0 : decide ((k : Int) < (ks.length : Int) - 1) = true := decide_eq_true (by omega)
        have HO := Aside0.mk ((show _ = o from HO.out))
        have ho := HO.out
        rw [hne] at ho
        simp only [Bool.false_eq_true, if_false] at ho
        clear HO hne
        have HO := Aside0.mk ho
        clear ho
        go_wp2_with (fail)
        go_at_call 84
        refine (state_fin HPr.out HM.out HK0.out HB0.out).mono ?_
        rintro e w1 h1
        cases hs1 : stateF sr with
        | none =>
          rw [hs1] at h1
          obtain ⟨rfl, hb1⟩ := h1
          have HB1 := Aside0.mk hb1
          have ho := HO.out
          rw [hs1] at ho
          obtain rfl : none = o := ho
          clear hb1 hs1 HO
          go_wp2
          exact ⟨rfl, rfl, HB1.out⟩
        | some p1 =>
          rw [hs1] at h1
          obtain ⟨rfl, hk1, hb1, ht1, hp1⟩ := h1
          have HK1 := Aside0.mk hk1
          have HB1 := Aside0.mk hb1
          have HT1 := Aside0.mk (keepT_trans HT0.out ht1)
          have HP1 := Aside0.mk hp1
          have BX1 := Aside0.mk (ht1.2 _ _ _ _ (by decide) (by decide) BX0.out)
          have BY1 := Aside0.mk (ht1.2 _ _ _ _ (by decide) (by decide) BY0.out)
          clear BY0
          have ho := HO.out
          rw [hs1, Option.bind_some] at ho
          clear HO
          have HO := Aside0.mk ho
          clear hk1 hb1 ht1 hp1 ho hs1 HT0 BX0
          clear hy0 hy1 hy2 hbx hd0
          have hz0 := (blk_cell BY1.out 0)
          have hz1 := (blk_cell BY1.out 1)
          have hz2 := (blk_cell BY1.out 2)
          go_wp2_with (fail)
          go_at_call 66
          refine (HIK.out base M mb sy w0 _ A2 c2 p1.2 _ _ HM.out HW.out HN.out HG.out HL.out HK1.out HB1.out HP1.out).mono ?_
          rintro e w2 h1
          clear hz0 hz1 hz2
          cases hs1 : mkF nm nn (rd_T25 ks k) fr' p1.1 p1.2 with
          | none =>
            rw [hs1] at h1
            obtain ⟨rfl, hb1⟩ := h1
            have HB2 := Aside0.mk hb1
            have ho := HO.out
            rw [hs1] at ho
            obtain rfl : none = o := ho
            clear hb1 hs1 HO
            go_wp2
            exact ⟨rfl, rfl, HB2.out⟩
          | some p2 =>
            rw [hs1] at h1
            obtain ⟨rfl, hk1, hb1, ht1, hp1⟩ := h1
            have HK2 := Aside0.mk hk1
            have HB2 := Aside0.mk hb1
            have HT2 := Aside0.mk (keepT_trans HT1.out ht1)
            have HP2 := Aside0.mk hp1
            have BX2 := Aside0.mk (ht1.2 _ _ _ _ (by decide) (by decide) BX1.out)
            have BY2 := Aside0.mk (ht1.2 _ _ _ _ (by decide) (by decide) BY1.out)
            clear BY1
            have ho := HO.out
            rw [hs1, Option.bind_some] at ho
            clear HO
            have HO := Aside0.mk ho
            clear hk1 hb1 ht1 hp1 ho hs1 HT1 BX1
            go_wp2
            go_roundw
            case rel => exact ⟨k + 1, p1.1, p2, by omega, by go_num, rfl, HO, HK2, HB2, HT2, HP2, BX2⟩
            case measure => simp [intOf]; omega
      · have hne : ks.drop (k + 1) = [] := List.drop_eq_nil_of_le (by omega)
        have hd0 : decide ((k : Int) < (ks.length : Int) - 1) = false := decide_eq_false (by omega)
        have ho := HO.out
        rw [hne] at ho
        simp only [List.isEmpty_nil, if_true] at ho
        clear HO
        have HO := Aside0.mk ho
        have HNE := Aside0.mk hne
        clear ho hne
        go_wp2_with (fail)
        go_at_call 66
        refine (HIK.out base M mb sy w0 _ A2 c2 sr _ _ HM.out HW.out HN.out HG.out HL.out HK0.out HB0.out HPr.out).mono ?_
        rintro e w1 h1
        cases hs1 : mkF nm nn (rd_T25 ks k) fr' tt sr with
        | none =>
          rw [hs1] at h1
          obtain ⟨rfl, hb1⟩ := h1
          have HB1 := Aside0.mk hb1
          have ho := HO.out
          rw [hs1] at ho
          obtain rfl : none = o := ho
          clear hb1 hs1 HO
          go_wp2
          exact ⟨rfl, rfl, HB1.out⟩
        | some p1 =>
          rw [hs1] at h1
          obtain ⟨rfl, hk1, hb1, ht1, hp1⟩ := h1
          have HK1 := Aside0.mk hk1
          have HB1 := Aside0.mk hb1
          have HT1 := Aside0.mk (keepT_trans HT0.out ht1)
          have HP1 := Aside0.mk hp1
          have BX1 := Aside0.mk (ht1.2 _ _ _ _ (by decide) (by decide) BX0.out)
          have BY1 := Aside0.mk (ht1.2 _ _ _ _ (by decide) (by decide) BY0.out)
          clear BY0
          have ho := HO.out
          rw [hs1] at ho
          clear HO
          have HO := Aside0.mk ho
          clear hk1 hb1 ht1 hp1 ho hs1 HT0 BX0
          have HO3 := Aside0.mk (show seqF nm nn (ks.drop (k + 1)) tt tt p1 = o by rw [HNE.out, seqF]; exact HO.out)
          clear HO HNE hy0 hy1 hy2 hbx hd0
          go_wp2
          go_roundw
          case rel => exact ⟨k + 1, tt, p1, by omega, by go_num, rfl, HO3, HK1, HB1, HT1, HP1, BX1⟩
          case measure => simp [intOf]; omega
    · have he : ks.drop k = [] := List.drop_eq_nil_of_le (by omega)
      have ho := HO.out
      rw [he, seqF] at ho
      obtain rfl : some sr = o := ho
      clear HO he
      go_wp2
      go_end0
      exact ⟨rfl, HKr.out, HBr.out, HTr.out, HPr.out⟩
end Go.Proofs.Ytapinbmkjkbkkaa.Mk
namespace Go.Proofs.Ytapinbmkjkbkkaa.Mk
open Go.RowKit Go.Proofs.YtapinbmkjkbkkaaW.PrintWords Go.Proofs.YtapinbmkjkbkkaaW.PrintLast Go.Proofs.YtapinbmkjkbkkaaW.PrintMore Lb
def aloneF (nm : List (List UInt8)) (nn : St → Int → Int → St → Option St) (r : S25) : Option St := mkF nm nn r 0 1 (2, [])
def FinA (sy : Int) (W0 : World) (o : Option St) (e : Ending) (W : World) : Prop :=
  match o with
  | some s => ∃ v, e = .returned (.agg #[.int .i64 s.1, .int .i64 sy, .int .i64 0, .int .i64 1, v]) ∧ k78.R 78 W W0.heap.size (fun _ => True) v s.2 ∧ Below W0.heap.size W0 W
  | none => e = tooMany ∧ Below W0.heap.size W0 W
def AloneOk (nm : List (List UInt8)) (nn : St → Int → Int → St → Option St) (r : S25) : Prop :=
  ∀ (M mb : Nat) (sy : Int) (W : World) (A : Option Addr) (c : Nat), NamesAt W mb nm → Kd.C k25 W A r.f2.length r.f2 → r.f2.length ≤ c →
    W.cell? ⟨M, 1, none⟩ = some (.int .i64 sy) → W.cell? ⟨M, 5, none⟩ = some (.map (some mb)) →
    Calls Try.prog 36 #[.pointer (some ⟨M, 0, none⟩), .agg #[.int .i64 r.f0, .string r.f1, .slice A r.f2.length c]] W (FinA sy W (aloneF nm nn r))
variable {nm : List (List UInt8)} {nn : St → Int → Int → St → Option St}
theorem r_set {W : World} {base g : Nat} {v : Value} {l : List S78} (j : Nat) (u : Value) (h : k78.R 78 W base (fun _ => True) v l ∧ ∃ cs, W.heap[g]? = some (.cells cs 31 (0, 0))) :
    k78.R 78 (W.setCell ⟨g, j, none⟩ u) base (fun _ => True) v l ∧ ∃ cs, (W.setCell ⟨g, j, none⟩ u).heap[g]? = some (.cells cs 31 (0, 0)) := by
  obtain ⟨hR, cs, hB⟩ := h
  exact ⟨Kd.R_mono (Kd.R_far (Kd.R_types hR hB (by decide)) (fun k hk => hk.2) _) (fun _ _ => trivial), _, blk_set hB j u⟩
set_option maxHeartbeats 3200000 in
theorem alone_calls (r : S25) (ih : MakeOk nm nn r) : AloneOk nm nn r := by
  intro M mb sy W A c hn hr hc h1 h5
  have HIH := Aside0.mk ih
  have HN := Aside0.mk hn
  have HG := Aside0.mk hr
  have HL := Aside0.mk hc
  have hy1 := pw_cell_below (below_alloc (below_alloc (Below.refl _ _) (.cells #[.int .i64 r.f0, .string r.f1, .slice A r.f2.length c] 25)) (.cells #[.int .i64 0, .int .i64 0, .int .i64 0, .int .i64 0, .slice none 0 0] 31)) h1
  have hy5 := pw_cell_below (below_alloc (below_alloc (Below.refl _ _) (.cells #[.int .i64 r.f0, .string r.f1, .slice A r.f2.length c] 25)) (.cells #[.int .i64 0, .int .i64 0, .int .i64 0, .int .i64 0, .slice none 0 0] 31)) h5
  obtain ⟨o, ho⟩ : ∃ o, aloneF nm nn r = o := ⟨_, rfl⟩
  rw [ho]
  have HO := Aside0.mk ho
  clear ho ih hn hr hc h1 h5
  go_enter Try.func36, Try.ntmps36
  go_wp2_with (fail)
  go_region
  go_wp2_with (fail)
  go_at_call 66
  refine (HIH.out W.heap.size (W.heap.size + 1 + 1) mb sy W _ A c (2, []) 0 1 (by omega) (Nat.le_refl _) HN.out HG.out HL.out ?_ ?_ (by show (0 : Int) ≤ 2; omega)).mono ?_
  · refine ⟨.slice none 0 0, blk_drew ?_, Kd.R_nil _ _ _ _ _⟩
    have e := blk_new ((W.alloc (.cells #[.int .i64 r.f0, .string r.f1, .slice A r.f2.length c] 25)).alloc (.cells #[.int .i64 0, .int .i64 0, .int .i64 0, .int .i64 0, .slice none 0 0] 31)) (.cells #[.int .i64 2, .int .i64 sy, .int .i64 0, .int .i64 1, .slice none 0 0, .map (some mb)] 71)
    unfold mkCells
    simpa using e
  · exact below_drew (below_alloc (below_alloc (below_alloc (Below.refl _ _) _) _) _)
  · rintro e w1 h1
    have hr4 : ((((W.alloc (.cells #[.int .i64 r.f0, .string r.f1, .slice A r.f2.length c] 25)).alloc (.cells #[.int .i64 0, .int .i64 0, .int .i64 0, .int .i64 0, .slice none 0 0] 31)).alloc (.cells #[.int .i64 2, .int .i64 sy, .int .i64 0, .int .i64 1, .slice none 0 0, .map (some mb)] 71)).drew).heap[W.heap.size + 1]? = some (.cells #[.int .i64 0, .int .i64 0, .int .i64 0, .int .i64 0, .slice none 0 0] 31 (0, 0)) := by
      refine blk_drew (blk_alloc ?_ _)
      have e := blk_new (W.alloc (.cells #[.int .i64 r.f0, .string r.f1, .slice A r.f2.length c] 25)) (.cells #[.int .i64 0, .int .i64 0, .int .i64 0, .int .i64 0, .slice none 0 0] 31)
      simpa using e
    have HR4 := Aside0.mk hr4
    clear hr4 hy1 hy5
    have ho := HO.out
    unfold aloneF at ho
    rw [ho] at h1
    cases o with
    | none =>
      obtain ⟨rfl, hb1⟩ := h1
      have HB1 := Aside0.mk hb1
      clear hb1 ho
      go_wp2
      exact ⟨rfl, rfl, HB1.out⟩
    | some s =>
      obtain ⟨rfl, ⟨v, hm, hR⟩, hb1, ht1, _⟩ := h1
      have HB1 := Aside0.mk hb1
      have HM := Aside0.mk hm
      have HR := Aside0.mk hR
      have HX := Aside0.mk (ht1.2 _ _ _ _ (by decide) (by decide) HR4.out)
      obtain ⟨A1, c1, rfl⟩ := Kd.R_slice hR
      have hc0 : w1.cell? ⟨W.heap.size + 1 + 1, 0, none⟩ = some (.int .i64 s.1) := (blk_cell HM.out 0).trans rfl
      have hc1 : w1.cell? ⟨W.heap.size + 1 + 1, 1, none⟩ = some (.int .i64 sy) := (blk_cell HM.out 1).trans rfl
      have hc2 : w1.cell? ⟨W.heap.size + 1 + 1, 2, none⟩ = some (.int .i64 0) := (blk_cell HM.out 2).trans rfl
      have hc3 : w1.cell? ⟨W.heap.size + 1 + 1, 3, none⟩ = some (.int .i64 1) := (blk_cell HM.out 3).trans rfl
      have hc4 : w1.cell? ⟨W.heap.size + 1 + 1, 4, none⟩ = some (.slice A1 s.2.length c1) := (blk_cell HM.out 4).trans rfl
      have hf0 := blk_frozen HX.out 0
      have hf1 := blk_frozen HX.out 1
      have hf2 := blk_frozen HX.out 2
      have hf3 := blk_frozen HX.out 3
      have hf4 := blk_frozen HX.out 4
      have hd0 : w1.cell? ⟨W.heap.size + 1, 0, none⟩ = some (.int .i64 0) := (blk_cell HX.out 0).trans rfl
      have hd1 : w1.cell? ⟨W.heap.size + 1, 1, none⟩ = some (.int .i64 0) := (blk_cell HX.out 1).trans rfl
      have hd2 : w1.cell? ⟨W.heap.size + 1, 2, none⟩ = some (.int .i64 0) := (blk_cell HX.out 2).trans rfl
      have hd3 : w1.cell? ⟨W.heap.size + 1, 3, none⟩ = some (.int .i64 0) := (blk_cell HX.out 3).trans rfl
      have hd4 : w1.cell? ⟨W.heap.size + 1, 4, none⟩ = some (.slice none 0 0) := (blk_cell HX.out 4).trans rfl
      clear hm hR hb1 ht1 ho
      go_wp2
      refine bodyPost_ret (v := .agg #[.int .i64 s.1, .int .i64 sy, .int .i64 0, .int .i64 1, .slice A1 s.2.length c1]) (by simp [results, Try.results36, go_sem, hd0, hd1, hd2, hd3, hd4]) rfl ⟨.slice A1 s.2.length c1, rfl, ?_, ?_⟩
      · exact (r_set _ _ (r_set _ _ (r_set _ _ (r_set _ _ (r_set _ _ ⟨HR.out, _, HX.out⟩))))).1
      · exact ((((HB1.out.setCell (by simp) _).setCell (by simp) _).setCell (by simp) _).setCell (by simp) _).setCell (by simp) _
end Go.Proofs.Ytapinbmkjkbkkaa.Mk
namespace Go.Proofs.Ytapinbmkjkbkkaa.Mk
open Go.RowKit
theorem caught_idle (p : Addr) (w : World) :
    CallsD Try.prog 34 #[.pointer (some p)] .returning w fun e u' w' => e = .returned (.tuple #[]) ∧ u' = .returning ∧ w' = w := by
  refine callsD_of_wpS Try.func34 rfl fun c₀ cs hu => ?_
  apply wpS_seq
  apply wpS_region
  simp [wpOpsS, go_sem, recoverD, hu, Try.ntmps34, Exit.thenS]
  rw [show (#[Value.pointer (some p)] ++ ((Array.replicate 18 undef).setIfInBounds 4 Value.nilIface).setIfInBounds 1 Value.nilIface : Array Value) = #[.pointer (some p), undef, .nilIface, undef, undef, .nilIface, undef, undef, undef, undef, undef, undef, undef, undef, undef, undef, undef, undef, undef] from by kernel_rfl]
  refine wpS_of_wp ?_
  go_wp2
  cases c₀
  simp_all [bodyPostS, results, Try.results34]
set_option maxRecDepth 100000 in
set_option maxHeartbeats 1000000 in
theorem caught_many (p : Addr) (x : Int) (older : List PanicEntry) (w : World) (hc : w.cell? p = some (.int .i64 x)) (hz : w.frozen? p = false) :
    CallsD Try.prog 34 #[.pointer (some p)] (.panicking ({ v := .iface 32 (.int .i64 3), recovered := false } :: older)) w fun e u' w' =>
      e = .returned (.tuple #[]) ∧ u' = .panicking ({ v := .iface 32 (.int .i64 3), recovered := true } :: older) ∧ w' = w.setCell p (.int .i64 3) := by
  have hta : ∀ w, (Instr.typeAssert (.iface 32 (.int .i64 3)) 20 32 true).run Try.prog w = .ok (.tuple #[.int .i64 3, .bool true]) w := fun _ => by kernel_rfl
  refine callsD_of_wpS Try.func34 rfl fun c₀ cs hu => ?_
  apply wpS_seq
  apply wpS_region
  simp [wpOpsS, go_sem, recoverD, hu, Try.ntmps34, Exit.thenS]
  rw [show (#[Value.pointer (some p)] ++ ((Array.replicate 18 undef).setIfInBounds 4 (.iface 32 (.int .i64 3))).setIfInBounds 1 (.iface 32 (.int .i64 3)) : Array Value) = #[.pointer (some p), undef, .iface 32 (.int .i64 3), undef, undef, .iface 32 (.int .i64 3), undef, undef, undef, undef, undef, undef, undef, undef, undef, undef, undef, undef, undef] from by kernel_rfl]
  refine wpS_of_wp ?_
  go_wp2
  simp [bodyPostS, results, Try.results34]
end Go.Proofs.Ytapinbmkjkbkkaa.Mk
namespace Go.Proofs.Ytapinbmkjkbkkaa.Mk
open Go.RowKit Go.Proofs.YtapinbmkjkbkkaaW.PrintWords Go.Proofs.YtapinbmkjkbkkaaW.PrintLast Go.Proofs.YtapinbmkjkbkkaaW.PrintMore Lb
def nameB (s : ByteArray) : Bool := (regex_name.f 100 s).getD false
theorem letter_some (c : Int) : ∃ b, regex_letter.f c = some b := by
  unfold regex_letter.f
  repeat' split
  all_goals exact ⟨_, rfl⟩
theorem digit_some (c : Int) : ∃ b, regex_digit.f c = some b := by
  unfold regex_digit.f
  repeat' split
  all_goals exact ⟨_, rfl⟩
theorem name_l0 (s : ByteArray) (hs : s.size ≤ 64) : ∀ (d k : Nat) (i : Int), 0 ≤ i → i ≤ s.size → (s.size : Int) - i = d → d < k → ∃ b, regex_name.l0 k s (s.size : Int) i = some b := by
  intro d
  induction d with
  | zero =>
    intro k i h0 h1 hd hk
    obtain ⟨k, rfl⟩ : ∃ m, k = m + 1 := ⟨k - 1, by omega⟩
    exact ⟨true, by simp only [regex_name.l0]; rw [if_neg (by omega)]⟩
  | succ d ih =>
    intro k i h0 h1 hd hk
    obtain ⟨k, rfl⟩ : ∃ m, k = m + 1 := ⟨k - 1, by omega⟩
    obtain ⟨r, hr⟩ := ih k (i + 1) (by omega) (by omega) (by omega) (by omega)
    have hw : wrap64 (i + 1) = i + 1 := by unfold wrap64; omega
    obtain ⟨b, hb⟩ := letter_some (bt s i)
    obtain ⟨c, hc⟩ := digit_some (bt s i)
    simp only [regex_name.l0]
    rw [if_pos (by omega), if_pos h0, if_pos (by omega), hb, hc, hw, hr]
    cases b <;> cases c <;> simp
theorem name_some (s : ByteArray) : regex_name.f 100 s = some (nameB s) := by
  have : ∃ b, regex_name.f 100 s = some b := by
    unfold regex_name.f
    have hj : ∀ t, s.size ≤ 64 → ∃ b, regex_name.j0 100 s t = some b := by
      intro t hs
      rw [show (100 : Nat) = 99 + 1 from rfl]
      simp only [regex_name.j0]
      split
      · exact ⟨_, rfl⟩
      · exact name_l0 s hs s.size 99 0 (by omega) (by omega) (by omega) (by omega)
    have hj' : ∃ b, regex_name.j0 100 s true = some b := ⟨false, by rw [show (100 : Nat) = 99 + 1 from rfl]; simp only [regex_name.j0]; rfl⟩
    split
    · exact hj'
    · split
      · exact hj'
      · rename_i h1 h2
        have hpos : 0 < s.size := by
          rcases Nat.eq_zero_or_pos s.size with h | h
          · exfalso
            apply h1
            have h3 : s.data.size = 0 := h
            have h4 : s.data = #[] := Array.eq_empty_of_size_eq_zero h3
            show s.toList = []
            unfold ByteArray.toList ByteArray.toList.loop
            simp [h]
          · exact h
        rw [if_pos (by omega)]
        obtain ⟨b, hb⟩ := letter_some (bt s 0)
        rw [hb]
        exact hj _ (by omega)
  obtain ⟨b, hb⟩ := this
  unfold nameB
  rw [hb]
  rfl
mutual
def rightF : S25 → Bool
  | ⟨op, nm, ks⟩ =>
    if op = 1 then nameB nm && ks.isEmpty
    else if op = 2 ∨ op = 3 ∨ op = 4 then nm.toList.isEmpty && ks.isEmpty
    else if op = 7 ∨ op = 8 then nm.toList.isEmpty && ks.length == 1 && headF ks
    else if op = 5 ∨ op = 6 then nm.toList.isEmpty && decide (2 ≤ ks.length) && !badF op ks
    else false
def headF : List S25 → Bool
  | [] => false
  | k :: _ => rightF k
def badF (op : Int) : List S25 → Bool
  | [] => false
  | k :: ks => (k.f0 == op || !rightF k) || badF op ks
end
theorem rightF_eq (op : Int) (nm : ByteArray) (ks : List S25) : rightF ⟨op, nm, ks⟩ = (if op = 1 then nameB nm && ks.isEmpty
    else if op = 2 ∨ op = 3 ∨ op = 4 then nm.toList.isEmpty && ks.isEmpty
    else if op = 7 ∨ op = 8 then nm.toList.isEmpty && ks.length == 1 && headF ks
    else if op = 5 ∨ op = 6 then nm.toList.isEmpty && decide (2 ≤ ks.length) && !badF op ks
    else false) := by rw [rightF]
def RightOk (r : S25) : Prop := ∀ (w : World) (A : Option Addr) (c : Nat), Kd.C k25 w A r.f2.length r.f2 → r.f2.length ≤ c →
  Calls Try.prog 65 #[.agg #[.int .i64 r.f0, .string r.f1, .slice A r.f2.length c]] w fun e w' => e = .returned (.bool (rightF r)) ∧ Below w.heap.size w w'
set_option maxHeartbeats 800000 in
theorem right_name (nm : ByteArray) (ks : List S25) : RightOk ⟨1, nm, ks⟩ := by
  intro w A c hr hc
  rw [rightF_eq, if_pos rfl]
  show Calls Try.prog 65 #[.agg #[.int .i64 1, .string nm, .slice A ks.length c]] w _
  have hn := name_some nm
  cases hb : nameB nm with
  | false =>
    rw [hb] at hn
    have HN := Lib.hid hn
    clear hn hb hr
    go_enter Try.func65, Try.ntmps65
    go_wp2_with (go_at_call 80; refine (regex_name.calls 100 nm false _ HN.out).mono ?_; rintro e w' ⟨rfl, ⟨nd, rfl⟩⟩)
    go_ret
    exact ⟨rfl, by repeat (first | exact Below.refl _ _ | apply below_alloc | apply pw_below_drewN)⟩
  | true =>
    rw [hb] at hn
    have HN := Lib.hid hn
    clear hn hb hr
    have e0 : (((ks.length : Int)) == 0) = ks.isEmpty := by cases ks <;> simp <;> omega
    go_enter Try.func65, Try.ntmps65
    go_wp2_with (go_at_call 80; refine (regex_name.calls 100 nm true _ HN.out).mono ?_; rintro e w' ⟨rfl, ⟨nd, rfl⟩⟩)
    go_ret
    exact ⟨rfl, by repeat (first | exact Below.refl _ _ | apply below_alloc | apply pw_below_drewN)⟩
set_option maxHeartbeats 800000 in
theorem right_leaf (op : Int) (nm : ByteArray) (ks : List S25) (h : op = 2 ∨ op = 3 ∨ op = 4) : RightOk ⟨op, nm, ks⟩ := by
  intro w A c hr hc
  have h1 : ¬ op = 1 := by omega
  rw [rightF_eq, if_neg h1, if_pos h]
  show Calls Try.prog 65 #[.agg #[.int .i64 op, .string nm, .slice A ks.length c]] w _
  have e0 : (((ks.length : Int)) == 0) = ks.isEmpty := by cases ks <;> simp <;> omega
  clear hr h1
  rcases h with rfl | rfl | rfl
  all_goals
    cases hb : nm.toList with
    | nil =>
      go_enter Try.func65, Try.ntmps65
      go_wp2
      go_ret
      exact ⟨rfl, by repeat (first | exact Below.refl _ _ | apply below_alloc | apply pw_below_drewN)⟩
    | cons x xs =>
      go_enter Try.func65, Try.ntmps65
      go_wp2
      go_ret
      exact ⟨rfl, by repeat (first | exact Below.refl _ _ | apply below_alloc | apply pw_below_drewN)⟩
theorem right_other (op : Int) (nm : ByteArray) (ks : List S25) (h : ¬ (1 ≤ op ∧ op ≤ 8)) : RightOk ⟨op, nm, ks⟩ := by
  intro w A c hr hc
  rw [rightF_eq, if_neg (by omega), if_neg (by omega), if_neg (by omega), if_neg (by omega)]
  show Calls Try.prog 65 #[.agg #[.int .i64 op, .string nm, .slice A ks.length c]] w _
  have n1 : (op == 1) = false := by simp; omega
  have n2 : (op == 2) = false := by simp; omega
  have n3 : (op == 3) = false := by simp; omega
  have n4 : (op == 4) = false := by simp; omega
  have n5 : (op == 5) = false := by simp; omega
  have n6 : (op == 6) = false := by simp; omega
  have n7 : (op == 7) = false := by simp; omega
  have n8 : (op == 8) = false := by simp; omega
  clear hr h
  go_enter Try.func65, Try.ntmps65
  go_wp2
  go_ret
  exact ⟨rfl, by repeat (first | exact Below.refl _ _ | apply below_alloc | apply pw_below_drewN)⟩
set_option maxHeartbeats 800000 in
theorem right_one (op : Int) (nm : ByteArray) (ks : List S25) (h : op = 7 ∨ op = 8) (ih : ∀ k, k ∈ ks → RightOk k) : RightOk ⟨op, nm, ks⟩ := by
  intro w A c hr hc
  rw [rightF_eq, if_neg (by omega), if_neg (by omega), if_pos h]
  show Calls Try.prog 65 #[.agg #[.int .i64 op, .string nm, .slice A ks.length c]] w _
  have hr' : Kd.C k25 w A ks.length ks := hr
  clear hr
  cases hb : nm.toList with
  | cons x xs =>
    clear hr'
    rcases h with rfl | rfl
    all_goals
      go_enter Try.func65, Try.ntmps65
      go_wp2
      go_ret
      exact ⟨rfl, by repeat (first | exact Below.refl _ _ | apply below_alloc | apply pw_below_drewN)⟩
  | nil =>
    by_cases hl : ks.length = 1
    · obtain ⟨k, rfl⟩ : ∃ k, ks = [k] := List.length_eq_one_iff.mp hl
      have hk := ih k (by simp)
      obtain ⟨ad, A2, c2, rfl, hx0, hx1, hx2, hl2, hg2⟩ := at_T25 hr' 0 (by omega) (by simp)
      have hrd : rd_T25 [k] 0 = k := rfl
      rw [hrd] at hx0 hx1 hx2 hl2 hg2
      have HG := Aside0.mk hg2
      have HK := Aside0.mk hk
      have HL := Aside0.mk hl2
      have ha : ad.add 0 = ad := by unfold Addr.add; simp
      simp only [Int.toNat_zero, Nat.zero_mul, ha] at hx0 hx1 hx2
      have hy0 := pw_cell_below (below_alloc (Below.refl _ _) (.cells #[.int .i64 op, .string nm, .slice (some ad) 1 c] 25)) hx0
      have hy1 := pw_cell_below (below_alloc (Below.refl _ _) (.cells #[.int .i64 op, .string nm, .slice (some ad) 1 c] 25)) hx1
      have hy2 := pw_cell_below (below_alloc (Below.refl _ _) (.cells #[.int .i64 op, .string nm, .slice (some ad) 1 c] 25)) hx2
      clear hx0 hx1 hx2 ha hrd
      clear hr' hk hg2 ih hl hl2
      rcases h with rfl | rfl
      all_goals
        go_enter Try.func65, Try.ntmps65
        go_wp2_with (go_at_call 65; refine (HK.out _ A2 c2 (Kd.C_below HG.out (below_alloc (Below.refl _ _) _)) HL.out).mono ?_; rintro e w1 ⟨rfl, hb1⟩; have HB1 := Aside0.mk hb1; clear hb1)
        go_ret
        exact ⟨rfl, below_then (below_alloc (Below.refl _ _) _) (by simp) HB1.out⟩
    · have e0 : (((ks.length : Int)) == 1) = false := by simp; omega
      have e1 : (ks.length == 1) = false := by simp; omega
      clear hr' hl
      rcases h with rfl | rfl
      all_goals
        go_enter Try.func65, Try.ntmps65
        go_wp2
        go_ret
        exact ⟨rfl, by repeat (first | exact Below.refl _ _ | apply below_alloc | apply pw_below_drewN)⟩
set_option maxHeartbeats 800000 in
theorem bad_calls (k : S25) (op : Int) (B : Nat) (A2 : Option Addr) (c2 : Nat) (w : World) (hk : RightOk k) (hg : Kd.C k25 w A2 k.f2.length k.f2) (hl : k.f2.length ≤ c2) (hc : w.cell? ⟨B, 0, none⟩ = some (.int .i64 op)) :
    Calls Try.prog 82 #[.agg #[.int .i64 k.f0, .string k.f1, .slice A2 k.f2.length c2], .pointer (some ⟨B, 0, none⟩)] w fun e w' => e = .returned (.bool (k.f0 == op || !rightF k)) ∧ Below w.heap.size w w' := by
  have HG := Aside0.mk hg
  have HK := Aside0.mk hk
  have HL := Aside0.mk hl
  have hy0 := pw_cell_below (below_alloc (Below.refl _ _) (.cells #[.int .i64 k.f0, .string k.f1, .slice A2 k.f2.length c2] 25)) hc
  clear hk hg hl hc
  by_cases he : k.f0 = op
  · have e0 : (k.f0 == op) = true := by simp [he]
    clear he
    go_enter Try.func82, Try.ntmps82
    go_wp2
    go_ret
    exact ⟨by rw [e0]; rfl, by repeat (first | exact Below.refl _ _ | apply below_alloc | apply pw_below_drewN)⟩
  · have e0 : (k.f0 == op) = false := by simp [he]
    clear he
    go_enter Try.func82, Try.ntmps82
    go_wp2_with (go_at_call 65; refine (HK.out _ A2 c2 (Kd.C_below HG.out (below_alloc (Below.refl _ _) _)) HL.out).mono ?_; rintro e w1 ⟨rfl, hb1⟩; have HB1 := Aside0.mk hb1; clear hb1)
    go_ret
    exact ⟨by rw [e0]; rfl, below_then (below_alloc (Below.refl _ _) _) (by simp) HB1.out⟩
theorem badF_step (op : Int) (l : List S25) (k : Nat) (h : k < l.length) : badF op (l.drop k) = ((((rd_T25 l k).f0 == op) || !rightF (rd_T25 l k)) || badF op (l.drop (k + 1))) := by
  rw [List.drop_eq_getElem_cons h, badF]
  unfold rd_T25
  simp [List.getElem?_eq_getElem h]
theorem badF_end (op : Int) (l : List S25) (k : Nat) (h : l.length ≤ k) : badF op (l.drop k) = false := by
  rw [List.drop_eq_nil_of_le h, badF]
set_option maxHeartbeats 1600000 in
theorem badIndex_calls (op : Int) (l : List S25) (A : Option Addr) (c B : Nat) (w : World) (ih : ∀ k, k ∈ l → RightOk k) (hr : Kd.C k25 w A l.length l)
    (hc : w.cell? ⟨B, 0, none⟩ = some (.int .i64 op)) :
    Calls Try.prog 93 #[.slice A l.length c, .func (.func 82) #[] #[.pointer (some ⟨B, 0, none⟩)]] w fun e w' => ∃ i : Int, e = .returned (.int .i64 i) ∧ decide (0 ≤ i) = badF op l ∧ Below w.heap.size w w' := by
  have hl : l.length ≤ 9223372036854775807 := hr.2.1
  have HR := Aside0.mk hr
  have HC := Aside0.mk hc
  have HI := Aside0.mk ih
  clear hr hc ih
  go_enter Try.func93, Try.ntmps93
  go_wp2
  go_loopw [5, 8] (fun _ i wr => ∃ k : Nat, k ≤ l.length ∧ i = .int .i64 k ∧ Aside0 (badF op l = badF op (l.drop k)) ∧ Aside0 (Below w.heap.size w wr)) (fun _ i _ => l.length - (intOf i).toNat)
  case atStart => exact ⟨0, Nat.zero_le _, rfl, ⟨rfl⟩, ⟨Below.refl _ _⟩⟩
  case round =>
    obtain ⟨k, hk, rfl, hbad, HB⟩ := hrel
    by_cases hlt : k < l.length
    · obtain ⟨ad, A2, c2, rfl, hx0, hx1, hx2, hl2, hg2⟩ := at_T25 HR.out (k : Int) (by omega) (by omega)
      rw [Int.toNat_natCast] at hx0 hx1 hx2
      have hy0 := pw_cell_below HB.out hx0
      have hy1 := pw_cell_below HB.out hx1
      have hy2 := pw_cell_below HB.out hx2
      have HG := Aside0.mk (Kd.C_below hg2 HB.out)
      have HL := Aside0.mk hl2
      have HK := Aside0.mk (HI.out (rd_T25 l k) (by unfold rd_T25; simp [List.getElem?_eq_getElem hlt]))
      have HS := Aside0.mk (badF_step op l k hlt)
      have HC2 := Aside0.mk (pw_cell_below HB.out HC.out)
      clear hx0 hx1 hx2 hl2 hg2
      cases hb : (((rd_T25 l k).f0 == op) || !rightF (rd_T25 l k)) with
      | true =>
        have HBB := Lib.hid hb
        clear hb
        go_wp2_with (go_at_call 82; refine (bad_calls (rd_T25 l k) op B A2 c2 _ HK.out HG.out HL.out HC2.out).mono ?_; rintro e w1 ⟨rfl, hb1⟩; have HB1 := Aside0.mk hb1; clear hb1; rw [HBB.out])
        go_ret
        exact ⟨_, rfl, by rw [hbad.out, HS.out, HBB.out]; simp, below_then HB.out HB.out.size HB1.out⟩
      | false =>
        have HBB := Lib.hid hb
        clear hb
        go_wp2_with (go_at_call 82; refine (bad_calls (rd_T25 l k) op B A2 c2 _ HK.out HG.out HL.out HC2.out).mono ?_; rintro e w1 ⟨rfl, hb1⟩; have HB1 := Aside0.mk hb1; clear hb1; rw [HBB.out])
        go_roundw
        case rel => exact ⟨k + 1, by omega, by go_num, ⟨by rw [hbad.out, HS.out, HBB.out]; simp⟩, ⟨below_then HB.out HB.out.size HB1.out⟩⟩
        case measure => simp [intOf]; omega
    · have hge : l.length ≤ k := by omega
      have HE := Aside0.mk (badF_end op l k hge)
      go_wp2
      go_ret
      exact ⟨_, rfl, by rw [hbad.out, HE.out]; rfl, HB.out⟩
set_option maxHeartbeats 400000 in
theorem badContains_calls (op : Int) (l : List S25) (A : Option Addr) (c B : Nat) (w : World) (ih : ∀ k, k ∈ l → RightOk k) (hr : Kd.C k25 w A l.length l)
    (hc : w.cell? ⟨B, 0, none⟩ = some (.int .i64 op)) :
    Calls Try.prog 81 #[.slice A l.length c, .func (.func 82) #[] #[.pointer (some ⟨B, 0, none⟩)]] w fun e w' => e = .returned (.bool (badF op l)) ∧ Below w.heap.size w w' := by
  have HR := Aside0.mk hr
  have HC := Aside0.mk hc
  have HI := Aside0.mk ih
  clear hr hc ih
  go_enter Try.func81, Try.ntmps81
  go_wp2_with (go_at_call 93; refine (badIndex_calls op l A c B _ HI.out HR.out HC.out).mono ?_; rintro e w' ⟨i, rfl, hi, hb⟩; have HB := Aside0.mk hb; clear hb)
  go_ret
  exact ⟨rfl, HB.out⟩
set_option maxHeartbeats 1600000 in
theorem right_many (op : Int) (nm : ByteArray) (ks : List S25) (h : op = 5 ∨ op = 6) (ih : ∀ k, k ∈ ks → RightOk k) : RightOk ⟨op, nm, ks⟩ := by
  intro w A c hr hc
  rw [rightF_eq, if_neg (by omega), if_neg (by omega), if_neg (by omega), if_pos h]
  show Calls Try.prog 65 #[.agg #[.int .i64 op, .string nm, .slice A ks.length c]] w _
  have hmf : ∀ (fn : Fn) (first cap : Array Value) (w : World), (Instr.makeFunc fn first cap).run Try.prog w = .ok (.func fn first cap) w := fun _ _ _ _ => rfl
  have hr' : Kd.C k25 w A ks.length ks := hr
  have hm : ks.length ≤ 9223372036854775807 := hr'.2.1
  clear hr
  cases hb : nm.toList with
  | cons x xs =>
    clear hr' ih
    rcases h with rfl | rfl
    all_goals
      go_enter Try.func65, Try.ntmps65
      go_wp2
      go_ret
      exact ⟨rfl, by repeat (first | exact Below.refl _ _ | apply below_alloc | apply pw_below_drewN)⟩
  | nil =>
    by_cases hl : 2 ≤ ks.length
    · have e0 : decide ((2 : Int) ≤ (ks.length : Int)) = true := decide_eq_true (by omega)
      have e1 : decide (2 ≤ ks.length) = true := decide_eq_true hl
      have HX := Aside0.mk (badContains_calls op ks A c w.heap.size _ ih (Kd.C_below hr' (below_alloc (Below.refl _ _) (.cells #[.int .i64 op, .string nm, .slice A ks.length c] 25))) ((blk_cell (blk_new _ _) 0).trans rfl))
      clear hr' ih hl
      rcases h with rfl | rfl
      all_goals
        go_enter Try.func65, Try.ntmps65
        go_wp2_with (go_at_call 81; refine HX.out.mono ?_; rintro e w1 ⟨rfl, hb1⟩; have HB1 := Aside0.mk hb1; clear hb1)
        go_ret
        exact ⟨by first | rfl | (rw [e1]; rfl), below_then (below_alloc (Below.refl _ _) _) (by simp) HB1.out⟩
    · have e0 : decide ((2 : Int) ≤ (ks.length : Int)) = false := decide_eq_false (by omega)
      have e1 : decide (2 ≤ ks.length) = false := decide_eq_false hl
      clear hr' hl
      rcases h with rfl | rfl
      all_goals
        go_enter Try.func65, Try.ntmps65
        go_wp2
        go_ret
        exact ⟨by first | rfl | (rw [e1]; rfl), by repeat (first | exact Below.refl _ _ | apply below_alloc | apply pw_below_drewN)⟩
theorem right_ok : ∀ (n : Nat) (r : S25), SizeOf.sizeOf r ≤ n → RightOk r := by
  intro n
  induction n with
  | zero => intro r h; cases r; simp at h
  | succ n ih =>
    intro r h
    obtain ⟨op, nm, ks⟩ := r
    have hk : ∀ k, k ∈ ks → RightOk k := by
      intro k hk
      apply ih
      have := List.sizeOf_lt_of_mem hk
      simp at h
      omega
    by_cases h1 : op = 1
    · subst h1; exact right_name nm ks
    · by_cases h2 : op = 2 ∨ op = 3 ∨ op = 4
      · exact right_leaf op nm ks h2
      · by_cases h3 : op = 7 ∨ op = 8
        · exact right_one op nm ks h3 hk
        · by_cases h4 : op = 5 ∨ op = 6
          · exact right_many op nm ks h4 hk
          · exact right_other op nm ks (by omega)
def checkF (k : Nat) (op : Int) (nm : ByteArray) (ks : List S25) : Option Int :=
  (regex_measure.f k op nm ks 1).map fun m => if m.2 = true then (if rightF ⟨op, nm, ks⟩ = true then 0 else 70) else 71
set_option maxHeartbeats 800000 in
theorem check_calls (k : Nat) (op : Int) (nm : ByteArray) (ks : List S25) (A : Option Addr) (c : Nat) (r : Int) (w : World) (hr : Kd.C k25 w A ks.length ks) (hc : ks.length ≤ c) (h : checkF k op nm ks = some r) :
    Calls Try.prog 35 #[.agg #[.int .i64 op, .string nm, .slice A ks.length c]] w fun e w' => e = .returned (.int .i64 r) ∧ Below w.heap.size w w' := by
  have HR := Aside0.mk hr
  have HC := Aside0.mk hc
  unfold checkF at h
  obtain ⟨⟨m, ok⟩, hm, h⟩ := Option.map_eq_some_iff.mp h
  have HM := Aside0.mk hm
  have HO := Aside0.mk (right_ok _ ⟨op, nm, ks⟩ (Nat.le_refl _))
  clear hr hc hm
  cases ok with
  | false =>
    obtain rfl : 71 = r := h
    go_enter Try.func35, Try.ntmps35
    go_wp2_with (go_at_call 64; refine (regex_measure.calls k op nm A c ks 1 m false _ (Kd.C_below HR.out (below_alloc (Below.refl _ _) _)) HC.out HM.out).mono ?_; rintro e w1 ⟨rfl, hb1⟩; have HB1 := Aside0.mk (below_then (below_alloc (Below.refl _ _) _) (by simp) hb1); clear hb1)
    go_ret
    exact ⟨rfl, HB1.out⟩
  | true =>
    have H : (if rightF ⟨op, nm, ks⟩ = true then (0 : Int) else 70) = r := h
    clear h
    have HBX : ∀ j v, (#[.int .i64 op, .string nm, .slice A ks.length c] : Array Value)[j]? = some v → (w.alloc (.cells #[.int .i64 op, .string nm, .slice A ks.length c] 25)).cell? ⟨w.heap.size, j, none⟩ = some v := fun j v hj => (blk_cell (blk_new _ _) j).trans hj
    have HX := Aside0.mk HBX
    clear HBX
    cases hb : rightF ⟨op, nm, ks⟩ with
    | true =>
      have HBB := Lib.hid hb
      rw [hb] at H
      obtain rfl : (0 : Int) = r := H
      clear hb
      go_enter Try.func35, Try.ntmps35
      go_wp2_with (first | (go_at_call 64; refine (regex_measure.calls k op nm A c ks 1 m true _ (Kd.C_below HR.out (below_alloc (Below.refl _ _) _)) HC.out HM.out).mono ?_; rintro e w1 ⟨rfl, hb1⟩; have HB1 := Aside0.mk (below_then (below_alloc (Below.refl _ _) _) (by simp) hb1); have hc0 := pw_cell_below hb1 (HX.out 0 _ rfl); have hc1 := pw_cell_below hb1 (HX.out 1 _ rfl); have hc2 := pw_cell_below hb1 (HX.out 2 _ rfl); clear hb1) | (go_at_call 65; refine (HO.out _ A c (Kd.C_below HR.out HB1.out) HC.out).mono ?_; rintro e w2 ⟨rfl, hb2⟩; have HB2 := Aside0.mk (below_then HB1.out HB1.out.size hb2); clear hb2; rw [HBB.out]))
      go_ret
      exact ⟨rfl, HB2.out⟩
    | false =>
      have HBB := Lib.hid hb
      rw [hb] at H
      obtain rfl : (70 : Int) = r := H
      clear hb
      go_enter Try.func35, Try.ntmps35
      go_wp2_with (first | (go_at_call 64; refine (regex_measure.calls k op nm A c ks 1 m true _ (Kd.C_below HR.out (below_alloc (Below.refl _ _) _)) HC.out HM.out).mono ?_; rintro e w1 ⟨rfl, hb1⟩; have HB1 := Aside0.mk (below_then (below_alloc (Below.refl _ _) _) (by simp) hb1); have hc0 := pw_cell_below hb1 (HX.out 0 _ rfl); have hc1 := pw_cell_below hb1 (HX.out 1 _ rfl); have hc2 := pw_cell_below hb1 (HX.out 2 _ rfl); clear hb1) | (go_at_call 65; refine (HO.out _ A c (Kd.C_below HR.out HB1.out) HC.out).mono ?_; rintro e w2 ⟨rfl, hb2⟩; have HB2 := Aside0.mk (below_then HB1.out HB1.out.size hb2); clear hb2; rw [HBB.out]))
      go_ret
      exact ⟨rfl, HB2.out⟩
end Go.Proofs.Ytapinbmkjkbkkaa.Mk
namespace Go.Proofs.Ytapinbmkjkbkkaa.Mk
open Go.RowKit Go.Proofs.YtapinbmkjkbkkaaW.PrintWords Go.Proofs.YtapinbmkjkbkkaaW.PrintLast Go.Proofs.YtapinbmkjkbkkaaW.PrintMore Lb
def FinB (W0 : World) (r1 r2 r3 r4 : Int) (r5 : List S78) (r6 : Int) (e : Ending) (W : World) : Prop :=
  ∃ v, e = .returned (.tuple #[.agg #[.int .i64 r1, .int .i64 r2, .int .i64 r3, .int .i64 r4, v], .int .i64 r6]) ∧ k78.R 78 W W0.heap.size (fun _ => True) v r5 ∧ Below W0.heap.size W0 W
def vars3 (W : World) (o2 : Obj) : World := ((W.alloc o2).alloc (.cells #[.int .i64 0, .int .i64 0, .int .i64 0, .int .i64 0, .slice none 0 0] 31)).alloc (.cells #[.int .i64 0] 32)
theorem vars3_2 (W : World) (o2 : Obj) : (vars3 W o2).heap[W.heap.size]? = some o2 := blk_alloc (blk_alloc (blk_new _ _) _) _
theorem vars3_4 (W : World) (o2 : Obj) : (vars3 W o2).heap[W.heap.size + 1]? = some (.cells #[.int .i64 0, .int .i64 0, .int .i64 0, .int .i64 0, .slice none 0 0] 31) := by
  have e := blk_new (W.alloc o2) (.cells #[.int .i64 0, .int .i64 0, .int .i64 0, .int .i64 0, .slice none 0 0] 31)
  exact blk_alloc (by simpa using e) _
theorem vars3_5 (W : World) (o2 : Obj) : (vars3 W o2).heap[W.heap.size + 1 + 1]? = some (.cells #[.int .i64 0] 32) := by
  have e := blk_new ((W.alloc o2).alloc (.cells #[.int .i64 0, .int .i64 0, .int .i64 0, .int .i64 0, .slice none 0 0] 31)) (.cells #[.int .i64 0] 32)
  simpa [vars3] using e
theorem vars3_below (W : World) (o2 : Obj) : Below W.heap.size W (vars3 W o2) := below_alloc (below_alloc (below_alloc (Below.refl _ _) _) _) _
theorem vars3_size (W : World) (o2 : Obj) : (vars3 W o2).heap.size = W.heap.size + 1 + 1 + 1 := by simp [vars3]
theorem results11_ (tmps : Array Value) (w : World) (g g' : Nat) (cs : Array Value) (x : Value) (hp : tmps.getD 4 undef = .pointer (some ⟨g, 0, none⟩)) (hg : w.heap[g]? = some (.cells cs 31 (0, 0))) (hs : cs.size = 5)
    (hp' : tmps.getD 5 undef = .pointer (some ⟨g', 0, none⟩)) (hc' : w.cell? ⟨g', 0, none⟩ = some x) : (results Try.f11 tmps).run Try.prog w = .ok (.tuple #[.agg cs, x]) w := by
  have h1 : tmps[4]?.getD undef = .pointer (some ⟨g, 0, none⟩) := by simpa using hp
  have h2 : tmps[5]?.getD undef = .pointer (some ⟨g', 0, none⟩) := by simpa using hp'
  have hi : (Try.prog.info? 31).map (·.size) = some 5 := by kernel_rfl
  have hrow := run_loadVar_row (P := Try.prog) w g 31 31 cs (0, 0) _ hg Try.underlying31 rfl (by rw [hi, hs])
  have hrow2 : (loadVar 32 ⟨g', 0, none⟩).run Try.prog w = .ok x w := by simp [go_sem, hc']
  simp [results, Try.results11, h1, h2, asAddr, hrow, hrow2]
theorem door_idle (tmps : Array Value) (w : World) (g g' : Nat) (cs : Array Value) (x : Value) (hp : tmps.getD 4 undef = .pointer (some ⟨g, 0, none⟩)) (hg : w.heap[g]? = some (.cells cs 31 (0, 0))) (hs : cs.size = 5)
    (hp' : tmps.getD 5 undef = .pointer (some ⟨g', 0, none⟩)) (hc' : w.cell? ⟨g', 0, none⟩ = some x) (R : Ending → World → Prop) (hK : R (.returned (.tuple #[.agg cs, x])) w) :
    bodyPostD Try.prog Try.f11 R Exit.ret { tmps := tmps, defers := [{ target := Target.fn (Fn.func 34) #[], args := #[.pointer (some ⟨g', 0, none⟩)] }] } w := by
  refine leaves_cons (f := 34) (args := #[.pointer (some ⟨g', 0, none⟩)]) (by simp) (by simp [go_sem]) ?_
  refine (caught_idle ⟨g', 0, none⟩ _).mono ?_
  rintro e u' w'' ⟨rfl, rfl, rfl⟩
  exact ⟨_, results11_ tmps _ g g' cs x hp hg hs hp' hc', hK⟩
theorem door_many (tmps : Array Value) (w : World) (g g' : Nat) (cs : Array Value) (x : Int) (hp : tmps.getD 4 undef = .pointer (some ⟨g, 0, none⟩)) (hg : w.heap[g]? = some (.cells cs 31 (0, 0))) (hs : cs.size = 5)
    (hp' : tmps.getD 5 undef = .pointer (some ⟨g', 0, none⟩)) (hc' : w.heap[g']? = some (.cells #[.int .i64 x] 32 (0, 0))) (R : Ending → World → Prop) (hK : R (.returned (.tuple #[.agg cs, .int .i64 3])) (w.setCell ⟨g', 0, none⟩ (.int .i64 3))) :
    bodyPostD Try.prog Try.f11 R (Exit.panic [{ v := .iface 32 (.int .i64 3), recovered := false }]) { tmps := tmps, defers := [{ target := Target.fn (Fn.func 34) #[], args := #[.pointer (some ⟨g', 0, none⟩)] }] } w := by
  refine leaves_cons (f := 34) (args := #[.pointer (some ⟨g', 0, none⟩)]) (by simp) (by simp [go_sem]) ?_
  refine (caught_many ⟨g', 0, none⟩ x [] _ ((blk_cell hc' 0).trans rfl) (blk_frozen hc' 0)).mono ?_
  rintro e u' w'' ⟨rfl, rfl, rfl⟩
  refine ⟨_, results11_ tmps _ g g' cs (.int .i64 3) hp ?_ hs hp' ?_, hK⟩
  · exact blk_far hg (blk_ne hg hc' (by decide)) _
  · exact (blk_cell (blk_set hc' 0 _) 0).trans rfl
def setA (w : World) (g : Nat) (x0 x1 x2 x3 x4 : Value) : World := ((((w.setCell ⟨g, 0, none⟩ x0).setCell ⟨g, 1, none⟩ x1).setCell ⟨g, 2, none⟩ x2).setCell ⟨g, 3, none⟩ x3).setCell ⟨g, 4, none⟩ x4
theorem setA_blk {w : World} {g : Nat} {a0 a1 a2 a3 a4 : Value} (h : w.heap[g]? = some (.cells #[a0, a1, a2, a3, a4] 31 (0, 0))) (x0 x1 x2 x3 x4 : Value) : (setA w g x0 x1 x2 x3 x4).heap[g]? = some (.cells #[x0, x1, x2, x3, x4] 31 (0, 0)) :=
  blk_put (blk_put (blk_put (blk_put (blk_put h 0 x0 rfl) 1 x1 rfl) 2 x2 rfl) 3 x3 rfl) 4 x4 rfl
theorem setA_far {w : World} {g g' : Nat} {cs : Array Value} {t : TypeId} (h : w.heap[g']? = some (.cells cs t (0, 0))) (hne : g' ≠ g) (x0 x1 x2 x3 x4 : Value) : (setA w g x0 x1 x2 x3 x4).heap[g']? = some (.cells cs t (0, 0)) :=
  blk_far (blk_far (blk_far (blk_far (blk_far h hne _) hne _) hne _) hne _) hne _
theorem setA_R {w : World} {g base : Nat} {cs : Array Value} {v : Value} {l : List S78} (hR : k78.R 78 w base (fun _ => True) v l) (h : w.heap[g]? = some (.cells cs 31 (0, 0))) (x0 x1 x2 x3 x4 : Value) : k78.R 78 (setA w g x0 x1 x2 x3 x4) base (fun _ => True) v l :=
  (r_set 4 x4 (r_set 3 x3 (r_set 2 x2 (r_set 1 x1 (r_set 0 x0 ⟨hR, _, h⟩))))).1
theorem setA_below {B g : Nat} {w W : World} (h : Below B W w) (hg : B ≤ g) (x0 x1 x2 x3 x4 : Value) : Below B W (setA w g x0 x1 x2 x3 x4) :=
  ((((h.setCell hg _).setCell hg _).setCell hg _).setCell hg _).setCell hg _
theorem name_check (s : ByteArray) : checkF 5 1 s [] = some (if nameB s = true then 0 else 70) := by
  have hm : regex_measure.f 5 1 s [] 1 = some (1, true) := by
    simp [regex_measure.f, regex_measure.l0]
  unfold checkF
  rw [hm, rightF_eq]
  simp
def namesOkF : List (List UInt8) → List ByteArray → Bool
  | _, [] => true
  | seen, s :: ss => !decide (nk s ∈ seen) && nameB s && namesOkF (seen ++ [nk s]) ss
theorem namesOk_step (names : List ByteArray) (k : Nat) (h : k < names.length) : namesOkF ((names.take k).map nk) (names.drop k) =
    (!decide (nk (rdOf ByteArray.empty names k) ∈ (names.take k).map nk) && nameB (rdOf ByteArray.empty names k) && namesOkF ((names.take (k + 1)).map nk) (names.drop (k + 1))) := by
  have e : rdOf ByteArray.empty names k = names[k] := by simp [rdOf, List.getElem?_eq_getElem h]
  rw [List.drop_eq_getElem_cons h, namesOkF, e, List.take_succ_eq_append_getElem h, List.map_append]
  rfl
theorem namesOk_end (names : List ByteArray) (k : Nat) (h : names.length ≤ k) : namesOkF ((names.take k).map nk) (names.drop k) = true := by
  rw [List.drop_eq_nil_of_le h, namesOkF]
set_option maxHeartbeats 6400000 in
theorem build_names (k : Nat) (r : S25) (A : Option Addr) (c : Nat) (names : List ByteArray) (An : Option Addr) (cn : Nat) (nn : St → Int → Int → St → Option St) (W : World) (hr : Kd.C k25 W A r.f2.length r.f2) (hc : r.f2.length ≤ c)
    (hn : Kd.C Kd.string W An names.length names) (hsz : ∀ i, (rdOf ByteArray.empty names i).size ≤ maxLen) (h : checkF k r.f0 r.f1 r.f2 = some 0) (hal : AloneOk (names.map nk) nn r)
    (R : Ending → World → Prop)
    (hbad : names.length > 4096 ∨ namesOkF [] names = false → ∀ e W', FinB W 0 0 0 0 [] 80 e W' → R e W')
    (hmany : names.length ≤ 4096 → namesOkF [] names = true → aloneF (names.map nk) nn r = none → ∀ e W', FinB W 0 0 0 0 [] 3 e W' → R e W')
    (hok : names.length ≤ 4096 → namesOkF [] names = true → ∀ s, aloneF (names.map nk) nn r = some s → ∀ e W', FinB W s.1 names.length 0 1 s.2 0 e W' → R e W') :
    Calls Try.prog 11 #[.agg #[.int .i64 r.f0, .string r.f1, .slice A r.f2.length c], .slice An names.length cn] W R := by
  have hmm := @run_makeMap Try.prog
  have HC := Aside0.mk hc
  have HR := Aside0.mk hr
  have HH := Aside0.mk h
  have HNM := Aside0.mk hn
  have HSZ := Aside0.mk hsz
  have HAL := Aside0.mk hal
  have HBAD := Aside0.mk hbad
  have HMANY := Aside0.mk hmany
  have HOK := Aside0.mk hok
  have hm : names.length ≤ 9223372036854775807 := hn.2.1
  have HV2 := Aside0.mk (vars3_2 W (.cells #[.int .i64 r.f0, .string r.f1, .slice A r.f2.length c] 25))
  have HV4 := Aside0.mk (vars3_4 W (.cells #[.int .i64 r.f0, .string r.f1, .slice A r.f2.length c] 25))
  have HV5 := Aside0.mk (vars3_5 W (.cells #[.int .i64 r.f0, .string r.f1, .slice A r.f2.length c] 25))
  have HVB := Aside0.mk (vars3_below W (.cells #[.int .i64 r.f0, .string r.f1, .slice A r.f2.length c] 25))
  clear hr hc h hn hsz hal hbad hmany hok
  go_enter_defers Try.func11, Try.ntmps11
  go_wp2_with (fail)
  go_at_call 35
  refine (check_calls k r.f0 r.f1 r.f2 A c 0 _ (Kd.C_below HR.out HVB.out) HC.out HH.out).mono ?_
  rintro e w1 ⟨rfl, hb1⟩
  have hb1' : Below (vars3 W (.cells #[.int .i64 r.f0, .string r.f1, .slice A r.f2.length c] 25)).heap.size (vars3 W (.cells #[.int .i64 r.f0, .string r.f1, .slice A r.f2.length c] 25)) w1 := hb1
  have B2 := Aside0.mk (blk_below HV2.out hb1')
  have B4 := Aside0.mk (blk_below HV4.out hb1')
  have B5 := Aside0.mk (blk_below HV5.out hb1')
  have HB1 := Aside0.mk (below_then HVB.out HVB.out.size hb1')
  have HSZ1 := Aside0.mk (Nat.le_trans (Nat.le_of_eq (vars3_size W (.cells #[.int .i64 r.f0, .string r.f1, .slice A r.f2.length c] 25)).symm) hb1'.size)
  clear hb1 hb1' HV2 HV4 HV5 HVB
  by_cases hmax : 4096 < names.length
  · have hd0 : decide ((4096 : Int) < (names.length : Int)) = true := decide_eq_true (by omega)
    have hd1 : decide (4096 < names.length) = true := decide_eq_true hmax
    have HBD := Aside0.mk (HBAD.out (.inl hmax))
    have C4 := Aside0.mk (blk_alloc (blk_alloc B4.out (.map #[] 0)) (.cells #[.int .i64 0, .int .i64 names.length, .int .i64 0, .int .i64 0, .slice none 0 0, .map (some w1.heap.size)] 71))
    have C5 := Aside0.mk (blk_alloc (blk_alloc B5.out (.map #[] 0)) (.cells #[.int .i64 0, .int .i64 names.length, .int .i64 0, .int .i64 0, .slice none 0 0, .map (some w1.heap.size)] 71))
    have hc40 := (blk_cell C4.out 0).trans rfl
    have hc41 := (blk_cell C4.out 1).trans rfl
    have hc42 := (blk_cell C4.out 2).trans rfl
    have hc43 := (blk_cell C4.out 3).trans rfl
    have hc44 := (blk_cell C4.out 4).trans rfl
    have hc50 := (blk_cell C5.out 0).trans rfl
    have hf0 := blk_frozen C4.out 0
    have hf1 := blk_frozen C4.out 1
    have hf2 := blk_frozen C4.out 2
    have hf3 := blk_frozen C4.out 3
    have hf4 := blk_frozen C4.out 4
    have hf5 := blk_frozen C5.out 0
    clear hmax
    go_wp2
    have hne : W.heap.size + 1 + 1 ≠ W.heap.size + 1 := by omega
    refine door_idle _ _ (W.heap.size + 1) (W.heap.size + 1 + 1) #[.int .i64 0, .int .i64 0, .int .i64 0, .int .i64 0, .slice none 0 0] (.int .i64 80) rfl ?_ rfl rfl ?_ _ ?_
    · exact blk_far (setA_blk C4.out _ _ _ _ _) hne.symm _
    · exact (blk_cell (blk_set (setA_far C5.out hne _ _ _ _ _) 0 _) 0).trans rfl
    · exact HBD.out _ _ ⟨.slice none 0 0, rfl, Kd.R_nil _ _ _ _ _, (setA_below (below_alloc (below_alloc HB1.out _) _) (by omega) _ _ _ _ _).setCell (by simp; omega) _⟩
  · have hd0 : decide ((4096 : Int) < (names.length : Int)) = false := decide_eq_false (by omega)
    have hd1 : decide (4096 < names.length) = false := decide_eq_false hmax
    have HMAX := Aside0.mk (Nat.le_of_not_lt hmax)
    have C2 := Aside0.mk (blk_alloc (blk_alloc B2.out (.map #[] 0)) (.cells #[.int .i64 0, .int .i64 names.length, .int .i64 0, .int .i64 0, .slice none 0 0, .map (some w1.heap.size)] 71))
    have C4 := Aside0.mk (blk_alloc (blk_alloc B4.out (.map #[] 0)) (.cells #[.int .i64 0, .int .i64 names.length, .int .i64 0, .int .i64 0, .slice none 0 0, .map (some w1.heap.size)] 71))
    have C5 := Aside0.mk (blk_alloc (blk_alloc B5.out (.map #[] 0)) (.cells #[.int .i64 0, .int .i64 names.length, .int .i64 0, .int .i64 0, .slice none 0 0, .map (some w1.heap.size)] 71))
    have CM : Aside0 (((w1.alloc (.map #[] 0)).alloc (.cells #[.int .i64 0, .int .i64 names.length, .int .i64 0, .int .i64 0, .slice none 0 0, .map (some w1.heap.size)] 71)).heap[w1.heap.size + 1]? = some (.cells #[.int .i64 0, .int .i64 names.length, .int .i64 0, .int .i64 0, .slice none 0 0, .map (some w1.heap.size)] 71 (0, 0))) := ⟨by have e := blk_new (w1.alloc (.map #[] 0)) (.cells #[.int .i64 0, .int .i64 names.length, .int .i64 0, .int .i64 0, .slice none 0 0, .map (some w1.heap.size)] 71); simpa using e⟩
    have CN : Aside0 (NamesAt ((w1.alloc (.map #[] 0)).alloc (.cells #[.int .i64 0, .int .i64 names.length, .int .i64 0, .int .i64 0, .slice none 0 0, .map (some w1.heap.size)] 71)) w1.heap.size []) := ⟨names_below (names_new w1) (below_alloc (Below.refl _ _) _)⟩
    have CB := Aside0.mk (below_alloc (below_alloc HB1.out (.map #[] 0)) (.cells #[.int .i64 0, .int .i64 names.length, .int .i64 0, .int .i64 0, .slice none 0 0, .map (some w1.heap.size)] 71))
    clear hmax B2 B4 B5 HB1
    go_wp2
    go_loopw [8, 9, 10, 11, 30] (fun _ _ _ _ i wr => ∃ j : Nat, j ≤ names.length ∧ i = .int .i64 j ∧ Aside0 (namesOkF [] names = namesOkF ((names.take j).map nk) (names.drop j)) ∧ Aside0 (NamesAt wr w1.heap.size ((names.take j).map nk)) ∧ Aside0 (wr.heap[w1.heap.size + 1]? = some (.cells #[.int .i64 0, .int .i64 names.length, .int .i64 0, .int .i64 0, .slice none 0 0, .map (some w1.heap.size)] 71 (0, 0))) ∧ Aside0 (wr.heap[W.heap.size]? = some (.cells #[.int .i64 r.f0, .string r.f1, .slice A r.f2.length c] 25 (0, 0))) ∧ Aside0 (wr.heap[W.heap.size + 1]? = some (.cells #[.int .i64 0, .int .i64 0, .int .i64 0, .int .i64 0, .slice none 0 0] 31 (0, 0))) ∧ Aside0 (wr.heap[W.heap.size + 1 + 1]? = some (.cells #[.int .i64 0] 32 (0, 0))) ∧ Aside0 (Below W.heap.size W wr)) (fun _ _ _ _ i _ => names.length - (intOf i).toNat)
    case atStart => exact ⟨0, Nat.zero_le _, rfl, ⟨rfl⟩, CN, CM, C2, C4, C5, CB⟩
    case round =>
      obtain ⟨j, hj, rfl, HNO, DN, DM, D2, D4, D5, DB⟩ := hrel
      clear C2 C4 C5 CM CN CB hd0 hd1
      by_cases hlt : j < names.length
      · obtain ⟨ad, rfl, hx0⟩ := Kd.at_string HNM.out (j : Int) (by omega) (by omega)
        rw [Int.toNat_natCast] at hx0
        have hy0 := pw_cell_below DB.out hx0
        have HST := Aside0.mk (namesOk_step names j hlt)
        have hm5 := (blk_cell DM.out 5).trans rfl
        have hlk := names_look DN.out (rdOf ByteArray.empty names j) (HSZ.out j)
        clear hx0
        by_cases hin : nk (rdOf ByteArray.empty names j) ∈ (names.take j).map nk
        · rw [decide_eq_true hin] at hlk
          have HBD := Aside0.mk (HBAD.out (.inr (by rw [HNO.out, HST.out, decide_eq_true hin]; rfl)))
          have hc40 := (blk_cell D4.out 0).trans rfl
          have hc41 := (blk_cell D4.out 1).trans rfl
          have hc42 := (blk_cell D4.out 2).trans rfl
          have hc43 := (blk_cell D4.out 3).trans rfl
          have hc44 := (blk_cell D4.out 4).trans rfl
          have hc50 := (blk_cell D5.out 0).trans rfl
          have hf0 := blk_frozen D4.out 0
          have hf1 := blk_frozen D4.out 1
          have hf2 := blk_frozen D4.out 2
          have hf3 := blk_frozen D4.out 3
          have hf4 := blk_frozen D4.out 4
          have hf5 := blk_frozen D5.out 0
          clear hin
          go_wp2
          have hne : W.heap.size + 1 + 1 ≠ W.heap.size + 1 := by omega
          refine door_idle _ _ (W.heap.size + 1) (W.heap.size + 1 + 1) #[.int .i64 0, .int .i64 0, .int .i64 0, .int .i64 0, .slice none 0 0] (.int .i64 80) rfl ?_ rfl rfl ?_ _ ?_
          · exact blk_far (setA_blk D4.out _ _ _ _ _) hne.symm _
          · exact (blk_cell (blk_set (setA_far D5.out hne _ _ _ _ _) 0 _) 0).trans rfl
          · exact HBD.out _ _ ⟨.slice none 0 0, rfl, Kd.R_nil _ _ _ _ _, (setA_below DB.out (by omega) _ _ _ _ _).setCell (by simp; omega) _⟩
        · rw [decide_eq_false hin] at hlk
          have HIN := Aside0.mk hin
          clear hin
          cases hb : nameB (rdOf ByteArray.empty names j) with
          | false =>
            have HBD := Aside0.mk (HBAD.out (.inr (by rw [HNO.out, HST.out, hb]; simp)))
            have HCK := Aside0.mk ((name_check (rdOf ByteArray.empty names j)).trans (by rw [hb]; rfl : _ = some (70 : Int)))
            clear hb
            go_wp2_with (fail)
            go_at_call 35
            refine (check_calls 5 1 (rdOf ByteArray.empty names j) [] none 0 70 _ (Kd.C_nil _ _) (Nat.le_refl _) HCK.out).mono ?_
            rintro e w2 ⟨rfl, hb2⟩
            have E4 := Aside0.mk (blk_below D4.out hb2)
            have E5 := Aside0.mk (blk_below D5.out hb2)
            have EB := Aside0.mk (below_then DB.out DB.out.size hb2)
            clear hb2 hlk hm5 hy0
            have hc40 := (blk_cell E4.out 0).trans rfl
            have hc41 := (blk_cell E4.out 1).trans rfl
            have hc42 := (blk_cell E4.out 2).trans rfl
            have hc43 := (blk_cell E4.out 3).trans rfl
            have hc44 := (blk_cell E4.out 4).trans rfl
            have hc50 := (blk_cell E5.out 0).trans rfl
            have hf0 := blk_frozen E4.out 0
            have hf1 := blk_frozen E4.out 1
            have hf2 := blk_frozen E4.out 2
            have hf3 := blk_frozen E4.out 3
            have hf4 := blk_frozen E4.out 4
            have hf5 := blk_frozen E5.out 0
            go_wp2
            have hne : W.heap.size + 1 + 1 ≠ W.heap.size + 1 := by omega
            refine door_idle _ _ (W.heap.size + 1) (W.heap.size + 1 + 1) #[.int .i64 0, .int .i64 0, .int .i64 0, .int .i64 0, .slice none 0 0] (.int .i64 80) rfl ?_ rfl rfl ?_ _ ?_
            · exact blk_far (setA_blk E4.out _ _ _ _ _) hne.symm _
            · exact (blk_cell (blk_set (setA_far E5.out hne _ _ _ _ _) 0 _) 0).trans rfl
            · exact HBD.out _ _ ⟨.slice none 0 0, rfl, Kd.R_nil _ _ _ _ _, (setA_below EB.out (by omega) _ _ _ _ _).setCell (by simp; omega) _⟩
          | true =>
            have HCK := Aside0.mk ((name_check (rdOf ByteArray.empty names j)).trans (by rw [hb]; rfl : _ = some (0 : Int)))
            have HNO2 : Aside0 (namesOkF [] names = namesOkF ((names.take (j + 1)).map nk) (names.drop (j + 1))) := ⟨by rw [HNO.out, HST.out, hb, decide_eq_false HIN.out]; simp⟩
            clear hb
            go_wp2_with (fail)
            go_at_call 35
            refine (check_calls 5 1 (rdOf ByteArray.empty names j) [] none 0 0 _ (Kd.C_nil _ _) (Nat.le_refl _) HCK.out).mono ?_
            rintro e w2 ⟨rfl, hb2⟩
            have E2 := Aside0.mk (blk_below D2.out hb2)
            have E4 := Aside0.mk (blk_below D4.out hb2)
            have E5 := Aside0.mk (blk_below D5.out hb2)
            have EM := Aside0.mk (blk_below DM.out hb2)
            have EB := Aside0.mk (below_then DB.out DB.out.size hb2)
            have hlen : ((names.take j).map nk).length = j := by simp; omega
            obtain ⟨w3, hrun, hn3, hg3⟩ := names_put (names_below DN.out hb2) (rdOf ByteArray.empty names j) (HSZ.out j) HIN.out (by have := HMAX.out; omega)
            rw [hlen] at hrun
            have hgs : ∀ g, g ≠ w1.heap.size → some g ≠ some w1.heap.size := fun g hg e => hg (Option.some.inj e)
            have G2 := Aside0.mk (blk_grown E2.out hg3 (hgs _ (by have := HSZ1.out; omega)))
            have G4 := Aside0.mk (blk_grown E4.out hg3 (hgs _ (by have := HSZ1.out; omega)))
            have G5 := Aside0.mk (blk_grown E5.out hg3 (hgs _ (by have := HSZ1.out; omega)))
            have GM := Aside0.mk (blk_grown EM.out hg3 (hgs _ (by omega)))
            have GB := Aside0.mk (pw_below_grown EB.out (some w1.heap.size) EB.out.size hg3 (by intro q hq; have := HSZ1.out; injection hq; omega))
            have GN : Aside0 (NamesAt w3 w1.heap.size ((names.take (j + 1)).map nk)) := ⟨by
              have e : rdOf ByteArray.empty names j = names[j] := by simp [rdOf, List.getElem?_eq_getElem hlt]
              rw [e] at hn3
              rw [List.take_succ_eq_append_getElem hlt, List.map_append]
              exact hn3⟩
            have hm52 := (blk_cell EM.out 5).trans rfl
            clear hb2 hlk hm5 hy0 hn3 hg3 hlen hgs
            go_wp2
            go_roundw
            case rel => exact ⟨j + 1, by omega, by go_num, HNO2, GN, GM, G2, G4, G5, GB⟩
            case measure => simp [intOf]; omega
      · obtain rfl : j = names.length := by omega
        have HT := Aside0.mk (HNO.out.trans (namesOk_end names names.length (Nat.le_refl _)))
        have hn := DN.out
        rw [List.take_length] at hn
        have DN2 := Aside0.mk hn
        have hz0 := (blk_cell D2.out 0).trans rfl
        have hz1 := (blk_cell D2.out 1).trans rfl
        have hz2 := (blk_cell D2.out 2).trans rfl
        clear hn
        go_wp2_with (fail)
        go_at_call 36
        refine (HAL.out (w1.heap.size + 1) w1.heap.size names.length _ A c DN2.out (Kd.C_below HR.out DB.out) HC.out ((blk_cell DM.out 1).trans rfl) ((blk_cell DM.out 5).trans rfl)).mono ?_
        rintro e w2 h2
        have HMY := Aside0.mk (HMANY.out HMAX.out HT.out)
        have HKK := Aside0.mk (HOK.out HMAX.out HT.out)
        clear hz0 hz1 hz2
        cases ha : aloneF (names.map nk) nn r with
        | none =>
          rw [ha] at h2
          obtain ⟨rfl, hb2⟩ := h2
          have E4 := Aside0.mk (blk_below D4.out hb2)
          have E5 := Aside0.mk (blk_below D5.out hb2)
          have EB := Aside0.mk (below_then DB.out DB.out.size hb2)
          have HMZ := Aside0.mk (HMY.out ha)
          clear hb2 ha
          go_wp2
          refine door_many _ _ (W.heap.size + 1) (W.heap.size + 1 + 1) #[.int .i64 0, .int .i64 0, .int .i64 0, .int .i64 0, .slice none 0 0] 0 rfl E4.out rfl rfl E5.out _ ?_
          exact HMZ.out _ _ ⟨.slice none 0 0, rfl, Kd.R_nil _ _ _ _ _, EB.out.setCell (by simp; omega) _⟩
        | some s =>
          rw [ha] at h2
          obtain ⟨v, rfl, hRv, hb2⟩ := h2
          have E4 := Aside0.mk (blk_below D4.out hb2)
          have E5 := Aside0.mk (blk_below D5.out hb2)
          have EB := Aside0.mk (below_then DB.out DB.out.size hb2)
          have HRV := Aside0.mk (Kd.R_lower hRv DB.out.size)
          have HKZ := Aside0.mk (HKK.out s ha)
          obtain ⟨A1, c1, rfl⟩ := Kd.R_slice hRv
          have hc40 := (blk_cell E4.out 0).trans rfl
          have hc41 := (blk_cell E4.out 1).trans rfl
          have hc42 := (blk_cell E4.out 2).trans rfl
          have hc43 := (blk_cell E4.out 3).trans rfl
          have hc44 := (blk_cell E4.out 4).trans rfl
          have hc50 := (blk_cell E5.out 0).trans rfl
          have hf0 := blk_frozen E4.out 0
          have hf1 := blk_frozen E4.out 1
          have hf2 := blk_frozen E4.out 2
          have hf3 := blk_frozen E4.out 3
          have hf4 := blk_frozen E4.out 4
          have hf5 := blk_frozen E5.out 0
          clear hb2 ha hRv
          go_wp2
          have hne : W.heap.size + 1 + 1 ≠ W.heap.size + 1 := by omega
          refine door_idle _ _ (W.heap.size + 1) (W.heap.size + 1 + 1) #[.int .i64 s.1, .int .i64 names.length, .int .i64 0, .int .i64 1, .slice A1 s.2.length c1] (.int .i64 0) rfl ?_ rfl rfl ?_ _ ?_
          · exact blk_far (setA_blk E4.out _ _ _ _ _) hne.symm _
          · exact (blk_cell (blk_set (setA_far E5.out hne _ _ _ _ _) 0 _) 0).trans rfl
          · refine HKZ.out _ _ ⟨.slice A1 s.2.length c1, rfl, ?_, (setA_below EB.out (by omega) _ _ _ _ _).setCell (by simp; omega) _⟩
            exact Kd.R_mono (Kd.R_far (Kd.R_types (setA_R HRV.out E4.out _ _ _ _ _) (setA_far E5.out hne _ _ _ _ _) (by decide)) (fun k hk => hk.2) _) (fun _ _ => trivial)
end Go.Proofs.Ytapinbmkjkbkkaa.Mk
namespace Go.Proofs.Ytapinbmkjkbkkaa.Ls
open Go.RowKit Go.Proofs.YtapinbmkjkbkkaaW.PrintWords Go.Proofs.YtapinbmkjkbkkaaW.PrintLast Go.Proofs.YtapinbmkjkbkkaaW.PrintMore Lb
def RowAt (w : World) (g : Nat) (xs : List Int) : Prop := w.heap[g]? = some (.cells (nums .i64 xs).toArray 3 (0, 0))
theorem row_cell {w : World} {g : Nat} {xs : List Int} (h : RowAt w g xs) (i : Int) (h0 : 0 ≤ i) (h1 : i < xs.length) : w.cell? ⟨g, i.toNat, none⟩ = some (.int .i64 (rd xs i)) := by
  refine (blk_cell h i.toNat).trans ?_
  have hi : i.toNat < xs.length := by omega
  simp [nums, rd, List.getElem?_eq_getElem hi]
theorem row_set {w : World} {g : Nat} {xs : List Int} (h : RowAt w g xs) (i x : Int) : RowAt (w.setCell ⟨g, i.toNat, none⟩ (.int .i64 x)) g (xs.set i.toNat x) := by
  refine blk_put h i.toNat _ ?_
  simp [nums, List.map_set]
structure Held (w : World) (B6 B15 g : Nat) (near : List Int) (left : Int) : Prop where
  h6 : w.heap[B6]? = some (.cells #[.slice (some ⟨g, 0, none⟩) near.length near.length] 27 (0, 0))
  h15 : w.heap[B15]? = some (.cells #[.int .i64 left] 3 (0, 0))
  hrow : RowAt w g near
theorem held_below {w w1 : World} {B6 B15 g : Nat} {near : List Int} {left : Int} (h : Held w B6 B15 g near left) (hb : Below w.heap.size w w1) : Held w1 B6 B15 g near left :=
  ⟨blk_below h.h6 hb, blk_below h.h15 hb, blk_below h.hrow hb⟩
set_option maxHeartbeats 400000 in
theorem near_calls (B6 B15 g : Nat) (near : List Int) (left i : Int) (w : World) (h : Held w B6 B15 g near left) (h0 : 0 ≤ i) (h1 : i < near.length) :
    Calls Try.prog 57 #[.int .i64 i, .pointer (some ⟨B6, 0, none⟩), .pointer (some ⟨B15, 0, none⟩)] w fun e w' => e = .returned (.bool (rd near i == left)) ∧ Drawn0 w w' := by
  have hc6 : w.cell? ⟨B6, 0, none⟩ = some (.slice (some ⟨g, 0, none⟩) near.length near.length) := (blk_cell h.h6 0).trans rfl
  have hc15 : w.cell? ⟨B15, 0, none⟩ = some (.int .i64 left) := (blk_cell h.h15 0).trans rfl
  have hx := row_cell h.hrow i h0 h1
  have hadd : (⟨g, 0, none⟩ : Addr).add i.toNat = ⟨g, i.toNat, none⟩ := add_plain g _
  clear h
  go_enter Try.func57, Try.ntmps57
  go_wp2_with (fail)
  go_quiet (fail)
  go_wp2
  go_ret
  exact ⟨rfl, by repeat (first | exact Drawn0.refl _ | apply Drawn0.step)⟩
def nearAny (near : List Int) (left : Int) (l : List Int) : Bool := l.any fun i => rd near i == left
theorem nearAny_step {near : List Int} {left : Int} {l : List Int} {k : Nat} (h : k < l.length) : nearAny near left (l.drop k) = ((rd near (rd l k) == left) || nearAny near left (l.drop (k + 1))) := by
  unfold nearAny
  rw [List.drop_eq_getElem_cons h, List.any_cons]
  have e : rd l k = l[k] := by unfold rd; simp [List.getElem?_eq_getElem h]
  rw [e]
theorem nearAny_end {near : List Int} {left : Int} {l : List Int} {k : Nat} (h : l.length ≤ k) : nearAny near left (l.drop k) = false := by
  unfold nearAny; rw [List.drop_eq_nil_of_le h]; rfl
set_option maxHeartbeats 800000 in
theorem nearIndex_calls (B6 B15 g : Nat) (near : List Int) (left : Int) (l : List Int) (A : Option Addr) (c : Nat) (w : World) (h : Held w B6 B15 g near left) (hr : Kd.C (Kd.int .i64) w A l.length l)
    (hin : ∀ k : Nat, k < l.length → 0 ≤ rd l k ∧ rd l k < near.length) :
    Calls Try.prog 79 #[.slice A l.length c, .func (.func 57) #[] #[.pointer (some ⟨B6, 0, none⟩), .pointer (some ⟨B15, 0, none⟩)]] w fun e w' => ∃ i : Int, e = .returned (.int .i64 i) ∧ decide (0 ≤ i) = nearAny near left l ∧ Below w.heap.size w w' := by
  have hl : l.length ≤ 9223372036854775807 := hr.2.1
  have HR := Aside0.mk hr
  have HD := Aside0.mk h
  have HIN := Aside0.mk hin
  clear hr h hin
  go_enter Try.func79, Try.ntmps79
  go_wp2
  go_loopw [5, 8] (fun _ i wr => ∃ k : Nat, k ≤ l.length ∧ i = .int .i64 k ∧ Aside0 (nearAny near left l = nearAny near left (l.drop k)) ∧ Aside0 (Below w.heap.size w wr)) (fun _ i _ => l.length - (intOf i).toNat)
  case atStart => exact ⟨0, Nat.zero_le _, rfl, ⟨rfl⟩, ⟨Below.refl _ _⟩⟩
  case round =>
    obtain ⟨k, hk, rfl, hany, HB⟩ := hrel
    by_cases hlt : k < l.length
    · obtain ⟨ad, rfl, hx0⟩ := Kd.at_int HR.out (k : Int) (by omega) (by omega)
      rw [Int.toNat_natCast] at hx0
      have hy0 := pw_cell_below HB.out hx0
      have HS := Aside0.mk (nearAny_step (near := near) (left := left) hlt)
      have HX := Aside0.mk (near_calls B6 B15 g near left (rd l k) wr (held_below HD.out HB.out) (HIN.out k hlt).1 (HIN.out k hlt).2)
      clear hx0
      cases hb : (rd near (rd l k) == left) with
      | true =>
        have HBB := Lib.hid hb
        clear hb
        go_wp2_with (go_at_call 57; refine HX.out.mono ?_; rintro e w1 ⟨rfl, ⟨nd, rfl⟩⟩; rw [HBB.out])
        go_ret
        exact ⟨_, rfl, by rw [hany.out, HS.out, HBB.out]; simp, pw_below_drewN HB.out _⟩
      | false =>
        have HBB := Lib.hid hb
        clear hb
        go_wp2_with (go_at_call 57; refine HX.out.mono ?_; rintro e w1 ⟨rfl, ⟨nd, rfl⟩⟩; rw [HBB.out])
        go_roundw
        case rel => exact ⟨k + 1, by omega, by go_num, ⟨by rw [hany.out, HS.out, HBB.out]; simp⟩, ⟨pw_below_drewN HB.out _⟩⟩
        case measure => simp [intOf]; omega
    · have hge : l.length ≤ k := by omega
      have HE := Aside0.mk (nearAny_end (near := near) (left := left) hge)
      go_wp2
      go_ret
      exact ⟨_, rfl, by rw [hany.out, HE.out]; rfl, HB.out⟩
set_option maxHeartbeats 400000 in
theorem nearContains_calls (B6 B15 g : Nat) (near : List Int) (left : Int) (l : List Int) (A : Option Addr) (c : Nat) (w : World) (h : Held w B6 B15 g near left) (hr : Kd.C (Kd.int .i64) w A l.length l)
    (hin : ∀ k : Nat, k < l.length → 0 ≤ rd l k ∧ rd l k < near.length) :
    Calls Try.prog 55 #[.slice A l.length c, .func (.func 57) #[] #[.pointer (some ⟨B6, 0, none⟩), .pointer (some ⟨B15, 0, none⟩)]] w fun e w' => e = .returned (.bool (nearAny near left l)) ∧ Below w.heap.size w w' := by
  have HX := Aside0.mk (nearIndex_calls B6 B15 g near left l A c w h hr hin)
  clear hr h hin
  go_enter Try.func55, Try.ntmps55
  go_wp2_with (go_at_call 79; refine HX.out.mono ?_; rintro e w' ⟨i, rfl, hi, hb⟩; have HB := Aside0.mk hb; clear hb)
  go_ret
  exact ⟨rfl, HB.out⟩
end Go.Proofs.Ytapinbmkjkbkkaa.Ls
namespace Go.Proofs.Ytapinbmkjkbkkaa.Ls
open Go.RowKit Go.Proofs.YtapinbmkjkbkkaaW.PrintWords Go.Proofs.YtapinbmkjkbkkaaW.PrintLast Go.Proofs.YtapinbmkjkbkkaaW.PrintMore Lb
def relax (sy : Int) (p : List Int × Bool) (x : S78) : List Int × Bool :=
  if x.f1 = -2 ∧ sy = 0 ∨ rd p.1 x.f2 < 0 then p
  else if rd p.1 x.f0 < 0 ∨ wrap64 (rd p.1 x.f2 + (if x.f1 = -1 then 0 else 1)) < rd p.1 x.f0 then (p.1.set x.f0.toNat (wrap64 (rd p.1 x.f2 + (if x.f1 = -1 then 0 else 1))), true)
  else p
def passF (sy : Int) (xs : List S78) (p : List Int × Bool) : List Int × Bool := xs.foldl (relax sy) p
def nearF (sy : Int) (xs : List S78) : Nat → List Int → Option (List Int)
  | 0, _ => none
  | j + 1, near => if (passF sy xs (near, false)).2 = true then nearF sy xs j (passF sy xs (near, false)).1 else some (passF sy xs (near, false)).1
theorem passF_step (sy : Int) (l : List S78) (k : Nat) (p : List Int × Bool) (h : k < l.length) : passF sy (l.drop k) p = passF sy (l.drop (k + 1)) (relax sy p (rd_T78 l k)) := by
  unfold passF rd_T78
  rw [List.drop_eq_getElem_cons h, List.foldl_cons, show l.getD ((k : Int).toNat) z78 = l[k] by simp [List.getElem?_eq_getElem h]]
theorem passF_end (sy : Int) (l : List S78) (k : Nat) (p : List Int × Bool) (h : l.length ≤ k) : passF sy (l.drop k) p = p := by
  rw [List.drop_eq_nil_of_le h]; rfl
def symF (k : Nat) (a0_0 a0_1 a0_2 a0_3 : Int) (l : List S78) (near : List Int) (left : Int) (s : List Int) : Nat → Nat → Option (Option (Nat × List Int))
  | 0, _ => some none
  | d + 1, j => (nfa_step.f k a0_0 a0_1 a0_2 a0_3 l (j : Int) s).bind fun t => (nfa_some_list.f k t).bind fun q =>
    if (q.all fun i => decide (0 ≤ i) && decide (i < near.length)) = true then (if nearAny near left q = true then some (some (j, t)) else symF k a0_0 a0_1 a0_2 a0_3 l near left s d (j + 1)) else none
def leastL (k : Nat) (a0_0 a0_1 a0_2 a0_3 : Int) (l : List S78) (near : List Int) : Nat → Int → List Int → List Int → Option (List Int)
  | 0, _, _, _ => none
  | J + 1, left, w, s => if 0 ≤ left then ((symF k a0_0 a0_1 a0_2 a0_3 l near left s a0_1.toNat 0).bind fun o => match o with
      | some p => if w.length < 17592186044416 then leastL k a0_0 a0_1 a0_2 a0_3 l near J (wrap64 (left - 1)) (w ++ [(p.1 : Int)]) p.2 else none
      | none => leastL k a0_0 a0_1 a0_2 a0_3 l near J (wrap64 (left - 1)) w s) else some w
def nearS (m : Nat) (e : Int) : List Int := (List.replicate m (-1)).set e.toNat 0
def nfa_Least.f (k : Nat) (a0_0 a0_1 a0_2 a0_3 : Int) (l : List S78) : Option (List Int × Bool × Int) :=
  (nfa_Check.f a0_0 a0_1 a0_2 a0_3 l).bind fun c => if c = 0 then ((nearF a0_1 l k (nearS a0_0.toNat a0_3)).bind fun near =>
    if rd near a0_2 < 0 then some ([], false, 0) else (nfa_empty.f a0_0).bind fun b => (nfa_some_put.f b a0_2).bind fun b => (nfa_closed.f k a0_0 a0_1 a0_2 a0_3 l b).bind fun s =>
      (leastL k a0_0 a0_1 a0_2 a0_3 l near k (wrap64 (rd near a0_2 - 1)) [] s).map fun w => (w, true, 0)) else some ([], false, c)
theorem fill_set (m k : Nat) (h : k < m) : (List.replicate k (-1 : Int) ++ List.replicate (m - k) 0).set k (-1) = List.replicate (k + 1) (-1) ++ List.replicate (m - (k + 1)) 0 := by
  obtain ⟨d, rfl⟩ : ∃ d, m = k + 1 + d := ⟨m - (k + 1), by omega⟩
  have e1 : k + 1 + d - k = d + 1 := by omega
  have e2 : k + 1 + d - (k + 1) = d := by omega
  rw [e1, e2, List.set_append_right _ _ (by simp), List.replicate_succ (n := d)]
  simp [List.replicate_succ' (n := k)]
theorem row_alloc {w : World} {g : Nat} {xs : List Int} (h : RowAt w g xs) (o : Obj) : RowAt (w.alloc o) g xs := blk_alloc h o
theorem row_below {w w1 : World} {g : Nat} {xs : List Int} (h : RowAt w g xs) (hb : Below w.heap.size w w1) : RowAt w1 g xs := blk_below h hb
structure LInv (w wr : World) (g m : Nat) (av : Array Value) : Prop where
  b1 : wr.heap[w.heap.size]? = some (.cells av 31 (0, 0))
  b6 : wr.heap[g + 1]? = some (.cells #[.slice (some ⟨g, 0, none⟩) m m] 27 (0, 0))
  bl : Below w.heap.size w wr
theorem linv_below {w wr w2 : World} {g m : Nat} {av : Array Value} (h : LInv w wr g m av) (hb : Below wr.heap.size wr w2) : LInv w w2 g m av := ⟨blk_below h.b1 hb, blk_below h.b6 hb, below_then h.bl h.bl.size hb⟩
theorem linv_alloc {w wr : World} {g m : Nat} {av : Array Value} (h : LInv w wr g m av) (o : Obj) : LInv w (wr.alloc o) g m av := linv_below h (below_alloc (Below.refl _ _) o)
theorem linv_set {w wr : World} {g m : Nat} {av : Array Value} (h : LInv w wr g m av) {p : Addr} (h1 : w.heap.size ≤ p.block) (h2 : w.heap.size ≠ p.block) (h3 : g + 1 ≠ p.block) (u : Value) : LInv w (wr.setCell p u) g m av :=
  ⟨blk_far h.b1 h2 u, blk_far h.b6 h3 u, h.bl.setCell h1 u⟩
theorem linv_grown {w wr w2 : World} {g m : Nat} {av : Array Value} (h : LInv w wr g m av) {row : Option Nat} (hg : wr.grownBy w2 row) (hr : ∀ q, row = some q → q ≠ w.heap.size ∧ q ≠ g + 1 ∧ w.heap.size ≤ q) : LInv w w2 g m av :=
  ⟨blk_grown h.b1 hg (fun e => (hr _ e.symm).1 rfl), blk_grown h.b6 hg (fun e => (hr _ e.symm).2.1 rfl), pw_below_grown h.bl row h.bl.size hg (fun q hq => (hr q hq).2.2)⟩
theorem r115_grown {W W1 : World} {base : Nat} {v u : Value} {xs ys : List Int} {ok : Nat → Prop} (h : Kd.R (Kd.int .u64) 115 W base (fun _ => True) v xs) (h2 : Kd.R (Kd.int .i64) 3 W base ok u ys) (hg : W.grownBy W1 u.ownBlock) : Kd.R (Kd.int .u64) 115 W1 base (fun _ => True) v xs := by
  refine Kd.R_mono (Kd.R_grown (Kd.R_tight rfl h) hg (fun k hk e => ?_)) (fun _ _ => trivial)
  obtain ⟨_, inner, hown, _⟩ := h
  obtain ⟨_, inner2, hown2, _⟩ := h2
  obtain ⟨c1, e1⟩ := own_typed hown k hk.symm
  obtain ⟨c2, e2⟩ := own_typed hown2 k e.symm
  rw [e1] at e2
  injection e2 with e2
  injection e2 with _ e2
  exact absurd e2 (by decide)
theorem made_nums (m : Nat) : madeCells #[.int .i64 0] m = (nums .i64 (List.replicate m 0)).toArray := by
  apply Array.ext'
  apply List.ext_getElem
  · simp [nums, madeCells]
  · intro i h1 h2
    simp [nums, madeCells, Nat.mod_one]
theorem relax_skip {sy : Int} {p : List Int × Bool} {x : S78} (h : x.f1 = -2 ∧ sy = 0 ∨ rd p.1 x.f2 < 0) : relax sy p x = p := by unfold relax; rw [if_pos h]
theorem relax_set {sy : Int} {p : List Int × Bool} {x : S78} (n : Int) (h : ¬ (x.f1 = -2 ∧ sy = 0 ∨ rd p.1 x.f2 < 0)) (hn : wrap64 (rd p.1 x.f2 + (if x.f1 = -1 then 0 else 1)) = n) (h2 : rd p.1 x.f0 < 0 ∨ n < rd p.1 x.f0) : relax sy p x = (p.1.set x.f0.toNat n, true) := by
  unfold relax; rw [if_neg h, hn, if_pos h2]
theorem relax_keep {sy : Int} {p : List Int × Bool} {x : S78} (n : Int) (h : ¬ (x.f1 = -2 ∧ sy = 0 ∨ rd p.1 x.f2 < 0)) (hn : wrap64 (rd p.1 x.f2 + (if x.f1 = -1 then 0 else 1)) = n) (h2 : ¬ (rd p.1 x.f0 < 0 ∨ n < rd p.1 x.f0)) : relax sy p x = p := by
  unfold relax; rw [if_neg h, hn, if_neg h2]
set_option maxRecDepth 100000 in
set_option maxHeartbeats 12800000 in
theorem least_walk (k m : Nat) (a0_1 a0_2 a0_3 : Int) (A : Option Addr) (c : Nat) (l : List S78) (w : World) (hr : Kd.C k78 w A l.length l) (hc : l.length ≤ c)
    (hhead : nfa_headOk (m : Int) a0_1 a0_2 a0_3 = true) (harc : ∀ j : Nat, j < l.length → nfa_arcOk (m : Int) a0_1 (rd_T78 l j) = true) (hck : nfa_Check.f (m : Int) a0_1 a0_2 a0_3 l = some 0)
    (near : List Int) (hnear : nearF a0_1 l k (nearS m a0_3) = some near) (r : List Int × Bool × Int) (h : nfa_Least.f k (m : Int) a0_1 a0_2 a0_3 l = some r) :
    Calls Try.prog 22 #[.agg #[.int .i64 (m : Int), .int .i64 a0_1, .int .i64 a0_2, .int .i64 a0_3, .slice A l.length c]] w fun e w' => ∃ v0_ : Value, e = .returned (.tuple #[v0_, .bool r.2.1, .int .i64 r.2.2]) ∧ Kd.R (Kd.int .i64) 3 w' w.heap.size (fun _ => True) v0_ r.1 ∧ Below w.heap.size w w' := by
  have hm : l.length ≤ 9223372036854775807 := hr.2.1
  obtain ⟨c1, c2, c3, c4, c5, c6⟩ := of_decide_eq_true hhead
  have hmk := print_make 27 3 .i64 8 Try.underlying27 info3 (by decide) m (by omega)
  have HR := Aside0.mk hr
  have HC := Aside0.mk hc
  have HARC := Aside0.mk harc
  have HCK := Aside0.mk hck
  have HNEAR := Aside0.mk hnear
  have HH := Aside0.mk h
  have HM := Aside0.mk (show m ≤ 4096 by omega)
  have HE := Aside0.mk c6
  have HS := Aside0.mk c5
  have HY := Aside0.mk (And.intro c3 c4)
  have BX0 : Aside0 ((w.alloc (.cells #[.int .i64 (m : Int), .int .i64 a0_1, .int .i64 a0_2, .int .i64 a0_3, .slice A l.length c] 31)).heap[w.heap.size]? = some (.cells #[.int .i64 (m : Int), .int .i64 a0_1, .int .i64 a0_2, .int .i64 a0_3, .slice A l.length c] 31 (0, 0))) := ⟨blk_new _ _⟩
  clear hr hc harc hck hnear h hhead c1 c2 c3 c4 c5 c6
  go_enter Try.func22, Try.ntmps22
  go_wp2_with (fail)
  go_at_call 31
  refine (nfa_Check.calls (m : Int) a0_1 a0_2 a0_3 A c l 0 _ (Kd.C_below HR.out (below_alloc (Below.refl _ _) _)) HC.out HCK.out).mono ?_
  rintro e w1 ⟨rfl, hb1⟩
  have BX1 := Aside0.mk (blk_below BX0.out hb1)
  have HB1 := Aside0.mk (below_then (below_alloc (Below.refl _ _) _) (by simp) hb1)
  have HGT : Aside0 (w.heap.size < w1.heap.size) := ⟨blk_lt BX1.out⟩
  have hc0 : w1.cell? ⟨w.heap.size, 0, none⟩ = some (.int .i64 (m : Int)) := (blk_cell BX1.out 0).trans rfl
  have HI0 : Aside0 (LInv w ((w1.alloc (.cells (madeCells #[.int .i64 0] m) 3)).alloc (.cells #[.slice (some ⟨w1.heap.size, 0, none⟩) m m] 27)) w1.heap.size m #[.int .i64 (m : Int), .int .i64 a0_1, .int .i64 a0_2, .int .i64 a0_3, .slice A l.length c]) := ⟨⟨blk_alloc (blk_alloc BX1.out _) _, by have e := blk_new (w1.alloc (.cells (madeCells #[.int .i64 0] m) 3)) (.cells #[.slice (some ⟨w1.heap.size, 0, none⟩) m m] 27); simpa using e, below_alloc (below_alloc HB1.out _) _⟩⟩
  have HR0 : Aside0 (RowAt ((w1.alloc (.cells (madeCells #[.int .i64 0] m) 3)).alloc (.cells #[.slice (some ⟨w1.heap.size, 0, none⟩) m m] 27)) w1.heap.size (List.replicate 0 (-1) ++ List.replicate (m - 0) 0)) := ⟨blk_alloc (by have e := blk_new w1 (.cells (madeCells #[.int .i64 0] m) 3); rw [made_nums] at e; rw [made_nums]; simpa [RowAt] using e) _⟩
  clear hb1 BX0
  go_wp2
  obtain ⟨g, hg⟩ : ∃ g, g = w1.heap.size := ⟨_, rfl⟩
  rw [← hg] at HI0 HR0 HGT
  rw [← hg]
  clear hg hc0 hmk
  have hadd : ∀ q : Nat, (⟨g, 0, none⟩ : Addr).add q = ⟨g, q, none⟩ := fun q => add_plain g q
  go_loopw [7, 28] (fun _ i wr => ∃ j : Nat, j ≤ m ∧ i = .int .i64 j ∧ Aside0 (LInv w wr g m #[.int .i64 (m : Int), .int .i64 a0_1, .int .i64 a0_2, .int .i64 a0_3, .slice A l.length c]) ∧ Aside0 (RowAt wr g (List.replicate j (-1) ++ List.replicate (m - j) 0))) (fun _ i _ => m - (intOf i).toNat)
  case atStart => exact ⟨0, Nat.zero_le _, rfl, HI0, HR0⟩
  case round =>
    obtain ⟨j, hj, rfl, HI, HRW⟩ := hrel
    clear HI0 HR0
    have hn6 : wr.cell? ⟨g + 1, 0, none⟩ = some (.slice (some ⟨g, 0, none⟩) m m) := (blk_cell HI.out.b6 0).trans rfl
    have hm0 : m ≤ 9223372036854775807 := by have := HM.out; omega
    by_cases hlt : j < m
    · have hx := row_cell HRW.out (j : Int) (by omega) (by simp; omega)
      rw [Int.toNat_natCast] at hx
      have hz := blk_frozen HRW.out j
      go_wp2
      go_roundw
      case rel => exact ⟨j + 1, by omega, by go_num, ⟨linv_set HI.out (by have := HGT.out; show w.heap.size ≤ g; omega) (by have := HGT.out; show w.heap.size ≠ g; omega) (by show g + 1 ≠ g; omega) _⟩, ⟨by have e := row_set HRW.out (j : Int) (-1); rw [Int.toNat_natCast, fill_set m j hlt] at e; exact e⟩⟩
      case measure => simp [intOf]; omega
    · obtain rfl : j = m := by omega
      have hrow := HRW.out
      rw [Nat.sub_self, List.replicate_zero, List.append_nil] at hrow
      have HRW2 := Aside0.mk hrow
      have hb3 : wr.cell? ⟨w.heap.size, 3, none⟩ = some (.int .i64 a0_3) := (blk_cell HI.out.b1 3).trans rfl
      have he0 := HE.out.1
      have he1 := HE.out.2
      have hx := row_cell HRW2.out a0_3 he0 (by simpa using he1)
      have hz := blk_frozen HRW2.out a0_3.toNat
      clear hrow
      go_wp2
      have HIa : Aside0 (LInv w (wr.setCell ⟨g, a0_3.toNat, none⟩ (.int .i64 0)) g j #[.int .i64 (j : Int), .int .i64 a0_1, .int .i64 a0_2, .int .i64 a0_3, .slice A l.length c]) := ⟨linv_set HI.out (by have := HGT.out; show w.heap.size ≤ g; omega) (by have := HGT.out; show w.heap.size ≠ g; omega) (by show g + 1 ≠ g; omega) _⟩
      have HRa : Aside0 (RowAt (wr.setCell ⟨g, a0_3.toNat, none⟩ (.int .i64 0)) g (nearS j a0_3)) := ⟨row_set HRW2.out a0_3 0⟩
      clear HI HRW HRW2 hx hz hb3 hn6 hlt
      go_loopg [8] k (fun kq v8 wr => ∃ (b : Bool) (nr : List Int), v8 = .bool b ∧ Aside0 (if b = true then nearF a0_1 l kq nr = some near else nr = near) ∧ Aside0 (nr.length = j) ∧ Aside0 (LInv w wr g j #[.int .i64 (j : Int), .int .i64 a0_1, .int .i64 a0_2, .int .i64 a0_3, .slice A l.length c]) ∧ Aside0 (RowAt wr g nr))
      case atStart => exact ⟨true, nearS j a0_3, rfl, ⟨by rw [if_pos rfl]; exact HNEAR.out⟩, ⟨by simp [nearS]⟩, HIa, HRa⟩
      case round =>
        obtain ⟨b, nr, rfl, HNF, HLN, HI, HRW⟩ := hrel
        clear HIa HRa
        cases b with
        | false =>
          have hnr : nr = near := by simpa using HNF.out
          subst hnr
          have hs0 := HS.out.1
          have hs1 := HS.out.2
          have hb0 : wr.cell? ⟨w.heap.size, 0, none⟩ = some (.int .i64 (j : Int)) := (blk_cell HI.out.b1 0).trans rfl
          have hb2 : wr.cell? ⟨w.heap.size, 2, none⟩ = some (.int .i64 a0_2) := (blk_cell HI.out.b1 2).trans rfl
          have hn6 : wr.cell? ⟨g + 1, 0, none⟩ = some (.slice (some ⟨g, 0, none⟩) j j) := (blk_cell HI.out.b6 0).trans rfl
          have hx := row_cell HRW.out a0_2 hs0 (by rw [HLN.out]; exact hs1)
          have hh := HH.out
          unfold nfa_Least.f at hh
          rw [HCK.out, Option.bind_some, if_pos rfl, show (j : Int).toNat = j from Int.toNat_natCast j, HNEAR.out, Option.bind_some] at hh
          by_cases q0 : rd nr a0_2 < 0
          · have d0 : decide (rd nr a0_2 < 0) = true := decide_eq_true q0
            rw [if_pos q0] at hh
            obtain rfl := Option.some.inj hh
            clear hh q0
            go_wp2
            go_ret3
            exact ⟨.slice none 0 0, rfl, Kd.R_nil _ _ _ _ _, HI.out.bl⟩
          · have d0 : decide (rd nr a0_2 < 0) = false := decide_eq_false q0
            rw [if_neg q0] at hh
            obtain ⟨b, hb, hh⟩ := Option.bind_eq_some_iff.mp hh
            obtain ⟨b', hb', hh⟩ := Option.bind_eq_some_iff.mp hh
            obtain ⟨ss, hss, hh⟩ := Option.bind_eq_some_iff.mp hh
            obtain ⟨wf, hwf, rfl⟩ := Option.map_eq_some_iff.mp hh
            have HB_ := Aside0.mk hb
            have HB' := Aside0.mk hb'
            have HSS := Aside0.mk hss
            have HWF := Aside0.mk hwf
            clear hh hb hb' hss hwf q0
            go_wp2_with (fail)
            go_at_call 54
            refine (nfa_empty.calls (j : Int) b _ HB_.out).mono ?_
            rintro e w2 ⟨v0, rfl, hRb, hb2'⟩
            have HI2 := Aside0.mk (linv_below HI.out hb2')
            have HRW2 := Aside0.mk (row_below HRW.out hb2')
            have HRb := Aside0.mk (Kd.R_lower hRb HI.out.bl.size)
            obtain ⟨Ab, cb, rfl⟩ := Kd.R_slice hRb
            have hc2 : w2.cell? ⟨w.heap.size, 2, none⟩ = some (.int .i64 a0_2) := (blk_cell HI2.out.b1 2).trans rfl
            clear hRb hb2' hb0 hb2 hn6 hx HI HRW d0
            go_wp2_with (fail)
            go_at_call 40
            refine (nfa_some_put.calls (fun k_ => some k_ = (Value.slice Ab b.length cb).ownBlock) (.slice Ab b.length cb) b a0_2 b' w _ HI2.out.bl (Kd.R_tight rfl HRb.out) HB'.out).mono ?_
            rintro e w3 ⟨rfl, hR3, hb3, hk3⟩
            have hne1 : ¬ some w.heap.size = (Value.slice Ab b.length cb).ownBlock := Kd.R_ne HRb.out HI2.out.b1 (by decide)
            have hne6 : ¬ some (g + 1) = (Value.slice Ab b.length cb).ownBlock := Kd.R_ne HRb.out HI2.out.b6 (by decide)
            have hneg : ¬ some g = (Value.slice Ab b.length cb).ownBlock := Kd.R_ne HRb.out HRW2.out (by decide)
            have HI3 : Aside0 (LInv w w3 g j #[.int .i64 (j : Int), .int .i64 a0_1, .int .i64 a0_2, .int .i64 a0_3, .slice A l.length c]) := ⟨⟨blk_kept HI2.out.b1 hk3 hne1, blk_kept HI2.out.b6 hk3 hne6, hb3⟩⟩
            have HRW3 : Aside0 (RowAt w3 g nr) := ⟨blk_kept HRW2.out hk3 hneg⟩
            have hlen : b'.length = b.length := by obtain ⟨_, _, e⟩ := Kd.R_slice hR3; injection e with _ e _; exact e.symm
            obtain ⟨hrd1, hrd2, hrd3⟩ := Kd.R_reads' hR3
            have HC3 := Aside0.mk hrd3
            have HL3 := Aside0.mk hrd2
            rw [← hlen] at HL3
            rw [← hlen]
            have hd0 : w3.cell? ⟨w.heap.size, 0, none⟩ = some (.int .i64 (j : Int)) := (blk_cell HI3.out.b1 0).trans rfl
            have hd1 : w3.cell? ⟨w.heap.size, 1, none⟩ = some (.int .i64 a0_1) := (blk_cell HI3.out.b1 1).trans rfl
            have hd2 : w3.cell? ⟨w.heap.size, 2, none⟩ = some (.int .i64 a0_2) := (blk_cell HI3.out.b1 2).trans rfl
            have hd3 : w3.cell? ⟨w.heap.size, 3, none⟩ = some (.int .i64 a0_3) := (blk_cell HI3.out.b1 3).trans rfl
            have hd4 : w3.cell? ⟨w.heap.size, 4, none⟩ = some (.slice A l.length c) := (blk_cell HI3.out.b1 4).trans rfl
            clear hR3 hb3 hk3 hne1 hne6 hneg hrd1 hrd2 hrd3 hc2 HI2 HRW2 HRb hlen
            go_wp2_with (fail)
            go_at_call 41
            refine (nfa_closed.calls k (j : Int) a0_1 a0_2 a0_3 A c l Ab cb b' ss _ (Kd.C_below HR.out HI3.out.bl) HC.out HC3.out HL3.out HSS.out).mono ?_
            rintro e w4 ⟨v13, rfl, hR4, hb4⟩
            have HI4 := Aside0.mk (linv_below HI3.out hb4)
            have HRW4 := Aside0.mk (row_below HRW3.out hb4)
            have HS4 := Aside0.mk (Kd.R_lower hR4 HI3.out.bl.size)
            have he2 : w4.cell? ⟨w.heap.size, 2, none⟩ = some (.int .i64 a0_2) := (blk_cell HI4.out.b1 2).trans rfl
            have hn4 : w4.cell? ⟨g + 1, 0, none⟩ = some (.slice (some ⟨g, 0, none⟩) j j) := (blk_cell HI4.out.b6 0).trans rfl
            have hx4 := row_cell HRW4.out a0_2 hs0 (by rw [HLN.out]; exact hs1)
            clear hR4 hb4 hd0 hd1 hd2 hd3 hd4 HC3 HL3 HI3 HRW3
            go_wp2
            have hG4 : g < w4.heap.size := blk_lt HRW4.out
            have hB4 : w.heap.size < w4.heap.size := blk_lt HI4.out.b1
            have hG14 : g + 1 < w4.heap.size := blk_lt HI4.out.b6
            go_loopg [13, 14, 15] k (fun kq v13_ v14_ v15_ wr => ∃ (left : Int) (ws : List Int) (ss_ : List Int) (gl : Nat), v15_ = .pointer (some ⟨gl, 0, none⟩) ∧ Aside0 (leastL k (j : Int) a0_1 a0_2 a0_3 l nr kq left ws ss_ = some wf) ∧ Aside0 (LInv w wr g j #[.int .i64 (j : Int), .int .i64 a0_1, .int .i64 a0_2, .int .i64 a0_3, .slice A l.length c]) ∧ Aside0 (RowAt wr g nr) ∧ Aside0 (wr.heap[gl]? = some (.cells #[.int .i64 left] 3 (0, 0))) ∧ Aside0 (g < gl ∧ w.heap.size < gl ∧ g + 1 ≠ gl) ∧ Aside0 (Kd.R (Kd.int .u64) 115 wr w.heap.size (fun _ => True) v13_ ss_) ∧ Aside0 (Kd.R (Kd.int .i64) 3 wr w.heap.size (fun q => q ≠ g ∧ q ≠ gl) v14_ ws))
            case atStart => exact ⟨wrap64 (rd nr a0_2 - 1), [], ss, w4.heap.size, rfl, HWF, ⟨linv_alloc HI4.out _⟩, ⟨row_alloc HRW4.out _⟩, ⟨blk_new _ _⟩, ⟨hG4, hB4, by omega⟩, ⟨Kd.R_alloc HS4.out _⟩, ⟨Kd.R_nil _ _ _ _ _⟩⟩
            case round =>
              obtain ⟨left, ws, s_, gl, rfl, HLL, HI, HRW, HBL, HGL, HSR, HWR⟩ := hrel
              clear HWF HI4 HRW4 HS4
              have hl15 : wr.cell? ⟨gl, 0, none⟩ = some (.int .i64 left) := (blk_cell HBL.out 0).trans rfl
              cases gk with
              | zero => exact absurd HLL.out (by simp [leastL])
              | succ J =>
                have hL := HLL.out
                clear HLL
                rw [leastL] at hL
                by_cases hleft : 0 ≤ left
                · rw [if_pos hleft] at hL
                  have dl : decide (0 ≤ left) = true := decide_eq_true hleft
                  obtain ⟨o, ho, hL⟩ := Option.bind_eq_some_iff.mp hL
                  have HOS := Aside0.mk ho
                  have HLN2 := Aside0.mk hL
                  have hs1' : wr.cell? ⟨w.heap.size, 1, none⟩ = some (.int .i64 a0_1) := (blk_cell HI.out.b1 1).trans rfl
                  clear ho hL
                  have hmy : a0_1.toNat ≤ 9223372036854775807 := by have := HY.out; omega
                  go_wp2
                  go_loopg [13, 14, 122] a0_1.toNat (fun q v13' v14' i_ wr => ∃ i : Nat, i ≤ a0_1.toNat ∧ q = a0_1.toNat - i ∧ i_ = .int .i64 i ∧ v13' = u13 ∧ v14' = u14 ∧ Aside0 (symF k (j : Int) a0_1 a0_2 a0_3 l nr left s_ (a0_1.toNat - i) i = some o) ∧ Aside0 (LInv w wr g j #[.int .i64 (j : Int), .int .i64 a0_1, .int .i64 a0_2, .int .i64 a0_3, .slice A l.length c]) ∧ Aside0 (RowAt wr g nr) ∧ Aside0 (wr.heap[gl]? = some (.cells #[.int .i64 left] 3 (0, 0))) ∧ Aside0 (Kd.R (Kd.int .u64) 115 wr w.heap.size (fun _ => True) u13 s_) ∧ Aside0 (Kd.R (Kd.int .i64) 3 wr w.heap.size (fun q => q ≠ g ∧ q ≠ gl) u14 ws))
                  case atStart => exact ⟨0, Nat.zero_le _, by omega, rfl, rfl, rfl, HOS, HI, HRW, HBL, HSR, HWR⟩
                  case round =>
                    obtain ⟨i, hi, rfl, rfl, rfl, rfl, HSF, HI, HRW, HBL, HSR, HWR⟩ := hrel
                    clear hl15 hs1' HOS dl
                    by_cases hlt : i < a0_1.toNat
                    · have di : decide ((i : Int) < a0_1) = true := decide_eq_true (by omega)
                      have hsf := HSF.out
                      obtain ⟨d, hd⟩ : ∃ d, a0_1.toNat - i = d + 1 := ⟨a0_1.toNat - i - 1, by omega⟩
                      rw [hd, symF] at hsf
                      obtain ⟨t, ht, hsf⟩ := Option.bind_eq_some_iff.mp hsf
                      obtain ⟨q, hq, hsf⟩ := Option.bind_eq_some_iff.mp hsf
                      by_cases hall : (q.all fun i => decide (0 ≤ i) && decide (i < nr.length)) = true
                      · rw [if_pos hall] at hsf
                        have HT := Aside0.mk ht
                        have HQ := Aside0.mk hq
                        have HSF2 := Aside0.mk hsf
                        have HD := Aside0.mk hd
                        have HIN : Aside0 (∀ z : Nat, z < q.length → 0 ≤ rd q z ∧ rd q z < nr.length) := ⟨fun z hz => by
                          have hm := (List.all_eq_true.mp hall) (rd q z) (by unfold rd; simp [List.getElem?_eq_getElem hz])
                          simpa using hm⟩
                        obtain ⟨As, cs, rfl⟩ := Kd.R_slice HSR.out
                        obtain ⟨_, hrd2, hrd3⟩ := Kd.R_reads' HSR.out
                        have HC3 := Aside0.mk hrd3
                        have HL3 := Aside0.mk hrd2
                        have hmf : ∀ (fn : Fn) (first cap : Array Value) (w : World), (Instr.makeFunc fn first cap).run Try.prog w = .ok (.func fn first cap) w := fun _ _ _ _ => rfl
                        have hd0 : wr.cell? ⟨w.heap.size, 0, none⟩ = some (.int .i64 (j : Int)) := (blk_cell HI.out.b1 0).trans rfl
                        have hd1 : wr.cell? ⟨w.heap.size, 1, none⟩ = some (.int .i64 a0_1) := (blk_cell HI.out.b1 1).trans rfl
                        have hd2 : wr.cell? ⟨w.heap.size, 2, none⟩ = some (.int .i64 a0_2) := (blk_cell HI.out.b1 2).trans rfl
                        have hd3 : wr.cell? ⟨w.heap.size, 3, none⟩ = some (.int .i64 a0_3) := (blk_cell HI.out.b1 3).trans rfl
                        have hd4 : wr.cell? ⟨w.heap.size, 4, none⟩ = some (.slice A l.length c) := (blk_cell HI.out.b1 4).trans rfl
                        clear ht hq hsf hd hall hrd2 hrd3
                        go_wp2_with (fail)
                        go_at_call 42
                        refine (nfa_step.calls k (j : Int) a0_1 a0_2 a0_3 A c l (i : Int) As cs s_ t _ (Kd.C_below HR.out HI.out.bl) HC.out HC3.out HL3.out HT.out).mono ?_
                        rintro e w5 ⟨v17, rfl, hR5, hb5⟩
                        have HI5 := Aside0.mk (linv_below HI.out hb5)
                        have HRW5 := Aside0.mk (row_below HRW.out hb5)
                        have HBL5 := Aside0.mk (blk_below HBL.out hb5)
                        have HSR5 := Aside0.mk (Kd.R_below HSR.out hb5)
                        have HWR5 := Aside0.mk (Kd.R_below HWR.out hb5)
                        have HTR5 := Aside0.mk (Kd.R_lower hR5 HI.out.bl.size)
                        obtain ⟨At, ct, rfl⟩ := Kd.R_slice hR5
                        obtain ⟨_, hrt2, hrt3⟩ := Kd.R_reads' hR5
                        have HCT := Aside0.mk hrt3
                        have HLT := Aside0.mk hrt2
                        clear hR5 hb5 hd0 hd1 hd2 hd3 hd4 HC3 HL3 hrt2 hrt3 HI HRW HBL HSR HWR
                        go_wp2_with (fail)
                        go_at_call 56
                        refine (nfa_some_list.calls k At ct t q _ HCT.out HLT.out HQ.out).mono ?_
                        rintro e w6 ⟨v130, rfl, hR6, hb6⟩
                        have HI6 := Aside0.mk (linv_below HI5.out hb6)
                        have HRW6 := Aside0.mk (row_below HRW5.out hb6)
                        have HBL6 := Aside0.mk (blk_below HBL5.out hb6)
                        have HSR6 := Aside0.mk (Kd.R_below HSR5.out hb6)
                        have HWR6 := Aside0.mk (Kd.R_below HWR5.out hb6)
                        have HTR6 := Aside0.mk (Kd.R_below HTR5.out hb6)
                        obtain ⟨Aq, cq, rfl⟩ := Kd.R_slice hR6
                        obtain ⟨_, _, hrq3⟩ := Kd.R_reads' hR6
                        have HCQ := Aside0.mk hrq3
                        have HHD : Aside0 (Held w6 (g + 1) gl g nr left) := ⟨⟨by rw [HLN.out]; exact HI6.out.b6, HBL6.out, HRW6.out⟩⟩
                        clear hR6 hb6 hrq3 HI5 HRW5 HBL5 HSR5 HWR5 HTR5 HCT HLT
                        go_wp2_with (fail)
                        go_at_call 55
                        refine (nearContains_calls (g + 1) gl g nr left q Aq cq _ HHD.out HCQ.out HIN.out).mono ?_
                        rintro e w7 ⟨rfl, hb7⟩
                        have HI7 := Aside0.mk (linv_below HI6.out hb7)
                        have HRW7 := Aside0.mk (row_below HRW6.out hb7)
                        have HBL7 := Aside0.mk (blk_below HBL6.out hb7)
                        have HSR7 := Aside0.mk (Kd.R_below HSR6.out hb7)
                        have HWR7 := Aside0.mk (Kd.R_below HWR6.out hb7)
                        have HTR7 := Aside0.mk (Kd.R_below HTR6.out hb7)
                        clear hb7 HI6 HRW6 HBL6 HSR6 HWR6 HTR6 HHD HCQ HIN
                        cases hany : nearAny nr left q with
                        | true =>
                          have hsf := HSF2.out
                          rw [if_pos hany] at hsf
                          obtain rfl := Option.some.inj hsf
                          have hl2 := HLN2.out
                          by_cases hwl : ws.length < 17592186044416
                          · have hl3 : leastL k (j : Int) a0_1 a0_2 a0_3 l nr J (wrap64 (left - 1)) (ws ++ [(i : Int)]) t = some wf := by simpa [hwl] using hl2
                            have HL3 := Aside0.mk hl3
                            have HWL := Aside0.mk hwl
                            clear hsf hl2 hl3 hwl hany
                            have HGL7 := Aside0.mk (And.intro (show g < w7.heap.size from blk_lt HRW7.out) (And.intro (show gl < w7.heap.size from blk_lt HBL7.out) (And.intro (show w.heap.size < w7.heap.size from blk_lt HI7.out.b1) (show g + 1 < w7.heap.size from blk_lt HI7.out.b6))))
                            go_wp2_with (at_builtin; refine Kd.R_append (Kd.int .i64) (w0 := w) w.heap.size rfl (.tmp 133) (.tmp 135) 27 3 (.int .i64 0) 8 rfl Try.underlying27 info3 rfl (by decide) (by decide) _ ws (i : Int) [.int .i64 (i : Int)] (fun q => q ≠ g ∧ q ≠ gl ∧ q ≠ w.heap.size ∧ q ≠ g + 1) (fun _ => False) rfl rfl ?aP (fun _ hk => hk.elim) ?aF ?aO ?aB ?aS ?aL ?_; (case aP => exact rfl); (case aF => exact (fun q hq => ⟨by have := HGL7.out.1; omega, by have := HGL7.out.2.1; omega, by have := HGL7.out.2.2.1; omega, by have := HGL7.out.2.2.2; omega⟩)); (case aO => exact Kd.R_mono (Kd.R_types (Kd.R_types HWR7.out HI7.out.b1 (by decide)) HI7.out.b6 (by decide)) (fun q hq => ⟨hq.1.1.1, hq.1.1.2, hq.1.2, hq.2⟩)); (case aB => exact HI7.out.bl); (case aS => exact HI7.out.bl.size); (case aL => have := HWL.out; omega); intro v1 w8 hR8 hb8 hg8 hat8; obtain ⟨Aw, cw, rfl⟩ := Kd.R_slice hR8; rw [List.length_append, List.length_singleton] at hR8; rw [List.length_append, List.length_singleton]; have hrow8 := HWR7.out.1; have HI8 : Aside0 (LInv w w8 g j #[.int .i64 (j : Int), .int .i64 a0_1, .int .i64 a0_2, .int .i64 a0_3, .slice A l.length c]) := ⟨linv_grown HI7.out hg8 (fun q hq => ⟨by rintro rfl; exact Kd.R_ne HWR7.out HI7.out.b1 (by decide) hq.symm, by rintro rfl; exact Kd.R_ne HWR7.out HI7.out.b6 (by decide) hq.symm, by obtain ⟨_, inner, hown, _⟩ := HWR7.out; exact own_base hown q hq⟩)⟩; have HRW8 : Aside0 (RowAt w8 g nr) := ⟨blk_grown HRW7.out hg8 (fun e => (hrow8 g e.symm).1 rfl)⟩; have HBL8 := Aside0.mk (blk_grown HBL7.out hg8 (fun e => (hrow8 gl e.symm).2 rfl)); have HTR8 := Aside0.mk (r115_grown HTR7.out HWR7.out hg8); have HWR8 := Aside0.mk hR8; have hm8 : w8.cell? ⟨gl, 0, none⟩ = some (.int .i64 left) := (blk_cell HBL8.out 0).trans rfl; clear hR8 hb8 hg8 hat8 hrow8)
                            go_roundg J
                            case measure => omega
                            case rel => exact ⟨wrap64 (left - 1), ws ++ [(i : Int)], t, w8.heap.size, rfl, HL3, ⟨linv_alloc HI8.out _⟩, ⟨row_alloc HRW8.out _⟩, ⟨blk_new _ _⟩, ⟨blk_lt HRW8.out, blk_lt HI8.out.b1, by have := blk_lt HI8.out.b6; omega⟩, ⟨Kd.R_alloc HTR8.out _⟩, ⟨Kd.R_alloc (Kd.R_mono (Kd.R_bound HWR8.out) (fun q hq => ⟨hq.1.1, by have := hq.2.2.1; omega⟩)) _⟩⟩
                          · exact absurd hl2 (by simp [hwl])
                        | false =>
                          have hsf := HSF2.out
                          rw [hany, if_neg (by simp)] at hsf
                          have HSF3 : Aside0 (symF k (j : Int) a0_1 a0_2 a0_3 l nr left s_ (a0_1.toNat - (i + 1)) (i + 1) = some o) := ⟨by rw [show a0_1.toNat - (i + 1) = d by have := HD.out; omega]; exact hsf⟩
                          clear hsf hany
                          go_wp2
                          go_roundg (a0_1.toNat - (i + 1))
                          case measure => omega
                          case rel => exact ⟨i + 1, by omega, rfl, by go_num, rfl, rfl, HSF3, HI7, HRW7, HBL7, HSR7, HWR7⟩
                      · rw [if_neg hall] at hsf
                        exact absurd hsf (by simp)
                    · have di : decide ((i : Int) < a0_1) = false := decide_eq_false (by omega)
                      have hsf := HSF.out
                      rw [show a0_1.toNat - i = 0 by omega, symF] at hsf
                      obtain rfl := Option.some.inj hsf
                      have HL3 := Aside0.mk HLN2.out
                      have hm15 : wr.cell? ⟨gl, 0, none⟩ = some (.int .i64 left) := (blk_cell HBL.out 0).trans rfl
                      clear hsf
                      have hgw : g < wr.heap.size := blk_lt HRW.out
                      have hbw : w.heap.size < wr.heap.size := blk_lt HI.out.b1
                      have hg1 : g + 1 < wr.heap.size := blk_lt HI.out.b6
                      have HGW := Aside0.mk (And.intro hgw (And.intro hbw hg1))
                      clear hgw hbw hg1
                      go_wp2
                      go_roundg J
                      case measure => omega
                      case rel => exact ⟨wrap64 (left - 1), ws, s_, wr.heap.size, rfl, HL3, ⟨linv_alloc HI.out _⟩, ⟨row_alloc HRW.out _⟩, ⟨blk_new _ _⟩, ⟨HGW.out.1, HGW.out.2.1, by have := HGW.out.2.2; omega⟩, ⟨Kd.R_alloc HSR.out _⟩, ⟨Kd.R_alloc (Kd.R_mono (Kd.R_bound HWR.out) (fun q hq => ⟨hq.1.1, by have := hq.2.2.1; omega⟩)) _⟩⟩
                · rw [if_neg hleft] at hL
                  have dl : decide (0 ≤ left) = false := decide_eq_false hleft
                  obtain rfl := Option.some.inj hL
                  clear hL hleft
                  go_wp2
                  go_ret3
                  exact ⟨_, rfl, Kd.R_mono HWR.out (fun _ _ => trivial), HI.out.bl⟩
        | true =>
          cases gk with
          | zero => exact absurd HNF.out (by simp [nearF])
          | succ kq =>
            have hb4 : wr.cell? ⟨w.heap.size, 4, none⟩ = some (.slice A l.length c) := (blk_cell HI.out.b1 4).trans rfl
            have HOUT := HNF
            clear HNF
            go_wp2
            go_loopg [8, 43] l.length (fun q v8 i wr => ∃ (i' : Nat) (b2 : Bool) (nr2 : List Int), i' ≤ l.length ∧ q = l.length - i' ∧ i = .int .i64 i' ∧ v8 = .bool b2 ∧ Aside0 (passF a0_1 l (nr, false) = passF a0_1 (l.drop i') (nr2, b2)) ∧ Aside0 (nr2.length = j) ∧ Aside0 (LInv w wr g j #[.int .i64 (j : Int), .int .i64 a0_1, .int .i64 a0_2, .int .i64 a0_3, .slice A l.length c]) ∧ Aside0 (RowAt wr g nr2))
            case atStart => exact ⟨0, false, nr, Nat.zero_le _, by omega, rfl, rfl, ⟨rfl⟩, HLN, HI, HRW⟩
            case round =>
              obtain ⟨i, b2, nr2, hi, rfl, rfl, rfl, HPS, HLN, HI, HRW⟩ := hrel
              clear hb4
              by_cases hlt : i < l.length
              · obtain ⟨ad, rfl, hx0, hx1, hx2⟩ := at_T78 HR.out (i : Int) (by omega) (by omega)
                rw [Int.toNat_natCast] at hx0 hx1 hx2
                have hy0 := pw_cell_below HI.out.bl hx0
                have hy1 := pw_cell_below HI.out.bl hx1
                have hy2 := pw_cell_below HI.out.bl hx2
                obtain ⟨⟨p0, p1⟩, ⟨p2, p3⟩, p4, p5⟩ := of_decide_eq_true (HARC.out i hlt)
                have hw1 : ∀ o : Obj, (wr.alloc o).cell? ⟨w.heap.size, 1, none⟩ = some (.int .i64 a0_1) := fun o => (blk_cell (blk_alloc HI.out.b1 o) 1).trans rfl
                have hw6 : ∀ o : Obj, (wr.alloc o).cell? ⟨g + 1, 0, none⟩ = some (.slice (some ⟨g, 0, none⟩) j j) := fun o => (blk_cell (blk_alloc HI.out.b6 o) 0).trans rfl
                have hr2 : ∀ o : Obj, (wr.alloc o).cell? ⟨g, (rd_T78 l i).f2.toNat, none⟩ = some (.int .i64 (rd nr2 (rd_T78 l i).f2)) := fun o => row_cell (row_alloc HRW.out o) _ p2 (by rw [HLN.out]; exact p3)
                have hr0 : ∀ o : Obj, (wr.alloc o).cell? ⟨g, (rd_T78 l i).f0.toNat, none⟩ = some (.int .i64 (rd nr2 (rd_T78 l i).f0)) := fun o => row_cell (row_alloc HRW.out o) _ p0 (by rw [HLN.out]; exact p1)
                have hz0 : ∀ o : Obj, (wr.alloc o).frozen? ⟨g, (rd_T78 l i).f0.toNat, none⟩ = false := fun o => blk_frozen (row_alloc HRW.out o) _
                clear hx0 hx1 hx2 p4 p5
                by_cases q1 : (rd_T78 l i).f1 = -1
                · have e1 : ((rd_T78 l i).f1 == -1) = true := by simp [q1]
                  have e2 : ((rd_T78 l i).f1 == -2) = false := by simp [q1]
                  by_cases q3 : rd nr2 (rd_T78 l i).f2 < 0
                  · have d1 : decide (rd nr2 (rd_T78 l i).f2 < 0) = true := decide_eq_true q3
                    have HX := Aside0.mk (relax_skip (sy := a0_1) (p := (nr2, b2)) (x := (rd_T78 l i)) (Or.inr q3))
                    have HP2 := Aside0.mk (HPS.out.trans ((passF_step a0_1 l i (nr2, b2) hlt).trans (by rw [HX.out])))
                    clear HX
                    try clear q1
                    try clear q2
                    try clear q3
                    try clear q4
                    try clear q5
                    try clear q6
                    go_wp2
                    go_roundg (l.length - (i + 1))
                    case measure => omega
                    case rel => exact ⟨i + 1, b2, nr2, by omega, rfl, by go_num, rfl, HP2, HLN, ⟨linv_alloc HI.out _⟩, ⟨row_alloc HRW.out _⟩⟩
                  · have d1 : decide (rd nr2 (rd_T78 l i).f2 < 0) = false := decide_eq_false q3
                    have q6 : ¬ ((rd_T78 l i).f1 = -2 ∧ a0_1 = 0 ∨ rd nr2 (rd_T78 l i).f2 < 0) := by omega
                    obtain ⟨n, hn⟩ : ∃ n, wrap64 (rd nr2 (rd_T78 l i).f2) = n := ⟨_, rfl⟩
                    have hnn : wrap64 (rd nr2 (rd_T78 l i).f2 + (if (rd_T78 l i).f1 = -1 then 0 else 1)) = n := by rw [← hn]; simp [q1]
                    by_cases q4 : rd nr2 (rd_T78 l i).f0 < 0
                    · have d2 : decide (rd nr2 (rd_T78 l i).f0 < 0) = true := decide_eq_true q4
                      have HX := Aside0.mk (relax_set (sy := a0_1) (p := (nr2, b2)) (x := (rd_T78 l i)) n (q6) hnn (Or.inl q4))
                      have HP2 := Aside0.mk (HPS.out.trans ((passF_step a0_1 l i (nr2, b2) hlt).trans (by rw [HX.out])))
                      clear hnn HX
                      try clear q1
                      try clear q2
                      try clear q3
                      try clear q4
                      try clear q5
                      try clear q6
                      go_wp2
                      go_roundg (l.length - (i + 1))
                      case measure => omega
                      case rel => exact ⟨i + 1, true, nr2.set (rd_T78 l i).f0.toNat n, by omega, rfl, by go_num, rfl, HP2, ⟨by rw [List.length_set]; exact HLN.out⟩, ⟨linv_set (linv_alloc HI.out _) (by have := HGT.out; show w.heap.size ≤ g; omega) (by have := HGT.out; show w.heap.size ≠ g; omega) (by show g + 1 ≠ g; omega) _⟩, ⟨row_set (row_alloc HRW.out _) _ _⟩⟩
                    · have d2 : decide (rd nr2 (rd_T78 l i).f0 < 0) = false := decide_eq_false q4
                      by_cases q5 : n < rd nr2 (rd_T78 l i).f0
                      · have d3 : decide (n < rd nr2 (rd_T78 l i).f0) = true := decide_eq_true q5
                        have HX := Aside0.mk (relax_set (sy := a0_1) (p := (nr2, b2)) (x := (rd_T78 l i)) n (q6) hnn (Or.inr q5))
                        have HP2 := Aside0.mk (HPS.out.trans ((passF_step a0_1 l i (nr2, b2) hlt).trans (by rw [HX.out])))
                        clear hnn HX
                        try clear q1
                        try clear q2
                        try clear q3
                        try clear q4
                        try clear q5
                        try clear q6
                        go_wp2
                        go_roundg (l.length - (i + 1))
                        case measure => omega
                        case rel => exact ⟨i + 1, true, nr2.set (rd_T78 l i).f0.toNat n, by omega, rfl, by go_num, rfl, HP2, ⟨by rw [List.length_set]; exact HLN.out⟩, ⟨linv_set (linv_alloc HI.out _) (by have := HGT.out; show w.heap.size ≤ g; omega) (by have := HGT.out; show w.heap.size ≠ g; omega) (by show g + 1 ≠ g; omega) _⟩, ⟨row_set (row_alloc HRW.out _) _ _⟩⟩
                      · have d3 : decide (n < rd nr2 (rd_T78 l i).f0) = false := decide_eq_false q5
                        have HX := Aside0.mk (relax_keep (sy := a0_1) (p := (nr2, b2)) (x := (rd_T78 l i)) n (q6) hnn (fun q => q.elim q4 q5))
                        have HP2 := Aside0.mk (HPS.out.trans ((passF_step a0_1 l i (nr2, b2) hlt).trans (by rw [HX.out])))
                        clear hnn HX
                        try clear q1
                        try clear q2
                        try clear q3
                        try clear q4
                        try clear q5
                        try clear q6
                        go_wp2
                        go_roundg (l.length - (i + 1))
                        case measure => omega
                        case rel => exact ⟨i + 1, b2, nr2, by omega, rfl, by go_num, rfl, HP2, HLN, ⟨linv_alloc HI.out _⟩, ⟨row_alloc HRW.out _⟩⟩
                · have e1 : ((rd_T78 l i).f1 == -1) = false := by simp [q1]
                  by_cases q2 : (rd_T78 l i).f1 = -2
                  · have e2 : ((rd_T78 l i).f1 == -2) = true := by simp [q2]
                    by_cases q7 : a0_1 = 0
                    · have e3 : (a0_1 == 0) = true := by simp [q7]
                      have HX := Aside0.mk (relax_skip (sy := a0_1) (p := (nr2, b2)) (x := (rd_T78 l i)) (Or.inl ⟨q2, q7⟩))
                      have HP2 := Aside0.mk (HPS.out.trans ((passF_step a0_1 l i (nr2, b2) hlt).trans (by rw [HX.out])))
                      clear HX
                      try clear q1
                      try clear q2
                      try clear q3
                      try clear q4
                      try clear q5
                      try clear q6
                      go_wp2
                      go_roundg (l.length - (i + 1))
                      case measure => omega
                      case rel => exact ⟨i + 1, b2, nr2, by omega, rfl, by go_num, rfl, HP2, HLN, ⟨linv_alloc HI.out _⟩, ⟨row_alloc HRW.out _⟩⟩
                    · have e3 : (a0_1 == 0) = false := by simp [q7]
                      by_cases q3 : rd nr2 (rd_T78 l i).f2 < 0
                      · have d1 : decide (rd nr2 (rd_T78 l i).f2 < 0) = true := decide_eq_true q3
                        have HX := Aside0.mk (relax_skip (sy := a0_1) (p := (nr2, b2)) (x := (rd_T78 l i)) (Or.inr q3))
                        have HP2 := Aside0.mk (HPS.out.trans ((passF_step a0_1 l i (nr2, b2) hlt).trans (by rw [HX.out])))
                        clear HX
                        try clear q1
                        try clear q2
                        try clear q3
                        try clear q4
                        try clear q5
                        try clear q6
                        go_wp2
                        go_roundg (l.length - (i + 1))
                        case measure => omega
                        case rel => exact ⟨i + 1, b2, nr2, by omega, rfl, by go_num, rfl, HP2, HLN, ⟨linv_alloc HI.out _⟩, ⟨row_alloc HRW.out _⟩⟩
                      · have d1 : decide (rd nr2 (rd_T78 l i).f2 < 0) = false := decide_eq_false q3
                        have q6 : ¬ ((rd_T78 l i).f1 = -2 ∧ a0_1 = 0 ∨ rd nr2 (rd_T78 l i).f2 < 0) := by omega
                        obtain ⟨n, hn⟩ : ∃ n, wrap64 (rd nr2 (rd_T78 l i).f2 + 1) = n := ⟨_, rfl⟩
                        have hnn : wrap64 (rd nr2 (rd_T78 l i).f2 + (if (rd_T78 l i).f1 = -1 then 0 else 1)) = n := by rw [← hn]; simp [q1]
                        by_cases q4 : rd nr2 (rd_T78 l i).f0 < 0
                        · have d2 : decide (rd nr2 (rd_T78 l i).f0 < 0) = true := decide_eq_true q4
                          have HX := Aside0.mk (relax_set (sy := a0_1) (p := (nr2, b2)) (x := (rd_T78 l i)) n (q6) hnn (Or.inl q4))
                          have HP2 := Aside0.mk (HPS.out.trans ((passF_step a0_1 l i (nr2, b2) hlt).trans (by rw [HX.out])))
                          clear hnn HX
                          try clear q1
                          try clear q2
                          try clear q3
                          try clear q4
                          try clear q5
                          try clear q6
                          go_wp2
                          go_roundg (l.length - (i + 1))
                          case measure => omega
                          case rel => exact ⟨i + 1, true, nr2.set (rd_T78 l i).f0.toNat n, by omega, rfl, by go_num, rfl, HP2, ⟨by rw [List.length_set]; exact HLN.out⟩, ⟨linv_set (linv_alloc HI.out _) (by have := HGT.out; show w.heap.size ≤ g; omega) (by have := HGT.out; show w.heap.size ≠ g; omega) (by show g + 1 ≠ g; omega) _⟩, ⟨row_set (row_alloc HRW.out _) _ _⟩⟩
                        · have d2 : decide (rd nr2 (rd_T78 l i).f0 < 0) = false := decide_eq_false q4
                          by_cases q5 : n < rd nr2 (rd_T78 l i).f0
                          · have d3 : decide (n < rd nr2 (rd_T78 l i).f0) = true := decide_eq_true q5
                            have HX := Aside0.mk (relax_set (sy := a0_1) (p := (nr2, b2)) (x := (rd_T78 l i)) n (q6) hnn (Or.inr q5))
                            have HP2 := Aside0.mk (HPS.out.trans ((passF_step a0_1 l i (nr2, b2) hlt).trans (by rw [HX.out])))
                            clear hnn HX
                            try clear q1
                            try clear q2
                            try clear q3
                            try clear q4
                            try clear q5
                            try clear q6
                            go_wp2
                            go_roundg (l.length - (i + 1))
                            case measure => omega
                            case rel => exact ⟨i + 1, true, nr2.set (rd_T78 l i).f0.toNat n, by omega, rfl, by go_num, rfl, HP2, ⟨by rw [List.length_set]; exact HLN.out⟩, ⟨linv_set (linv_alloc HI.out _) (by have := HGT.out; show w.heap.size ≤ g; omega) (by have := HGT.out; show w.heap.size ≠ g; omega) (by show g + 1 ≠ g; omega) _⟩, ⟨row_set (row_alloc HRW.out _) _ _⟩⟩
                          · have d3 : decide (n < rd nr2 (rd_T78 l i).f0) = false := decide_eq_false q5
                            have HX := Aside0.mk (relax_keep (sy := a0_1) (p := (nr2, b2)) (x := (rd_T78 l i)) n (q6) hnn (fun q => q.elim q4 q5))
                            have HP2 := Aside0.mk (HPS.out.trans ((passF_step a0_1 l i (nr2, b2) hlt).trans (by rw [HX.out])))
                            clear hnn HX
                            try clear q1
                            try clear q2
                            try clear q3
                            try clear q4
                            try clear q5
                            try clear q6
                            go_wp2
                            go_roundg (l.length - (i + 1))
                            case measure => omega
                            case rel => exact ⟨i + 1, b2, nr2, by omega, rfl, by go_num, rfl, HP2, HLN, ⟨linv_alloc HI.out _⟩, ⟨row_alloc HRW.out _⟩⟩
                  · have e2 : ((rd_T78 l i).f1 == -2) = false := by simp [q2]
                    by_cases q3 : rd nr2 (rd_T78 l i).f2 < 0
                    · have d1 : decide (rd nr2 (rd_T78 l i).f2 < 0) = true := decide_eq_true q3
                      have HX := Aside0.mk (relax_skip (sy := a0_1) (p := (nr2, b2)) (x := (rd_T78 l i)) (Or.inr q3))
                      have HP2 := Aside0.mk (HPS.out.trans ((passF_step a0_1 l i (nr2, b2) hlt).trans (by rw [HX.out])))
                      clear HX
                      try clear q1
                      try clear q2
                      try clear q3
                      try clear q4
                      try clear q5
                      try clear q6
                      go_wp2
                      go_roundg (l.length - (i + 1))
                      case measure => omega
                      case rel => exact ⟨i + 1, b2, nr2, by omega, rfl, by go_num, rfl, HP2, HLN, ⟨linv_alloc HI.out _⟩, ⟨row_alloc HRW.out _⟩⟩
                    · have d1 : decide (rd nr2 (rd_T78 l i).f2 < 0) = false := decide_eq_false q3
                      have q6 : ¬ ((rd_T78 l i).f1 = -2 ∧ a0_1 = 0 ∨ rd nr2 (rd_T78 l i).f2 < 0) := by omega
                      obtain ⟨n, hn⟩ : ∃ n, wrap64 (rd nr2 (rd_T78 l i).f2 + 1) = n := ⟨_, rfl⟩
                      have hnn : wrap64 (rd nr2 (rd_T78 l i).f2 + (if (rd_T78 l i).f1 = -1 then 0 else 1)) = n := by rw [← hn]; simp [q1]
                      by_cases q4 : rd nr2 (rd_T78 l i).f0 < 0
                      · have d2 : decide (rd nr2 (rd_T78 l i).f0 < 0) = true := decide_eq_true q4
                        have HX := Aside0.mk (relax_set (sy := a0_1) (p := (nr2, b2)) (x := (rd_T78 l i)) n (q6) hnn (Or.inl q4))
                        have HP2 := Aside0.mk (HPS.out.trans ((passF_step a0_1 l i (nr2, b2) hlt).trans (by rw [HX.out])))
                        clear hnn HX
                        try clear q1
                        try clear q2
                        try clear q3
                        try clear q4
                        try clear q5
                        try clear q6
                        go_wp2
                        go_roundg (l.length - (i + 1))
                        case measure => omega
                        case rel => exact ⟨i + 1, true, nr2.set (rd_T78 l i).f0.toNat n, by omega, rfl, by go_num, rfl, HP2, ⟨by rw [List.length_set]; exact HLN.out⟩, ⟨linv_set (linv_alloc HI.out _) (by have := HGT.out; show w.heap.size ≤ g; omega) (by have := HGT.out; show w.heap.size ≠ g; omega) (by show g + 1 ≠ g; omega) _⟩, ⟨row_set (row_alloc HRW.out _) _ _⟩⟩
                      · have d2 : decide (rd nr2 (rd_T78 l i).f0 < 0) = false := decide_eq_false q4
                        by_cases q5 : n < rd nr2 (rd_T78 l i).f0
                        · have d3 : decide (n < rd nr2 (rd_T78 l i).f0) = true := decide_eq_true q5
                          have HX := Aside0.mk (relax_set (sy := a0_1) (p := (nr2, b2)) (x := (rd_T78 l i)) n (q6) hnn (Or.inr q5))
                          have HP2 := Aside0.mk (HPS.out.trans ((passF_step a0_1 l i (nr2, b2) hlt).trans (by rw [HX.out])))
                          clear hnn HX
                          try clear q1
                          try clear q2
                          try clear q3
                          try clear q4
                          try clear q5
                          try clear q6
                          go_wp2
                          go_roundg (l.length - (i + 1))
                          case measure => omega
                          case rel => exact ⟨i + 1, true, nr2.set (rd_T78 l i).f0.toNat n, by omega, rfl, by go_num, rfl, HP2, ⟨by rw [List.length_set]; exact HLN.out⟩, ⟨linv_set (linv_alloc HI.out _) (by have := HGT.out; show w.heap.size ≤ g; omega) (by have := HGT.out; show w.heap.size ≠ g; omega) (by show g + 1 ≠ g; omega) _⟩, ⟨row_set (row_alloc HRW.out _) _ _⟩⟩
                        · have d3 : decide (n < rd nr2 (rd_T78 l i).f0) = false := decide_eq_false q5
                          have HX := Aside0.mk (relax_keep (sy := a0_1) (p := (nr2, b2)) (x := (rd_T78 l i)) n (q6) hnn (fun q => q.elim q4 q5))
                          have HP2 := Aside0.mk (HPS.out.trans ((passF_step a0_1 l i (nr2, b2) hlt).trans (by rw [HX.out])))
                          clear hnn HX
                          try clear q1
                          try clear q2
                          try clear q3
                          try clear q4
                          try clear q5
                          try clear q6
                          go_wp2
                          go_roundg (l.length - (i + 1))
                          case measure => omega
                          case rel => exact ⟨i + 1, b2, nr2, by omega, rfl, by go_num, rfl, HP2, HLN, ⟨linv_alloc HI.out _⟩, ⟨row_alloc HRW.out _⟩⟩
              · obtain rfl : i = l.length := by omega
                have HEND := Aside0.mk (HPS.out.trans (passF_end a0_1 l l.length (nr2, b2) (Nat.le_refl _)))
                have HNX : Aside0 (if b2 = true then nearF a0_1 l kq nr2 = some near else nr2 = near) := ⟨by
                  have h : nearF a0_1 l (kq + 1) nr = some near := by simpa using HOUT.out
                  rw [nearF, HEND.out] at h
                  cases b2 with
                  | true => rw [if_pos rfl]; rw [if_pos rfl] at h; exact h
                  | false => rw [if_neg (by simp)]; rw [if_neg (by simp)] at h; exact Option.some.inj h⟩
                go_wp2
                go_roundg kq
                case measure => omega
                case rel => exact ⟨b2, nr2, rfl, HNX, HLN, HI, HRW⟩
set_option maxRecDepth 100000 in
set_option maxHeartbeats 1600000 in
theorem nfa_Least.calls (k : Nat) (a0_0 : Int) (a0_1 : Int) (a0_2 : Int) (a0_3 : Int) (A0_4 : Option Addr) (c0_4 : Nat) (l0_4 : List (S78)) (r1 : List Int) (r2 : Bool) (r3 : Int) (w : World) (hr0_4 : Kd.C k78 w A0_4 l0_4.length l0_4) (hc0_4 : l0_4.length ≤ c0_4) (h : nfa_Least.f k a0_0 a0_1 a0_2 a0_3 l0_4 = some (r1, r2, r3)) :
    Calls Try.prog 22 #[.agg #[.int .i64 a0_0, .int .i64 a0_1, .int .i64 a0_2, .int .i64 a0_3, .slice A0_4 l0_4.length c0_4]] w fun e w' => ∃ v0_ : Value, e = .returned (.tuple #[v0_, .bool r2, .int .i64 r3]) ∧ Kd.R (Kd.int .i64) 3 w' w.heap.size (fun _ => True) v0_ r1 ∧ Below w.heap.size w w' := by
  have h0 := h
  unfold nfa_Least.f at h0
  obtain ⟨cc, hcc, h0⟩ := Option.bind_eq_some_iff.mp h0
  by_cases hc : cc = 0
  · subst hc
    rw [if_pos rfl] at h0
    obtain ⟨near, hnear, _⟩ := Option.bind_eq_some_iff.mp h0
    have hck := hcc
    unfold nfa_Check.f at hck
    have hck := Option.some.inj hck
    by_cases b1 : 65536 < l0_4.length
    · rw [if_pos b1] at hck; exact absurd hck (by decide)
    · rw [if_neg b1] at hck
      by_cases b2 : nfa_headOk a0_0 a0_1 a0_2 a0_3 = true
      · rw [if_pos b2] at hck
        by_cases b3 : l0_4.all (nfa_arcOk a0_0 a0_1) = true
        · obtain ⟨m, rfl⟩ := Int.eq_ofNat_of_zero_le (show 0 ≤ a0_0 by have := (of_decide_eq_true b2).1; omega)
          refine (least_walk k m a0_1 a0_2 a0_3 A0_4 c0_4 l0_4 w hr0_4 hc0_4 b2 (fun j hj => ?_) hcc near (by rw [show m = ((m : Nat) : Int).toNat by simp]; exact hnear) (r1, r2, r3) h).mono fun _ _ q => q
          exact (List.all_eq_true.mp b3) (rd_T78 l0_4 j) (by unfold rd_T78; simp [List.getElem?_eq_getElem hj])
        · rw [if_neg b3] at hck; exact absurd hck (by decide)
      · rw [if_neg b2] at hck; exact absurd hck (by decide)
  · rw [if_neg hc] at h0
    have e := Option.some.inj h0
    injection e with e1 e2
    injection e2 with e2 e3
    subst e1; subst e2; subst e3
    have HCC := Aside0.mk hcc
    have HR := Aside0.mk hr0_4
    have HL := Aside0.mk hc0_4
    have hne : (cc != 0) = true := by simp [hc]
    clear h h0 hcc hr0_4 hc0_4 hc
    go_enter Try.func22, Try.ntmps22
    go_wp2_with (go_at_call 31; refine (nfa_Check.calls a0_0 a0_1 a0_2 a0_3 A0_4 c0_4 l0_4 cc _ (Kd.C_below HR.out (below_alloc (Below.refl _ _) _)) HL.out HCC.out).mono ?_; rintro e w1 ⟨rfl, hb1⟩; have HB1 := Aside0.mk (below_then (below_alloc (Below.refl _ _) _) (by simp) hb1); clear hb1)
    go_ret3
    exact ⟨.slice none 0 0, rfl, Kd.R_nil _ _ _ _ _, HB1.out⟩
theorem nearF_mono (sy : Int) (xs : List S78) : ∀ (j : Nat) (near : List Int), LeO (nearF sy xs j near) (nearF sy xs (j + 1) near)
  | 0, _ => LeO.none _
  | j + 1, near => by
    rw [nearF, nearF]
    exact LeO.ite (nearF_mono sy xs j _) (LeO.refl _)
theorem symF_mono (k : Nat) (a0_0 a0_1 a0_2 a0_3 : Int) (l : List S78) (near : List Int) (left : Int) (s : List Int) : ∀ (d j : Nat), LeO (symF k a0_0 a0_1 a0_2 a0_3 l near left s d j) (symF (k + 1) a0_0 a0_1 a0_2 a0_3 l near left s d j)
  | 0, _ => LeO.refl _
  | d + 1, j => by
    rw [symF, symF]
    refine LeO.bind (nfa_step.mono _ _ _ _ _ _ _ k) fun t => LeO.bind (nfa_some_list.mono _ k) fun q => LeO.ite (LeO.ite (LeO.refl _) (symF_mono k a0_0 a0_1 a0_2 a0_3 l near left s d (j + 1))) (LeO.refl _)
theorem leastL_mono (k : Nat) (a0_0 a0_1 a0_2 a0_3 : Int) (l : List S78) (near : List Int) : ∀ (J : Nat) (left : Int) (w s : List Int), LeO (leastL k a0_0 a0_1 a0_2 a0_3 l near J left w s) (leastL (k + 1) a0_0 a0_1 a0_2 a0_3 l near (J + 1) left w s)
  | 0, _, _, _ => LeO.none _
  | J + 1, left, w, s => by
    rw [leastL, leastL]
    refine LeO.ite (LeO.bind (symF_mono k a0_0 a0_1 a0_2 a0_3 l near left s _ _) fun o => ?_) (LeO.refl _)
    cases o with
    | none => exact leastL_mono k a0_0 a0_1 a0_2 a0_3 l near J _ _ _
    | some p => exact LeO.ite (leastL_mono k a0_0 a0_1 a0_2 a0_3 l near J _ _ _) (LeO.refl _)
theorem nfa_Least.mono : ∀ a0 a1 a2 a3 a4 k, LeO (nfa_Least.f k a0 a1 a2 a3 a4) (nfa_Least.f (k + 1) a0 a1 a2 a3 a4) := by
  intro a0 a1 a2 a3 a4 k
  unfold nfa_Least.f
  refine LeO.bind (LeO.refl _) fun c => LeO.ite (LeO.bind (nearF_mono _ _ k _) fun near => LeO.ite (LeO.refl _) (LeO.bind (LeO.refl _) fun b => LeO.bind (LeO.refl _) fun b => LeO.bind (nfa_closed.mono _ _ _ _ _ _ k) fun s => LeO.map _ (leastL_mono k _ _ _ _ _ _ k _ _ _))) (LeO.refl _)
end Go.Proofs.Ytapinbmkjkbkkaa.Ls
namespace Go.Proofs.Ytapinbmkjkbkkaa.Mk
open Go.RowKit Go.Proofs.YtapinbmkjkbkkaaW.PrintWords Go.Proofs.YtapinbmkjkbkkaaW.PrintLast Go.Proofs.YtapinbmkjkbkkaaW.PrintMore Lb Ls
def exB : ByteArray := ⟨#[98]⟩
def exA : ByteArray := ⟨#[97]⟩
def ex0 : ByteArray := ⟨#[]⟩
def exK1 : List S25 := [⟨1, exB, []⟩, ⟨3, ex0, []⟩]
def exK3 : List S25 := [⟨1, exA, []⟩, ⟨6, ex0, exK1⟩]
def exR : S25 := ⟨5, ex0, exK3⟩
def exArcs : List S78 := [⟨0, 0, 2⟩, ⟨2, -1, 3⟩, ⟨3, 1, 4⟩, ⟨4, -1, 1⟩, ⟨2, -1, 5⟩, ⟨5, -1, 6⟩, ⟨6, -1, 1⟩]
def noNot : St → Int → Int → St → Option St := fun _ _ _ s => some s
theorem ex_alone : aloneF ([exA, exB].map nk) noNot exR = some (7, exArcs) := by kernel_rfl
theorem ex_check : checkF 10 exR.f0 exR.f1 exR.f2 = some 0 := by kernel_rfl
theorem ex_names : namesOkF [] [exA, exB] = true := by kernel_rfl
theorem ex_run1 : nfa_Run.f 30 7 2 0 1 exArcs [0, 1] = some (true, 0) := by kernel_rfl
theorem ex_run2 : nfa_Run.f 30 7 2 0 1 exArcs [1] = some (false, 0) := by kernel_rfl
theorem ex_least : nfa_Least.f 80 7 2 0 1 exArcs = some ([0], true, 0) := by kernel_rfl
def exV (B3 : Nat) : Value := .agg #[.int .i64 5, .string ⟨#[]⟩, .slice (some ⟨B3, 0, none⟩) 2 2]
def exC3 (B1 : Nat) : Array Value := #[.int .i64 1, .string ⟨#[97]⟩, .slice none 0 0, .int .i64 6, .string ⟨#[]⟩, .slice (some ⟨B1, 0, none⟩) 2 2]
def exC1 : Array Value := #[.int .i64 1, .string ⟨#[98]⟩, .slice none 0 0, .int .i64 3, .string ⟨#[]⟩, .slice none 0 0]
set_option maxHeartbeats 800000 in
theorem example_calls (w : World) : Calls Try.prog 33 #[] w fun e w' => ∃ B3 B1 : Nat, e = .returned (exV B3) ∧ w'.heap[B1]? = some (.cells exC1 25 (0, 0)) ∧ w'.heap[B3]? = some (.cells (exC3 B1) 25 (0, 0)) ∧ Below w.heap.size w w' := by
  go_enter Try.func33, Try.ntmps33
  go_wp2
  refine bodyPost_ret (v := exV (w.heap.size + 1 + 1 + 1)) (by simp [results, Try.results33, go_sem, exV]) rfl ⟨w.heap.size + 1 + 1 + 1, w.heap.size + 1, rfl, ?_, ?_, ?_⟩
  · show ((((w.heap.push _).push _).push _).push _)[w.heap.size + 1]? = _
    rw [Array.getElem?_push, if_neg (by simp), Array.getElem?_push, if_neg (by simp), Array.getElem?_push, if_pos (by simp)]
    rfl
  · show ((((w.heap.push _).push _).push _).push _)[w.heap.size + 1 + 1 + 1]? = _
    rw [Array.getElem?_push, if_pos (by simp)]
    rfl
  · repeat (first | exact Below.refl _ _ | apply below_alloc | apply below_drew1)
theorem c25_nil (w : World) : Kd.C k25 w none ([] : List S25).length [] := Kd.C_nil _ _
theorem ex_C1 {w : World} {B1 : Nat} (h : w.heap[B1]? = some (.cells exC1 25 (0, 0))) : Kd.C k25 w (some ⟨B1, 0, none⟩) exK1.length exK1 := by
  refine ⟨rfl, by decide, fun _ => ⟨⟨B1, 0, none⟩, rfl, fun j p hj => ?_⟩⟩
  match j, hj with
  | 0, hj =>
    obtain rfl := Option.some.inj hj
    refine ⟨_, rfl, k25_mk w ⟨1, exB, []⟩ (A2 := none) (c2 := 0) (Nat.le_refl _) (c25_nil w), fun i u hu => ?_⟩
    rw [add_plain, blk_cell h]
    match i, hu with
    | 0, hu => exact hu
    | 1, hu => exact hu
    | 2, hu => exact hu
    | i + 3, hu => simp at hu
  | 1, hj =>
    obtain rfl := Option.some.inj hj
    refine ⟨_, rfl, k25_mk w ⟨3, ex0, []⟩ (A2 := none) (c2 := 0) (Nat.le_refl _) (c25_nil w), fun i u hu => ?_⟩
    rw [add_plain, blk_cell h]
    match i, hu with
    | 0, hu => exact hu
    | 1, hu => exact hu
    | 2, hu => exact hu
    | i + 3, hu => simp at hu
  | j + 2, hj => simp [exK1] at hj
theorem ex_C3 {w : World} {B1 B3 : Nat} (h1 : w.heap[B1]? = some (.cells exC1 25 (0, 0))) (h : w.heap[B3]? = some (.cells (exC3 B1) 25 (0, 0))) : Kd.C k25 w (some ⟨B3, 0, none⟩) exK3.length exK3 := by
  refine ⟨rfl, by decide, fun _ => ⟨⟨B3, 0, none⟩, rfl, fun j p hj => ?_⟩⟩
  match j, hj with
  | 0, hj =>
    obtain rfl := Option.some.inj hj
    refine ⟨_, rfl, k25_mk w ⟨1, exA, []⟩ (A2 := none) (c2 := 0) (Nat.le_refl _) (c25_nil w), fun i u hu => ?_⟩
    rw [add_plain, blk_cell h]
    match i, hu with
    | 0, hu => exact hu
    | 1, hu => exact hu
    | 2, hu => exact hu
    | i + 3, hu => simp at hu
  | 1, hj =>
    obtain rfl := Option.some.inj hj
    refine ⟨_, rfl, k25_mk w ⟨6, ex0, exK1⟩ (A2 := some ⟨B1, 0, none⟩) (c2 := 2) (Nat.le_refl _) (ex_C1 h1), fun i u hu => ?_⟩
    rw [add_plain, blk_cell h]
    match i, hu with
    | 0, hu => exact hu
    | 1, hu => exact hu
    | 2, hu => exact hu
    | i + 3, hu => simp at hu
  | j + 2, hj => simp [exK3] at hj
theorem ex_make (nm : List (List UInt8)) : MakeOk nm noNot exR := by
  refine make_seq ex0 exK3 (fun k hk => ?_)
  rcases List.mem_cons.mp hk with rfl | hk
  · exact make_name exA [] (by decide)
  · rcases List.mem_cons.mp hk with rfl | hk
    · refine make_alt ex0 exK1 (fun k hk => ?_)
      rcases List.mem_cons.mp hk with rfl | hk
      · exact make_name exB [] (by decide)
      · rcases List.mem_cons.mp hk with rfl | hk
        · exact make_arc 3 ex0 [] (.inr rfl)
        · cases hk
    · cases hk
set_option maxHeartbeats 1600000 in
theorem ex_build {w0 w : World} {B1 B3 : Nat} (An : Option Addr) (cn : Nat) (h1 : w.heap[B1]? = some (.cells exC1 25 (0, 0))) (h3 : w.heap[B3]? = some (.cells (exC3 B1) 25 (0, 0))) (hn : Kd.C Kd.string w An [exA, exB].length [exA, exB]) :
    Calls Try.prog 11 #[exV B3, .slice An 2 cn] w fun e w' => FinB w 7 2 0 1 exArcs 0 e w' := by
  refine (build_names 10 exR (some ⟨B3, 0, none⟩) 2 [exA, exB] An cn noNot w (ex_C3 h1 h3) (Nat.le_refl _) hn (fun i => ?_) ex_check (alone_calls exR (ex_make _)) _ ?_ ?_ ?_)
  · unfold rdOf
    match i.toNat with
    | 0 => decide
    | 1 => decide
    | j + 2 => show (ByteArray.empty).size ≤ _; decide
  · rintro (h | h)
    · simp at h
    · rw [ex_names] at h; cases h
  · intro _ _ h
    rw [ex_alone] at h; cases h
  · intro _ _ s hs e W' hF
    rw [ex_alone] at hs
    obtain rfl := Option.some.inj hs
    exact hF
theorem names_C {w : World} {b : Nat} (h : w.heap[b]? = some (.cells #[.string exA, .string exB] 9 (0, 0))) : Kd.C Kd.string w (some ⟨b, 0, none⟩) [exA, exB].length [exA, exB] := by
  refine ⟨rfl, by decide, fun _ => ⟨⟨b, 0, none⟩, rfl, fun j p hj => ?_⟩⟩
  match j, hj with
  | 0, hj =>
    obtain rfl := Option.some.inj hj
    refine ⟨[.string exA], rfl, rfl, fun i u hu => ?_⟩
    rw [add_plain, blk_cell h]
    match i, hu with
    | 0, hu => exact hu
    | i + 1, hu => simp at hu
  | 1, hj =>
    obtain rfl := Option.some.inj hj
    refine ⟨[.string exB], rfl, rfl, fun i u hu => ?_⟩
    rw [add_plain, blk_cell h]
    match i, hu with
    | 0, hu => exact hu
    | i + 1, hu => simp at hu
  | j + 2, hj => simp at hj
theorem ints_C {w : World} {b : Nat} {xs : List Int} (h : w.heap[b]? = some (.cells (nums .i64 xs).toArray 3 (0, 0))) (hl : xs.length ≤ 9223372036854775807) : Kd.C (Kd.int .i64) w (some ⟨b, 0, none⟩) xs.length xs := by
  refine ⟨rfl, hl, fun _ => ⟨⟨b, 0, none⟩, rfl, fun j p hj => ⟨[.int .i64 p], rfl, rfl, fun i u hu => ?_⟩⟩⟩
  rw [add_plain, blk_cell h]
  match i, hu with
  | 0, hu =>
    show (nums .i64 xs).toArray[j * 1 + 0]? = some u
    obtain ⟨hlt, hp⟩ := List.getElem?_eq_some_iff.mp hj
    obtain rfl := Option.some.inj hu
    simp [nums, List.getElem?_eq_getElem hlt, hp]
  | i + 1, hu => simp at hu
def stackyardlaw08_awake.f : Option Bool := some true
set_option maxRecDepth 100000 in
set_option maxHeartbeats 6400000 in
theorem awake_calls (w : World) : Calls Try.prog 10 #[] w fun e w' => e = .returned (.bool true) ∧ Below w.heap.size w w' := by
  go_enter Try.func10, Try.ntmps10
  go_wp2_with (fail)
  go_at_call 33
  refine (example_calls w).mono ?_
  rintro e w1 ⟨B3, B1, rfl, h1, h3, hb1⟩
  have H1 := Aside0.mk (blk_alloc h1 (.cells #[.string exA, .string exB] 9))
  have H3 := Aside0.mk (blk_alloc h3 (.cells #[.string exA, .string exB] 9))
  have HB1 := Aside0.mk (below_alloc hb1 (.cells #[.string exA, .string exB] 9))
  have HN := Aside0.mk (names_C (blk_new w1 (.cells #[.string exA, .string exB] 9)))
  clear h1 h3 hb1
  go_wp2_with (fail)
  go_at_call 11
  refine (ex_build (w0 := w) (some ⟨w1.heap.size, 0, none⟩) 2 H1.out H3.out HN.out).mono ?_
  rintro e w2 ⟨v, rfl, hR, hb2⟩
  obtain ⟨Av, cv, rfl⟩ := Kd.R_slice hR
  obtain ⟨_, hcv, hrc⟩ := Kd.R_reads' hR
  have HCV := Aside0.mk hcv
  have HC2 := Aside0.mk hrc
  have HB2 := Aside0.mk (below_then HB1.out HB1.out.size hb2)
  have HX3 := Aside0.mk (blk_alloc (blk_new w2 (.cells #[.int .i64 7, .int .i64 2, .int .i64 0, .int .i64 1, .slice Av exArcs.length cv] 31)) (.cells #[.int .i64 0, .int .i64 1] 3))
  have HC3 := Aside0.mk (Kd.C_below HC2.out (below_alloc (below_alloc (Below.refl _ _) (.cells #[.int .i64 7, .int .i64 2, .int .i64 0, .int .i64 1, .slice Av exArcs.length cv] 31)) (.cells #[.int .i64 0, .int .i64 1] 3)))
  have HW3 : Aside0 (Kd.C (Kd.int .i64) ((w2.alloc (.cells #[.int .i64 7, .int .i64 2, .int .i64 0, .int .i64 1, .slice Av exArcs.length cv] 31)).alloc (.cells #[.int .i64 0, .int .i64 1] 3)) (some ⟨w2.heap.size + 1, 0, none⟩) [(0 : Int), 1].length [0, 1]) := ⟨ints_C (by have e := blk_new (w2.alloc (.cells #[.int .i64 7, .int .i64 2, .int .i64 0, .int .i64 1, .slice Av exArcs.length cv] 31)) (.cells #[.int .i64 0, .int .i64 1] 3); simpa [nums] using e) (by decide)⟩
  clear hR hb2 hcv hrc H1 H3 HN
  go_wp2_with (fail)
  go_at_call 14
  refine (nfa_Run.calls 30 7 2 0 1 Av cv exArcs (some ⟨w2.heap.size + 1, 0, none⟩) 2 [0, 1] true 0 _ HC3.out HCV.out HW3.out (Nat.le_refl _) ex_run1).mono ?_
  rintro e w3 ⟨rfl, hb3⟩
  have HX4 := Aside0.mk (blk_below HX3.out hb3)
  have HC4 := Aside0.mk (Kd.C_below HC3.out hb3)
  have HB4 := Aside0.mk (below_then (below_alloc (below_alloc HB2.out (.cells #[.int .i64 7, .int .i64 2, .int .i64 0, .int .i64 1, .slice Av exArcs.length cv] 31)) (.cells #[.int .i64 0, .int .i64 1] 3)) (below_alloc (below_alloc HB2.out (.cells #[.int .i64 7, .int .i64 2, .int .i64 0, .int .i64 1, .slice Av exArcs.length cv] 31)) (.cells #[.int .i64 0, .int .i64 1] 3)).size hb3)
  have ha0 : w3.cell? ⟨w2.heap.size, 0, none⟩ = some (.int .i64 7) := (blk_cell HX4.out 0).trans rfl
  have ha1 : w3.cell? ⟨w2.heap.size, 1, none⟩ = some (.int .i64 2) := (blk_cell HX4.out 1).trans rfl
  have ha2 : w3.cell? ⟨w2.heap.size, 2, none⟩ = some (.int .i64 0) := (blk_cell HX4.out 2).trans rfl
  have ha3 : w3.cell? ⟨w2.heap.size, 3, none⟩ = some (.int .i64 1) := (blk_cell HX4.out 3).trans rfl
  have ha4 : w3.cell? ⟨w2.heap.size, 4, none⟩ = some (.slice Av exArcs.length cv) := (blk_cell HX4.out 4).trans rfl
  have HX5 := Aside0.mk (blk_alloc HX4.out (.cells #[.int .i64 1] 3))
  have HC5 := Aside0.mk (Kd.C_below HC4.out (below_alloc (Below.refl _ _) (.cells #[.int .i64 1] 3)))
  have HW5 : Aside0 (Kd.C (Kd.int .i64) (w3.alloc (.cells #[.int .i64 1] 3)) (some ⟨w3.heap.size, 0, none⟩) [(1 : Int)].length [1]) := ⟨ints_C (by have e := blk_new w3 (.cells #[.int .i64 1] 3); simpa [nums] using e) (by decide)⟩
  clear hb3 HX3 HC3 HW3
  go_wp2_with (fail)
  go_at_call 14
  refine (nfa_Run.calls 30 7 2 0 1 Av cv exArcs (some ⟨w3.heap.size, 0, none⟩) 1 [1] false 0 _ HC5.out HCV.out HW5.out (Nat.le_refl _) ex_run2).mono ?_
  rintro e w4 ⟨rfl, hb4⟩
  have HX6 := Aside0.mk (blk_below HX5.out hb4)
  have HC6 := Aside0.mk (Kd.C_below HC5.out hb4)
  have HB6 := Aside0.mk (below_then (below_alloc HB4.out (.cells #[.int .i64 1] 3)) (below_alloc HB4.out (.cells #[.int .i64 1] 3)).size hb4)
  clear hb4 HX5 HC5 HW5 ha0 ha1 ha2 ha3 ha4
  have hb0 : w4.cell? ⟨w2.heap.size, 0, none⟩ = some (.int .i64 7) := (blk_cell HX6.out 0).trans rfl
  have hb1 : w4.cell? ⟨w2.heap.size, 1, none⟩ = some (.int .i64 2) := (blk_cell HX6.out 1).trans rfl
  have hb2 : w4.cell? ⟨w2.heap.size, 2, none⟩ = some (.int .i64 0) := (blk_cell HX6.out 2).trans rfl
  have hb3 : w4.cell? ⟨w2.heap.size, 3, none⟩ = some (.int .i64 1) := (blk_cell HX6.out 3).trans rfl
  have hb4 : w4.cell? ⟨w2.heap.size, 4, none⟩ = some (.slice Av exArcs.length cv) := (blk_cell HX6.out 4).trans rfl
  go_wp2_with (fail)
  go_at_call 22
  refine (nfa_Least.calls 80 7 2 0 1 Av cv exArcs [0] true 0 _ HC6.out HCV.out ex_least).mono ?_
  rintro e w5 ⟨v7, rfl, hR7, hb7⟩
  obtain ⟨A7, c7, rfl⟩ := Kd.R_slice hR7
  have HB7 := Aside0.mk (below_then HB6.out HB6.out.size hb7)
  clear hR7 hb7
  go_wp2
  go_ret
  exact ⟨rfl, HB7.out⟩
theorem stackyardlaw08_awake.calls (r : Bool) (w : World) (h : stackyardlaw08_awake.f = some r) : Calls Try.prog 10 #[] w fun e w' => e = .returned (.bool r) ∧ Below w.heap.size w w' := by
  obtain rfl := Option.some.inj h
  exact awake_calls w
end Go.Proofs.Ytapinbmkjkbkkaa.Mk
namespace Go.Proofs.Ytapinbmkjkbkkaa.Pu
open Go.RowKit Go.Proofs.YtapinbmkjkbkkaaW.PrintWords Go.Proofs.YtapinbmkjkbkkaaW.PrintLast Go.Proofs.YtapinbmkjkbkkaaW.PrintMore Lb
def bl (b : List Bool) : Nat → Nat → List Int
  | _, 0 => []
  | p, d + 1 => if b.getD p false = true then (p : Int) :: bl b (p + 1) d else bl b (p + 1) d
section
variable {m : Nat}
theorem at_div (i n : Nat) (h : n < 64) : (i * 64 + n) / 64 = i ∧ (i * 64 + n) % 64 = n := by omega
end
end Go.Proofs.Ytapinbmkjkbkkaa.Pu
