import Derived.RangeFuncNested
import Derived.RangeFuncBound
import Derived.RangeFuncCalls
import Derived.RangeFuncLeaves
import Derived.RangeFuncFrom
import Derived.Shelf.Abstract
import Derived.Shelf.RegionOpen
import Derived.WalkKit
import Derived.OwnWalkIn
import Derived.TacticsInMore
import Derived.LoopNIn
import Derived.LoopIn
import Derived.Outline
import Derived.Lib.Hide
import Derived.Shelf.Spec.TrailingZeros
import Derived.Test.YtnogmnmbakglcaaDoorProg
import Derived.Test.YtnogmnmbakglcaaDoorRgWLast
import Derived.Test.YtnogmnmbakglcaaDoorRgWMore
import Derived.Test.YtnogmnmbakglcaaDoorRgHp
namespace Go.Proofs.YtnogmnmbakglcaaDoor
open Go.RowKit Go.Shelf Go.Proofs.YtnogmnmbakglcaaDoorW.PrintWords Go.Proofs.YtnogmnmbakglcaaDoorW.PrintLast Go.Proofs.YtnogmnmbakglcaaDoorW.PrintMore
attribute [local go_sem] Oper.semAt_some
def DB (w : World) : Prop := Go.Proofs.TabAt 0 Go.Lib.deBruijn64tab w
theorem DB_below {w w1 : World} (h : DB w) (hb : Below w.heap.size w w1) : DB w1 := fun j hj => pw_cell_below hb (h j hj)
set_option maxHeartbeats 1000000 in
theorem tz_core (x k idx : Nat) (w : World) (hx0 : ((x : Int) == 0) = false)
    (key : IntKind.u64.wrap (bits BinOp.and IntKind.u64 (x : Int) (IntKind.u64.wrap (-(x : Int))) * 285870213051353865) / 288230376151711744 = (idx : Int))
    (hi : idx < 64) (hk : k < 64) (hcell : w.cell? ⟨0, idx, none⟩ = some (.int .u8 k)) :
    Calls Tryd.prog 55 #[.int .u64 x] w fun e w' => e = .returned (.int .i64 k) ∧ w = w' := by
  go_enter Tryd.func55, Tryd.ntmps55
  go_wp2_with (simp only [key])
  go_ret
  exact ⟨rfl, rfl⟩
theorem tz_calls (x : Nat) (hx0 : x ≠ 0) (hx : x < 18446744073709551616) (w : World) (hT : DB w) :
    Calls Tryd.prog 55 #[.int .u64 x] w fun e w' => e = .returned (.int .i64 (Go.Lib.ctz 64 x)) ∧ w = w' := by
  obtain ⟨hlow, hk⟩ := Go.Lib.lowest_bit 64 x hx0 hx
  obtain ⟨hi, htab⟩ := Go.Lib.deBruijn64_at _ hk
  have hcell := hT _ hi
  rw [htab] at hcell
  exact tz_core x _ _ w (by simp; omega) (Go.Proofs.tz64_key x _ hx hx0 hlow) hi hk hcell
section
variable {F : Fence} {n : Nat} {P : Program}
theorem wpIn_rangeFunc_one {g : Operand} {ps : Array Tmp} {assign body : Code} {Q : Exit → Act → World → Prop} {a : Act} {w : World} (nothing : Prop) (_hd : nothing ∨ ¬ nothing)
    (hro : F.round = none) (h1 : 1 ≤ n) {gf : Nat} {lb : Array Value} (hg : a.eval g = .func (.func gf) #[] lb) (hFg : F.fn gf) (eg : ∀ args w, (callFunc gf args).run P w = .ok (.enter gf args) w)
    (vs : Array Value) (hps : vs.size = ps.size)
    (hiter : ∀ (l : Nat) (W : World) (R : Ending → World → Prop), Below w.heap.size w W → (nothing → R (.returned (.tuple #[])) W) →
      (¬ nothing → YieldAt F (n - 1 - 1) P l vs W fun e W' => e = .returned (.bool false) ∧ R (.returned (.tuple #[])) W') → CallsIn F (n - 1) P gf (#[.func (.yield l) #[] #[]] ++ lb) W R)
    (Ix : World → Prop) (hIx : OwnFrom w.heap.size (fun (_ : Unit) W => Ix W)) (a₁ : Act)
    (hassign : ∀ (l : Nat) (W : World) (K : Act → World → Prop), K a₁ W →
      assign.wpIn (F.inRound l) (n - 1 - 1) P (Exit.then K (fun _ _ _ => False)) { tmps := (ps.zip vs).foldl (fun t (p, v) => t.setIfInBounds p v) a.tmps, defers := [] } W)
    (hbody : ∀ (l : Nat) (W : World), ¬ nothing → Below w.heap.size w W → body.wpIn (F.inRound l) (n - 1 - 1) P (fun e _ W' => e = .ret ∧ KeepsOthers W W' ∧ Ix W') a₁ W)
    (hdone : ∀ (D : Nat) (W : World), nothing → w.heap.size ≤ D → Below w.heap.size w W → W.heap[D]? = some (.deferred (some [])) → Q .normal { a with defers := { target := .collected D, args := #[] } :: a.defers } W)
    (hstop : ∀ (D : Nat) (W : World), ¬ nothing → w.heap.size ≤ D → Ix W → W.heap[D]? = some (.deferred (some [])) → Code.ret.wpIn F n P Q { a with defers := { target := .collected D, args := #[] } :: a.defers } W) :
    (Code.rangeFunc g ps assign body).wpIn F n P Q a w := by
  refine wpIn_rangeFunc ?_
  intro fn hfn
  rw [hro]
  obtain ⟨rec, hrec⟩ : ∃ rec : LoopState → Option Code → Loop, rec = fun st pe => { state := st, pending := pe, fn, tmps := a.tmps, params := ps, assign, body, defers := w.heap.size } := ⟨_, rfl⟩
  obtain ⟨W1, hW1⟩ : ∃ W1, (w.alloc (.deferred (some []))).alloc (.loop (rec .ready none)) = W1 := ⟨_, rfl⟩
  have hL1 : W1.heap[w.heap.size + 1]? = some (.loop (rec .ready none)) := by
    rw [← hW1]; have := World.alloc_heap_new (w.alloc (.deferred (some []))) (.loop (rec .ready none)); rwa [World.size_alloc] at this
  have hK1 : W1.heap[w.heap.size]? = some (.deferred (some [])) := by
    rw [← hW1]; exact (Below.heap_alloc _ _ _ (by simp)).trans (World.alloc_heap_new w _)
  have hb1 : Below w.heap.size w W1 := by
    rw [← hW1]; exact ((Below.refl _ w).alloc (Nat.le_refl _) _).alloc (by simp) _
  have hlt1 : w.heap.size + 1 < W1.heap.size := (Array.getElem?_eq_some_iff.1 hL1).1
  refine ⟨w.heap.size + 1, [{ target := .collected w.heap.size, args := #[] }], W1, { target := .fn (.func gf) lb, args := #[.func (.yield (w.heap.size + 1)) #[] #[]] }, W1, gf,
    #[.func (.yield (w.heap.size + 1)) #[] #[]] ++ lb, W1, ?_, ?_, ?_, ?_, fun _ => h1, ?_⟩
  · rw [← hW1, hrec]; exact run_enterLoop_outer _ _ _ _ _
  · simp only [resolve, hg]
    simp [go_sem]
  · intro f' hf'; simp [Target.leads] at hf'; subst hf'; exact hFg
  · simp [invoke, go_sem, eg]
  · refine hiter (w.heap.size + 1) W1 _ hb1 (fun hn => ?_) (fun hn => ?_)
    · exact ⟨none, _, by have := run_endLoop (P := P) hL1 (by rw [hrec]; simp); rw [hrec] at this; exact this, hdone _ _ hn (Nat.le_refl _) (hb1.trans ((Below.refl _ W1).grown (grownBy_putObj' W1 _ _) (by omega) (fun k e => by cases e; omega))) ((World.putObj_heap_other (by omega)).trans hK1)⟩
    · have hy := run_yield (P := P) (args := vs) hL1 (by rw [hrec]; exact hps)
      rw [hrec] at hy
      refine ⟨fn, _, assign, body, hy, roundIn_of_wpIn hfn (hassign _ W1 _ ⟨_, run_beginRound hL1 (by rw [hrec]), ?_⟩)⟩
      have hl2 : (W1.putObj (w.heap.size + 1) (.loop { rec .ready none with state := .busy })).heap[w.heap.size + 1]? = some (.loop { rec .ready none with state := .busy }) := World.putObj_heap_same hlt1
      have hk2 : (W1.putObj (w.heap.size + 1) (.loop { rec .ready none with state := .busy })).heap[w.heap.size]? = some (.deferred (some [])) := (World.putObj_heap_other (by omega)).trans hK1
      refine wpIn_mono (hbody _ _ hn (hb1.trans ((Below.refl _ W1).grown (grownBy_putObj' W1 _ _) (by omega) (fun k e => by cases e; omega)))) ?_
      rintro e a3 W3 ⟨rfl, hk3, hi3⟩
      have hl3 := hk3.same _ _ hl2 rfl
      have hlt3 := (Array.getElem?_eq_some_iff.1 hl3).1
      have hr := run_endRound (P := P) (some .ret) hl3
      have hl4 : (W3.putObj (w.heap.size + 1) (.loop { rec .ready none with state := .done, pending := some .ret })).heap[w.heap.size + 1]? = some (.loop { rec .ready none with state := .done, pending := some .ret }) := World.putObj_heap_same hlt3
      have hk4 : (W3.putObj (w.heap.size + 1) (.loop { rec .ready none with state := .done, pending := some .ret })).heap[w.heap.size]? = some (.deferred (some [])) := (World.putObj_heap_other (by omega)).trans (hk3.same _ _ hk2 rfl)
      have hi4 : Ix (W3.putObj (w.heap.size + 1) (.loop { rec .ready none with state := .done, pending := some .ret })) := hIx.putObj (s := ()) _ hi3 (by omega) hl3 rfl
      refine ⟨_, _, hr, rfl, ?_⟩
      refine ⟨some .ret, _, run_endLoop (P := P) hl4 (by simp), hstop _ _ hn (Nat.le_refl _) (hIx.putObj (s := ()) _ hi4 (by omega) hl4 rfl) ((World.putObj_heap_other (by omega)).trans hk4)⟩
end
set_option maxRecDepth 100000 in
set_option maxHeartbeats 1000000 in
theorem all1_at (n : Nat) (hn : 1 ≤ n) (Bs s l : Nat) (hs : s < 18446744073709551616) (W : World) (hcW : W.cell? ⟨Bs, 0, none⟩ = some (.int .u64 s)) (hTW : DB W) (R : Ending → World → Prop)
    (h0 : s = 0 → R (.returned (.tuple #[])) W) (hY : s ≠ 0 → YieldAt Fence.wide (n - 1) Tryd.prog l #[.int .i64 (Go.Lib.ctz 64 s)] W fun e W' => e = .returned (.bool false) ∧ R (.returned (.tuple #[])) W') :
    CallsIn Fence.wide n Tryd.prog 54 #[.func (.yield l) #[] #[], .pointer (some ⟨Bs, 0, none⟩)] W R := by
  refine callsIn_of_wp Tryd.func54 rfl trivial ?_ rfl
  simp only [Tryd.ntmps54, List.size_toArray, List.length_cons, List.length_nil, Nat.reduceAdd, Nat.reduceSub, Array.replicate_succ, Array.replicate_zero, List.push_toArray, List.append_toArray, List.nil_append, List.cons_append]
  by_cases hs0 : s = 0
  · have H0 := Lib.hid (h0 hs0)
    clear h0 hY
    subst hs0
    gi_wp2
    gi_loopw [] (fun wr => wr = W) (fun _ => 0)
    case atStart => rfl
    case round =>
      subst hrel
      gi_wp2
      go_end0
      exact H0.out
  · have hne : ((s : Int) != 0) = true := by simp; omega
    obtain ⟨fn, tmps, assign, body, hy, hR⟩ := hY hs0
    clear h0 hY
    gi_wp2
    gi_loopw [] (fun wr => wr = W) (fun _ => 0)
    case atStart => rfl
    case round =>
      subst hrel
      gi_wp2_with (refine ⟨trivial, ?_⟩; gi_at_call 55; refine (callsIn_wide.2 (tz_calls s hs0 hs _ hTW)).mono ?_; rintro e w' ⟨rfl, rfl⟩)
      refine hR.mono ?_
      rintro e W' ⟨rfl, hq⟩
      have HQ := Lib.hid hq
      clear hq
      gi_wp2
      refine bodyPost_ret (results_none rfl _ _ _) rfl HQ.out
set_option maxHeartbeats 1000000 in
theorem all_calls (s : Int) (w : World) : Calls Tryd.prog 53 #[.int .u64 s] w fun e w' => e = .returned (.func (.func 54) #[] #[.pointer (some ⟨w.heap.size, 0, none⟩)]) ∧ w.alloc (.cells #[.int .u64 s] 22) = w' := by
  go_enter Tryd.func53, Tryd.ntmps53
  go_wp2
  go_ret
  exact ⟨rfl, rfl⟩
set_option maxHeartbeats 1000000 in
theorem next_end (s k : Int) (w : World) (hk : 64 ≤ k) : Calls Tryd.prog 52 #[.int .u64 s, .int .i64 k] w fun e w' => e = .returned (.tuple #[.int .i64 0, .bool false]) ∧ Below w.heap.size w w' := by
  go_enter Tryd.func52, Tryd.ntmps52
  go_wp2
  exact bodyPost_ret (v := .tuple #[.int .i64 0, .bool false]) (by simp [results, Tryd.results52, go_sem]) rfl ⟨rfl, by repeat (first | exact Below.refl _ _ | apply below_alloc)⟩
attribute [local go_sem] max2_int max_two
def nextV (s k : Nat) : Array Value := if cutLow s k = 0 then #[.int .i64 0, .bool false] else #[.int .i64 (Go.Lib.ctz 64 (cutLow s k)), .bool true]
theorem cutLow_wrap (s k : Nat) (hs : s < 18446744073709551616) : IntKind.u64.wrap ((s : Int) / 2 ^ k * 2 ^ k) = ((cutLow s k : Nat) : Int) := by
  have e : (s : Int) / 2 ^ k * 2 ^ k = ((cutLow s k : Nat) : Int) := by unfold cutLow; push_cast; rfl
  rw [e, IntKind.wrap_u64]
  have := cutLow_le s k
  omega
set_option maxRecDepth 100000 in
set_option maxHeartbeats 1000000 in
theorem next_calls (s k : Nat) (w : World) (hs : s < 18446744073709551616) (hk : k < 64) (hT : DB w) :
    Calls Tryd.prog 52 #[.int .u64 s, .int .i64 k] w fun e w' => e = .returned (.tuple (nextV s k)) ∧ Below w.heap.size w w' := by
  have HC := Lib.hid (cutLow_wrap s k hs)
  have ht : cutLow s k < 18446744073709551616 := Nat.lt_of_le_of_lt (cutLow_le s k) hs
  have HV : Hid (nextV s k = if cutLow s k = 0 then #[.int .i64 0, .bool false] else #[.int .i64 (Go.Lib.ctz 64 (cutLow s k)), .bool true]) := Lib.hid rfl
  generalize nextV s k = V at *
  generalize cutLow s k = t at *
  refine (callsIn_wide (n := 6)).1 ?_
  refine callsIn_of_wp_marks Tryd.func52 rfl trivial ?_ rfl
  simp only [Tryd.ntmps52, List.size_toArray, List.length_cons, List.length_nil, Nat.reduceAdd, Nat.reduceSub, Array.replicate_succ, Array.replicate_zero, List.push_toArray, List.append_toArray, List.nil_append, List.cons_append]
  gi_wp2_with (refine ⟨trivial, ?_⟩; gi_at_call 53; rw [HC.out]; refine (callsIn_wide.2 (all_calls _ _)).mono ?_; rintro e w' ⟨rfl, rfl⟩)
  have c4 := ((Boxed.new w 3 (.int .i64 0)).alloc (.cells #[.bool false] 4)).alloc (.cells #[.int .u64 t] 22)
  have c5 := (Boxed.new (w.alloc (.cells #[.int .i64 0] 3)) 4 (.bool false)).alloc (.cells #[.int .u64 t] 22)
  have c6 := Boxed.new ((w.alloc (.cells #[.int .i64 0] 3)).alloc (.cells #[.bool false] 4)) 22 (.int .u64 t)
  simp only [World.size_alloc] at c5 c6
  have hB0 : Below w.heap.size w (((w.alloc (.cells #[.int .i64 0] 3)).alloc (.cells #[.bool false] 4)).alloc (.cells #[.int .u64 t] 22)) := (((Below.refl _ w).alloc (Nat.le_refl _) _).alloc (by simp) _).alloc (by simp; omega) _
  have hsz : (((w.alloc (.cells #[.int .i64 0] 3)).alloc (.cells #[.bool false] 4)).alloc (.cells #[.int .u64 t] 22)).heap.size = w.heap.size + 3 := by simp
  generalize (((w.alloc (.cells #[.int .i64 0] 3)).alloc (.cells #[.bool false] 4)).alloc (.cells #[.int .u64 t] 22)) = W0 at *
  refine wpIn_rangeFunc_one (t = 0) (Decidable.em _) rfl (by omega) (gf := 54) (lb := #[.pointer (some ⟨w.heap.size + 1 + 1, 0, none⟩)]) rfl trivial (enters_of Tryd.func54 (by kernel_rfl) rfl) #[.int .i64 (Go.Lib.ctz 64 t)] rfl
    (fun l W R hb h1 h2 => all1_at _ (by omega) _ t l ht W ((hb.cell (by simp; omega)).trans c6.cell) (DB_below (DB_below hT hB0) hb) R h1 h2)
    (fun W => (W.cell? ⟨w.heap.size, 0, none⟩ = some (.int .i64 (Go.Lib.ctz 64 t)) ∧ W.cell? ⟨w.heap.size + 1, 0, none⟩ = some (.bool true)) ∧ Below w.heap.size w W)
    (OwnFrom.and (Own.from (fun s A B row hs hg hr => ⟨cell_kept hs.1 hg hr, cell_kept hs.2 hg hr⟩) _) (ownFrom_below (Nat.le_refl _) (by omega)))
    { tmps := #[.int .u64 s, .int .i64 k, undef, undef, .pointer (some ⟨w.heap.size, 0, none⟩), .pointer (some ⟨w.heap.size + 1, 0, none⟩), .int .i64 (Go.Lib.ctz 64 t), .int .i64 k, .bool (decide (64 ≤ (k : Int))), .int .u64 s, .int .i64 k, .int .i64 k, .int .u64 k, .int .u64 ((s : Int) / 2 ^ k), .int .i64 k, .int .i64 k, .int .u64 k, .int .u64 t, .func (.func 54) #[] #[.pointer (some ⟨w.heap.size + 1 + 1, 0, none⟩)], .int .i64 (Go.Lib.ctz 64 t), undef], defers := [] } ?assign ?body ?done ?stop
  case assign =>
    intro l W K hK
    gi_wp2
    exact hK
  case body =>
    intro l W hn hb
    have d4 := (hb.cell (p := ⟨w.heap.size, 0, none⟩) (by simp; omega)).trans c4.cell
    have e4 := (hb.frozen (p := ⟨w.heap.size, 0, none⟩) (by simp; omega)).trans c4.frozen
    have d5 := (hb.cell (p := ⟨w.heap.size + 1, 0, none⟩) (by simp; omega)).trans c5.cell
    have e5 := (hb.frozen (p := ⟨w.heap.size + 1, 0, none⟩) (by simp; omega)).trans c5.frozen
    gi_wp2
    exact ⟨(KeepsOthers.setCell _ _ _).trans (KeepsOthers.setCell _ _ _), ((hB0.trans (hb.mono (by omega))).setCell (p := ⟨w.heap.size, 0, none⟩) (by simp) _).setCell (p := ⟨w.heap.size + 1, 0, none⟩) (by simp) _⟩
  case done =>
    intro D W hn hD hb hK
    subst hn
    have d4 := (hb.cell (p := ⟨w.heap.size, 0, none⟩) (by simp; omega)).trans c4.cell
    have e4 := (hb.frozen (p := ⟨w.heap.size, 0, none⟩) (by simp; omega)).trans c4.frozen
    have d5 := (hb.cell (p := ⟨w.heap.size + 1, 0, none⟩) (by simp; omega)).trans c5.cell
    have e5 := (hb.frozen (p := ⟨w.heap.size + 1, 0, none⟩) (by simp; omega)).trans c5.frozen
    gi_wp2
    have hKO : KeepsOthers W ((W.setCell ⟨w.heap.size, 0, none⟩ (.int .i64 0)).setCell ⟨w.heap.size + 1, 0, none⟩ (.bool false)) := (KeepsOthers.setCell _ _ _).trans (KeepsOthers.setCell _ _ _)
    have hB' : Below w.heap.size w ((W.setCell ⟨w.heap.size, 0, none⟩ (.int .i64 0)).setCell ⟨w.heap.size + 1, 0, none⟩ (.bool false)) := ((hB0.trans (hb.mono (by omega))).setCell (p := ⟨w.heap.size, 0, none⟩) (by simp) _).setCell (p := ⟨w.heap.size + 1, 0, none⟩) (by simp) _
    have g4 : ((W.setCell ⟨w.heap.size, 0, none⟩ (.int .i64 0)).setCell ⟨w.heap.size + 1, 0, none⟩ (.bool false)).cell? ⟨w.heap.size, 0, none⟩ = some (.int .i64 0) :=
      (World.cell?_setCell_other _ ⟨w.heap.size + 1, 0, none⟩ ⟨w.heap.size, 0, none⟩ _ (by simp)).trans (World.cell?_setCell_same' _ _ _ (by rw [d4]; rfl))
    have g5 : ((W.setCell ⟨w.heap.size, 0, none⟩ (.int .i64 0)).setCell ⟨w.heap.size + 1, 0, none⟩ (.bool false)).cell? ⟨w.heap.size + 1, 0, none⟩ = some (.bool false) :=
      World.cell?_setCell_same' _ _ _ (by rw [World.cell?_setCell_other _ ⟨w.heap.size, 0, none⟩ ⟨w.heap.size + 1, 0, none⟩ _ (by simp), d5]; rfl)
    have hK' := hKO.same D _ hK rfl
    clear d4 e4 d5 e5
    generalize ((W.setCell ⟨w.heap.size, 0, none⟩ (.int .i64 0)).setCell ⟨w.heap.size + 1, 0, none⟩ (.bool false)) = W' at *
    refine ⟨by simp, .inl ⟨_, _, rfl, run_takeDeferred hK', ?_⟩⟩
    have d4 := cell_kept g4 (grownBy_putObj' _ D (.deferred none)) (fun r e => by cases e; exact ⟨_, hK', rfl⟩)
    have d5 := cell_kept g5 (grownBy_putObj' _ D (.deferred none)) (fun r e => by cases e; exact ⟨_, hK', rfl⟩)
    refine ⟨.tuple #[.int .i64 0, .bool false], ?_, by rw [HV.out]; rfl, hB'.trans (belowK_b (w := w) (Nat.le_refl _) W' D _ _ (by omega) hK' rfl rfl)⟩
    simp [results, Tryd.f52, go_sem, d4, d5]
  case stop =>
    intro D W hn hD hI hK
    gi_wp2
    refine ⟨by simp, .inl ⟨_, _, rfl, run_takeDeferred hK, ?_⟩⟩
    have d4 := cell_kept hI.1.1 (grownBy_putObj' _ D (.deferred none)) (fun r e => by cases e; exact ⟨_, hK, rfl⟩)
    have d5 := cell_kept hI.1.2 (grownBy_putObj' _ D (.deferred none)) (fun r e => by cases e; exact ⟨_, hK, rfl⟩)
    refine ⟨.tuple #[.int .i64 (Go.Lib.ctz 64 t), .bool true], ?_, by rw [HV.out, if_neg hn], hI.2.trans (belowK_b (w := w) (Nat.le_refl _) W D _ _ (by omega) hK rfl rfl)⟩
    simp [results, Tryd.f52, go_sem, d4, d5]
end Go.Proofs.YtnogmnmbakglcaaDoor
