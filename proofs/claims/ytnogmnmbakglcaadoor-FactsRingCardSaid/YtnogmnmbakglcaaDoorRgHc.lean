import Derived.RangeFuncNested
import Derived.RangeFuncBound
import Derived.RangeFuncCalls
import Derived.RangeFuncLeaves
import Derived.RangeFuncFrom
import Derived.Shelf.Abstract
import Derived.Shelf.RegionOpen
import Derived.WalkKit
import Derived.OwnWalkIn
import Derived.TacticsInMore
import Derived.LoopNIn
import Derived.LoopIn
import Derived.Outline
import Derived.Lib.Hide
import Derived.Test.YtnogmnmbakglcaaDoorRgHb
namespace Go.Proofs.YtnogmnmbakglcaaDoor
open Go.RowKit Go.Shelf Go.Proofs.YtnogmnmbakglcaaDoorW.PrintWords Go.Proofs.YtnogmnmbakglcaaDoorW.PrintLast Go.Proofs.YtnogmnmbakglcaaDoorW.PrintMore
attribute [local go_sem] Oper.semAt_some
def iV : List Nat → Int
  | [] => 0
  | x :: _ => x
def okV : List Nat → Bool
  | [] => false
  | _ :: _ => true
theorem iV_nil : iV [] = 0 := rfl
theorem iV_cons (i : Nat) (l : List Nat) : iV (i :: l) = i := rfl
theorem okV_nil : okV [] = false := rfl
theorem okV_cons (i : Nat) (l : List Nat) : okV (i :: l) = true := rfl
theorem next_list (s k : Nat) (w : World) (hs : s < 18446744073709551616) (hk : k ≤ 64) (hT : DB w) :
    Calls Tryd.prog 52 #[.int .u64 s, .int .i64 k] w fun e w' => e = .returned (.tuple #[.int .i64 (iV (bitsFrom s k)), .bool (okV (bitsFrom s k))]) ∧ Below w.heap.size w w' := by
  by_cases h : k < 64
  · refine (next_calls s k w hs h hT).mono ?_
    rintro e w' ⟨rfl, hb⟩
    refine ⟨?_, hb⟩
    unfold nextV
    by_cases h0 : cutLow s k = 0
    · rw [if_pos h0, next_none h0]; rfl
    · obtain ⟨_, _, h3⟩ := next_some (by simpa using hs) h0
      rw [if_neg h0, h3]; rfl
  · refine (next_end s k w (by omega)).mono ?_
    rintro e w' ⟨rfl, hb⟩
    exact ⟨by rw [bitsFrom_end (by omega)]; rfl, hb⟩
abbrev BitIn (s : Nat) := { i : Nat // i ∈ bitsFrom s 0 }
def encB (s : Nat) (x : BitIn s) : Array Value := #[.int .i64 (x.1 : Int)]
def KpB (Bs : Nat) (W W' : World) : Prop := Below 1 W W' ∧ W'.heap[Bs]? = W.heap[Bs]?
theorem KpB.trans {Bs : Nat} {A B C : World} (h : KpB Bs A B) (k : KpB Bs B C) : KpB Bs A C := ⟨h.1.trans k.1, k.2.trans h.2⟩
theorem KpB.of_below {Bs : Nat} {A B : World} (h : Below A.heap.size A B) (hB : Bs < A.heap.size) : KpB Bs A B := ⟨h.mono (by omega), h.block _ hB⟩
theorem KpB.cell {Bs : Nat} {A B : World} (h : KpB Bs A B) : B.cell? ⟨Bs, 0, none⟩ = A.cell? ⟨Bs, 0, none⟩ := World.cell?_of_block (w := A) h.2
theorem DB_KpB {w w1 : World} {Bs : Nat} (h : DB w) (hb : KpB Bs w w1) : DB w1 := fun j hj => (hb.1.cell (p := ⟨0, j, none⟩) (by simp)).trans (h j hj)
theorem KpB.putObj {Bs : Nat} (W : World) (l : Nat) (o o' : Obj) (hl : Bs < l) (h : W.heap[l]? = some o) : KpB Bs W (W.putObj l o') :=
  ⟨(Below.refl 1 W).grown (grownBy_putObj' W l o') (by have := (Array.getElem?_eq_some_iff.1 h).1; omega) (fun k e => by cases e; omega), World.putObj_heap_other (by omega)⟩
def leftOf (v3 v4 : Value) : Nat := match v4 with
  | .bool true => 65 - (intOf v3).toNat
  | _ => 0
theorem leftOf_nil : leftOf (.int .i64 (iV [])) (.bool (okV [])) = 0 := rfl
theorem leftOf_cons (i : Nat) : leftOf (.int .i64 i) (.bool true) = 65 - i := rfl
theorem leftOf_next {s i : Nat} (hi : i < 64) : leftOf (.int .i64 (iV (bitsFrom s (i + 1)))) (.bool (okV (bitsFrom s (i + 1)))) < 65 - i := by
  cases h : bitsFrom s (i + 1) with
  | nil => rw [leftOf_nil]; omega
  | cons j l =>
    rw [iV_cons, okV_cons, leftOf_cons]
    have : j ∈ bitsFrom s (i + 1) := by rw [h]; simp
    rw [bitsFrom_mem _ rfl] at this
    omega
set_option maxRecDepth 100000 in
set_option maxHeartbeats 1000000 in
theorem each1_stops (n : Nat) (hn : 1 ≤ n) (Bs s : Nat) (hs : s < 18446744073709551616) (w : World) (hB : Bs < w.heap.size) (hc : w.cell? ⟨Bs, 0, none⟩ = some (.int .u64 s)) (hT : DB w) :
    SeqStopsK Fence.wide n Tryd.prog 51 #[.pointer (some ⟨Bs, 0, none⟩)] (encB s) (KpB Bs) (fun xs => xs.map (·.1) = bitsFrom s 0) (fun _ => True) 64 w := fun l J Jx W hW hJ hJx hY h0 => by
  have hcW : W.cell? ⟨Bs, 0, none⟩ = some (.int .u64 s) := (hW.cell (p := ⟨Bs, 0, none⟩) hB).trans hc
  have hTW : DB W := DB_below hT hW
  have hBW : Bs < W.heap.size := Nat.lt_of_lt_of_le hB hW.size
  have Jb : ∀ (pre : List (BitIn s)) (A B : World), J pre A → Below A.heap.size A B → J pre B := fun _ _ _ h hb => hJ _ _ _ none h (grown_of_below hb none) (fun r e => by cases e)
  have HJb := Lib.hid Jb
  clear Jb
  refine callsIn_of_wp Tryd.func51 rfl trivial ?_ rfl
  simp only [Tryd.ntmps51, List.size_toArray, List.length_cons, List.length_nil, Nat.reduceAdd, Nat.reduceSub, Array.replicate_succ, Array.replicate_zero, List.push_toArray, List.append_toArray, List.nil_append, List.cons_append]
  gi_wp2_with (refine ⟨trivial, ?_⟩; gi_at_call 52; refine (callsIn_wide.2 (next_list s 0 _ hs (by omega) hTW)).mono ?_; rintro e w1 ⟨rfl, hb1⟩)
  gi_loopw [3, 4] (fun v3 v4 wr => ∃ (pre : List (BitIn s)) (k : Nat), k ≤ 64 ∧ Hid (pre.map (·.1) ++ bitsFrom s k = bitsFrom s 0) ∧ v3 = .int .i64 (iV (bitsFrom s k)) ∧ v4 = .bool (okV (bitsFrom s k)) ∧ J pre wr ∧ KpB Bs W wr) (fun v3 v4 _ => leftOf v3 v4)
  case atStart => exact ⟨[], 0, by omega, Lib.hid rfl, rfl, rfl, HJb.out _ _ _ h0 hb1, KpB.of_below hb1 hBW⟩
  case round =>
    obtain ⟨pre, k, hk, hlist, rfl, rfl, hJs, hbw⟩ := hrel
    cases hrest : bitsFrom s k with
    | nil =>
      rw [hrest] at hlist
      clear hrest
      simp only [iV_nil, okV_nil]
      have HF : Hid (∃ xs : List (BitIn s), xs.map (·.1) = bitsFrom s 0 ∧ J xs wr) := Lib.hid ⟨pre, by simpa using hlist.out, hJs⟩
      gi_wp2
      go_end0
      exact ⟨⟨_, rfl⟩, .inl HF.out⟩
    | cons i rest =>
      obtain ⟨hi, hr⟩ := bitsFrom_cons _ rfl hrest
      rw [hrest] at hlist
      clear hrest
      have hmem : i ∈ bitsFrom s 0 := by rw [← hlist.out]; simp
      have hlen : pre.length < 64 := by
        have h1 := bitsFrom_length s
        have h2 := congrArg List.length hlist.out
        simp at h2
        omega
      obtain ⟨fn, tmps, assign, body, hy, hR⟩ := hY pre ⟨i, hmem⟩ wr hJs hlen
      have HR := Lib.hid hr
      clear hr
      dsimp only [encB] at hy
      simp only [iV_cons, okV_cons]
      gi_wp2
      refine hR.mono ?_
      rintro e W3 (⟨rfl, hJ3, hk3⟩ | ⟨rfl, hJx3⟩)
      · have hbw3 := hbw.trans hk3
        have hc3 : W3.cell? ⟨Bs, 0, none⟩ = some (.int .u64 s) := hbw3.cell.trans hcW
        have hT3 : DB W3 := DB_KpB hTW hbw3
        gi_wp2_with (refine ⟨trivial, ?_⟩; gi_at_call 52; refine (callsIn_wide.2 (next_list s (i + 1) _ hs (by omega) hT3)).mono ?_; rintro e w4 ⟨rfl, hb4⟩)
        go_roundw
        case rel => exact ⟨pre ++ [⟨i, hmem⟩], i + 1, by omega, Lib.hid (by have h := hlist.out; rw [HR.out] at h; rw [List.map_append, List.append_assoc]; exact h), rfl, rfl, HJb.out _ _ _ hJ3 hb4, hbw3.trans (KpB.of_below hb4 (Nat.lt_of_lt_of_le hBW hbw3.1.size))⟩
        case measure => exact leftOf_next hi
      · have HF : Hid (∃ pre : List (BitIn s), True ∧ Jx pre W3) := Lib.hid ⟨_, trivial, hJx3⟩
        gi_wp2
        refine bodyPost_ret (results_none rfl _ _ _) rfl ?_
        exact ⟨⟨_, rfl⟩, .inr HF.out⟩
set_option maxHeartbeats 1000000 in
theorem each_calls (s : Int) (w : World) : Calls Tryd.prog 48 #[.int .u64 s] w fun e w' => e = .returned (.func (.func 51) #[] #[.pointer (some ⟨w.heap.size, 0, none⟩)]) ∧ w.alloc (.cells #[.int .u64 s] 22) = w' := by
  go_enter Tryd.func48, Tryd.ntmps48
  go_wp2
  go_ret
  exact ⟨rfl, rfl⟩
def valsB {s : Nat} (pre : List (BitIn s)) : List Nat := pre.map (·.1)
theorem valsB_snoc {s : Nat} (pre : List (BitIn s)) (x : BitIn s) : valsB (pre ++ [x]) = valsB pre ++ [x.1] := by simp [valsB]
def madeI (g : Int) (l : List Int) (ix : List Nat) : Int := ix.foldl (fun (o : Int) (i : Nat) => Go.bits .or .u64 o (rd l (i : Int))) g
theorem madeI_snoc (g : Int) (l : List Int) (ix : List Nat) (i : Nat) : madeI g l (ix ++ [i]) = Go.bits .or .u64 (madeI g l ix) (rd l i) := by simp [madeI]
set_option maxRecDepth 100000 in
set_option maxHeartbeats 2000000 in
theorem makes_calls (g : Int) (A : Option Addr) (c : Nat) (l : List Int) (s : Nat) (w : World) (hs : s < 18446744073709551616) (hr : Kd.C (Kd.int .u64) w A l.length l) (hin : ∀ i, i ∈ bitsFrom s 0 → i < l.length) (hT : DB w) :
    Calls Tryd.prog 44 #[.agg #[.int .u64 g, .slice A l.length c], .int .u64 s] w fun e w' => e = .returned (.int .u64 (madeI g l (bitsFrom s 0))) ∧ Below w.heap.size w w' := by
  have HR := Aside0.mk hr
  clear hr
  refine (callsIn_wide (n := 12)).1 ?_
  refine callsIn_of_wp_marks Tryd.func44 rfl trivial ?_ rfl
  simp only [Tryd.ntmps44, List.size_toArray, List.length_cons, List.length_nil, Nat.reduceAdd, Nat.reduceSub, Array.replicate_succ, Array.replicate_zero, List.push_toArray, List.append_toArray, List.nil_append, List.cons_append]
  gi_wp2_with (refine ⟨trivial, ?_⟩; gi_at_call 48; refine (callsIn_wide.2 (each_calls _ _)).mono ?_; rintro e w' ⟨rfl, rfl⟩)
  have c5 := (Boxed.new (w.alloc (.cells #[.int .u64 g, .slice A l.length c] 25)) 22 (.int .u64 g)).alloc (.cells #[.int .u64 s] 22)
  have c6 := Boxed.new ((w.alloc (.cells #[.int .u64 g, .slice A l.length c] 25)).alloc (.cells #[.int .u64 g] 22)) 22 (.int .u64 s)
  have c2 : (((w.alloc (.cells #[.int .u64 g, .slice A l.length c] 25)).alloc (.cells #[.int .u64 g] 22)).alloc (.cells #[.int .u64 s] 22)).cell? ⟨w.heap.size, 1, none⟩ = some (.slice A l.length c) := by go_simp
  simp only [World.size_alloc] at c5 c6
  have hB0 : Below w.heap.size w (((w.alloc (.cells #[.int .u64 g, .slice A l.length c] 25)).alloc (.cells #[.int .u64 g] 22)).alloc (.cells #[.int .u64 s] 22)) := (((Below.refl _ w).alloc (Nat.le_refl _) _).alloc (by simp) _).alloc (by simp; omega) _
  have hsz : (((w.alloc (.cells #[.int .u64 g, .slice A l.length c] 25)).alloc (.cells #[.int .u64 g] 22)).alloc (.cells #[.int .u64 s] 22)).heap.size = w.heap.size + 3 := by simp
  have hpos : 0 < w.heap.size := World.block_lt_of_cell? w ⟨0, 0, none⟩ (hT 0 (by decide))
  generalize (((w.alloc (.cells #[.int .u64 g, .slice A l.length c] 25)).alloc (.cells #[.int .u64 g] 22)).alloc (.cells #[.int .u64 s] 22)) = W0 at *
  refine wpIn_rangeFunc_ownF rfl (by omega) (gf := 51) (lb := #[.pointer (some ⟨w.heap.size + 1 + 1, 0, none⟩)]) rfl trivial (enters_of Tryd.func51 (by kernel_rfl) rfl)
    (each1_stops _ (by omega) (w.heap.size + 1 + 1) s hs W0 (by omega) c6.cell (DB_below hT hB0)) (fun h k => h.trans k) (fun W l o o' hl ho _ _ => KpB.putObj W l o o' (by omega) ho) (Below.refl _ _) (fun _ => rfl)
    (fun pre W => (W.cell? ⟨w.heap.size, 1, none⟩ = some (.slice A l.length c) ∧ Boxed W (w.heap.size + 1) 22 (.int .u64 (madeI g l (valsB pre)))) ∧ Below w.heap.size w W)
    (fun _ _ _ => False)
    (OwnFrom.and (Own.from (fun s A B row hs hg hr => ⟨cell_kept hs.1 hg hr, boxed_own (w.heap.size + 1) 22 (fun pre => .int .u64 (madeI g l (valsB pre))) s A B row hs.2 hg hr⟩) _) (ownFrom_below (Nat.le_refl _) (by omega)))
    (fun _ _ _ _ _ hs _ _ => hs)
    ⟨⟨c2, c5⟩, hB0⟩
    (fun x => { tmps := #[.agg #[.int .u64 g, .slice A l.length c], .int .u64 s, .pointer (some ⟨w.heap.size, 0, none⟩), undef, .int .u64 0, .pointer (some ⟨w.heap.size + 1, 0, none⟩), .int .i64 (x.1 : Int), .pointer (some ⟨w.heap.size, 0, none⟩), .int .u64 g, .int .u64 s, .func (.func 51) #[] #[.pointer (some ⟨w.heap.size + 1 + 1, 0, none⟩)], .int .i64 (x.1 : Int), undef, undef, undef, undef, undef, undef, undef, undef], defers := [] }) ?assign ?body ?done ?stop
  case assign =>
    intro l x W K hK
    dsimp only [encB]
    gi_wp2
    exact hK
  case body =>
    rintro l0 pre x W ⟨⟨h2, h5⟩, hB⟩ _
    have d5 := h5.cell
    have e5 := h5.frozen
    have hx : x.1 < l.length := hin _ x.2
    obtain ⟨ad, rfl, hcx⟩ := Kd.at_int HR.out (x.1 : Int) (by omega) (by omega)
    rw [Int.toNat_natCast] at hcx
    have hcx' := (hB.cell (World.block_lt_of_cell? w _ hcx)).trans hcx
    obtain ⟨y, hy⟩ : ∃ y, rd l (x.1 : Int) = y := ⟨_, rfl⟩
    gi_wp2
    have hmx : Tryd.prog.follows .mixedOrders = true := by kernel_rfl
    gi_region_with_o (fail)
    all_goals gi_wp2
    all_goals (try go_bits)
    all_goals exact ⟨(KeepsOthers.setCell _ _ _).trans (KeepsOthers.drew _), ⟨((Below.refl 1 W).setCell (p := ⟨w.heap.size + 1, 0, none⟩) (by simp) _).drew, Below.heap_setCell W ⟨w.heap.size + 1, 0, none⟩ _ _ (by simp)⟩,
      ⟨⟨(World.cell?_setCell_other W ⟨w.heap.size + 1, 0, none⟩ ⟨w.heap.size, 1, none⟩ _ (by simp)).trans h2, by rw [valsB_snoc, madeI_snoc, hy]; exact h5.set _⟩, (hB.setCell (p := ⟨w.heap.size + 1, 0, none⟩) (by simp) _).drew⟩⟩
  case done =>
    rintro D xs W hD hxs ⟨⟨h2, h5⟩, hB⟩ hK
    have d5 := h5.cell
    gi_wp2
    refine ⟨by simp, .inl ⟨_, _, rfl, run_takeDeferred hK, ?_⟩⟩
    exact ⟨_, results_tmp rfl _ _ _, by rw [← hxs]; rfl, hB.trans (belowK_b (w := w) (Nat.le_refl _) W D _ _ (by omega) hK rfl rfl)⟩
  case stop =>
    rintro D c pre W _ _ h _
    exact h.elim
def facts_makes.f (g : Int) (l : List Int) (s : Int) : Option Int :=
  if 0 ≤ s ∧ s < 18446744073709551616 ∧ (bitsFrom s.toNat 0).all (fun i => decide (i < l.length)) = true then some (madeI g l (bitsFrom s.toNat 0)) else none
theorem facts_makes.calls (g : Int) (A : Option Addr) (c : Nat) (l : List Int) (s r : Int) (w : World) (hr : Kd.C (Kd.int .u64) w A l.length l) (_hc : l.length ≤ c) (h : facts_makes.f g l s = some r) (hT : DB w) :
    Calls Tryd.prog 44 #[.agg #[.int .u64 g, .slice A l.length c], .int .u64 s] w fun e w' => e = .returned (.int .u64 r) ∧ Below w.heap.size w w' := by
  unfold facts_makes.f at h
  split at h
  · rename_i hc
    obtain rfl := Option.some.inj h
    obtain ⟨n, rfl⟩ := Int.eq_ofNat_of_zero_le hc.1
    rw [Int.toNat_natCast] at hc ⊢
    exact makes_calls g A c l n w (by omega) hr (fun i hi => of_decide_eq_true (List.all_eq_true.1 hc.2.2 i hi)) hT
  · cases h
end Go.Proofs.YtnogmnmbakglcaaDoor
