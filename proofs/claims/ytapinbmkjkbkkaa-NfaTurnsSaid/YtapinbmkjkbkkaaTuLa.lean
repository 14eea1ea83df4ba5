import Derived.Test.YtapinbmkjkbkkaaTuLbx0
import Derived.WalkLawsBesides
import Derived.Outline
import Derived.Lib.Hide
namespace Go.Proofs.Ytapinbmkjkbkkaa.Ls
open Go.RowKit Go.Proofs.YtapinbmkjkbkkaaW.PrintWords Go.Proofs.YtapinbmkjkbkkaaW.PrintLast Go.Proofs.YtapinbmkjkbkkaaW.PrintMore Lb
def RowAt (w : World) (g : Nat) (xs : List Int) : Prop := w.heap[g]? = some (.cells (nums .i64 xs).toArray 3 (0, 0))
theorem row_cell {w : World} {g : Nat} {xs : List Int} (h : RowAt w g xs) (i : Int) (h0 : 0 ≤ i) (h1 : i < xs.length) : w.cell? ⟨g, i.toNat, none⟩ = some (.int .i64 (rd xs i)) := by
  refine (blk_cell h i.toNat).trans ?_
  have hi : i.toNat < xs.length := by omega
  simp [nums, rd, List.getElem?_eq_getElem hi]
theorem row_set {w : World} {g : Nat} {xs : List Int} (h : RowAt w g xs) (i x : Int) : RowAt (w.setCell ⟨g, i.toNat, none⟩ (.int .i64 x)) g (xs.set i.toNat x) := by
  refine blk_put h i.toNat _ ?_
  simp [nums, List.map_set]
structure Held (w : World) (B6 B15 g : Nat) (near : List Int) (left : Int) : Prop where
  h6 : w.heap[B6]? = some (.cells #[.slice (some ⟨g, 0, none⟩) near.length near.length] 27 (0, 0))
  h15 : w.heap[B15]? = some (.cells #[.int .i64 left] 3 (0, 0))
  hrow : RowAt w g near
theorem held_below {w w1 : World} {B6 B15 g : Nat} {near : List Int} {left : Int} (h : Held w B6 B15 g near left) (hb : Below w.heap.size w w1) : Held w1 B6 B15 g near left :=
  ⟨blk_below h.h6 hb, blk_below h.h15 hb, blk_below h.hrow hb⟩
set_option maxHeartbeats 400000 in
theorem near_calls (B6 B15 g : Nat) (near : List Int) (left i : Int) (w : World) (h : Held w B6 B15 g near left) (h0 : 0 ≤ i) (h1 : i < near.length) :
    Calls Try.prog 57 #[.int .i64 i, .pointer (some ⟨B6, 0, none⟩), .pointer (some ⟨B15, 0, none⟩)] w fun e w' => e = .returned (.bool (rd near i == left)) ∧ Drawn0 w w' := by
  have hc6 : w.cell? ⟨B6, 0, none⟩ = some (.slice (some ⟨g, 0, none⟩) near.length near.length) := (blk_cell h.h6 0).trans rfl
  have hc15 : w.cell? ⟨B15, 0, none⟩ = some (.int .i64 left) := (blk_cell h.h15 0).trans rfl
  have hx := row_cell h.hrow i h0 h1
  have hadd : (⟨g, 0, none⟩ : Addr).add i.toNat = ⟨g, i.toNat, none⟩ := add_plain g _
  clear h
  go_enter Try.func57, Try.ntmps57
  go_wp2_with (fail)
  go_quiet (fail)
  go_wp2
  go_ret
  exact ⟨rfl, by repeat (first | exact Drawn0.refl _ | apply Drawn0.step)⟩
def nearAny (near : List Int) (left : Int) (l : List Int) : Bool := l.any fun i => rd near i == left
theorem nearAny_step {near : List Int} {left : Int} {l : List Int} {k : Nat} (h : k < l.length) : nearAny near left (l.drop k) = ((rd near (rd l k) == left) || nearAny near left (l.drop (k + 1))) := by
  unfold nearAny
  rw [List.drop_eq_getElem_cons h, List.any_cons]
  have e : rd l k = l[k] := by unfold rd; simp [List.getElem?_eq_getElem h]
  rw [e]
theorem nearAny_end {near : List Int} {left : Int} {l : List Int} {k : Nat} (h : l.length ≤ k) : nearAny near left (l.drop k) = false := by
  unfold nearAny; rw [List.drop_eq_nil_of_le h]; rfl
set_option maxHeartbeats 800000 in
theorem nearIndex_calls (B6 B15 g : Nat) (near : List Int) (left : Int) (l : List Int) (A : Option Addr) (c : Nat) (w : World) (h : Held w B6 B15 g near left) (hr : Kd.C (Kd.int .i64) w A l.length l)
    (hin : ∀ k : Nat, k < l.length → 0 ≤ rd l k ∧ rd l k < near.length) :
    Calls Try.prog 79 #[.slice A l.length c, .func (.func 57) #[] #[.pointer (some ⟨B6, 0, none⟩), .pointer (some ⟨B15, 0, none⟩)]] w fun e w' => ∃ i : Int, e = .returned (.int .i64 i) ∧ decide (0 ≤ i) = nearAny near left l ∧ Below w.heap.size w w' := by
  have hl : l.length ≤ 9223372036854775807 := hr.2.1
  have HR := Aside0.mk hr
  have HD := Aside0.mk h
  have HIN := Aside0.mk hin
  clear hr h hin
  go_enter Try.func79, Try.ntmps79
  go_wp2
  go_loopw [5, 8] (fun _ i wr => ∃ k : Nat, k ≤ l.length ∧ i = .int .i64 k ∧ Aside0 (nearAny near left l = nearAny near left (l.drop k)) ∧ Aside0 (Below w.heap.size w wr)) (fun _ i _ => l.length - (intOf i).toNat)
  case atStart => exact ⟨0, Nat.zero_le _, rfl, ⟨rfl⟩, ⟨Below.refl _ _⟩⟩
  case round =>
    obtain ⟨k, hk, rfl, hany, HB⟩ := hrel
    by_cases hlt : k < l.length
    · obtain ⟨ad, rfl, hx0⟩ := Kd.at_int HR.out (k : Int) (by omega) (by omega)
      rw [Int.toNat_natCast] at hx0
      have hy0 := pw_cell_below HB.out hx0
      have HS := Aside0.mk (nearAny_step (near := near) (left := left) hlt)
      have HX := Aside0.mk (near_calls B6 B15 g near left (rd l k) wr (held_below HD.out HB.out) (HIN.out k hlt).1 (HIN.out k hlt).2)
      clear hx0
      cases hb : (rd near (rd l k) == left) with
      | true =>
        have HBB := Lib.hid hb
        clear hb
        go_wp2_with (go_at_call 57; refine HX.out.mono ?_; rintro e w1 ⟨rfl, ⟨nd, rfl⟩⟩; rw [HBB.out])
        go_ret
        exact ⟨_, rfl, by rw [hany.out, HS.out, HBB.out]; simp, pw_below_drewN HB.out _⟩
      | false =>
        have HBB := Lib.hid hb
        clear hb
        go_wp2_with (go_at_call 57; refine HX.out.mono ?_; rintro e w1 ⟨rfl, ⟨nd, rfl⟩⟩; rw [HBB.out])
        go_roundw
        case rel => exact ⟨k + 1, by omega, by go_num, ⟨by rw [hany.out, HS.out, HBB.out]; simp⟩, ⟨pw_below_drewN HB.out _⟩⟩
        case measure => simp [intOf]; omega
    · have hge : l.length ≤ k := by omega
      have HE := Aside0.mk (nearAny_end (near := near) (left := left) hge)
      go_wp2
      go_ret
      exact ⟨_, rfl, by rw [hany.out, HE.out]; rfl, HB.out⟩
set_option maxHeartbeats 400000 in
theorem nearContains_calls (B6 B15 g : Nat) (near : List Int) (left : Int) (l : List Int) (A : Option Addr) (c : Nat) (w : World) (h : Held w B6 B15 g near left) (hr : Kd.C (Kd.int .i64) w A l.length l)
    (hin : ∀ k : Nat, k < l.length → 0 ≤ rd l k ∧ rd l k < near.length) :
    Calls Try.prog 55 #[.slice A l.length c, .func (.func 57) #[] #[.pointer (some ⟨B6, 0, none⟩), .pointer (some ⟨B15, 0, none⟩)]] w fun e w' => e = .returned (.bool (nearAny near left l)) ∧ Below w.heap.size w w' := by
  have HX := Aside0.mk (nearIndex_calls B6 B15 g near left l A c w h hr hin)
  clear hr h hin
  go_enter Try.func55, Try.ntmps55
  go_wp2_with (go_at_call 79; refine HX.out.mono ?_; rintro e w' ⟨i, rfl, hi, hb⟩; have HB := Aside0.mk hb; clear hb)
  go_ret
  exact ⟨rfl, HB.out⟩
end Go.Proofs.Ytapinbmkjkbkkaa.Ls
