import Derived.Test.YtapinbmkjkbkkaaDfVi
import Derived.Test.YtapinbmkjkbkkaaDfLbe
import Derived.Test.YtapinbmkjkbkkaaDfLbx5
import Derived.Test.YtapinbmkjkbkkaaDfLbx6
import Derived.Test.YtapinbmkjkbkkaaDfLbx7
namespace Go.Proofs.Ytapinbmkjkbkkaa.Lb
open Go.RowKit Go.Proofs.YtapinbmkjkbkkaaW.PrintWords Go.Proofs.YtapinbmkjkbkkaaW.PrintLast Go.Proofs.YtapinbmkjkbkkaaW.PrintMore
attribute [local go_sem] max2_int min2_int max_two min_two max_three min_three max_four min_four
set_option linter.unusedVariables false
set_option linter.unusedSimpArgs false
private theorem viB {P : Prop} (h : P := by repeat (first | (with_reducible first | exact HB.out | apply below_alloc | apply pw_below_drewN | apply below_drew1 | refine below_set ?_ GE466.out | refine below_set ?_ GE467.out | refine below_set ?_ GE469.out) | exact HB.out)) : P := h
def stackyardref08_alike.l0 : Nat → List Bool → List Bool → Int → Option (Bool)
  | 0, _, _, _ => none
  | k + 1, x0, x1, x5 => if x5 < (x0.length : Int) then (if 0 ≤ x5 then (if x5 < (x1.length : Int) then (if ((rdOf false x0 x5) != (rdOf false x1 x5)) = true then (some false) else (stackyardref08_alike.l0 k x0 x1 (wrap64 (x5 + 1)))) else (none)) else (none)) else (some true)
def stackyardref08_alike.f (k : Nat) (l0 : List Bool) (l1 : List Bool) : Option (Bool) := stackyardref08_alike.l0 k l0 l1 0
theorem stackyardref08_alike.mono_l : ∀ k, (∀ y0 y1 y2, LeO (stackyardref08_alike.l0 k y0 y1 y2) (stackyardref08_alike.l0 (k + 1) y0 y1 y2))
  | 0 => fun _ _ _ r h => by simp [stackyardref08_alike.l0] at h
  | k + 1 => by
    have ih0 := stackyardref08_alike.mono_l k
    · intro y0 y1 y2
      unfold stackyardref08_alike.l0
      repeat' first
      | (with_reducible exact ih0 _ _ _)
      | (with_reducible exact LeO.refl _)
      | (with_reducible exact LeO.none _)
      | (with_reducible refine LeO.ite ?_ ?_)
      | (with_reducible refine LeO.bind ?_ (fun _ => ?_))
      | exact ih0 _ _ _
      | exact LeO.none _
      | refine LeO.ite ?_ ?_
      | refine LeO.bind ?_ (fun _ => ?_)
theorem stackyardref08_alike.mono : ∀ a0 a1 k, LeO (stackyardref08_alike.f k a0 a1) (stackyardref08_alike.f (k + 1) a0 a1) := by
  intro a0 a1 k
  have ih0 := stackyardref08_alike.mono_l k
  unfold stackyardref08_alike.f
  repeat' first
      | (with_reducible exact ih0 _ _ _)
      | (with_reducible exact LeO.refl _)
      | (with_reducible exact LeO.none _)
      | (with_reducible refine LeO.ite ?_ ?_)
      | (with_reducible refine LeO.bind ?_ (fun _ => ?_))
      | exact ih0 _ _ _
      | exact LeO.none _
      | refine LeO.ite ?_ ?_
      | refine LeO.bind ?_ (fun _ => ?_)
set_option maxHeartbeats 8000000 in
set_option maxRecDepth 100000 in
theorem stackyardref08_alike.calls (k : Nat) (A0 : Option Addr) (c0 : Nat) (l0 : List Bool) (A1 : Option Addr) (c1 : Nat) (l1 : List Bool) (r : Bool) (w : World) (hr0 : Kd.C Kd.bool w A0 l0.length l0) (hc0 : l0.length ≤ c0) (hr1 : Kd.C Kd.bool w A1 l1.length l1) (hc1 : l1.length ≤ c1) (h : stackyardref08_alike.f k l0 l1 = some r) :
    Calls Try.prog 52 #[.slice A0 l0.length c0, .slice A1 l1.length c1] w fun e w' => e = .returned (.bool r) ∧ Drawn0 w w' := by
  have HR0 := Aside0.mk hr0
  have HC0 := Aside0.mk hc0
  clear hr0 hc0
  have HR1 := Aside0.mk hr1
  have HC1 := Aside0.mk hc1
  clear hr1 hc1
  have H : (stackyardref08_alike.l0 k l0 l1 0) = some r := h
  clear h
  have H' := Aside0.mk H
  clear H
  go_enter Try.func52, Try.ntmps52
  go_wp2
  repeat (go_quiet (fail); try go_wp2)
  go_loopg [5] k (fun kq v5 w' => ∃ (x5_1 : Int), v5 = .int .i64 x5_1 ∧ Aside0 (stackyardref08_alike.l0 kq l0 l1 x5_1 = some r) ∧ Aside0 (kq ≤ k) ∧ Drawn0 w w')
  case atStart => exact ⟨(0), (by first | rfl | (simp; done) | (simp [*]; done)), H', ⟨Nat.le_refl _⟩, by repeat (first | exact Drawn0.refl _ | apply Drawn0.step)⟩
  case round =>
    clear H'
    try clear c1
    try clear p2
    obtain ⟨x5_1, rfl, HA, HK1, ⟨m1, rfl⟩⟩ := hrel
    cases gk with
    | zero => exact absurd HA.out (by simp [stackyardref08_alike.l0])
    | succ k1 =>
      have H := HA.out
      clear HA
      simp only [stackyardref08_alike.l0] at H
      by_cases c3 : x5_1 < (l0.length : Int)
      · rw [if_pos c3] at H
        have c3b0 : decide (x5_1 < (l0.length : Int)) = true := decide_eq_true c3
        clear c3
        by_cases c4 : 0 ≤ x5_1
        · rw [if_pos c4] at H
          have c4b0 : decide (0 ≤ x5_1) = true := decide_eq_true c4
          clear c4
          by_cases c5 : x5_1 < (l1.length : Int)
          · rw [if_pos c5] at H
            have c5b0 : decide (x5_1 < (l1.length : Int)) = true := decide_eq_true c5
            clear c5
            by_cases c6 : ((rdOf false l0 x5_1) != (rdOf false l1 x5_1)) = true
            · rw [if_pos c6] at H
              have c6b0 : ((rdOf false l0 x5_1) != (rdOf false l1 x5_1)) = true := c6
              (try (have c6b1 : decide ((rdOf false l0 x5_1) = (rdOf false l1 x5_1)) = false := by simpa using c6))
              (try (have c6b2 : ((rdOf false l0 x5_1) == (rdOf false l1 x5_1)) = false := by simpa using c6))
              (try (have c6b3 : ¬ ((rdOf false l0 x5_1) = (rdOf false l1 x5_1)) := by simpa using c6))
              clear c6
              obtain rfl := Option.some.inj H
              have p464 : 0 ≤ (x5_1 : Int) := viA
              have q464 : x5_1 < (l0.length : Int) := viA
              obtain ⟨ad464, e464, hx464_0⟩ := Kd.at_bool HR0.out x5_1 p464 q464
              cases e464
              replace p464 := eq_true p464
              replace q464 := eq_true q464
              have p465 : 0 ≤ (x5_1 : Int) := viA
              have q465 : x5_1 < (l1.length : Int) := viA
              obtain ⟨ad465, e465, hx465_0⟩ := Kd.at_bool HR1.out x5_1 p465 q465
              cases e465
              replace p465 := eq_true p465
              replace q465 := eq_true q465
              go_wp2
              repeat (go_quiet (fail); try go_wp2)
              go_ret
              exact ⟨by first | rfl | (simp; done) | (simp [*]; done), by repeat (first | exact Drawn0.refl _ | apply Drawn0.step)⟩
            · rw [if_neg c6] at H
              have c6b0 : ((rdOf false l0 x5_1) != (rdOf false l1 x5_1)) = false := by simpa using c6
              (try (have c6b1 : decide ((rdOf false l0 x5_1) = (rdOf false l1 x5_1)) = true := by simpa using c6))
              (try (have c6b2 : ((rdOf false l0 x5_1) == (rdOf false l1 x5_1)) = true := by simpa using c6))
              clear c6
              have H' := Aside0.mk H
              clear H
              have p464 : 0 ≤ (x5_1 : Int) := viA
              have q464 : x5_1 < (l0.length : Int) := viA
              obtain ⟨ad464, e464, hx464_0⟩ := Kd.at_bool HR0.out x5_1 p464 q464
              cases e464
              replace p464 := eq_true p464
              replace q464 := eq_true q464
              have p465 : 0 ≤ (x5_1 : Int) := viA
              have q465 : x5_1 < (l1.length : Int) := viA
              obtain ⟨ad465, e465, hx465_0⟩ := Kd.at_bool HR1.out x5_1 p465 q465
              cases e465
              replace p465 := eq_true p465
              replace q465 := eq_true q465
              go_wp2
              repeat (go_quiet (fail); try go_wp2)
              go_roundg k1
              case measure => have := HK1.out; omega
              case rel => exact ⟨(wrap64 (x5_1 + 1)), (by first | rfl | (simp; done) | (simp [*]; done)), H', ⟨by have := HK1.out; omega⟩, by repeat (first | exact Drawn0.refl _ | apply Drawn0.step)⟩
          · rw [if_neg c5] at H
            exact absurd H (by simp)
        · rw [if_neg c4] at H
          exact absurd H (by simp)
      · rw [if_neg c3] at H
        have c3b0 : decide (x5_1 < (l0.length : Int)) = false := decide_eq_false c3
        clear c3
        obtain rfl := Option.some.inj H
        go_wp2
        repeat (go_quiet (fail); try go_wp2)
        go_ret
        exact ⟨by first | rfl | (simp; done) | (simp [*]; done), by repeat (first | exact Drawn0.refl _ | apply Drawn0.step)⟩
mutual
def stackyardref08_Dfa.l0 : Nat → List (List Bool) → Int → Int → Int → Int → Int → List (S78) → Int → List (List Int) → List Bool → Option (Int × (List (List Int)) × List Bool × Int)
  | 0, _, _, _, _, _, _, _, _, _, _ => none
  | k + 1, x6, x7, x467000, x467001, x467002, x467003, x467004, x470000, x470001, x470002 => if x7 < (x6.length : Int) then (if 0 ≤ x467001 then (if (x467001 : Int).toNat ≤ 35184372088832 then (stackyardref08_Dfa.l1 k x6 x7 (List.replicate (x467001 : Int).toNat 0) 0 x467000 x467001 x467002 x467003 x467004 x470000 x470001 x470002) else (none)) else (none)) else (some (x470000, x470001, x470002, 0))
def stackyardref08_Dfa.l1 : Nat → List (List Bool) → Int → List Int → Int → Int → Int → Int → Int → List (S78) → Int → List (List Int) → List Bool → Option (Int × (List (List Int)) × List Bool × Int)
  | 0, _, _, _, _, _, _, _, _, _, _, _, _ => none
  | k + 1, x6, x7, x8, x9, x467000, x467001, x467002, x467003, x467004, x470000, x470001, x470002 => if x9 < x467001 then (if 0 ≤ x7 then (if x7 < (x6.length : Int) then ((stackyardref08_by.f k x467000 x467001 x467002 x467003 x467004 x9 (rd_L7 x6 x7)).bind fun t491 => (stackyardref08_Dfa.l2 k x6 x7 x8 x9 t491 0 x467000 x467001 x467002 x467003 x467004 x470000 x470001 x470002)) else (none)) else (none)) else (if x470001.length < 5864062014805 then (if 0 ≤ x7 then (if x7 < (x6.length : Int) then (if 0 ≤ x467003 then (if x467003 < ((rd_L7 x6 x7).length : Int) then (if x470002.length < 140737488355328 then (stackyardref08_Dfa.l0 k x6 (wrap64 (x7 + 1)) x467000 x467001 x467002 x467003 x467004 x470000 (x470001 ++ [x8]) (x470002 ++ [rdOf false (rd_L7 x6 x7) x467003])) else (none)) else (none)) else (none)) else (none)) else (none)) else (none))
def stackyardref08_Dfa.j3 : Nat → List (List Bool) → Int → List Int → Int → List Bool → Int → Int → Int → Int → Int → List (S78) → Int → List (List Int) → List Bool → Option (Int × (List (List Int)) × List Bool × Int)
  | 0, _, _, _, _, _, _, _, _, _, _, _, _, _, _ => none
  | k + 1, x6, x7, x8, x9, x10, x11, x467000, x467001, x467002, x467003, x467004, x470000, x470001, x470002 => if x11 = (x6.length : Int) then (if x6.length < 5864062014805 then ((some (x6 ++ [x10] : List (List Bool))).bind fun y496 => (if (y496.length : Int) > 1024 then (some (0, ([] : List (List Int)), ([] : List Bool), 3)) else (if (wrap64 ((y496.length : Int) * x467001)) > 65536 then (some (0, ([] : List (List Int)), ([] : List Bool), 3)) else (if 0 ≤ x9 then (if x9 < (x8.length : Int) then (stackyardref08_Dfa.l1 k y496 x7 (x8.set (x9 : Int).toNat x11) (wrap64 (x9 + 1)) x467000 x467001 x467002 x467003 x467004 x470000 x470001 x470002) else (none)) else (none))))) else (none)) else (if (x6.length : Int) > 1024 then (some (0, ([] : List (List Int)), ([] : List Bool), 3)) else (if (wrap64 ((x6.length : Int) * x467001)) > 65536 then (some (0, ([] : List (List Int)), ([] : List Bool), 3)) else (if 0 ≤ x9 then (if x9 < (x8.length : Int) then (stackyardref08_Dfa.l1 k x6 x7 (x8.set (x9 : Int).toNat x11) (wrap64 (x9 + 1)) x467000 x467001 x467002 x467003 x467004 x470000 x470001 x470002) else (none)) else (none))))
def stackyardref08_Dfa.l2 : Nat → List (List Bool) → Int → List Int → Int → List Bool → Int → Int → Int → Int → Int → List (S78) → Int → List (List Int) → List Bool → Option (Int × (List (List Int)) × List Bool × Int)
  | 0, _, _, _, _, _, _, _, _, _, _, _, _, _, _ => none
  | k + 1, x6, x7, x8, x9, x10, x11, x467000, x467001, x467002, x467003, x467004, x470000, x470001, x470002 => if x11 < (x6.length : Int) then (if 0 ≤ x11 then ((stackyardref08_alike.f k (rd_L7 x6 x11) x10).bind fun t495 => (if t495 = true then (stackyardref08_Dfa.j3 k x6 x7 x8 x9 x10 x11 x467000 x467001 x467002 x467003 x467004 x470000 x470001 x470002) else (stackyardref08_Dfa.l2 k x6 x7 x8 x9 x10 (wrap64 (x11 + 1)) x467000 x467001 x467002 x467003 x467004 x470000 x470001 x470002))) else (none)) else (stackyardref08_Dfa.j3 k x6 x7 x8 x9 x10 x11 x467000 x467001 x467002 x467003 x467004 x470000 x470001 x470002)
end
def stackyardref08_Dfa.f (k : Nat) (a0_0 : Int) (a0_1 : Int) (a0_2 : Int) (a0_3 : Int) (l0_4 : List (S78)) : Option (Int × (List (List Int)) × List Bool × Int) := (stackyardref08_Check.f k a0_0 a0_1 a0_2 a0_3 l0_4).bind fun t468 => (if t468 = 0 then ((stackyardref08_marks.f k a0_0 a0_1 a0_2 a0_3 l0_4 (([a0_2] : List Int))).bind fun t473 => (stackyardref08_Dfa.l0 k (([t473] : List (List Bool))) 0 a0_0 a0_1 a0_2 a0_3 l0_4 a0_1 ([] : List (List Int)) ([] : List Bool))) else (some (0, ([] : List (List Int)), ([] : List Bool), t468)))
theorem stackyardref08_Dfa.mono_l : ∀ k, (∀ y0 y1 y2 y3 y4 y5 y6 y7 y8 y9, LeO (stackyardref08_Dfa.l0 k y0 y1 y2 y3 y4 y5 y6 y7 y8 y9) (stackyardref08_Dfa.l0 (k + 1) y0 y1 y2 y3 y4 y5 y6 y7 y8 y9)) ∧ (∀ y0 y1 y2 y3 y4 y5 y6 y7 y8 y9 y10 y11, LeO (stackyardref08_Dfa.l1 k y0 y1 y2 y3 y4 y5 y6 y7 y8 y9 y10 y11) (stackyardref08_Dfa.l1 (k + 1) y0 y1 y2 y3 y4 y5 y6 y7 y8 y9 y10 y11)) ∧ (∀ y0 y1 y2 y3 y4 y5 y6 y7 y8 y9 y10 y11 y12 y13, LeO (stackyardref08_Dfa.j3 k y0 y1 y2 y3 y4 y5 y6 y7 y8 y9 y10 y11 y12 y13) (stackyardref08_Dfa.j3 (k + 1) y0 y1 y2 y3 y4 y5 y6 y7 y8 y9 y10 y11 y12 y13)) ∧ (∀ y0 y1 y2 y3 y4 y5 y6 y7 y8 y9 y10 y11 y12 y13, LeO (stackyardref08_Dfa.l2 k y0 y1 y2 y3 y4 y5 y6 y7 y8 y9 y10 y11 y12 y13) (stackyardref08_Dfa.l2 (k + 1) y0 y1 y2 y3 y4 y5 y6 y7 y8 y9 y10 y11 y12 y13))
  | 0 => ⟨fun _ _ _ _ _ _ _ _ _ _ r h => by simp [stackyardref08_Dfa.l0] at h, fun _ _ _ _ _ _ _ _ _ _ _ _ r h => by simp [stackyardref08_Dfa.l1] at h, fun _ _ _ _ _ _ _ _ _ _ _ _ _ _ r h => by simp [stackyardref08_Dfa.j3] at h, fun _ _ _ _ _ _ _ _ _ _ _ _ _ _ r h => by simp [stackyardref08_Dfa.l2] at h⟩
  | k + 1 => by
    obtain ⟨ih0, ih1, ih2, ih3⟩ := stackyardref08_Dfa.mono_l k
    refine ⟨?_, ?_, ?_, ?_⟩
    · intro y0 y1 y2 y3 y4 y5 y6 y7 y8 y9
      unfold stackyardref08_Dfa.l0
      repeat' first
      | (with_reducible exact ih0 _ _ _ _ _ _ _ _ _ _)
      | (with_reducible exact ih1 _ _ _ _ _ _ _ _ _ _ _ _)
      | (with_reducible exact ih2 _ _ _ _ _ _ _ _ _ _ _ _ _ _)
      | (with_reducible exact ih3 _ _ _ _ _ _ _ _ _ _ _ _ _ _)
      | (with_reducible exact stackyardref08_Check.mono _ _ _ _ _ _)
      | (with_reducible exact stackyardref08_alike.mono _ _ _)
      | (with_reducible exact stackyardref08_by.mono _ _ _ _ _ _ _ _)
      | (with_reducible exact stackyardref08_marks.mono _ _ _ _ _ _ _)
      | (with_reducible exact LeO.refl _)
      | (with_reducible exact LeO.none _)
      | (with_reducible refine LeO.ite ?_ ?_)
      | (with_reducible refine LeO.bind ?_ (fun _ => ?_))
      | exact ih0 _ _ _ _ _ _ _ _ _ _
      | exact ih1 _ _ _ _ _ _ _ _ _ _ _ _
      | exact ih2 _ _ _ _ _ _ _ _ _ _ _ _ _ _
      | exact ih3 _ _ _ _ _ _ _ _ _ _ _ _ _ _
      | exact stackyardref08_Check.mono _ _ _ _ _ _
      | exact stackyardref08_alike.mono _ _ _
      | exact stackyardref08_by.mono _ _ _ _ _ _ _ _
      | exact stackyardref08_marks.mono _ _ _ _ _ _ _
      | exact LeO.none _
      | refine LeO.ite ?_ ?_
      | refine LeO.bind ?_ (fun _ => ?_)
    · intro y0 y1 y2 y3 y4 y5 y6 y7 y8 y9 y10 y11
      unfold stackyardref08_Dfa.l1
      repeat' first
      | (with_reducible exact ih0 _ _ _ _ _ _ _ _ _ _)
      | (with_reducible exact ih1 _ _ _ _ _ _ _ _ _ _ _ _)
      | (with_reducible exact ih2 _ _ _ _ _ _ _ _ _ _ _ _ _ _)
      | (with_reducible exact ih3 _ _ _ _ _ _ _ _ _ _ _ _ _ _)
      | (with_reducible exact stackyardref08_Check.mono _ _ _ _ _ _)
      | (with_reducible exact stackyardref08_alike.mono _ _ _)
      | (with_reducible exact stackyardref08_by.mono _ _ _ _ _ _ _ _)
      | (with_reducible exact stackyardref08_marks.mono _ _ _ _ _ _ _)
      | (with_reducible exact LeO.refl _)
      | (with_reducible exact LeO.none _)
      | (with_reducible refine LeO.ite ?_ ?_)
      | (with_reducible refine LeO.bind ?_ (fun _ => ?_))
      | exact ih0 _ _ _ _ _ _ _ _ _ _
      | exact ih1 _ _ _ _ _ _ _ _ _ _ _ _
      | exact ih2 _ _ _ _ _ _ _ _ _ _ _ _ _ _
      | exact ih3 _ _ _ _ _ _ _ _ _ _ _ _ _ _
      | exact stackyardref08_Check.mono _ _ _ _ _ _
      | exact stackyardref08_alike.mono _ _ _
      | exact stackyardref08_by.mono _ _ _ _ _ _ _ _
      | exact stackyardref08_marks.mono _ _ _ _ _ _ _
      | exact LeO.none _
      | refine LeO.ite ?_ ?_
      | refine LeO.bind ?_ (fun _ => ?_)
    · intro y0 y1 y2 y3 y4 y5 y6 y7 y8 y9 y10 y11 y12 y13
      unfold stackyardref08_Dfa.j3
      repeat' first
      | (with_reducible exact ih0 _ _ _ _ _ _ _ _ _ _)
      | (with_reducible exact ih1 _ _ _ _ _ _ _ _ _ _ _ _)
      | (with_reducible exact ih2 _ _ _ _ _ _ _ _ _ _ _ _ _ _)
      | (with_reducible exact ih3 _ _ _ _ _ _ _ _ _ _ _ _ _ _)
      | (with_reducible exact stackyardref08_Check.mono _ _ _ _ _ _)
      | (with_reducible exact stackyardref08_alike.mono _ _ _)
      | (with_reducible exact stackyardref08_by.mono _ _ _ _ _ _ _ _)
      | (with_reducible exact stackyardref08_marks.mono _ _ _ _ _ _ _)
      | (with_reducible exact LeO.refl _)
      | (with_reducible exact LeO.none _)
      | (with_reducible refine LeO.ite ?_ ?_)
      | (with_reducible refine LeO.bind ?_ (fun _ => ?_))
      | exact ih0 _ _ _ _ _ _ _ _ _ _
      | exact ih1 _ _ _ _ _ _ _ _ _ _ _ _
      | exact ih2 _ _ _ _ _ _ _ _ _ _ _ _ _ _
      | exact ih3 _ _ _ _ _ _ _ _ _ _ _ _ _ _
      | exact stackyardref08_Check.mono _ _ _ _ _ _
      | exact stackyardref08_alike.mono _ _ _
      | exact stackyardref08_by.mono _ _ _ _ _ _ _ _
      | exact stackyardref08_marks.mono _ _ _ _ _ _ _
      | exact LeO.none _
      | refine LeO.ite ?_ ?_
      | refine LeO.bind ?_ (fun _ => ?_)
    · intro y0 y1 y2 y3 y4 y5 y6 y7 y8 y9 y10 y11 y12 y13
      unfold stackyardref08_Dfa.l2
      repeat' first
      | (with_reducible exact ih0 _ _ _ _ _ _ _ _ _ _)
      | (with_reducible exact ih1 _ _ _ _ _ _ _ _ _ _ _ _)
      | (with_reducible exact ih2 _ _ _ _ _ _ _ _ _ _ _ _ _ _)
      | (with_reducible exact ih3 _ _ _ _ _ _ _ _ _ _ _ _ _ _)
      | (with_reducible exact stackyardref08_Check.mono _ _ _ _ _ _)
      | (with_reducible exact stackyardref08_alike.mono _ _ _)
      | (with_reducible exact stackyardref08_by.mono _ _ _ _ _ _ _ _)
      | (with_reducible exact stackyardref08_marks.mono _ _ _ _ _ _ _)
      | (with_reducible exact LeO.refl _)
      | (with_reducible exact LeO.none _)
      | (with_reducible refine LeO.ite ?_ ?_)
      | (with_reducible refine LeO.bind ?_ (fun _ => ?_))
      | exact ih0 _ _ _ _ _ _ _ _ _ _
      | exact ih1 _ _ _ _ _ _ _ _ _ _ _ _
      | exact ih2 _ _ _ _ _ _ _ _ _ _ _ _ _ _
      | exact ih3 _ _ _ _ _ _ _ _ _ _ _ _ _ _
      | exact stackyardref08_Check.mono _ _ _ _ _ _
      | exact stackyardref08_alike.mono _ _ _
      | exact stackyardref08_by.mono _ _ _ _ _ _ _ _
      | exact stackyardref08_marks.mono _ _ _ _ _ _ _
      | exact LeO.none _
      | refine LeO.ite ?_ ?_
      | refine LeO.bind ?_ (fun _ => ?_)
theorem stackyardref08_Dfa.mono : ∀ a0 a1 a2 a3 a4 k, LeO (stackyardref08_Dfa.f k a0 a1 a2 a3 a4) (stackyardref08_Dfa.f (k + 1) a0 a1 a2 a3 a4) := by
  intro a0 a1 a2 a3 a4 k
  obtain ⟨ih0, ih1, ih2, ih3⟩ := stackyardref08_Dfa.mono_l k
  unfold stackyardref08_Dfa.f
  repeat' first
      | (with_reducible exact ih0 _ _ _ _ _ _ _ _ _ _)
      | (with_reducible exact ih1 _ _ _ _ _ _ _ _ _ _ _ _)
      | (with_reducible exact ih2 _ _ _ _ _ _ _ _ _ _ _ _ _ _)
      | (with_reducible exact ih3 _ _ _ _ _ _ _ _ _ _ _ _ _ _)
      | (with_reducible exact stackyardref08_Check.mono _ _ _ _ _ _)
      | (with_reducible exact stackyardref08_alike.mono _ _ _)
      | (with_reducible exact stackyardref08_by.mono _ _ _ _ _ _ _ _)
      | (with_reducible exact stackyardref08_marks.mono _ _ _ _ _ _ _)
      | (with_reducible exact LeO.refl _)
      | (with_reducible exact LeO.none _)
      | (with_reducible refine LeO.ite ?_ ?_)
      | (with_reducible refine LeO.bind ?_ (fun _ => ?_))
      | exact ih0 _ _ _ _ _ _ _ _ _ _
      | exact ih1 _ _ _ _ _ _ _ _ _ _ _ _
      | exact ih2 _ _ _ _ _ _ _ _ _ _ _ _ _ _
      | exact ih3 _ _ _ _ _ _ _ _ _ _ _ _ _ _
      | exact stackyardref08_Check.mono _ _ _ _ _ _
      | exact stackyardref08_alike.mono _ _ _
      | exact stackyardref08_by.mono _ _ _ _ _ _ _ _
      | exact stackyardref08_marks.mono _ _ _ _ _ _ _
      | exact LeO.none _
      | refine LeO.ite ?_ ?_
      | refine LeO.bind ?_ (fun _ => ?_)
def stackyardref08_Dfa.T13 : Bool × List (List Nat × List Nat) := (true, [([], []), ([], []), ([], []), ([], []), ([2, 3], [2, 3]), ([4], [4]), ([0, 1, 5], [0, 1, 5]), ([6, 6, 0, 1, 2, 3, 4, 5, 6], [6])])
def stackyardref08_Dfa.B13 : List Nat := [0, 0, 0, 0, 12, 28, 63, 127]
theorem stackyardref08_Dfa.tab13 : rtab .any (opsOf Try.f18 13) = stackyardref08_Dfa.T13 := by kernel_rfl
theorem stackyardref08_Dfa.bits13 : waitsOk stackyardref08_Dfa.T13.2 stackyardref08_Dfa.B13 = true := by kernel_rfl
def stackyardref08_Dfa.T23 : Bool × List (List Nat × List Nat) := (true, [([], []), ([0], [0]), ([], []), ([], []), ([2, 3], [2, 3]), ([4], [4]), ([], []), ([6], [6]), ([5, 7], [5, 7]), ([8], [8]), ([9], [9]), ([1, 10], [1, 10]), ([0, 1, 2, 3, 4, 5, 6, 7, 8, 9, 10, 11], []), ([12, 11, 11, 0, 1, 2, 3, 4, 5, 6, 7, 8, 9, 10, 11], [11, 12])])
def stackyardref08_Dfa.B23 : List Nat := [0, 1, 0, 0, 12, 28, 0, 64, 252, 508, 1020, 2047, 4095, 8191]
theorem stackyardref08_Dfa.tab23 : rtab .any (opsOf Try.f18 23) = stackyardref08_Dfa.T23 := by kernel_rfl
theorem stackyardref08_Dfa.bits23 : waitsOk stackyardref08_Dfa.T23.2 stackyardref08_Dfa.B23 = true := by kernel_rfl
set_option maxHeartbeats 8000000 in
set_option maxRecDepth 100000 in
theorem stackyardref08_Dfa.calls (k : Nat) (a0_0 : Int) (a0_1 : Int) (a0_2 : Int) (a0_3 : Int) (A0_4 : Option Addr) (c0_4 : Nat) (l0_4 : List (S78)) (r1 : Int) (r2 : List (List Int)) (r3 : List Bool) (r4 : Int) (w : World) (hr0_4 : Kd.C k78 w A0_4 l0_4.length l0_4) (hc0_4 : l0_4.length ≤ c0_4) (h : stackyardref08_Dfa.f k a0_0 a0_1 a0_2 a0_3 l0_4 = some (r1, r2, r3, r4)) :
    Calls Try.prog 18 #[.agg #[.int .i64 a0_0, .int .i64 a0_1, .int .i64 a0_2, .int .i64 a0_3, .slice A0_4 l0_4.length c0_4]] w fun e w' => ∃ v1_ v2_ : Value, e = .returned (.tuple #[.agg #[.int .i64 r1, v1_, v2_], .int .i64 r4]) ∧ Kd.N (Kd.slice 3 (Kd.int .i64)) 27 w' w.heap.size (fun k_ => (w.heap.size ≤ k_) ∧ some k_ ≠ (v2_ : Value).ownBlock) v1_ r2 ∧ Kd.R Kd.bool 4 w' w.heap.size (fun k_ => (w.heap.size ≤ k_)) v2_ r3 ∧ Below w.heap.size w w' := by
  have hu31 := Try.underlying31
  have hu46 := Try.underlying46
  have HR0_4 := Aside0.mk hr0_4
  have HC0_4 := Aside0.mk hc0_4
  clear hr0_4 hc0_4
  have HB := Aside0.mk (Below.refl w.heap.size w)
  have H : ((stackyardref08_Check.f k a0_0 a0_1 a0_2 a0_3 l0_4).bind fun t468 => (if t468 = 0 then ((stackyardref08_marks.f k a0_0 a0_1 a0_2 a0_3 l0_4 (([a0_2] : List Int))).bind fun t473 => (stackyardref08_Dfa.l0 k (([t473] : List (List Bool))) 0 a0_0 a0_1 a0_2 a0_3 l0_4 a0_1 ([] : List (List Int)) ([] : List Bool))) else (some (0, ([] : List (List Int)), ([] : List Bool), t468)))) = some (r1, r2, r3, r4) := h
  clear h
  replace H := Option.bind_eq_some_iff.mp H
  obtain ⟨t468, A20, H⟩ := H
  replace H : (if t468 = 0 then ((stackyardref08_marks.f k a0_0 a0_1 a0_2 a0_3 l0_4 (([a0_2] : List Int))).bind fun t473 => (stackyardref08_Dfa.l0 k (([t473] : List (List Bool))) 0 a0_0 a0_1 a0_2 a0_3 l0_4 a0_1 ([] : List (List Int)) ([] : List Bool))) else (some (0, ([] : List (List Int)), ([] : List Bool), t468))) = some (r1, r2, r3, r4) := H
  have A2 := Aside0.mk A20
  clear A20
  by_cases c3 : t468 = 0
  · rw [if_pos c3] at H
    have c3b0 : (t468 == 0) = true := beq_iff_eq.mpr c3
    have c3b1 : (t468 != 0) = false := bne_eq_false_iff_eq.mpr c3
    clear c3
    obtain ⟨y470, hy470⟩ : ∃ y_ : List Int, y_ = (([a0_2] : List Int)) := ⟨_, rfl⟩
    replace H : ((stackyardref08_marks.f k a0_0 a0_1 a0_2 a0_3 l0_4 y470).bind fun t473 => (stackyardref08_Dfa.l0 k (([t473] : List (List Bool))) 0 a0_0 a0_1 a0_2 a0_3 l0_4 a0_1 ([] : List (List Int)) ([] : List Bool))) = some (r1, r2, r3, r4) := by first | (rw [hy470]; with_reducible exact H) | (have H2_ := (Option.bind_some _ _).symm.trans H; rw [hy470]; with_reducible exact H2_) | (have H2_ := (Option.bind_some _ _).symm.trans H; with_reducible exact H2_) | with_reducible exact H | (rw [hy470]; exact H) | exact H
    have Ny470 := Aside0.mk hy470
    clear hy470
    replace H := Option.bind_eq_some_iff.mp H
    obtain ⟨t473, A40, H⟩ := H
    replace H : (stackyardref08_Dfa.l0 k (([t473] : List (List Bool))) 0 a0_0 a0_1 a0_2 a0_3 l0_4 a0_1 ([] : List (List Int)) ([] : List Bool)) = some (r1, r2, r3, r4) := H
    have A4 := Aside0.mk A40
    clear A40
    obtain ⟨y476, hy476⟩ : ∃ y_ : List (List Bool), y_ = (([t473] : List (List Bool))) := ⟨_, rfl⟩
    replace H : (stackyardref08_Dfa.l0 k y476 0 a0_0 a0_1 a0_2 a0_3 l0_4 a0_1 ([] : List (List Int)) ([] : List Bool)) = some (r1, r2, r3, r4) := by first | (rw [hy476]; with_reducible exact H) | (have H2_ := (Option.bind_some _ _).symm.trans H; rw [hy476]; with_reducible exact H2_) | (have H2_ := (Option.bind_some _ _).symm.trans H; with_reducible exact H2_) | with_reducible exact H | (rw [hy476]; exact H) | exact H
    have Ny476 := Aside0.mk hy476
    clear hy476
    have H' := Aside0.mk H
    clear H
    go_enter Try.func18, Try.ntmps18
    go_wp2_with (first | ((with_reducible refine gate_dst (N := 1) rfl ?_); (try (refine gate_guard (by rfl) ?_; dsimp only)); refine box_event ?hg (N := 1) ?hd (cs := #[.int .i64 a0_0, .int .i64 a0_1, .int .i64 a0_2, .int .i64 a0_3, .slice A0_4 l0_4.length c0_4]) (t := 31) ?hr ?_; (case hd => rfl); (case hg => rfl); (case hr => first | (go_simp; done) | (go_simp; rfl)); intro gb466 hg w5 hbox hb; have n0_ := Aside0.mk (below_step viB hb); have n1_ := Aside0.mk (hbox); have n2_ := Aside0.mk ((by rw [hg]; exact (below_size viB) : w.heap.size ≤ gb466)); have n3_ := Aside0.mk ((by rw [hg]; exact (below_size viB) : w.heap.size ≤ gb466)); clear HB; have HB := n0_; have BK466 := n1_; have GW466 := n2_; have GE466 := n3_; clear n0_ n1_ n2_ n3_; clear hb hbox hg) | ((with_reducible refine gate_dst (N := 2) rfl ?_); (try (refine gate_guard (by rfl) ?_; dsimp only)); refine box_event ?hg (N := 2) ?hd (cs := #[.int .i64 0, .slice none 0 0, .slice none 0 0]) (t := 46) ?hr ?_; (case hd => rfl); (case hg => rfl); (case hr => first | (go_simp; done) | (go_simp; rfl)); intro gb467 hg w6 hbox hb; have n0_ := Aside0.mk (blk_below (g := gb466) (o := .cells #[.int .i64 a0_0, .int .i64 a0_1, .int .i64 a0_2, .int .i64 a0_3, .slice A0_4 l0_4.length c0_4] 31 (0, 0)) (viK BK466.out) hb); have n1_ := Aside0.mk (below_step viB hb); have n2_ := Aside0.mk (hbox); have n3_ := Aside0.mk ((by rw [hg]; exact (below_size viB) : w.heap.size ≤ gb467)); have n4_ := Aside0.mk ((by rw [hg]; exact (below_size viB) : w.heap.size ≤ gb467)); have n5_ := Aside0.mk ((by rw [hg]; exact Nat.ne_of_lt (blk_lt (g := gb466) (o := .cells #[.int .i64 a0_0, .int .i64 a0_1, .int .i64 a0_2, .int .i64 a0_3, .slice A0_4 l0_4.length c0_4] 31 (0, 0)) (viK BK466.out)) : gb466 ≠ gb467)); have n6_ := Aside0.mk ((by rw [hg]; exact Nat.ne_of_gt (blk_lt (g := gb466) (o := .cells #[.int .i64 a0_0, .int .i64 a0_1, .int .i64 a0_2, .int .i64 a0_3, .slice A0_4 l0_4.length c0_4] 31 (0, 0)) (viK BK466.out)) : gb467 ≠ gb466)); clear BK466; clear HB; have BK466 := n0_; have HB := n1_; have BK467 := n2_; have GW467 := n3_; have GE467 := n4_; have NB466_467 := n5_; have NB467_466 := n6_; clear n0_ n1_ n2_ n3_ n4_ n5_ n6_; clear hb hbox hg; have hnb7 := NB466_467.out; have hnc7 := NB467_466.out; have hcz8_0 : w6.cell? ⟨gb466, 0, none⟩ = some (.int .i64 a0_0) := (blk_cell BK466.out 0).trans rfl; have hcz8_1 : w6.cell? ⟨gb466, 1, none⟩ = some (.int .i64 a0_1) := (blk_cell BK466.out 1).trans rfl; have hcz8_2 : w6.cell? ⟨gb466, 2, none⟩ = some (.int .i64 a0_2) := (blk_cell BK466.out 2).trans rfl; have hcz8_3 : w6.cell? ⟨gb466, 3, none⟩ = some (.int .i64 a0_3) := (blk_cell BK466.out 3).trans rfl; have hcz8_4 : w6.cell? ⟨gb466, 4, none⟩ = some (.slice A0_4 l0_4.length c0_4) := (blk_cell BK466.out 4).trans rfl; have hfz8_0 := blk_frozen BK466.out 0; have hfz8_1 := blk_frozen BK466.out 1; have hfz8_2 := blk_frozen BK466.out 2; have hfz8_3 := blk_frozen BK466.out 3; have hfz8_4 := blk_frozen BK466.out 4) | ((with_reducible refine gate_callee (f := 32) rfl ?_); refine goesL_ (some 13) rfl rfl Try.func32 (by kernel_rfl) rfl #[.agg #[.int .i64 a0_0, .int .i64 a0_1, .int .i64 a0_2, .int .i64 a0_3, .slice A0_4 l0_4.length c0_4]] rfl (by (try simp only [List.map_toArray, List.map_cons, List.map_nil]); first | done | rfl | (simp only [List.length_drop, List.length_take]; rfl)) ?_; (with_reducible refine (stackyardref08_Check.calls k a0_0 a0_1 a0_2 a0_3 _ _ l0_4 t468 _ ?side1 ?side2 A2.out).mono ?_); (case side1 => repeat (first | exact (Kd.C_below HR0_4.out HB.out) | (with_reducible refine Kd.C_alloc ?_ _) | (with_reducible refine Kd.C_drewN ?_ _) | (with_reducible refine Kd.C_drew ?_))); (case side2 => exact HC0_4.out); rintro e w9 ⟨rfl, hb⟩; refine ⟨_, rfl, ?_⟩; have n0_ := Aside0.mk (blk_below (g := gb466) (o := .cells #[.int .i64 a0_0, .int .i64 a0_1, .int .i64 a0_2, .int .i64 a0_3, .slice A0_4 l0_4.length c0_4] 31 (0, 0)) (viK BK466.out) hb); have n1_ := Aside0.mk (blk_below (g := gb467) (o := .cells #[.int .i64 0, .slice none 0 0, .slice none 0 0] 46 (0, 0)) (viK BK467.out) hb); have n2_ := Aside0.mk (below_step viB hb); clear BK466; clear BK467; clear HB; have BK466 := n0_; have BK467 := n1_; have HB := n2_; clear n0_ n1_ n2_; (try clear hb); (try clear hb2); (try clear hk); (try clear hi); have hcz10_0 : w9.cell? ⟨gb466, 0, none⟩ = some (.int .i64 a0_0) := (blk_cell BK466.out 0).trans rfl; have hcz10_1 : w9.cell? ⟨gb466, 1, none⟩ = some (.int .i64 a0_1) := (blk_cell BK466.out 1).trans rfl; have hcz10_2 : w9.cell? ⟨gb466, 2, none⟩ = some (.int .i64 a0_2) := (blk_cell BK466.out 2).trans rfl; have hcz10_3 : w9.cell? ⟨gb466, 3, none⟩ = some (.int .i64 a0_3) := (blk_cell BK466.out 3).trans rfl; have hcz10_4 : w9.cell? ⟨gb466, 4, none⟩ = some (.slice A0_4 l0_4.length c0_4) := (blk_cell BK466.out 4).trans rfl; have hfz10_0 := blk_frozen BK466.out 0; have hfz10_1 := blk_frozen BK466.out 1; have hfz10_2 := blk_frozen BK466.out 2; have hfz10_3 := blk_frozen BK466.out 3; have hfz10_4 := blk_frozen BK466.out 4) | ((with_reducible refine gate_dst (N := 5) rfl ?_); (try (refine gate_guard (by rfl) ?_; dsimp only)); refine box_event ?hg (N := 5) ?hd (cs := #[.int .i64 0, .slice none 0 0, .slice none 0 0]) (t := 46) ?hr ?_; (case hd => rfl); (case hg => rfl); (case hr => first | (go_simp; done) | (go_simp; rfl)); intro gb469 hg w11 hbox hb; have n0_ := Aside0.mk (blk_below (g := gb466) (o := .cells #[.int .i64 a0_0, .int .i64 a0_1, .int .i64 a0_2, .int .i64 a0_3, .slice A0_4 l0_4.length c0_4] 31 (0, 0)) (viK BK466.out) hb); have n1_ := Aside0.mk (blk_below (g := gb467) (o := .cells #[.int .i64 0, .slice none 0 0, .slice none 0 0] 46 (0, 0)) (viK BK467.out) hb); have n2_ := Aside0.mk (below_step viB hb); have n3_ := Aside0.mk (hbox); have n4_ := Aside0.mk ((by rw [hg]; exact (below_size viB) : w.heap.size ≤ gb469)); have n5_ := Aside0.mk ((by rw [hg]; exact (below_size viB) : w.heap.size ≤ gb469)); have n6_ := Aside0.mk ((by rw [hg]; exact Nat.ne_of_lt (blk_lt (g := gb466) (o := .cells #[.int .i64 a0_0, .int .i64 a0_1, .int .i64 a0_2, .int .i64 a0_3, .slice A0_4 l0_4.length c0_4] 31 (0, 0)) (viK BK466.out)) : gb466 ≠ gb469)); have n7_ := Aside0.mk ((by rw [hg]; exact Nat.ne_of_gt (blk_lt (g := gb466) (o := .cells #[.int .i64 a0_0, .int .i64 a0_1, .int .i64 a0_2, .int .i64 a0_3, .slice A0_4 l0_4.length c0_4] 31 (0, 0)) (viK BK466.out)) : gb469 ≠ gb466)); have n8_ := Aside0.mk ((by rw [hg]; exact Nat.ne_of_lt (blk_lt (g := gb467) (o := .cells #[.int .i64 0, .slice none 0 0, .slice none 0 0] 46 (0, 0)) (viK BK467.out)) : gb467 ≠ gb469)); have n9_ := Aside0.mk ((by rw [hg]; exact Nat.ne_of_gt (blk_lt (g := gb467) (o := .cells #[.int .i64 0, .slice none 0 0, .slice none 0 0] 46 (0, 0)) (viK BK467.out)) : gb469 ≠ gb467)); clear BK466; clear BK467; clear HB; have BK466 := n0_; have BK467 := n1_; have HB := n2_; have BK469 := n3_; have GW469 := n4_; have GE469 := n5_; have NB466_469 := n6_; have NB469_466 := n7_; have NB467_469 := n8_; have NB469_467 := n9_; clear n0_ n1_ n2_ n3_ n4_ n5_ n6_ n7_ n8_ n9_; clear hb hbox hg; have hnb12 := NB469_466.out; have hnc12 := NB466_469.out; have hnb13 := NB469_467.out; have hnc13 := NB467_469.out; have hcz14_0 : w11.cell? ⟨gb469, 0, none⟩ = some (.int .i64 0) := (blk_cell BK469.out 0).trans rfl; have hcz14_1 : w11.cell? ⟨gb469, 1, none⟩ = some (.slice none 0 0) := (blk_cell BK469.out 1).trans rfl; have hcz14_2 : w11.cell? ⟨gb469, 2, none⟩ = some (.slice none 0 0) := (blk_cell BK469.out 2).trans rfl; have hfz14_0 := blk_frozen BK469.out 0; have hfz14_1 := blk_frozen BK469.out 1; have hfz14_2 := blk_frozen BK469.out 2; have hcz15_0 : w11.cell? ⟨gb466, 0, none⟩ = some (.int .i64 a0_0) := (blk_cell BK466.out 0).trans rfl; have hcz15_1 : w11.cell? ⟨gb466, 1, none⟩ = some (.int .i64 a0_1) := (blk_cell BK466.out 1).trans rfl; have hcz15_2 : w11.cell? ⟨gb466, 2, none⟩ = some (.int .i64 a0_2) := (blk_cell BK466.out 2).trans rfl; have hcz15_3 : w11.cell? ⟨gb466, 3, none⟩ = some (.int .i64 a0_3) := (blk_cell BK466.out 3).trans rfl; have hcz15_4 : w11.cell? ⟨gb466, 4, none⟩ = some (.slice A0_4 l0_4.length c0_4) := (blk_cell BK466.out 4).trans rfl; have hfz15_0 := blk_frozen BK466.out 0; have hfz15_1 := blk_frozen BK466.out 1; have hfz15_2 := blk_frozen BK466.out 2; have hfz15_3 := blk_frozen BK466.out 3; have hfz15_4 := blk_frozen BK466.out 4) | ((with_reducible refine gate_dst (N := 24) rfl ?_); (try (refine gate_guard (by rfl) ?_; dsimp only)); refine Kd.R_lit (Kd.int .i64) _ 3 ?hg (N := 24) ?hd (xs := ([a0_2] : List Int)) (inner := [.int .i64 a0_2]) (ok := fun _ => True) (okp := fun _ => True) ?hr ?hp (fun _ hk => hk) trivial (Below.refl _ _) (Nat.le_refl _) (by simp) ?_; (case hd => rfl); (case hg => rfl); (case hr => first | (go_simp; done) | (go_simp; rfl)); (case hp => exact (Reps.one (show Kd.M (Kd.int .i64) _ _ _ a0_2 [.int .i64 a0_2] from rfl) (Reps.none _ _))); intro v471 w16 ho17 hb hg_ hnew_; clear hg_ hnew_; (first | rw [← Ny470.out] at ho17 | (simp only [Int.reduceToNat] at ho17; rw [← Ny470.out] at ho17)); have n0_ := Aside0.mk (Kd.R_lower (Kd.R_newM (M := fun k_ => (w.heap.size ≤ k_)) ho17 (below_size viB) (fun k_ h_ => h_)) (below_size viB)); have n1_ := Aside0.mk (blk_below (g := gb466) (o := .cells #[.int .i64 a0_0, .int .i64 a0_1, .int .i64 a0_2, .int .i64 a0_3, .slice A0_4 l0_4.length c0_4] 31 (0, 0)) (by refine viK ?_; refine blk_far ?_ NB466_469.out _; refine viK ?_; refine blk_far ?_ NB466_469.out _; refine viK ?_; refine blk_far ?_ NB466_469.out _; refine viK ?_; exact BK466.out) hb); have n2_ := Aside0.mk (blk_below (g := gb467) (o := .cells #[.int .i64 0, .slice none 0 0, .slice none 0 0] 46 (0, 0)) (by refine viK ?_; refine blk_far ?_ NB467_469.out _; refine viK ?_; refine blk_far ?_ NB467_469.out _; refine viK ?_; refine blk_far ?_ NB467_469.out _; refine viK ?_; exact BK467.out) hb); have n3_ := Aside0.mk (blk_below (g := gb469) (o := .cells #[.int .i64 a0_1, .slice none 0 0, .slice none 0 0] 46 (0, 0)) (by refine viK ?_; refine blk_put (cs := #[.int .i64 a0_1, .slice none 0 0, .slice none 0 0]) ?_ 2 _ rfl; refine viK ?_; refine blk_put (cs := #[.int .i64 a0_1, .slice none 0 0, .slice none 0 0]) ?_ 1 _ rfl; refine viK ?_; refine blk_put (cs := #[.int .i64 0, .slice none 0 0, .slice none 0 0]) ?_ 0 _ rfl; refine viK ?_; exact BK469.out) hb); have n4_ := Aside0.mk (below_step viB hb); clear BK466; clear BK467; clear BK469; clear HB; have HO472 := n0_; have BK466 := n1_; have BK467 := n2_; have BK469 := n3_; have HB := n4_; clear n0_ n1_ n2_ n3_ n4_; clear hb ho17; obtain ⟨Ao18, co18, eo18⟩ := Kd.R_slice HO472.out; subst eo18) | ((with_reducible refine gate_callee (f := 50) rfl ?_); refine goesL_ (some 25) rfl rfl Try.func50 (by kernel_rfl) rfl #[.agg #[.int .i64 a0_0, .int .i64 a0_1, .int .i64 a0_2, .int .i64 a0_3, .slice A0_4 l0_4.length c0_4], .slice Ao18 y470.length co18] rfl (by (try simp only [List.map_toArray, List.map_cons, List.map_nil]); first | done | rfl | (simp only [List.length_drop, List.length_take]; rfl)) ?_; (with_reducible refine (stackyardref08_marks.calls k a0_0 a0_1 a0_2 a0_3 _ _ l0_4 _ _ y470 t473 _ ?side1 ?side2 ?side3 ?side4 A4.out).mono ?_); (case side1 => repeat (first | exact (Kd.C_below HR0_4.out HB.out) | (with_reducible refine Kd.C_alloc ?_ _) | (with_reducible refine Kd.C_drewN ?_ _) | (with_reducible refine Kd.C_drew ?_))); (case side2 => exact HC0_4.out); (case side3 => repeat (first | exact (Kd.R_reads' HO472.out).2.2 | (with_reducible refine Kd.C_alloc ?_ _) | (with_reducible refine Kd.C_drewN ?_ _) | (with_reducible refine Kd.C_drew ?_))); (case side4 => exact (Kd.R_reads' HO472.out).2.1); rintro e w19 ⟨v474, rfl, ho0, hb⟩; refine ⟨_, rfl, ?_⟩; have n0_ := Aside0.mk (Kd.R_below (viR HO472.out) hb); have n1_ := Aside0.mk (Kd.R_lower (Kd.R_newM (M := fun k_ => (w.heap.size ≤ k_)) ho0 (below_size viB) (fun k_ h_ => h_)) (below_size viB)); have n2_ := Aside0.mk (blk_below (g := gb466) (o := .cells #[.int .i64 a0_0, .int .i64 a0_1, .int .i64 a0_2, .int .i64 a0_3, .slice A0_4 l0_4.length c0_4] 31 (0, 0)) (viK BK466.out) hb); have n3_ := Aside0.mk (blk_below (g := gb467) (o := .cells #[.int .i64 0, .slice none 0 0, .slice none 0 0] 46 (0, 0)) (viK BK467.out) hb); have n4_ := Aside0.mk (blk_below (g := gb469) (o := .cells #[.int .i64 a0_1, .slice none 0 0, .slice none 0 0] 46 (0, 0)) (viK BK469.out) hb); have n5_ := Aside0.mk (below_step viB hb); clear HO472; clear BK466; clear BK467; clear BK469; clear HB; have HO472 := n0_; have HO475 := n1_; have BK466 := n2_; have BK467 := n3_; have BK469 := n4_; have HB := n5_; clear n0_ n1_ n2_ n3_ n4_ n5_; (try clear hb); (try clear hb2); (try clear hk); (try clear hi); (try clear ho0); obtain ⟨Ao20, co20, eo20⟩ := Kd.R_slice HO475.out; subst eo20) | ((with_reducible refine gate_dst (N := 26) rfl ?_); (try (refine gate_guard (by rfl) ?_; dsimp only)); refine Kd.N_lit (Kd.slice 4 Kd.bool) _ 44 ?hg (N' := 26) ?hd (xs := ([t473] : List (List Bool))) (inner := [.slice Ao20 t473.length co20]) (ok := (fun k_ => (w.heap.size ≤ k_) ∧ some k_ ≠ (.slice Ao18 y470.length co18 : Value).ownBlock ∧ k_ ≠ gb466 ∧ k_ ≠ gb467 ∧ k_ ≠ gb469)) (okp := (fun k_ => (w.heap.size ≤ k_) ∧ some k_ ≠ (.slice Ao18 y470.length co18 : Value).ownBlock ∧ k_ ≠ gb466 ∧ k_ ≠ gb467 ∧ k_ ≠ gb469)) ?hr ?hp (fun _ hk => hk) ((show ∀ k_, w19.heap.size ≤ k_ → (fun k_ => (w.heap.size ≤ k_) ∧ some k_ ≠ (.slice Ao18 y470.length co18 : Value).ownBlock ∧ k_ ≠ gb466 ∧ k_ ≠ gb467 ∧ k_ ≠ gb469) k_ from fun k_ hk => ⟨(Nat.le_trans (below_size viB) hk), Kd.fresh' (Kd.R_lt (viR HO472.out)) k_ hk, Kd.freshB (g := gb466) (o := .cells #[.int .i64 a0_0, .int .i64 a0_1, .int .i64 a0_2, .int .i64 a0_3, .slice A0_4 l0_4.length c0_4] 31 (0, 0)) (viK BK466.out) k_ hk, Kd.freshB (g := gb467) (o := .cells #[.int .i64 0, .slice none 0 0, .slice none 0 0] 46 (0, 0)) (viK BK467.out) k_ hk, Kd.freshB (g := gb469) (o := .cells #[.int .i64 a0_1, .slice none 0 0, .slice none 0 0] 46 (0, 0)) (viK BK469.out) k_ hk⟩) _ (Nat.le_refl _)) (Below.refl _ _) (Nat.le_refl _) (by simp) ?_; (case hd => rfl); (case hg => rfl); (case hr => first | (go_simp; done) | (go_simp; rfl)); (case hp => exact (Reps.one (show Kd.FK (Kd.slice 4 Kd.bool) _ _ t473 [.slice Ao20 t473.length co20] from (Kd.FK_slice_mk (Kd.R_reads' (Kd.R_mono (ok' := (fun k_ => (w.heap.size ≤ k_) ∧ some k_ ≠ (.slice Ao18 y470.length co18 : Value).ownBlock ∧ k_ ≠ gb466 ∧ k_ ≠ gb467 ∧ k_ ≠ gb469)) (Kd.R_types (Kd.R_types (Kd.R_types (Kd.R_apart' (HO475.out) (Kd.R_typed HO472.out) (by decide)) BK466.out (by decide)) BK467.out (by decide)) BK469.out (by decide)) (fun k_ hk => ⟨hk.1.1.1.1.1, ⟨hk.1.1.1.2, ⟨hk.1.1.2, ⟨hk.1.2, hk.2⟩⟩⟩⟩))).2.1 (Kd.R_F (Kd.R_mono (ok' := (fun k_ => (w.heap.size ≤ k_) ∧ some k_ ≠ (.slice Ao18 y470.length co18 : Value).ownBlock ∧ k_ ≠ gb466 ∧ k_ ≠ gb467 ∧ k_ ≠ gb469)) (Kd.R_types (Kd.R_types (Kd.R_types (Kd.R_apart' (HO475.out) (Kd.R_typed HO472.out) (by decide)) BK466.out (by decide)) BK467.out (by decide)) BK469.out (by decide)) (fun k_ hk => ⟨hk.1.1.1.1.1, ⟨hk.1.1.1.2, ⟨hk.1.1.2, ⟨hk.1.2, hk.2⟩⟩⟩⟩))))) (Reps.none _ _))); intro v477 w21 ho22 hb hg_ hnew_; clear hg_ hnew_; (first | rw [← Ny476.out] at ho22 | (simp only [Int.reduceToNat] at ho22; rw [← Ny476.out] at ho22)); have n0_ := Aside0.mk (Kd.R_below (viR HO472.out) hb); have n1_ := Aside0.mk (Kd.N_lower ho22 (below_size viB)); have n2_ := Aside0.mk (blk_below (g := gb466) (o := .cells #[.int .i64 a0_0, .int .i64 a0_1, .int .i64 a0_2, .int .i64 a0_3, .slice A0_4 l0_4.length c0_4] 31 (0, 0)) (viK BK466.out) hb); have n3_ := Aside0.mk (blk_below (g := gb467) (o := .cells #[.int .i64 0, .slice none 0 0, .slice none 0 0] 46 (0, 0)) (viK BK467.out) hb); have n4_ := Aside0.mk (blk_below (g := gb469) (o := .cells #[.int .i64 a0_1, .slice none 0 0, .slice none 0 0] 46 (0, 0)) (viK BK469.out) hb); have n5_ := Aside0.mk (below_step viB hb); clear HO472; clear BK466; clear BK467; clear BK469; clear HB; clear HO475; have HO472 := n0_; have HO478 := n1_; have BK466 := n2_; have BK467 := n3_; have BK469 := n4_; have HB := n5_; clear n0_ n1_ n2_ n3_ n4_ n5_; clear hb ho22))
    go_loopg [6, 7] k (fun kq v6 v7 w' => ∃ (x6_1 : List (List Bool)) (x7_1 : Int) (x468000_1 : Int) (x470001_1 : List (List Int)) (x470002_1 : List Bool) (u470001 : Value) (u470002 : Value), v7 = .int .i64 x7_1 ∧ Aside0 (stackyardref08_Dfa.l0 kq x6_1 x7_1 a0_0 a0_1 a0_2 a0_3 l0_4 a0_1 x470001_1 x470002_1 = some (r1, r2, r3, r4)) ∧ Aside0 (kq ≤ k) ∧ Aside0 (Kd.N (Kd.slice 4 Kd.bool) 44 w' w.heap.size (fun k_ => (w.heap.size ≤ k_) ∧ some k_ ≠ (u470001 : Value).ownBlock ∧ some k_ ≠ (u470002 : Value).ownBlock ∧ k_ ≠ gb466 ∧ k_ ≠ gb467 ∧ k_ ≠ gb469) v6 x6_1) ∧ Aside0 (Kd.N (Kd.slice 3 (Kd.int .i64)) 27 w' w.heap.size (fun k_ => (w.heap.size ≤ k_) ∧ some k_ ≠ (v6 : Value).ownBlock ∧ some k_ ≠ (u470002 : Value).ownBlock ∧ k_ ≠ gb466 ∧ k_ ≠ gb467 ∧ k_ ≠ gb469) u470001 x470001_1) ∧ Aside0 (Kd.R Kd.bool 4 w' w.heap.size (fun k_ => (w.heap.size ≤ k_)) u470002 x470002_1) ∧ Aside0 (w'.heap[gb466]? = some (.cells #[.int .i64 a0_0, .int .i64 a0_1, .int .i64 a0_2, .int .i64 a0_3, (.slice A0_4 l0_4.length c0_4)] 31 (0, 0))) ∧ Aside0 (w'.heap[gb467]? = some (.cells #[.int .i64 x468000_1, (.slice none 0 0), (.slice none 0 0)] 46 (0, 0))) ∧ Aside0 (w'.heap[gb469]? = some (.cells #[.int .i64 a0_1, u470001, u470002] 46 (0, 0))) ∧ Aside0 (Below w.heap.size w w'))
    case atStart => exact ⟨(y476), (0), (0), (([] : List (List Int))), (([] : List Bool)), (.slice none 0 0), (.slice none 0 0), (by first | rfl | (simp; done) | (simp [*]; done)), H', ⟨Nat.le_refl _⟩, ⟨by refine viN ?_; exact Kd.N_mono HO478.out (fun _ hk => ⟨hk.1, ⟨(by simp [Value.ownBlock]), ⟨(by simp [Value.ownBlock]), ⟨hk.2.2.1, ⟨hk.2.2.2.1, hk.2.2.2.2⟩⟩⟩⟩⟩)⟩, ⟨by first | exact Kd.S_nil _ _ _ _ _ | exact Kd.N_nil _ _ _ _ _ | exact Kd.V_nil _ _ _ _ _ | exact Kd.Q_nil _ _ _ _ _ | exact Kd.R_nil _ _ _ _ _⟩, ⟨by first | exact Kd.R_nil _ _ _ _ _ | exact Kd.N_nil _ _ _ _ _ | exact Kd.V_nil _ _ _ _ _ | exact Kd.Q_nil _ _ _ _ _ | exact Kd.S_nil _ _ _ _ _⟩, ⟨viK BK466.out⟩, ⟨viK BK467.out⟩, ⟨viK BK469.out⟩, ⟨viB⟩⟩
    case round =>
      clear H'
      try clear c1
      try clear p2
      try clear c3
      try clear c3b0
      try clear c3b1
      try clear c5
      try clear c7
      try clear c12
      try clear c13
      try clear c18
      try clear hcz10_0
      try clear hcz10_1
      try clear hcz10_2
      try clear hcz10_3
      try clear hcz10_4
      try clear hcz14_0
      try clear hcz14_1
      try clear hcz14_2
      try clear hcz15_0
      try clear hcz15_1
      try clear hcz15_2
      try clear hcz15_3
      try clear hcz15_4
      try clear hcz8_0
      try clear hcz8_1
      try clear hcz8_2
      try clear hcz8_3
      try clear hcz8_4
      try clear hfz10_0
      try clear hfz10_1
      try clear hfz10_2
      try clear hfz10_3
      try clear hfz10_4
      try clear hfz14_0
      try clear hfz14_1
      try clear hfz14_2
      try clear hfz15_0
      try clear hfz15_1
      try clear hfz15_2
      try clear hfz15_3
      try clear hfz15_4
      try clear hfz8_0
      try clear hfz8_1
      try clear hfz8_2
      try clear hfz8_3
      try clear hfz8_4
      obtain ⟨x6_1, x7_1, x468000_1, x470001_1, x470002_1, u470001, u470002, rfl, HA, HK1, HO_6, HO_470001, HO_470002, BK466, BK467, BK469, HB⟩ := hrel
      cases gk with
      | zero => exact absurd HA.out (by simp [stackyardref08_Dfa.l0])
      | succ k1 =>
        have H := HA.out
        clear HA
        simp only [stackyardref08_Dfa.l0] at H
        by_cases c23 : x7_1 < (x6_1.length : Int)
        · rw [if_pos c23] at H
          have c23b0 : decide (x7_1 < (x6_1.length : Int)) = true := decide_eq_true c23
          clear c23
          by_cases c24 : 0 ≤ a0_1
          · rw [if_pos c24] at H
            have c24b0 := eq_true c24
            have c24b1 : decide (0 ≤ a0_1) = true := decide_eq_true c24
            clear c24
            by_cases c25 : (a0_1 : Int).toNat ≤ 35184372088832
            · rw [if_pos c25] at H
              have c25b0 := eq_true c25
              have c25b1 : decide ((a0_1 : Int).toNat ≤ 35184372088832) = true := decide_eq_true c25
              clear c25
              obtain ⟨y479, hy479⟩ : ∃ y_ : List Int, y_ = (List.replicate (a0_1 : Int).toNat 0) := ⟨_, rfl⟩
              replace H : (stackyardref08_Dfa.l1 k1 x6_1 x7_1 y479 0 a0_0 a0_1 a0_2 a0_3 l0_4 a0_1 x470001_1 x470002_1) = some (r1, r2, r3, r4) := by first | (rw [hy479]; with_reducible exact H) | (have H2_ := (Option.bind_some _ _).symm.trans H; rw [hy479]; with_reducible exact H2_) | (have H2_ := (Option.bind_some _ _).symm.trans H; with_reducible exact H2_) | with_reducible exact H | (rw [hy479]; exact H) | exact H
              have Ny479 := Aside0.mk hy479
              clear hy479
              have H' := Aside0.mk H
              clear H
              obtain ⟨Ao26, co26, eo26⟩ := Kd.N_slice HO_6.out
              subst eo26
              have hnb27 := NB466_467.out
              have hnc27 := NB467_466.out
              have hnb28 := NB466_469.out
              have hnc28 := NB469_466.out
              have hcz29_0 : wr.cell? ⟨gb466, 0, none⟩ = some (.int .i64 a0_0) := (blk_cell BK466.out 0).trans rfl
              have hcz29_1 : wr.cell? ⟨gb466, 1, none⟩ = some (.int .i64 a0_1) := (blk_cell BK466.out 1).trans rfl
              have hcz29_2 : wr.cell? ⟨gb466, 2, none⟩ = some (.int .i64 a0_2) := (blk_cell BK466.out 2).trans rfl
              have hcz29_3 : wr.cell? ⟨gb466, 3, none⟩ = some (.int .i64 a0_3) := (blk_cell BK466.out 3).trans rfl
              have hcz29_4 : wr.cell? ⟨gb466, 4, none⟩ = some (.slice A0_4 l0_4.length c0_4) := (blk_cell BK466.out 4).trans rfl
              have hfz29_0 := blk_frozen BK466.out 0
              have hfz29_1 := blk_frozen BK466.out 1
              have hfz29_2 := blk_frozen BK466.out 2
              have hfz29_3 := blk_frozen BK466.out 3
              have hfz29_4 := blk_frozen BK466.out 4
              go_wp2_with (first | ((with_reducible refine gate_dst (N := 35) rfl ?_); (try (refine gate_guard (by rfl) ?_; dsimp only)); refine Kd.R_make (Kd.int .i64) _ 3 rfl (N := 35) rfl 27 _ _ rfl a0_1 rfl rfl Try.underlying27 (.int .i64 0) 8 info3 rfl (by decide) (by omega) 0 (ok := fun _ => True) (okp := fun _ => True) rfl (fun _ hk => hk) trivial viA (Nat.le_trans (Nat.mul_le_mul_right _ (viA : a0_1.toNat ≤ 35184372088832)) (by omega)) (Below.refl _ _) (Nat.le_refl _) ?_; intro v480 w30 ho31 hb hg_ hnew_; clear hg_ hnew_; (first | rw [← Ny479.out] at ho31 | (simp only [Int.reduceToNat] at ho31; rw [← Ny479.out] at ho31)); have n0_ := Aside0.mk (Kd.N_elder' (viN HO_6.out) (Kd.R_base ho31) hb); have n1_ := Aside0.mk (Kd.N_elder' (viN HO_470001.out) (Kd.R_base ho31) hb); have n2_ := Aside0.mk (Kd.R_below (viR HO_470002.out) hb); have n3_ := Aside0.mk (Kd.R_lower (Kd.R_newM (M := fun k_ => (w.heap.size ≤ k_)) ho31 (below_size viB) (fun k_ h_ => h_)) (below_size viB)); have n4_ := Aside0.mk (blk_below (g := gb466) (o := .cells #[.int .i64 a0_0, .int .i64 a0_1, .int .i64 a0_2, .int .i64 a0_3, .slice A0_4 l0_4.length c0_4] 31 (0, 0)) (viK BK466.out) hb); have n5_ := Aside0.mk (blk_below (g := gb467) (o := .cells #[.int .i64 x468000_1, .slice none 0 0, .slice none 0 0] 46 (0, 0)) (viK BK467.out) hb); have n6_ := Aside0.mk (blk_below (g := gb469) (o := .cells #[.int .i64 a0_1, u470001, u470002] 46 (0, 0)) (viK BK469.out) hb); have n7_ := Aside0.mk (below_step viB hb); clear HO_6; clear HO_470001; clear HO_470002; clear BK466; clear BK467; clear BK469; clear HB; have HO_6 := n0_; have HO_470001 := n1_; have HO_470002 := n2_; have HO481 := n3_; have BK466 := n4_; have BK467 := n5_; have BK469 := n6_; have HB := n7_; clear n0_ n1_ n2_ n3_ n4_ n5_ n6_ n7_; clear hb ho31))
              go_loopg [6, 9] k1 (fun kq v6 v9 w' => ∃ (x6_2 : List (List Bool)) (x8_2 : List Int) (x9_2 : Int) (x468000_2 : Int), v9 = .int .i64 x9_2 ∧ Aside0 (stackyardref08_Dfa.l1 kq x6_2 x7_1 x8_2 x9_2 a0_0 a0_1 a0_2 a0_3 l0_4 a0_1 x470001_1 x470002_1 = some (r1, r2, r3, r4)) ∧ Aside0 (kq ≤ k1) ∧ Aside0 (Kd.N (Kd.slice 4 Kd.bool) 44 w' w.heap.size (fun k_ => (w.heap.size ≤ k_) ∧ some k_ ≠ (v480 : Value).ownBlock ∧ some k_ ≠ (u470001 : Value).ownBlock ∧ some k_ ≠ (u470002 : Value).ownBlock ∧ k_ ≠ gb466 ∧ k_ ≠ gb467 ∧ k_ ≠ gb469) v6 x6_2) ∧ Aside0 (Kd.R (Kd.int .i64) 3 w' w.heap.size (fun k_ => (w.heap.size ≤ k_)) v480 x8_2) ∧ Aside0 (Kd.N (Kd.slice 3 (Kd.int .i64)) 27 w' w.heap.size (fun k_ => (w.heap.size ≤ k_) ∧ some k_ ≠ (v6 : Value).ownBlock ∧ some k_ ≠ (v480 : Value).ownBlock ∧ some k_ ≠ (u470002 : Value).ownBlock ∧ k_ ≠ gb466 ∧ k_ ≠ gb467 ∧ k_ ≠ gb469) u470001 x470001_1) ∧ Aside0 (Kd.R Kd.bool 4 w' w.heap.size (fun k_ => (w.heap.size ≤ k_)) u470002 x470002_1) ∧ Aside0 (w'.heap[gb466]? = some (.cells #[.int .i64 a0_0, .int .i64 a0_1, .int .i64 a0_2, .int .i64 a0_3, (.slice A0_4 l0_4.length c0_4)] 31 (0, 0))) ∧ Aside0 (w'.heap[gb467]? = some (.cells #[.int .i64 x468000_2, (.slice none 0 0), (.slice none 0 0)] 46 (0, 0))) ∧ Aside0 (w'.heap[gb469]? = some (.cells #[.int .i64 a0_1, u470001, u470002] 46 (0, 0))) ∧ Aside0 (Below w.heap.size w w'))
              case atStart => exact ⟨(x6_1), (y479), (0), (x468000_1), (by first | rfl | (simp; done) | (simp [*]; done)), H', ⟨Nat.le_refl _⟩, ⟨by refine viN ?_; exact Kd.N_mono HO_6.out (fun _ hk => ⟨hk.1.1, ⟨hk.2, ⟨hk.1.2.1, ⟨hk.1.2.2.1, ⟨hk.1.2.2.2.1, ⟨hk.1.2.2.2.2.1, hk.1.2.2.2.2.2⟩⟩⟩⟩⟩⟩)⟩, ⟨by refine viR ?_; exact Kd.R_mono HO481.out (fun _ hk => hk.1)⟩, ⟨by refine viN ?_; exact Kd.N_mono HO_470001.out (fun _ hk => ⟨hk.1.1, ⟨hk.1.2.1, ⟨hk.2, ⟨hk.1.2.2.1, ⟨hk.1.2.2.2.1, ⟨hk.1.2.2.2.2.1, hk.1.2.2.2.2.2⟩⟩⟩⟩⟩⟩)⟩, ⟨viR HO_470002.out⟩, ⟨viK BK466.out⟩, ⟨viK BK467.out⟩, ⟨viK BK469.out⟩, ⟨viB⟩⟩
              case round =>
                clear H'
                try clear c1
                try clear c2
                try clear p2
                try clear c3
                try clear c3b0
                try clear c3b1
                try clear c5
                try clear c7
                try clear c12
                try clear c13
                try clear c18
                try clear c23
                try clear c23b0
                try clear c24
                try clear c24b0
                try clear c24b1
                try clear c25
                try clear c25b0
                try clear c25b1
                try clear c27
                try clear c28
                try clear hcz10_0
                try clear hcz10_1
                try clear hcz10_2
                try clear hcz10_3
                try clear hcz10_4
                try clear hcz14_0
                try clear hcz14_1
                try clear hcz14_2
                try clear hcz15_0
                try clear hcz15_1
                try clear hcz15_2
                try clear hcz15_3
                try clear hcz15_4
                try clear hcz29_0
                try clear hcz29_1
                try clear hcz29_2
                try clear hcz29_3
                try clear hcz29_4
                try clear hcz8_0
                try clear hcz8_1
                try clear hcz8_2
                try clear hcz8_3
                try clear hcz8_4
                try clear hfz10_0
                try clear hfz10_1
                try clear hfz10_2
                try clear hfz10_3
                try clear hfz10_4
                try clear hfz14_0
                try clear hfz14_1
                try clear hfz14_2
                try clear hfz15_0
                try clear hfz15_1
                try clear hfz15_2
                try clear hfz15_3
                try clear hfz15_4
                try clear hfz29_0
                try clear hfz29_1
                try clear hfz29_2
                try clear hfz29_3
                try clear hfz29_4
                try clear hfz8_0
                try clear hfz8_1
                try clear hfz8_2
                try clear hfz8_3
                try clear hfz8_4
                try clear p2
                obtain ⟨x6_2, x8_2, x9_2, x468000_2, rfl, HA, HK2, HO_6, HO_8, HO_470001, HO_470002, BK466, BK467, BK469, HB⟩ := hrel
                cases gk with
                | zero => exact absurd HA.out (by simp [stackyardref08_Dfa.l1])
                | succ k2 =>
                  have H := HA.out
                  clear HA
                  simp only [stackyardref08_Dfa.l1] at H
                  by_cases c32 : x9_2 < a0_1
                  · rw [if_pos c32] at H
                    have c32b0 : decide (x9_2 < a0_1) = true := decide_eq_true c32
                    clear c32
                    by_cases c33 : 0 ≤ x7_1
                    · rw [if_pos c33] at H
                      have c33b0 : decide (0 ≤ x7_1) = true := decide_eq_true c33
                      clear c33
                      by_cases c34 : x7_1 < (x6_2.length : Int)
                      · rw [if_pos c34] at H
                        have c34b0 : decide (x7_1 < (x6_2.length : Int)) = true := decide_eq_true c34
                        clear c34
                        replace H := Option.bind_eq_some_iff.mp H
                        obtain ⟨t491, A350, H⟩ := H
                        replace H : (stackyardref08_Dfa.l2 k2 x6_2 x7_1 x8_2 x9_2 t491 0 a0_0 a0_1 a0_2 a0_3 l0_4 a0_1 x470001_1 x470002_1) = some (r1, r2, r3, r4) := H
                        have A35 := Aside0.mk A350
                        clear A350
                        have HC36 := Aside0.mk H
                        clear H
                        have hnb37 := NB466_467.out
                        have hnc37 := NB467_466.out
                        have hnb38 := NB466_469.out
                        have hnc38 := NB469_466.out
                        have hcz39_0 : wr.cell? ⟨gb466, 0, none⟩ = some (.int .i64 a0_0) := (blk_cell BK466.out 0).trans rfl
                        have hcz39_1 : wr.cell? ⟨gb466, 1, none⟩ = some (.int .i64 a0_1) := (blk_cell BK466.out 1).trans rfl
                        have hcz39_2 : wr.cell? ⟨gb466, 2, none⟩ = some (.int .i64 a0_2) := (blk_cell BK466.out 2).trans rfl
                        have hcz39_3 : wr.cell? ⟨gb466, 3, none⟩ = some (.int .i64 a0_3) := (blk_cell BK466.out 3).trans rfl
                        have hcz39_4 : wr.cell? ⟨gb466, 4, none⟩ = some (.slice A0_4 l0_4.length c0_4) := (blk_cell BK466.out 4).trans rfl
                        have hfz39_0 := blk_frozen BK466.out 0
                        have hfz39_1 := blk_frozen BK466.out 1
                        have hfz39_2 := blk_frozen BK466.out 2
                        have hfz39_3 := blk_frozen BK466.out 3
                        have hfz39_4 := blk_frozen BK466.out 4
                        try go_wp2
                        have n0_ := Aside0.mk (Kd.N_drew HO_6.out)
                        have n1_ := Aside0.mk (Kd.R_drew HO_8.out)
                        have n2_ := Aside0.mk (Kd.N_drew HO_470001.out)
                        have n3_ := Aside0.mk (Kd.R_drew HO_470002.out)
                        have n4_ := Aside0.mk (blk_drew BK466.out)
                        have n5_ := Aside0.mk (blk_drew BK467.out)
                        have n6_ := Aside0.mk (blk_drew BK469.out)
                        have n7_ := Aside0.mk (below_drew1 HB.out)
                        clear HO_6
                        clear HO_8
                        clear HO_470001
                        clear HO_470002
                        clear BK466
                        clear BK467
                        clear BK469
                        clear HB
                        have HO_6 := n0_
                        have HO_8 := n1_
                        have HO_470001 := n2_
                        have HO_470002 := n3_
                        have BK466 := n4_
                        have BK467 := n5_
                        have BK469 := n6_
                        have HB := n7_
                        clear n0_ n1_ n2_ n3_ n4_ n5_ n6_ n7_
                        obtain ⟨Ao41, co41, eo41⟩ := Kd.N_slice HO_6.out
                        (first | subst eo41 | (injection eo41 with f1_ f2_ f3_; have f4_ := f1_.symm; have f5_ := f3_.symm; clear f1_ f2_ f3_; subst f4_; subst f5_))
                        have p490 : 0 ≤ (x7_1 : Int) := viA
                        have q490 : x7_1 < (x6_2.length : Int) := viA
                        obtain ⟨ad490, A490_0, c490_0, e490, hx490_0, hl490_0, hi490_0⟩ := at_L7 (Kd.N_reads' HO_6.out).2.2 x7_1 p490 q490
                        cases e490
                        obtain ⟨ce490, hce490, hMe490, hcc490⟩ := Kd.N_get HO_6.out [] x7_1 p490 (by first | exact q490 | exact viA | (have e_ := (Kd.N_reads' HO_6.out).1; omega))
                        obtain ⟨ua490_0, uc490_0, rfl, ul490_0, ge490_0⟩ := Kd.FK_slice_open hMe490
                        have hv490_0 := hcc490 0 _ rfl
                        rw [Nat.add_zero, show ((Kd.slice 4 Kd.bool)).sz = 1 from rfl, Nat.mul_one] at hv490_0
                        replace hv490_0 := Option.some.inj (hv490_0.symm.trans hx490_0)
                        injection hv490_0 with hva_ hvn_ hvc_
                        rw [hva_] at ge490_0
                        rw [hvc_] at ul490_0
                        have HL490_0 := Aside0.mk (show Kd.V Kd.bool 4 _ w.heap.size _ _ (rd_L7 x6_2 x7_1) from Kd.V_mk ul490_0 ge490_0)
                        clear hva_ hvn_ hvc_ ge490_0 ul490_0
                        clear hcc490 hce490
                        have HR490_0 := Aside0.mk hi490_0
                        have HC490_0 := Aside0.mk hl490_0
                        clear hi490_0 hl490_0
                        replace p490 := eq_true p490
                        replace q490 := eq_true q490
                        refine start_ (n := 8) (S := fun w' => w'.cell? ⟨gb466, 0, none⟩ = some (.int .i64 a0_0) ∧ w'.cell? ⟨gb466, 1, none⟩ = some (.int .i64 a0_1) ∧ w'.cell? ⟨gb466, 2, none⟩ = some (.int .i64 a0_2) ∧ w'.cell? ⟨gb466, 3, none⟩ = some (.int .i64 a0_3) ∧ w'.cell? ⟨gb466, 4, none⟩ = some (.slice A0_4 l0_4.length c0_4) ∧ w'.cell? (ad490.add (x7_1).toNat) = some (.slice A490_0 (rd_L7 x6_2 x7_1).length c490_0)) (ds := []) #[false, false, false, false, false, false, false, false] (by kernel_rfl) rfl rfl ⟨(blk_cell BK466.out 0).trans rfl, (blk_cell BK466.out 1).trans rfl, (blk_cell BK466.out 2).trans rfl, (blk_cell BK466.out 3).trans rfl, (blk_cell BK466.out 4).trans rfl, hx490_0⟩ (fun hHeld => ?_); refine with_tabW stackyardref08_Dfa.tab13 stackyardref08_Dfa.bits13 (fun HT_ HW_ => ?_)
                        generalize wr.drew = w40 at HO_6 HO_8 HO_470001 HO_470002 BK466 BK467 BK469 HB HL490_0 HR490_0 hx490_0 hHeld ⊢
                        refine pure_ (i := 1) (N := some 43) (v := ?_) (a' := ?_) #[false, true, false, false, false, false, false, false] rfl rfl (any_of HT_.out (by kernel_rfl)) (fun _ _ _ h => h) (Or.inl ⟨by rfl, ?_⟩) ?_ ?_
                        rotate_left
                        · intro w'
                          go_simp
                          with_reducible rfl
                        rotate_left
                        · simp only [Act.put, List.setIfInBounds_toArray, List.set_cons_zero, List.set_cons_succ, i64_w, i32_w]
                          rfl
                        refine pure_ (i := 2) (N := some 44) (v := ?_) (a' := ?_) #[false, true, true, false, false, false, false, false] rfl rfl (any_of HT_.out (by kernel_rfl)) (fun _ _ _ h => h) (Or.inl ⟨by rfl, ?_⟩) ?_ ?_
                        rotate_left
                        · intro w'
                          go_simp
                          with_reducible rfl
                        rotate_left
                        · simp only [Act.put, List.setIfInBounds_toArray, List.set_cons_zero, List.set_cons_succ, i64_w, i32_w]
                          rfl
                        refine pure_ (i := 3) (N := some 45) (v := ?_) (a' := ?_) #[false, true, true, true, false, false, false, false] rfl rfl (any_of HT_.out (by kernel_rfl)) (fun _ _ _ h => h) (Or.inl ⟨by rfl, ?_⟩) ?_ ?_
                        rotate_left
                        · intro w'
                          go_simp
                          with_reducible rfl
                        rotate_left
                        · simp only [Act.put, List.setIfInBounds_toArray, List.set_cons_zero, List.set_cons_succ, i64_w, i32_w]
                          rfl
                        refine pure_ (i := 4) (N := some 46) (v := ?_) (a' := ?_) #[false, true, true, true, true, false, false, false] rfl rfl (any_of HT_.out (by kernel_rfl)) (fun _ _ _ h => h) (Or.inl ⟨by rfl, ?_⟩) ?_ ?_
                        rotate_left
                        · intro w'
                          go_simp
                          with_reducible rfl
                        rotate_left
                        · simp only [Act.put, List.setIfInBounds_toArray, List.set_cons_zero, List.set_cons_succ, i64_w, i32_w]
                          rfl
                        refine take_ (i := 0) (N := some 42) (v := ?_) (a' := ?_) #[true, true, true, true, true, false, false, false] rfl rfl (take_ofW HT_.out HW_.out (by kernel_rfl)) (fun _ _ _ h => h) (Or.inl ⟨by rfl, ?_⟩) hHeld ?_ ?_
                        rotate_left
                        · rintro w' ⟨s0, s1, s2, s3, s4, s5⟩
                          go_simp
                          with_reducible rfl
                        rotate_left
                        · simp only [Act.put, List.setIfInBounds_toArray, List.set_cons_zero, List.set_cons_succ, i64_w, i32_w]
                          rfl
                        refine take_ (i := 5) (N := some 47) (v := ?_) (a' := ?_) #[true, true, true, true, true, true, false, false] rfl rfl (take_ofW HT_.out HW_.out (by kernel_rfl)) (fun _ _ _ h => h) (Or.inl ⟨by rfl, ?_⟩) hHeld ?_ ?_
                        rotate_left
                        · rintro w' ⟨s0, s1, s2, s3, s4, s5⟩
                          go_simp
                          with_reducible rfl
                        rotate_left
                        · simp only [Act.put, List.setIfInBounds_toArray, List.set_cons_zero, List.set_cons_succ, i64_w, i32_w]
                          rfl
                        refine one_ (i := 6) (N := some 48) #[true, true, true, true, true, true, true, false] rfl rfl (one_of HT_.out (by kernel_rfl)) (by decide) (fun K hK => ?_)
                        refine goes_ Try.func51 (by kernel_rfl) rfl #[.agg #[.int .i64 a0_0, .int .i64 a0_1, .int .i64 a0_2, .int .i64 a0_3, .slice A0_4 l0_4.length c0_4], .int .i64 x9_2, .slice A490_0 (rd_L7 x6_2 x7_1).length c490_0] (by rfl) rfl rfl (by (try simp only [List.map_toArray, List.map_cons, List.map_nil]); first | done | rfl | (simp only [List.length_drop, List.length_take]; rfl)) ?_
                        with_reducible refine (stackyardref08_by.calls k2 a0_0 a0_1 a0_2 a0_3 _ _ l0_4 x9_2 _ _ (rd_L7 x6_2 x7_1) t491 _ ?side1 ?side2 ?side3 ?side4 A35.out).mono ?_
                        (case side1 => repeat (first | exact (Kd.C_below HR0_4.out HB.out) | (with_reducible refine Kd.C_alloc ?_ _) | (with_reducible refine Kd.C_drewN ?_ _) | (with_reducible refine Kd.C_drew ?_)))
                        (case side2 => exact HC0_4.out)
                        (case side3 => repeat (first | exact (by repeat (first | (with_reducible exact HR490_0.out) | (with_reducible refine Kd.C_alloc ?_ _) | (with_reducible refine Kd.C_drewN ?_ _) | (with_reducible refine Kd.C_drew ?_) | exact HR490_0.out)) | (with_reducible refine Kd.C_alloc ?_ _) | (with_reducible refine Kd.C_drewN ?_ _) | (with_reducible refine Kd.C_drew ?_)))
                        (case side4 => exact HC490_0.out)
                        rintro e w42 ⟨v492, rfl, ho0, hb⟩
                        have HS5_ := (hb.cell (World.block_lt_of_cell? _ _ (hHeld.2.2.2.2.2))).trans (hHeld.2.2.2.2.2)
                        refine ⟨_, rfl, ?_⟩
                        have n0_ := Aside0.mk (Kd.N_elder' (viN HO_6.out) (Kd.R_base ho0) hb)
                        have n1_ := Aside0.mk (Kd.R_below (viR HO_8.out) hb)
                        have n2_ := Aside0.mk (Kd.N_elder' (viN HO_470001.out) (Kd.R_base ho0) hb)
                        have n3_ := Aside0.mk (Kd.R_elder' (viR HO_470002.out) (Kd.R_base ho0) hb)
                        have n4_ := Aside0.mk (Kd.V_elder' (viV HL490_0.out) (Kd.R_base ho0) hb)
                        have n5_ := Aside0.mk (Kd.R_lower (Kd.R_new' (Kd.R_newM (M := fun k_ => (w.heap.size ≤ k_)) ho0 (below_size viB) (fun k_ h_ => h_)) (Kd.R_lt (viR HO_470002.out))) (below_size viB))
                        have n6_ := Aside0.mk (blk_below (g := gb466) (o := .cells #[.int .i64 a0_0, .int .i64 a0_1, .int .i64 a0_2, .int .i64 a0_3, .slice A0_4 l0_4.length c0_4] 31 (0, 0)) (viK BK466.out) hb)
                        have n7_ := Aside0.mk (blk_below (g := gb467) (o := .cells #[.int .i64 x468000_2, .slice none 0 0, .slice none 0 0] 46 (0, 0)) (viK BK467.out) hb)
                        have n8_ := Aside0.mk (blk_below (g := gb469) (o := .cells #[.int .i64 a0_1, u470001, u470002] 46 (0, 0)) (viK BK469.out) hb)
                        have n9_ := Aside0.mk (Kd.C_below (by repeat (first | (with_reducible exact HR490_0.out) | (with_reducible refine Kd.C_alloc ?_ _) | (with_reducible refine Kd.C_drewN ?_ _) | (with_reducible refine Kd.C_drew ?_) | exact HR490_0.out)) hb)
                        have n10_ := Aside0.mk (below_step viB hb)
                        clear HO_6
                        clear HO_8
                        clear HO_470001
                        clear HO_470002
                        clear HL490_0
                        clear BK466
                        clear BK467
                        clear BK469
                        clear HR490_0
                        clear HB
                        have HO_6 := n0_
                        have HO_8 := n1_
                        have HO_470001 := n2_
                        have HO_470002 := n3_
                        have HL490_0 := n4_
                        have HO493 := n5_
                        have BK466 := n6_
                        have BK467 := n7_
                        have BK469 := n8_
                        have HR490_0 := n9_
                        have HB := n10_
                        clear n0_ n1_ n2_ n3_ n4_ n5_ n6_ n7_ n8_ n9_ n10_
                        (try clear hb)
                        (try clear hb2)
                        (try clear hk)
                        (try clear hi)
                        (try clear ho0)
                        refine hK.out _ _ ⟨(blk_cell BK466.out 0).trans rfl, (blk_cell BK466.out 1).trans rfl, (blk_cell BK466.out 2).trans rfl, (blk_cell BK466.out 3).trans rfl, (blk_cell BK466.out 4).trans rfl, HS5_⟩ (fun hHeld => ?_)
                        clear hK K
                        refine norm_ (a' := ?_) ?_ ?_
                        rotate_left
                        · show Act.put _ (some 48) _ = _
                          simp only [Act.put, List.setIfInBounds_toArray, List.set_cons_zero, List.set_cons_succ, i64_w, i32_w]
                          rfl
                        refine pure_ (i := 7) (N := some 10) (v := ?_) (a' := ?_) #[true, true, true, true, true, true, true, true] rfl rfl (any_of HT_.out (by kernel_rfl)) (fun _ _ _ h => h) (Or.inl ⟨by rfl, ?_⟩) ?_ ?_
                        rotate_left
                        · intro w'
                          go_simp
                          with_reducible rfl
                        rotate_left
                        · simp only [Act.put, List.setIfInBounds_toArray, List.set_cons_zero, List.set_cons_succ, i64_w, i32_w]
                          rfl
                        refine done_ (done_of HT_.out (by kernel_rfl)) ?_
                        go_upto_block 4 with (fail)
                        go_cut [11] (fun v11 wc => ∃ (kq : Nat) (x11_35 : Int), v11 = .int .i64 x11_35 ∧ Aside0 (stackyardref08_Dfa.j3 kq x6_2 x7_1 x8_2 x9_2 t491 x11_35 a0_0 a0_1 a0_2 a0_3 l0_4 a0_1 x470001_1 x470002_1 = some (r1, r2, r3, r4)) ∧ Aside0 (kq ≤ k2) ∧ Aside0 (Kd.N (Kd.slice 4 Kd.bool) 44 wc w.heap.size (fun k_ => (w.heap.size ≤ k_) ∧ some k_ ≠ (v480 : Value).ownBlock ∧ some k_ ≠ (v492 : Value).ownBlock ∧ some k_ ≠ (u470001 : Value).ownBlock ∧ some k_ ≠ (u470002 : Value).ownBlock ∧ k_ ≠ gb466 ∧ k_ ≠ gb467 ∧ k_ ≠ gb469) (.slice (some ad490) x6_2.length co41) x6_2) ∧ Aside0 (Kd.R (Kd.int .i64) 3 wc w.heap.size (fun k_ => (w.heap.size ≤ k_)) v480 x8_2) ∧ Aside0 (Kd.R Kd.bool 4 wc w.heap.size (fun k_ => (w.heap.size ≤ k_) ∧ some k_ ≠ (u470002 : Value).ownBlock) v492 t491) ∧ Aside0 (Kd.N (Kd.slice 3 (Kd.int .i64)) 27 wc w.heap.size (fun k_ => (w.heap.size ≤ k_) ∧ some k_ ≠ ((.slice (some ad490) x6_2.length co41) : Value).ownBlock ∧ some k_ ≠ (v480 : Value).ownBlock ∧ some k_ ≠ (v492 : Value).ownBlock ∧ some k_ ≠ (u470002 : Value).ownBlock ∧ k_ ≠ gb466 ∧ k_ ≠ gb467 ∧ k_ ≠ gb469) u470001 x470001_1) ∧ Aside0 (Kd.R Kd.bool 4 wc w.heap.size (fun k_ => (w.heap.size ≤ k_) ∧ some k_ ≠ (v492 : Value).ownBlock) u470002 x470002_1) ∧ Aside0 (wc.heap[gb466]? = some (.cells #[.int .i64 a0_0, .int .i64 a0_1, .int .i64 a0_2, .int .i64 a0_3, (.slice A0_4 l0_4.length c0_4)] 31 (0, 0))) ∧ Aside0 (wc.heap[gb467]? = some (.cells #[.int .i64 x468000_2, (.slice none 0 0), (.slice none 0 0)] 46 (0, 0))) ∧ Aside0 (wc.heap[gb469]? = some (.cells #[.int .i64 a0_1, u470001, u470002] 46 (0, 0))) ∧ Aside0 (Kd.C Kd.bool wc A490_0 (rd_L7 x6_2 x7_1).length (rd_L7 x6_2 x7_1)) ∧ Aside0 (Below w.heap.size w wc))
                        case first =>
                          have H := HC36.out
                          clear HC36
                          have H' := Aside0.mk H
                          clear H
                          go_wp2
                          go_loopg [11] k2 (fun kq v11 w' => ∃ (x11_3 : Int), v11 = .int .i64 x11_3 ∧ Aside0 (stackyardref08_Dfa.l2 kq x6_2 x7_1 x8_2 x9_2 t491 x11_3 a0_0 a0_1 a0_2 a0_3 l0_4 a0_1 x470001_1 x470002_1 = some (r1, r2, r3, r4)) ∧ Aside0 (kq ≤ k2) ∧ Aside0 (Kd.N (Kd.slice 4 Kd.bool) 44 w' w.heap.size (fun k_ => (w.heap.size ≤ k_) ∧ some k_ ≠ (v480 : Value).ownBlock ∧ some k_ ≠ (v492 : Value).ownBlock ∧ some k_ ≠ (u470001 : Value).ownBlock ∧ some k_ ≠ (u470002 : Value).ownBlock ∧ k_ ≠ gb466 ∧ k_ ≠ gb467 ∧ k_ ≠ gb469) (.slice (some ad490) x6_2.length co41) x6_2) ∧ Aside0 (Kd.R (Kd.int .i64) 3 w' w.heap.size (fun k_ => (w.heap.size ≤ k_)) v480 x8_2) ∧ Aside0 (Kd.R Kd.bool 4 w' w.heap.size (fun k_ => (w.heap.size ≤ k_) ∧ some k_ ≠ (u470002 : Value).ownBlock) v492 t491) ∧ Aside0 (Kd.N (Kd.slice 3 (Kd.int .i64)) 27 w' w.heap.size (fun k_ => (w.heap.size ≤ k_) ∧ some k_ ≠ ((.slice (some ad490) x6_2.length co41) : Value).ownBlock ∧ some k_ ≠ (v480 : Value).ownBlock ∧ some k_ ≠ (v492 : Value).ownBlock ∧ some k_ ≠ (u470002 : Value).ownBlock ∧ k_ ≠ gb466 ∧ k_ ≠ gb467 ∧ k_ ≠ gb469) u470001 x470001_1) ∧ Aside0 (Kd.R Kd.bool 4 w' w.heap.size (fun k_ => (w.heap.size ≤ k_) ∧ some k_ ≠ (v492 : Value).ownBlock) u470002 x470002_1) ∧ Aside0 (w'.heap[gb466]? = some (.cells #[.int .i64 a0_0, .int .i64 a0_1, .int .i64 a0_2, .int .i64 a0_3, (.slice A0_4 l0_4.length c0_4)] 31 (0, 0))) ∧ Aside0 (w'.heap[gb467]? = some (.cells #[.int .i64 x468000_2, (.slice none 0 0), (.slice none 0 0)] 46 (0, 0))) ∧ Aside0 (w'.heap[gb469]? = some (.cells #[.int .i64 a0_1, u470001, u470002] 46 (0, 0))) ∧ Aside0 (Kd.C Kd.bool w' A490_0 (rd_L7 x6_2 x7_1).length (rd_L7 x6_2 x7_1)) ∧ Aside0 (Below w.heap.size w w'))
                          case atStart => exact ⟨(0), (by first | rfl | (simp; done) | (simp [*]; done)), H', ⟨Nat.le_refl _⟩, ⟨by refine viN ?_; exact Kd.N_mono HO_6.out (fun _ hk => ⟨hk.1.1, ⟨hk.1.2.1, ⟨hk.2, ⟨hk.1.2.2.1, ⟨hk.1.2.2.2.1, ⟨hk.1.2.2.2.2.1, ⟨hk.1.2.2.2.2.2.1, hk.1.2.2.2.2.2.2⟩⟩⟩⟩⟩⟩⟩)⟩, ⟨viR HO_8.out⟩, ⟨by refine viR ?_; exact Kd.R_mono HO493.out (fun _ hk => ⟨hk.1.1, hk.2⟩)⟩, ⟨by refine viN ?_; exact Kd.N_mono HO_470001.out (fun _ hk => ⟨hk.1.1, ⟨hk.1.2.1, ⟨hk.1.2.2.1, ⟨hk.2, ⟨hk.1.2.2.2.1, ⟨hk.1.2.2.2.2.1, ⟨hk.1.2.2.2.2.2.1, hk.1.2.2.2.2.2.2⟩⟩⟩⟩⟩⟩⟩)⟩, ⟨viR HO_470002.out⟩, ⟨viK BK466.out⟩, ⟨viK BK467.out⟩, ⟨viK BK469.out⟩, ⟨by repeat (first | (with_reducible exact HR490_0.out) | (with_reducible refine Kd.C_alloc ?_ _) | (with_reducible refine Kd.C_drewN ?_ _) | (with_reducible refine Kd.C_drew ?_) | exact HR490_0.out)⟩, ⟨viB⟩⟩
                          case round =>
                            clear H'
                            try clear c1
                            try clear c2
                            try clear p2
                            try clear c3
                            try clear c3b0
                            try clear c3b1
                            try clear c4
                            try clear p4
                            try clear q4
                            try clear hx4
                            try clear c5
                            try clear c7
                            try clear c12
                            try clear c13
                            try clear c18
                            try clear c23
                            try clear c23b0
                            try clear c24
                            try clear c24b0
                            try clear c24b1
                            try clear c25
                            try clear c25b0
                            try clear c25b1
                            try clear c27
                            try clear c28
                            try clear c32
                            try clear c32b0
                            try clear c33
                            try clear c33b0
                            try clear c34
                            try clear c34b0
                            try clear c37
                            try clear c38
                            try clear hcz10_0
                            try clear hcz10_1
                            try clear hcz10_2
                            try clear hcz10_3
                            try clear hcz10_4
                            try clear hcz14_0
                            try clear hcz14_1
                            try clear hcz14_2
                            try clear hcz15_0
                            try clear hcz15_1
                            try clear hcz15_2
                            try clear hcz15_3
                            try clear hcz15_4
                            try clear hcz29_0
                            try clear hcz29_1
                            try clear hcz29_2
                            try clear hcz29_3
                            try clear hcz29_4
                            try clear hcz39_0
                            try clear hcz39_1
                            try clear hcz39_2
                            try clear hcz39_3
                            try clear hcz39_4
                            try clear hcz8_0
                            try clear hcz8_1
                            try clear hcz8_2
                            try clear hcz8_3
                            try clear hcz8_4
                            try clear hfz10_0
                            try clear hfz10_1
                            try clear hfz10_2
                            try clear hfz10_3
                            try clear hfz10_4
                            try clear hfz14_0
                            try clear hfz14_1
                            try clear hfz14_2
                            try clear hfz15_0
                            try clear hfz15_1
                            try clear hfz15_2
                            try clear hfz15_3
                            try clear hfz15_4
                            try clear hfz29_0
                            try clear hfz29_1
                            try clear hfz29_2
                            try clear hfz29_3
                            try clear hfz29_4
                            try clear hfz39_0
                            try clear hfz39_1
                            try clear hfz39_2
                            try clear hfz39_3
                            try clear hfz39_4
                            try clear hfz8_0
                            try clear hfz8_1
                            try clear hfz8_2
                            try clear hfz8_3
                            try clear hfz8_4
                            try clear hx490_0
                            try clear p2
                            try clear p490
                            try clear q490
                            obtain ⟨x11_3, rfl, HA, HK3, HO_6, HO_8, HO_10, HO_470001, HO_470002, BK466, BK467, BK469, HR490_0, HB⟩ := hrel
                            cases gk with
                            | zero => exact absurd HA.out (by simp [stackyardref08_Dfa.l2])
                            | succ k3 =>
                              have H := HA.out
                              clear HA
                              simp only [stackyardref08_Dfa.l2] at H
                              by_cases c43 : x11_3 < (x6_2.length : Int)
                              · rw [if_pos c43] at H
                                have c43b0 : decide (x11_3 < (x6_2.length : Int)) = true := decide_eq_true c43
                                clear c43
                                (first | rw [c43b0] | (simp only [i64_w, i32_w]; rw [c43b0]) | skip)
                                by_cases c44 : 0 ≤ x11_3
                                · rw [if_pos c44] at H
                                  have c44b0 : decide (0 ≤ x11_3) = true := decide_eq_true c44
                                  clear c44
                                  replace H := Option.bind_eq_some_iff.mp H
                                  obtain ⟨t495, A450, H⟩ := H
                                  replace H : (if t495 = true then (stackyardref08_Dfa.j3 k3 x6_2 x7_1 x8_2 x9_2 t491 x11_3 a0_0 a0_1 a0_2 a0_3 l0_4 a0_1 x470001_1 x470002_1) else (stackyardref08_Dfa.l2 k3 x6_2 x7_1 x8_2 x9_2 t491 (wrap64 (x11_3 + 1)) a0_0 a0_1 a0_2 a0_3 l0_4 a0_1 x470001_1 x470002_1)) = some (r1, r2, r3, r4) := H
                                  have A45 := Aside0.mk A450
                                  clear A450
                                  by_cases c46 : t495 = true
                                  · subst c46
                                    have H1 : (stackyardref08_Dfa.j3 k3 x6_2 x7_1 x8_2 x9_2 t491 x11_3 a0_0 a0_1 a0_2 a0_3 l0_4 a0_1 x470001_1 x470002_1) = some (r1, r2, r3, r4) := by rw [if_pos rfl] at H; exact H
                                    clear H
                                    have H := H1
                                    clear H1
                                    have H' := Aside0.mk H
                                    clear H
                                    have p494 : 0 ≤ (x11_3 : Int) := viA
                                    have q494 : x11_3 < (x6_2.length : Int) := viA
                                    obtain ⟨ad494, A494_0, c494_0, e494, hx494_0, hl494_0, hi494_0⟩ := at_L7 (Kd.N_reads' HO_6.out).2.2 x11_3 p494 q494
                                    obtain rfl : ad490 = ad494 := (by injection e494)
                                    obtain ⟨ce494, hce494, hMe494, hcc494⟩ := Kd.N_get HO_6.out [] x11_3 p494 (by first | exact q494 | exact viA | (have e_ := (Kd.N_reads' HO_6.out).1; omega))
                                    obtain ⟨ua494_0, uc494_0, rfl, ul494_0, ge494_0⟩ := Kd.FK_slice_open hMe494
                                    have hv494_0 := hcc494 0 _ rfl
                                    rw [Nat.add_zero, show ((Kd.slice 4 Kd.bool)).sz = 1 from rfl, Nat.mul_one] at hv494_0
                                    replace hv494_0 := Option.some.inj (hv494_0.symm.trans hx494_0)
                                    injection hv494_0 with hva_ hvn_ hvc_
                                    rw [hva_] at ge494_0
                                    rw [hvc_] at ul494_0
                                    have HL494_0 := Aside0.mk (show Kd.V Kd.bool 4 _ w.heap.size _ _ (rd_L7 x6_2 x11_3) from Kd.V_mk ul494_0 ge494_0)
                                    clear hva_ hvn_ hvc_ ge494_0 ul494_0
                                    clear hcc494 hce494
                                    have HR494_0 := Aside0.mk hi494_0
                                    have HC494_0 := Aside0.mk hl494_0
                                    clear hi494_0 hl494_0
                                    replace p494 := eq_true p494
                                    replace q494 := eq_true q494
                                    obtain ⟨Ao47, co47, eo47⟩ := Kd.R_slice HO_10.out
                                    subst eo47
                                    go_wp2_with (first | (go_at_call 52; (with_reducible refine (stackyardref08_alike.calls k3 _ _ (rd_L7 x6_2 x11_3) _ _ t491 true _ ?side1 ?side2 ?side3 ?side4 A45.out).mono ?_); (case side1 => repeat (first | exact (by repeat (first | (with_reducible exact HR494_0.out) | (with_reducible refine Kd.C_alloc ?_ _) | (with_reducible refine Kd.C_drewN ?_ _) | (with_reducible refine Kd.C_drew ?_) | exact HR494_0.out)) | (with_reducible refine Kd.C_alloc ?_ _) | (with_reducible refine Kd.C_drewN ?_ _) | (with_reducible refine Kd.C_drew ?_))); (case side2 => exact HC494_0.out); (case side3 => repeat (first | exact (Kd.R_reads' HO_10.out).2.2 | (with_reducible refine Kd.C_alloc ?_ _) | (with_reducible refine Kd.C_drewN ?_ _) | (with_reducible refine Kd.C_drew ?_))); (case side4 => exact (Kd.R_reads' HO_10.out).2.1); rintro e w' ⟨rfl, ⟨nd, rfl⟩⟩))
                                    go_meet
                                    case rel => exact ⟨_, (x11_3), (by first | rfl | (simp; done) | (simp [*]; done)), H', ⟨by have := HK1.out; have := HK2.out; have := HK3.out; first | omega | exact Nat.le_refl _⟩, ⟨viN HO_6.out⟩, ⟨viR HO_8.out⟩, ⟨viR HO_10.out⟩, ⟨viN HO_470001.out⟩, ⟨viR HO_470002.out⟩, ⟨viK BK466.out⟩, ⟨viK BK467.out⟩, ⟨viK BK469.out⟩, ⟨by repeat (first | (with_reducible exact HR490_0.out) | (with_reducible refine Kd.C_alloc ?_ _) | (with_reducible refine Kd.C_drewN ?_ _) | (with_reducible refine Kd.C_drew ?_) | exact HR490_0.out)⟩, ⟨viB⟩⟩
                                  · replace c46 := Bool.eq_false_iff.mpr c46
                                    subst c46
                                    have H1 : (stackyardref08_Dfa.l2 k3 x6_2 x7_1 x8_2 x9_2 t491 (wrap64 (x11_3 + 1)) a0_0 a0_1 a0_2 a0_3 l0_4 a0_1 x470001_1 x470002_1) = some (r1, r2, r3, r4) := by rw [if_neg (show ¬ (false = true) by decide)] at H; exact H
                                    clear H
                                    have H := H1
                                    clear H1
                                    have H' := Aside0.mk H
                                    clear H
                                    have p494 : 0 ≤ (x11_3 : Int) := viA
                                    have q494 : x11_3 < (x6_2.length : Int) := viA
                                    obtain ⟨ad494, A494_0, c494_0, e494, hx494_0, hl494_0, hi494_0⟩ := at_L7 (Kd.N_reads' HO_6.out).2.2 x11_3 p494 q494
                                    obtain rfl : ad490 = ad494 := (by injection e494)
                                    obtain ⟨ce494, hce494, hMe494, hcc494⟩ := Kd.N_get HO_6.out [] x11_3 p494 (by first | exact q494 | exact viA | (have e_ := (Kd.N_reads' HO_6.out).1; omega))
                                    obtain ⟨ua494_0, uc494_0, rfl, ul494_0, ge494_0⟩ := Kd.FK_slice_open hMe494
                                    have hv494_0 := hcc494 0 _ rfl
                                    rw [Nat.add_zero, show ((Kd.slice 4 Kd.bool)).sz = 1 from rfl, Nat.mul_one] at hv494_0
                                    replace hv494_0 := Option.some.inj (hv494_0.symm.trans hx494_0)
                                    injection hv494_0 with hva_ hvn_ hvc_
                                    rw [hva_] at ge494_0
                                    rw [hvc_] at ul494_0
                                    have HL494_0 := Aside0.mk (show Kd.V Kd.bool 4 _ w.heap.size _ _ (rd_L7 x6_2 x11_3) from Kd.V_mk ul494_0 ge494_0)
                                    clear hva_ hvn_ hvc_ ge494_0 ul494_0
                                    clear hcc494 hce494
                                    have HR494_0 := Aside0.mk hi494_0
                                    have HC494_0 := Aside0.mk hl494_0
                                    clear hi494_0 hl494_0
                                    replace p494 := eq_true p494
                                    replace q494 := eq_true q494
                                    obtain ⟨Ao48, co48, eo48⟩ := Kd.R_slice HO_10.out
                                    subst eo48
                                    go_wp2_with (first | (go_at_call 52; (with_reducible refine (stackyardref08_alike.calls k3 _ _ (rd_L7 x6_2 x11_3) _ _ t491 false _ ?side1 ?side2 ?side3 ?side4 A45.out).mono ?_); (case side1 => repeat (first | exact (by repeat (first | (with_reducible exact HR494_0.out) | (with_reducible refine Kd.C_alloc ?_ _) | (with_reducible refine Kd.C_drewN ?_ _) | (with_reducible refine Kd.C_drew ?_) | exact HR494_0.out)) | (with_reducible refine Kd.C_alloc ?_ _) | (with_reducible refine Kd.C_drewN ?_ _) | (with_reducible refine Kd.C_drew ?_))); (case side2 => exact HC494_0.out); (case side3 => repeat (first | exact (Kd.R_reads' HO_10.out).2.2 | (with_reducible refine Kd.C_alloc ?_ _) | (with_reducible refine Kd.C_drewN ?_ _) | (with_reducible refine Kd.C_drew ?_))); (case side4 => exact (Kd.R_reads' HO_10.out).2.1); rintro e w' ⟨rfl, ⟨nd, rfl⟩⟩))
                                    go_roundg k3
                                    case measure => have := HK1.out; have := HK2.out; have := HK3.out; omega
                                    case rel => exact ⟨(wrap64 (x11_3 + 1)), (by first | rfl | (simp; done) | (simp [*]; done)), H', ⟨by have := HK1.out; have := HK2.out; have := HK3.out; omega⟩, ⟨viN HO_6.out⟩, ⟨viR HO_8.out⟩, ⟨viR HO_10.out⟩, ⟨viN HO_470001.out⟩, ⟨viR HO_470002.out⟩, ⟨viK BK466.out⟩, ⟨viK BK467.out⟩, ⟨viK BK469.out⟩, ⟨by repeat (first | (with_reducible exact HR490_0.out) | (with_reducible refine Kd.C_alloc ?_ _) | (with_reducible refine Kd.C_drewN ?_ _) | (with_reducible refine Kd.C_drew ?_) | exact HR490_0.out)⟩, ⟨viB⟩⟩
                                · rw [if_neg c44] at H
                                  exact absurd H (by simp)
                              · rw [if_neg c43] at H
                                have c43b0 : decide (x11_3 < (x6_2.length : Int)) = false := decide_eq_false c43
                                clear c43
                                (first | rw [c43b0] | (simp only [i64_w, i32_w]; rw [c43b0]) | skip)
                                have H' := Aside0.mk H
                                clear H
                                go_wp2
                                go_meet
                                case rel => exact ⟨_, (x11_3), (by first | rfl | (simp; done) | (simp [*]; done)), H', ⟨by have := HK1.out; have := HK2.out; have := HK3.out; first | omega | exact Nat.le_refl _⟩, ⟨viN HO_6.out⟩, ⟨viR HO_8.out⟩, ⟨viR HO_10.out⟩, ⟨viN HO_470001.out⟩, ⟨viR HO_470002.out⟩, ⟨viK BK466.out⟩, ⟨viK BK467.out⟩, ⟨viK BK469.out⟩, ⟨by repeat (first | (with_reducible exact HR490_0.out) | (with_reducible refine Kd.C_alloc ?_ _) | (with_reducible refine Kd.C_drewN ?_ _) | (with_reducible refine Kd.C_drew ?_) | exact HR490_0.out)⟩, ⟨viB⟩⟩
                        case rest =>
                          clear HC36
                          try clear c1
                          try clear c2
                          try clear p2
                          try clear c3
                          try clear c3b0
                          try clear c3b1
                          try clear c4
                          try clear p4
                          try clear q4
                          try clear hx4
                          try clear c5
                          try clear p6
                          try clear c7
                          try clear c12
                          try clear c13
                          try clear c18
                          try clear c23
                          try clear c23b0
                          try clear c24
                          try clear c24b0
                          try clear c24b1
                          try clear c25
                          try clear c25b0
                          try clear c25b1
                          try clear c27
                          try clear c28
                          try clear c32
                          try clear c32b0
                          try clear c33
                          try clear c33b0
                          try clear c34
                          try clear c34b0
                          try clear c37
                          try clear c38
                          try clear c43
                          try clear c43b0
                          try clear c44
                          try clear c44b0
                          try clear c46
                          try clear hcz10_0
                          try clear hcz10_1
                          try clear hcz10_2
                          try clear hcz10_3
                          try clear hcz10_4
                          try clear hcz14_0
                          try clear hcz14_1
                          try clear hcz14_2
                          try clear hcz15_0
                          try clear hcz15_1
                          try clear hcz15_2
                          try clear hcz15_3
                          try clear hcz15_4
                          try clear hcz29_0
                          try clear hcz29_1
                          try clear hcz29_2
                          try clear hcz29_3
                          try clear hcz29_4
                          try clear hcz39_0
                          try clear hcz39_1
                          try clear hcz39_2
                          try clear hcz39_3
                          try clear hcz39_4
                          try clear hcz8_0
                          try clear hcz8_1
                          try clear hcz8_2
                          try clear hcz8_3
                          try clear hcz8_4
                          try clear hfz10_0
                          try clear hfz10_1
                          try clear hfz10_2
                          try clear hfz10_3
                          try clear hfz10_4
                          try clear hfz14_0
                          try clear hfz14_1
                          try clear hfz14_2
                          try clear hfz15_0
                          try clear hfz15_1
                          try clear hfz15_2
                          try clear hfz15_3
                          try clear hfz15_4
                          try clear hfz29_0
                          try clear hfz29_1
                          try clear hfz29_2
                          try clear hfz29_3
                          try clear hfz29_4
                          try clear hfz39_0
                          try clear hfz39_1
                          try clear hfz39_2
                          try clear hfz39_3
                          try clear hfz39_4
                          try clear hfz8_0
                          try clear hfz8_1
                          try clear hfz8_2
                          try clear hfz8_3
                          try clear hfz8_4
                          try clear hx490_0
                          try clear hx494_0
                          try clear p2
                          try clear p4
                          try clear p490
                          try clear p494
                          try clear q4
                          try clear q490
                          try clear q494
                          obtain ⟨kq, x11_35, rfl, HA, HJ35, HO_6, HO_8, HO_10, HO_470001, HO_470002, BK466, BK467, BK469, HR490_0, HB⟩ := hcut
                          cases kq with
                          | zero => exact absurd HA.out (by simp [stackyardref08_Dfa.j3])
                          | succ kj35 =>
                            have H := HA.out
                            clear HA
                            simp only [stackyardref08_Dfa.j3] at H
                            by_cases c49 : x11_35 = (x6_2.length : Int)
                            · rw [if_pos c49] at H
                              have c49b0 : (x11_35 == (x6_2.length : Int)) = true := beq_iff_eq.mpr c49
                              have c49b1 : (x11_35 != (x6_2.length : Int)) = false := bne_eq_false_iff_eq.mpr c49
                              clear c49
                              by_cases c50 : x6_2.length < 5864062014805
                              · rw [if_pos c50] at H
                                have LMc50 := Aside0.mk c50
                                clear c50
                                obtain ⟨y496, hy496⟩ : ∃ y_ : List (List Bool), y_ = (x6_2 ++ [t491]) := ⟨_, rfl⟩
                                replace H : (if (y496.length : Int) > 1024 then (some (0, ([] : List (List Int)), ([] : List Bool), 3)) else (if (wrap64 ((y496.length : Int) * a0_1)) > 65536 then (some (0, ([] : List (List Int)), ([] : List Bool), 3)) else (if 0 ≤ x9_2 then (if x9_2 < (x8_2.length : Int) then (stackyardref08_Dfa.l1 kj35 y496 x7_1 (x8_2.set (x9_2 : Int).toNat x11_35) (wrap64 (x9_2 + 1)) a0_0 a0_1 a0_2 a0_3 l0_4 a0_1 x470001_1 x470002_1) else (none)) else (none)))) = some (r1, r2, r3, r4) := by first | (rw [hy496]; with_reducible exact H) | (have H2_ := (Option.bind_some _ _).symm.trans H; rw [hy496]; with_reducible exact H2_) | (have H2_ := (Option.bind_some _ _).symm.trans H; with_reducible exact H2_) | with_reducible exact H | (rw [hy496]; exact H) | exact H
                                have Ny496 := Aside0.mk hy496
                                clear hy496
                                by_cases c51 : (y496.length : Int) > 1024
                                · rw [if_pos c51] at H
                                  have c51b0 : decide (1024 < (y496.length : Int)) = true := decide_eq_true c51
                                  have c51b1 : decide (1024 < y496.length) = true := decide_eq_true (by omega)
                                  clear c51
                                  simp only [Option.some.injEq, Prod.mk.injEq] at H
                                  obtain ⟨rfl, rfl, rfl, rfl⟩ := H
                                  obtain ⟨Ao53, co53, eo53⟩ := Kd.R_slice HO_10.out
                                  subst eo53
                                  go_wp2_with (first | ((with_reducible refine gate_builtin (b := .append) (xs := #[.tmp 68, .tmp 70]) rfl ?_); (try (refine gate_guard (by rfl) ?_; dsimp only)); at_builtin; refine Kd.N_append (Kd.slice 4 Kd.bool) (w0 := w) w.heap.size rfl (.tmp 68) (.tmp 70) 88 44 (.slice none 0 0) 24 rfl Try.underlying88 info44 rfl (by decide) (by omega) (.slice (some ad490) x6_2.length co41) x6_2 t491 [.slice Ao53 t491.length co53] (fun k_ => (w.heap.size ≤ k_) ∧ some k_ ≠ (v480 : Value).ownBlock ∧ some k_ ≠ (u470001 : Value).ownBlock ∧ some k_ ≠ (u470002 : Value).ownBlock ∧ k_ ≠ gb466 ∧ k_ ≠ gb467 ∧ k_ ≠ gb469) (fun k_ => ((fun k_ => (w.heap.size ≤ k_) ∧ some k_ ≠ (v480 : Value).ownBlock ∧ some k_ ≠ (u470001 : Value).ownBlock ∧ some k_ ≠ (u470002 : Value).ownBlock ∧ k_ ≠ gb466 ∧ k_ ≠ gb467 ∧ k_ ≠ gb469)) k_ ∧ some k_ ≠ (.slice (some ad490) x6_2.length co41 : Value).ownBlock) rfl rfl ?aP (fun _ hk => hk) ?aF ?aO ?aB ?aS ?aL ?_; (case aP => exact (Kd.FK_slice_mk (Kd.R_reads' (Kd.R_mono (ok' := (fun k_ => ((fun k_ => (w.heap.size ≤ k_) ∧ some k_ ≠ (v480 : Value).ownBlock ∧ some k_ ≠ (u470001 : Value).ownBlock ∧ some k_ ≠ (u470002 : Value).ownBlock ∧ k_ ≠ gb466 ∧ k_ ≠ gb467 ∧ k_ ≠ gb469)) k_ ∧ some k_ ≠ (.slice (some ad490) x6_2.length co41 : Value).ownBlock)) (Kd.R_types (Kd.R_types (Kd.R_types (Kd.R_apart' (Kd.R_apart' (Kd.R_apart' (HO_10.out) (Kd.R_typed HO_8.out) (by decide)) (Kd.N_typed HO_470001.out) (by decide)) (Kd.N_typed HO_6.out) (by decide)) BK466.out (by decide)) BK467.out (by decide)) BK469.out (by decide)) (fun k_ hk => ⟨⟨hk.1.1.1.1.1.1.1, ⟨hk.1.1.1.1.1.2, ⟨hk.1.1.1.1.2, ⟨hk.1.1.1.1.1.1.2, ⟨hk.1.1.2, ⟨hk.1.2, hk.2⟩⟩⟩⟩⟩⟩, hk.1.1.1.2⟩))).2.1 (Kd.R_F (Kd.R_mono (ok' := (fun k_ => ((fun k_ => (w.heap.size ≤ k_) ∧ some k_ ≠ (v480 : Value).ownBlock ∧ some k_ ≠ (u470001 : Value).ownBlock ∧ some k_ ≠ (u470002 : Value).ownBlock ∧ k_ ≠ gb466 ∧ k_ ≠ gb467 ∧ k_ ≠ gb469)) k_ ∧ some k_ ≠ (.slice (some ad490) x6_2.length co41 : Value).ownBlock)) (Kd.R_types (Kd.R_types (Kd.R_types (Kd.R_apart' (Kd.R_apart' (Kd.R_apart' (HO_10.out) (Kd.R_typed HO_8.out) (by decide)) (Kd.N_typed HO_470001.out) (by decide)) (Kd.N_typed HO_6.out) (by decide)) BK466.out (by decide)) BK467.out (by decide)) BK469.out (by decide)) (fun k_ hk => ⟨⟨hk.1.1.1.1.1.1.1, ⟨hk.1.1.1.1.1.2, ⟨hk.1.1.1.1.2, ⟨hk.1.1.1.1.1.1.2, ⟨hk.1.1.2, ⟨hk.1.2, hk.2⟩⟩⟩⟩⟩⟩, hk.1.1.1.2⟩))))); (case aB => exact viB); (case aF => exact (fun k_ hk => ⟨(Nat.le_trans (below_size viB) hk), Kd.fresh' (Kd.R_lt (viR HO_8.out)) k_ hk, Kd.fresh' (Kd.N_lt (viN HO_470001.out)) k_ hk, Kd.fresh' (Kd.R_lt (viR HO_470002.out)) k_ hk, Kd.freshB (g := gb466) (o := .cells #[.int .i64 a0_0, .int .i64 a0_1, .int .i64 a0_2, .int .i64 a0_3, .slice A0_4 l0_4.length c0_4] 31 (0, 0)) (viK BK466.out) k_ hk, Kd.freshB (g := gb467) (o := .cells #[.int .i64 x468000_2, .slice none 0 0, .slice none 0 0] 46 (0, 0)) (viK BK467.out) k_ hk, Kd.freshB (g := gb469) (o := .cells #[.int .i64 a0_1, u470001, u470002] 46 (0, 0)) (viK BK469.out) k_ hk⟩)); (case aO => exact (by refine viN ?_; exact Kd.N_mono HO_6.out (fun _ hk => ⟨hk.1, ⟨hk.2.1, ⟨hk.2.2.2.1, ⟨hk.2.2.2.2.1, ⟨hk.2.2.2.2.2.1, ⟨hk.2.2.2.2.2.2.1, hk.2.2.2.2.2.2.2⟩⟩⟩⟩⟩⟩))); (case aS => exact (below_size viB)); (case aL => have := LMc50.out; omega); intro v497 w52 ho hb hg hat; rw [← Ny496.out] at ho; have n0_ := Aside0.mk (Kd.R_over' (viR HO_8.out) (Kd.N_typed (viN HO_6.out)) (by decide) hg); have n1_ := Aside0.mk (Kd.N_afterv (ok := (fun k_ => (w.heap.size ≤ k_) ∧ some k_ ≠ (v480 : Value).ownBlock ∧ some k_ ≠ (.slice Ao53 t491.length co53 : Value).ownBlock ∧ some k_ ≠ (u470002 : Value).ownBlock ∧ k_ ≠ gb466 ∧ k_ ≠ gb467 ∧ k_ ≠ gb469)) (by refine viN ?_; exact Kd.N_mono HO_470001.out (fun _ hk => ⟨⟨hk.1, ⟨hk.2.2.1, ⟨hk.2.2.2.1, ⟨hk.2.2.2.2.1, ⟨hk.2.2.2.2.2.1, ⟨hk.2.2.2.2.2.2.1, hk.2.2.2.2.2.2.2⟩⟩⟩⟩⟩⟩, hk.2.1⟩)) hg hat); have n2_ := Aside0.mk (Kd.R_over' (viR HO_470002.out) (Kd.N_typed (viN HO_6.out)) (by decide) hg); have n3_ := Aside0.mk (blk_grown (g := gb466) (o := .cells #[.int .i64 a0_0, .int .i64 a0_1, .int .i64 a0_2, .int .i64 a0_3, .slice A0_4 l0_4.length c0_4] 31 (0, 0)) (viK BK466.out) hg (Kd.N_ne HO_6.out BK466.out (by decide))); have n4_ := Aside0.mk (blk_grown (g := gb467) (o := .cells #[.int .i64 x468000_2, .slice none 0 0, .slice none 0 0] 46 (0, 0)) (viK BK467.out) hg (Kd.N_ne HO_6.out BK467.out (by decide))); have n5_ := Aside0.mk (blk_grown (g := gb469) (o := .cells #[.int .i64 a0_1, u470001, u470002] 46 (0, 0)) (viK BK469.out) hg (Kd.N_ne HO_6.out BK469.out (by decide))); have n6_ := Aside0.mk (hb); have n7_ := Aside0.mk (ho); clear HO_8; clear HO_470001; clear HO_470002; clear BK466; clear BK467; clear BK469; clear HB; clear HO_6; clear HO_10; have HO_8 := n0_; have HO_470001 := n1_; have HO_470002 := n2_; have BK466 := n3_; have BK467 := n4_; have BK469 := n5_; have HB := n6_; have HO498 := n7_; clear n0_ n1_ n2_ n3_ n4_ n5_ n6_ n7_; clear ho hb hg hat; obtain ⟨Ao54, co54, eo54⟩ := Kd.N_slice HO498.out; subst eo54; have hnb55 := NB467_466.out; have hnc55 := NB466_467.out; have hnb56 := NB467_469.out; have hnc56 := NB469_467.out; have hcz57_0 : w52.cell? ⟨gb467, 0, none⟩ = some (.int .i64 x468000_2) := (blk_cell BK467.out 0).trans rfl; have hcz57_1 : w52.cell? ⟨gb467, 1, none⟩ = some (.slice none 0 0) := (blk_cell BK467.out 1).trans rfl; have hcz57_2 : w52.cell? ⟨gb467, 2, none⟩ = some (.slice none 0 0) := (blk_cell BK467.out 2).trans rfl; have hfz57_0 := blk_frozen BK467.out 0; have hfz57_1 := blk_frozen BK467.out 1; have hfz57_2 := blk_frozen BK467.out 2))
                                  refine bodyPost_ret (results_ct rfl _ _ gb467 46 #[.int .i64 0, .slice none 0 0, .slice none 0 0] (0, 0) _ rfl (by refine viK ?_; refine blk_put (cs := #[.int .i64 0, .slice none 0 0, .slice none 0 0]) ?_ 2 _ rfl; refine viK ?_; refine blk_put (cs := #[.int .i64 0, .slice none 0 0, .slice none 0 0]) ?_ 1 _ rfl; refine viK ?_; refine blk_put (cs := #[.int .i64 x468000_2, .slice none 0 0, .slice none 0 0]) ?_ 0 _ rfl; refine viK ?_; exact BK467.out) Try.underlying46 rfl (by kernel_rfl)) rfl ?_
                                  exact ⟨_, _, by first | rfl | (simp [errW_none, errW_some] <;> rfl) | (simp [*, errW_none, errW_some] <;> rfl), by first | exact Kd.S_nil _ _ _ _ _ | exact Kd.N_nil _ _ _ _ _ | exact Kd.V_nil _ _ _ _ _ | exact Kd.Q_nil _ _ _ _ _ | exact Kd.R_nil _ _ _ _ _, by first | exact Kd.R_nil _ _ _ _ _ | exact Kd.N_nil _ _ _ _ _ | exact Kd.V_nil _ _ _ _ _ | exact Kd.Q_nil _ _ _ _ _ | exact Kd.S_nil _ _ _ _ _, viB⟩
                                · rw [if_neg c51] at H
                                  have c51b0 : decide (1024 < (y496.length : Int)) = false := decide_eq_false c51
                                  have c51b1 : decide (1024 < y496.length) = false := decide_eq_false (by omega)
                                  clear c51
                                  by_cases c58 : (wrap64 ((y496.length : Int) * a0_1)) > 65536
                                  · rw [if_pos c58] at H
                                    have c58b0 : decide (65536 < (wrap64 ((y496.length : Int) * a0_1))) = true := decide_eq_true c58
                                    clear c58
                                    simp only [Option.some.injEq, Prod.mk.injEq] at H
                                    obtain ⟨rfl, rfl, rfl, rfl⟩ := H
                                    obtain ⟨Ao60, co60, eo60⟩ := Kd.R_slice HO_10.out
                                    subst eo60
                                    go_wp2_with (first | ((with_reducible refine gate_builtin (b := .append) (xs := #[.tmp 68, .tmp 70]) rfl ?_); (try (refine gate_guard (by rfl) ?_; dsimp only)); at_builtin; refine Kd.N_append (Kd.slice 4 Kd.bool) (w0 := w) w.heap.size rfl (.tmp 68) (.tmp 70) 88 44 (.slice none 0 0) 24 rfl Try.underlying88 info44 rfl (by decide) (by omega) (.slice (some ad490) x6_2.length co41) x6_2 t491 [.slice Ao60 t491.length co60] (fun k_ => (w.heap.size ≤ k_) ∧ some k_ ≠ (v480 : Value).ownBlock ∧ some k_ ≠ (u470001 : Value).ownBlock ∧ some k_ ≠ (u470002 : Value).ownBlock ∧ k_ ≠ gb466 ∧ k_ ≠ gb467 ∧ k_ ≠ gb469) (fun k_ => ((fun k_ => (w.heap.size ≤ k_) ∧ some k_ ≠ (v480 : Value).ownBlock ∧ some k_ ≠ (u470001 : Value).ownBlock ∧ some k_ ≠ (u470002 : Value).ownBlock ∧ k_ ≠ gb466 ∧ k_ ≠ gb467 ∧ k_ ≠ gb469)) k_ ∧ some k_ ≠ (.slice (some ad490) x6_2.length co41 : Value).ownBlock) rfl rfl ?aP (fun _ hk => hk) ?aF ?aO ?aB ?aS ?aL ?_; (case aP => exact (Kd.FK_slice_mk (Kd.R_reads' (Kd.R_mono (ok' := (fun k_ => ((fun k_ => (w.heap.size ≤ k_) ∧ some k_ ≠ (v480 : Value).ownBlock ∧ some k_ ≠ (u470001 : Value).ownBlock ∧ some k_ ≠ (u470002 : Value).ownBlock ∧ k_ ≠ gb466 ∧ k_ ≠ gb467 ∧ k_ ≠ gb469)) k_ ∧ some k_ ≠ (.slice (some ad490) x6_2.length co41 : Value).ownBlock)) (Kd.R_types (Kd.R_types (Kd.R_types (Kd.R_apart' (Kd.R_apart' (Kd.R_apart' (HO_10.out) (Kd.R_typed HO_8.out) (by decide)) (Kd.N_typed HO_470001.out) (by decide)) (Kd.N_typed HO_6.out) (by decide)) BK466.out (by decide)) BK467.out (by decide)) BK469.out (by decide)) (fun k_ hk => ⟨⟨hk.1.1.1.1.1.1.1, ⟨hk.1.1.1.1.1.2, ⟨hk.1.1.1.1.2, ⟨hk.1.1.1.1.1.1.2, ⟨hk.1.1.2, ⟨hk.1.2, hk.2⟩⟩⟩⟩⟩⟩, hk.1.1.1.2⟩))).2.1 (Kd.R_F (Kd.R_mono (ok' := (fun k_ => ((fun k_ => (w.heap.size ≤ k_) ∧ some k_ ≠ (v480 : Value).ownBlock ∧ some k_ ≠ (u470001 : Value).ownBlock ∧ some k_ ≠ (u470002 : Value).ownBlock ∧ k_ ≠ gb466 ∧ k_ ≠ gb467 ∧ k_ ≠ gb469)) k_ ∧ some k_ ≠ (.slice (some ad490) x6_2.length co41 : Value).ownBlock)) (Kd.R_types (Kd.R_types (Kd.R_types (Kd.R_apart' (Kd.R_apart' (Kd.R_apart' (HO_10.out) (Kd.R_typed HO_8.out) (by decide)) (Kd.N_typed HO_470001.out) (by decide)) (Kd.N_typed HO_6.out) (by decide)) BK466.out (by decide)) BK467.out (by decide)) BK469.out (by decide)) (fun k_ hk => ⟨⟨hk.1.1.1.1.1.1.1, ⟨hk.1.1.1.1.1.2, ⟨hk.1.1.1.1.2, ⟨hk.1.1.1.1.1.1.2, ⟨hk.1.1.2, ⟨hk.1.2, hk.2⟩⟩⟩⟩⟩⟩, hk.1.1.1.2⟩))))); (case aB => exact viB); (case aF => exact (fun k_ hk => ⟨(Nat.le_trans (below_size viB) hk), Kd.fresh' (Kd.R_lt (viR HO_8.out)) k_ hk, Kd.fresh' (Kd.N_lt (viN HO_470001.out)) k_ hk, Kd.fresh' (Kd.R_lt (viR HO_470002.out)) k_ hk, Kd.freshB (g := gb466) (o := .cells #[.int .i64 a0_0, .int .i64 a0_1, .int .i64 a0_2, .int .i64 a0_3, .slice A0_4 l0_4.length c0_4] 31 (0, 0)) (viK BK466.out) k_ hk, Kd.freshB (g := gb467) (o := .cells #[.int .i64 x468000_2, .slice none 0 0, .slice none 0 0] 46 (0, 0)) (viK BK467.out) k_ hk, Kd.freshB (g := gb469) (o := .cells #[.int .i64 a0_1, u470001, u470002] 46 (0, 0)) (viK BK469.out) k_ hk⟩)); (case aO => exact (by refine viN ?_; exact Kd.N_mono HO_6.out (fun _ hk => ⟨hk.1, ⟨hk.2.1, ⟨hk.2.2.2.1, ⟨hk.2.2.2.2.1, ⟨hk.2.2.2.2.2.1, ⟨hk.2.2.2.2.2.2.1, hk.2.2.2.2.2.2.2⟩⟩⟩⟩⟩⟩))); (case aS => exact (below_size viB)); (case aL => have := LMc50.out; omega); intro v497 w59 ho hb hg hat; rw [← Ny496.out] at ho; have n0_ := Aside0.mk (Kd.R_over' (viR HO_8.out) (Kd.N_typed (viN HO_6.out)) (by decide) hg); have n1_ := Aside0.mk (Kd.N_afterv (ok := (fun k_ => (w.heap.size ≤ k_) ∧ some k_ ≠ (v480 : Value).ownBlock ∧ some k_ ≠ (.slice Ao60 t491.length co60 : Value).ownBlock ∧ some k_ ≠ (u470002 : Value).ownBlock ∧ k_ ≠ gb466 ∧ k_ ≠ gb467 ∧ k_ ≠ gb469)) (by refine viN ?_; exact Kd.N_mono HO_470001.out (fun _ hk => ⟨⟨hk.1, ⟨hk.2.2.1, ⟨hk.2.2.2.1, ⟨hk.2.2.2.2.1, ⟨hk.2.2.2.2.2.1, ⟨hk.2.2.2.2.2.2.1, hk.2.2.2.2.2.2.2⟩⟩⟩⟩⟩⟩, hk.2.1⟩)) hg hat); have n2_ := Aside0.mk (Kd.R_over' (viR HO_470002.out) (Kd.N_typed (viN HO_6.out)) (by decide) hg); have n3_ := Aside0.mk (blk_grown (g := gb466) (o := .cells #[.int .i64 a0_0, .int .i64 a0_1, .int .i64 a0_2, .int .i64 a0_3, .slice A0_4 l0_4.length c0_4] 31 (0, 0)) (viK BK466.out) hg (Kd.N_ne HO_6.out BK466.out (by decide))); have n4_ := Aside0.mk (blk_grown (g := gb467) (o := .cells #[.int .i64 x468000_2, .slice none 0 0, .slice none 0 0] 46 (0, 0)) (viK BK467.out) hg (Kd.N_ne HO_6.out BK467.out (by decide))); have n5_ := Aside0.mk (blk_grown (g := gb469) (o := .cells #[.int .i64 a0_1, u470001, u470002] 46 (0, 0)) (viK BK469.out) hg (Kd.N_ne HO_6.out BK469.out (by decide))); have n6_ := Aside0.mk (hb); have n7_ := Aside0.mk (ho); clear HO_8; clear HO_470001; clear HO_470002; clear BK466; clear BK467; clear BK469; clear HB; clear HO_6; clear HO_10; have HO_8 := n0_; have HO_470001 := n1_; have HO_470002 := n2_; have BK466 := n3_; have BK467 := n4_; have BK469 := n5_; have HB := n6_; have HO498 := n7_; clear n0_ n1_ n2_ n3_ n4_ n5_ n6_ n7_; clear ho hb hg hat; obtain ⟨Ao61, co61, eo61⟩ := Kd.N_slice HO498.out; subst eo61; have hnb62 := NB466_467.out; have hnc62 := NB467_466.out; have hnb63 := NB466_469.out; have hnc63 := NB469_466.out; have hcz64_0 : w59.cell? ⟨gb466, 0, none⟩ = some (.int .i64 a0_0) := (blk_cell BK466.out 0).trans rfl; have hcz64_1 : w59.cell? ⟨gb466, 1, none⟩ = some (.int .i64 a0_1) := (blk_cell BK466.out 1).trans rfl; have hcz64_2 : w59.cell? ⟨gb466, 2, none⟩ = some (.int .i64 a0_2) := (blk_cell BK466.out 2).trans rfl; have hcz64_3 : w59.cell? ⟨gb466, 3, none⟩ = some (.int .i64 a0_3) := (blk_cell BK466.out 3).trans rfl; have hcz64_4 : w59.cell? ⟨gb466, 4, none⟩ = some (.slice A0_4 l0_4.length c0_4) := (blk_cell BK466.out 4).trans rfl; have hfz64_0 := blk_frozen BK466.out 0; have hfz64_1 := blk_frozen BK466.out 1; have hfz64_2 := blk_frozen BK466.out 2; have hfz64_3 := blk_frozen BK466.out 3; have hfz64_4 := blk_frozen BK466.out 4; have hnb65 := NB467_469.out; have hnc65 := NB469_467.out; have hcz66_0 : w59.cell? ⟨gb467, 0, none⟩ = some (.int .i64 x468000_2) := (blk_cell BK467.out 0).trans rfl; have hcz66_1 : w59.cell? ⟨gb467, 1, none⟩ = some (.slice none 0 0) := (blk_cell BK467.out 1).trans rfl; have hcz66_2 : w59.cell? ⟨gb467, 2, none⟩ = some (.slice none 0 0) := (blk_cell BK467.out 2).trans rfl; have hfz66_0 := blk_frozen BK467.out 0; have hfz66_1 := blk_frozen BK467.out 1; have hfz66_2 := blk_frozen BK467.out 2))
                                    refine bodyPost_ret (results_ct rfl _ _ gb467 46 #[.int .i64 0, .slice none 0 0, .slice none 0 0] (0, 0) _ rfl (by refine viK ?_; refine blk_put (cs := #[.int .i64 0, .slice none 0 0, .slice none 0 0]) ?_ 2 _ rfl; refine viK ?_; refine blk_put (cs := #[.int .i64 0, .slice none 0 0, .slice none 0 0]) ?_ 1 _ rfl; refine viK ?_; refine blk_put (cs := #[.int .i64 x468000_2, .slice none 0 0, .slice none 0 0]) ?_ 0 _ rfl; refine viK ?_; exact BK467.out) Try.underlying46 rfl (by kernel_rfl)) rfl ?_
                                    exact ⟨_, _, by first | rfl | (simp [errW_none, errW_some] <;> rfl) | (simp [*, errW_none, errW_some] <;> rfl), by first | exact Kd.S_nil _ _ _ _ _ | exact Kd.N_nil _ _ _ _ _ | exact Kd.V_nil _ _ _ _ _ | exact Kd.Q_nil _ _ _ _ _ | exact Kd.R_nil _ _ _ _ _, by first | exact Kd.R_nil _ _ _ _ _ | exact Kd.N_nil _ _ _ _ _ | exact Kd.V_nil _ _ _ _ _ | exact Kd.Q_nil _ _ _ _ _ | exact Kd.S_nil _ _ _ _ _, viB⟩
                                  · rw [if_neg c58] at H
                                    have c58b0 : decide (65536 < (wrap64 ((y496.length : Int) * a0_1))) = false := decide_eq_false c58
                                    clear c58
                                    by_cases c67 : 0 ≤ x9_2
                                    · rw [if_pos c67] at H
                                      have c67b0 : decide (0 ≤ x9_2) = true := decide_eq_true c67
                                      clear c67
                                      by_cases c68 : x9_2 < (x8_2.length : Int)
                                      · rw [if_pos c68] at H
                                        have c68b0 : decide (x9_2 < (x8_2.length : Int)) = true := decide_eq_true c68
                                        clear c68
                                        obtain ⟨y499, hy499⟩ : ∃ y_ : List Int, y_ = (x8_2.set (x9_2 : Int).toNat x11_35) := ⟨_, rfl⟩
                                        replace H : (stackyardref08_Dfa.l1 kj35 y496 x7_1 y499 (wrap64 (x9_2 + 1)) a0_0 a0_1 a0_2 a0_3 l0_4 a0_1 x470001_1 x470002_1) = some (r1, r2, r3, r4) := by first | (rw [hy499]; with_reducible exact H) | (have H2_ := (Option.bind_some _ _).symm.trans H; rw [hy499]; with_reducible exact H2_) | (have H2_ := (Option.bind_some _ _).symm.trans H; with_reducible exact H2_) | with_reducible exact H | (rw [hy499]; exact H) | exact H
                                        have Ny499 := Aside0.mk hy499
                                        clear hy499
                                        have H' := Aside0.mk H
                                        clear H
                                        obtain ⟨Ao71, co71, eo71⟩ := Kd.R_slice HO_10.out
                                        subst eo71
                                        go_wp2_with (first | ((with_reducible refine gate_builtin (b := .append) (xs := #[.tmp 68, .tmp 70]) rfl ?_); (try (refine gate_guard (by rfl) ?_; dsimp only)); at_builtin; refine Kd.N_append (Kd.slice 4 Kd.bool) (w0 := w) w.heap.size rfl (.tmp 68) (.tmp 70) 88 44 (.slice none 0 0) 24 rfl Try.underlying88 info44 rfl (by decide) (by omega) (.slice (some ad490) x6_2.length co41) x6_2 t491 [.slice Ao71 t491.length co71] (fun k_ => (w.heap.size ≤ k_) ∧ some k_ ≠ (v480 : Value).ownBlock ∧ some k_ ≠ (u470001 : Value).ownBlock ∧ some k_ ≠ (u470002 : Value).ownBlock ∧ k_ ≠ gb466 ∧ k_ ≠ gb467 ∧ k_ ≠ gb469) (fun k_ => ((fun k_ => (w.heap.size ≤ k_) ∧ some k_ ≠ (v480 : Value).ownBlock ∧ some k_ ≠ (u470001 : Value).ownBlock ∧ some k_ ≠ (u470002 : Value).ownBlock ∧ k_ ≠ gb466 ∧ k_ ≠ gb467 ∧ k_ ≠ gb469)) k_ ∧ some k_ ≠ (.slice (some ad490) x6_2.length co41 : Value).ownBlock) rfl rfl ?aP (fun _ hk => hk) ?aF ?aO ?aB ?aS ?aL ?_; (case aP => exact (Kd.FK_slice_mk (Kd.R_reads' (Kd.R_mono (ok' := (fun k_ => ((fun k_ => (w.heap.size ≤ k_) ∧ some k_ ≠ (v480 : Value).ownBlock ∧ some k_ ≠ (u470001 : Value).ownBlock ∧ some k_ ≠ (u470002 : Value).ownBlock ∧ k_ ≠ gb466 ∧ k_ ≠ gb467 ∧ k_ ≠ gb469)) k_ ∧ some k_ ≠ (.slice (some ad490) x6_2.length co41 : Value).ownBlock)) (Kd.R_types (Kd.R_types (Kd.R_types (Kd.R_apart' (Kd.R_apart' (Kd.R_apart' (HO_10.out) (Kd.R_typed HO_8.out) (by decide)) (Kd.N_typed HO_470001.out) (by decide)) (Kd.N_typed HO_6.out) (by decide)) BK466.out (by decide)) BK467.out (by decide)) BK469.out (by decide)) (fun k_ hk => ⟨⟨hk.1.1.1.1.1.1.1, ⟨hk.1.1.1.1.1.2, ⟨hk.1.1.1.1.2, ⟨hk.1.1.1.1.1.1.2, ⟨hk.1.1.2, ⟨hk.1.2, hk.2⟩⟩⟩⟩⟩⟩, hk.1.1.1.2⟩))).2.1 (Kd.R_F (Kd.R_mono (ok' := (fun k_ => ((fun k_ => (w.heap.size ≤ k_) ∧ some k_ ≠ (v480 : Value).ownBlock ∧ some k_ ≠ (u470001 : Value).ownBlock ∧ some k_ ≠ (u470002 : Value).ownBlock ∧ k_ ≠ gb466 ∧ k_ ≠ gb467 ∧ k_ ≠ gb469)) k_ ∧ some k_ ≠ (.slice (some ad490) x6_2.length co41 : Value).ownBlock)) (Kd.R_types (Kd.R_types (Kd.R_types (Kd.R_apart' (Kd.R_apart' (Kd.R_apart' (HO_10.out) (Kd.R_typed HO_8.out) (by decide)) (Kd.N_typed HO_470001.out) (by decide)) (Kd.N_typed HO_6.out) (by decide)) BK466.out (by decide)) BK467.out (by decide)) BK469.out (by decide)) (fun k_ hk => ⟨⟨hk.1.1.1.1.1.1.1, ⟨hk.1.1.1.1.1.2, ⟨hk.1.1.1.1.2, ⟨hk.1.1.1.1.1.1.2, ⟨hk.1.1.2, ⟨hk.1.2, hk.2⟩⟩⟩⟩⟩⟩, hk.1.1.1.2⟩))))); (case aB => exact viB); (case aF => exact (fun k_ hk => ⟨(Nat.le_trans (below_size viB) hk), Kd.fresh' (Kd.R_lt (viR HO_8.out)) k_ hk, Kd.fresh' (Kd.N_lt (viN HO_470001.out)) k_ hk, Kd.fresh' (Kd.R_lt (viR HO_470002.out)) k_ hk, Kd.freshB (g := gb466) (o := .cells #[.int .i64 a0_0, .int .i64 a0_1, .int .i64 a0_2, .int .i64 a0_3, .slice A0_4 l0_4.length c0_4] 31 (0, 0)) (viK BK466.out) k_ hk, Kd.freshB (g := gb467) (o := .cells #[.int .i64 x468000_2, .slice none 0 0, .slice none 0 0] 46 (0, 0)) (viK BK467.out) k_ hk, Kd.freshB (g := gb469) (o := .cells #[.int .i64 a0_1, u470001, u470002] 46 (0, 0)) (viK BK469.out) k_ hk⟩)); (case aO => exact (by refine viN ?_; exact Kd.N_mono HO_6.out (fun _ hk => ⟨hk.1, ⟨hk.2.1, ⟨hk.2.2.2.1, ⟨hk.2.2.2.2.1, ⟨hk.2.2.2.2.2.1, ⟨hk.2.2.2.2.2.2.1, hk.2.2.2.2.2.2.2⟩⟩⟩⟩⟩⟩))); (case aS => exact (below_size viB)); (case aL => have := LMc50.out; omega); intro v497 w70 ho hb hg hat; rw [← Ny496.out] at ho; have n0_ := Aside0.mk (Kd.R_over' (viR HO_8.out) (Kd.N_typed (viN HO_6.out)) (by decide) hg); have n1_ := Aside0.mk (Kd.N_afterv (ok := (fun k_ => (w.heap.size ≤ k_) ∧ some k_ ≠ (v480 : Value).ownBlock ∧ some k_ ≠ (.slice Ao71 t491.length co71 : Value).ownBlock ∧ some k_ ≠ (u470002 : Value).ownBlock ∧ k_ ≠ gb466 ∧ k_ ≠ gb467 ∧ k_ ≠ gb469)) (by refine viN ?_; exact Kd.N_mono HO_470001.out (fun _ hk => ⟨⟨hk.1, ⟨hk.2.2.1, ⟨hk.2.2.2.1, ⟨hk.2.2.2.2.1, ⟨hk.2.2.2.2.2.1, ⟨hk.2.2.2.2.2.2.1, hk.2.2.2.2.2.2.2⟩⟩⟩⟩⟩⟩, hk.2.1⟩)) hg hat); have n2_ := Aside0.mk (Kd.R_over' (viR HO_470002.out) (Kd.N_typed (viN HO_6.out)) (by decide) hg); have n3_ := Aside0.mk (blk_grown (g := gb466) (o := .cells #[.int .i64 a0_0, .int .i64 a0_1, .int .i64 a0_2, .int .i64 a0_3, .slice A0_4 l0_4.length c0_4] 31 (0, 0)) (viK BK466.out) hg (Kd.N_ne HO_6.out BK466.out (by decide))); have n4_ := Aside0.mk (blk_grown (g := gb467) (o := .cells #[.int .i64 x468000_2, .slice none 0 0, .slice none 0 0] 46 (0, 0)) (viK BK467.out) hg (Kd.N_ne HO_6.out BK467.out (by decide))); have n5_ := Aside0.mk (blk_grown (g := gb469) (o := .cells #[.int .i64 a0_1, u470001, u470002] 46 (0, 0)) (viK BK469.out) hg (Kd.N_ne HO_6.out BK469.out (by decide))); have n6_ := Aside0.mk (hb); have n7_ := Aside0.mk (ho); clear HO_8; clear HO_470001; clear HO_470002; clear BK466; clear BK467; clear BK469; clear HB; clear HO_6; clear HO_10; have HO_8 := n0_; have HO_470001 := n1_; have HO_470002 := n2_; have BK466 := n3_; have BK467 := n4_; have BK469 := n5_; have HB := n6_; have HO498 := n7_; clear n0_ n1_ n2_ n3_ n4_ n5_ n6_ n7_; clear ho hb hg hat; obtain ⟨Ao72, co72, eo72⟩ := Kd.N_slice HO498.out; subst eo72; have hnb73 := NB466_467.out; have hnc73 := NB467_466.out; have hnb74 := NB466_469.out; have hnc74 := NB469_466.out; have hcz75_0 : w70.cell? ⟨gb466, 0, none⟩ = some (.int .i64 a0_0) := (blk_cell BK466.out 0).trans rfl; have hcz75_1 : w70.cell? ⟨gb466, 1, none⟩ = some (.int .i64 a0_1) := (blk_cell BK466.out 1).trans rfl; have hcz75_2 : w70.cell? ⟨gb466, 2, none⟩ = some (.int .i64 a0_2) := (blk_cell BK466.out 2).trans rfl; have hcz75_3 : w70.cell? ⟨gb466, 3, none⟩ = some (.int .i64 a0_3) := (blk_cell BK466.out 3).trans rfl; have hcz75_4 : w70.cell? ⟨gb466, 4, none⟩ = some (.slice A0_4 l0_4.length c0_4) := (blk_cell BK466.out 4).trans rfl; have hfz75_0 := blk_frozen BK466.out 0; have hfz75_1 := blk_frozen BK466.out 1; have hfz75_2 := blk_frozen BK466.out 2; have hfz75_3 := blk_frozen BK466.out 3; have hfz75_4 := blk_frozen BK466.out 4; have p69 : 0 ≤ (x9_2 : Int) := viA; have q69 : (x9_2 : Int) < ((x8_2.length : Int) : Int) := viA; obtain ⟨go69, co69, eo69, gb69, gl69, cl69, HG69⟩ := Kd.R_form HO_8.out (by omega); (first | cases eo69 | (injection eo69 with ea_ en_ ec_; (first | subst ea_ | (injection ea_ with ea_; subst ea_)); subst ec_; clear en_)); have GB69 := Aside0.mk gb69; have GG69 := Aside0.mk HG69; clear gb69 gl69 HG69; obtain ⟨hx69_0, hf69_0⟩ := Kd.R_celln 0 HO_8.out (x9_2 : Int) p69 q69; replace p69 := eq_true p69; replace q69 := eq_true q69; obtain ⟨hy76_, hz76_⟩ := Kd.R_celln 0 HO_8.out (x9_2 : Int) viA viA; have HP76 := Kd.R_putg HO_8.out (x9_2 : Int) x11_35) | ((with_reducible refine gate_store (t := 3) (p := 87) rfl ?_); refine store_event (t := 3) (p := 87) (v := ?vo_w77) (w1 := (w70.setCell ⟨go69, (x9_2 : Int).toNat, none⟩ (.int .i64 x11_35))) ?hg ?ho ?hn ?hr ?_; (case ho => rfl); (case hg => rfl); (case hn => rfl); (case hr => first | (go_simp; done) | (go_simp; rfl)); intro w77 hw; have hg : w70.grownBy w77 (some go69) := (by rw [hw]; exact HP76.2); have hp_ : Kd.R (Kd.int .i64) 3 w77 w.heap.size (fun k_ => (w.heap.size ≤ k_)) (.slice (some ⟨go69, 0, none⟩) x8_2.length co69) y499 := (by rw [hw, Ny499.out]; exact HP76.1); clear HP76; have n0_ := Aside0.mk (hp_); have n1_ := Aside0.mk (Kd.N_afterv (v := (.slice (some ⟨go69, 0, none⟩) x8_2.length co69)) (v1 := (.slice (some ⟨go69, 0, none⟩) x8_2.length co69)) (ok := (fun k_ => (w.heap.size ≤ k_) ∧ some k_ ≠ (u470002 : Value).ownBlock ∧ some k_ ≠ (.slice Ao72 y496.length co72 : Value).ownBlock ∧ k_ ≠ gb466 ∧ k_ ≠ gb467 ∧ k_ ≠ gb469)) (by refine viN ?_; exact Kd.N_mono HO_470001.out (fun _ hk => ⟨⟨hk.1.1, ⟨hk.1.2.2.2.1, ⟨hk.2, ⟨hk.1.2.2.2.2.1, ⟨hk.1.2.2.2.2.2.1, hk.1.2.2.2.2.2.2⟩⟩⟩⟩⟩, hk.1.2.1⟩)) hg (.inl rfl)); have n2_ := Aside0.mk (Kd.R_over' (v := (.slice (some ⟨go69, 0, none⟩) x8_2.length co69)) (viR HO_470002.out) (Kd.R_typed HO_8.out) (by decide) hg); have n3_ := Aside0.mk (blk_grown (g := gb466) (o := .cells #[.int .i64 a0_0, .int .i64 a0_1, .int .i64 a0_2, .int .i64 a0_3, .slice A0_4 l0_4.length c0_4] 31 (0, 0)) (viK BK466.out) hg (Kd.R_ne HO_8.out BK466.out (by decide))); have n4_ := Aside0.mk (blk_grown (g := gb467) (o := .cells #[.int .i64 x468000_2, .slice none 0 0, .slice none 0 0] 46 (0, 0)) (viK BK467.out) hg (Kd.R_ne HO_8.out BK467.out (by decide))); have n5_ := Aside0.mk (blk_grown (g := gb469) (o := .cells #[.int .i64 a0_1, u470001, u470002] 46 (0, 0)) (viK BK469.out) hg (Kd.R_ne HO_8.out BK469.out (by decide))); have n6_ := Aside0.mk (Kd.N_afterv (v := (.slice (some ⟨go69, 0, none⟩) x8_2.length co69)) (v1 := (.slice (some ⟨go69, 0, none⟩) x8_2.length co69)) (ok := (fun k_ => (w.heap.size ≤ k_) ∧ some k_ ≠ (u470001 : Value).ownBlock ∧ some k_ ≠ (u470002 : Value).ownBlock ∧ k_ ≠ gb466 ∧ k_ ≠ gb467 ∧ k_ ≠ gb469)) (by refine viN ?_; exact Kd.N_mono HO498.out (fun _ hk => ⟨⟨hk.1, ⟨hk.2.2.1, ⟨hk.2.2.2.1, ⟨hk.2.2.2.2.1, ⟨hk.2.2.2.2.2.1, hk.2.2.2.2.2.2⟩⟩⟩⟩⟩, hk.2.1⟩)) hg (.inl rfl)); have n7_ := Aside0.mk ((by rw [hw]; exact below_set (HB.out) GB69.out : Below w.heap.size w w77)); clear HO_8; clear HO_470001; clear HO_470002; clear BK466; clear BK467; clear BK469; clear HO498; clear HB; have HO_8 := n0_; have HO_470001 := n1_; have HO_470002 := n2_; have BK466 := n3_; have BK467 := n4_; have BK469 := n5_; have HO498 := n6_; have HB := n7_; clear n0_ n1_ n2_ n3_ n4_ n5_ n6_ n7_; clear hg hw hp_))
                                        go_roundg kj35
                                        case measure => have := HK1.out; have := HK2.out; have := HJ35.out; omega
                                        case rel => exact ⟨(y496), (y499), (wrap64 (x9_2 + 1)), (x468000_2), (by first | rfl | (simp; done) | (simp [*]; done)), H', ⟨by have := HK1.out; have := HK2.out; have := HJ35.out; omega⟩, ⟨by refine viN ?_; exact Kd.N_mono HO498.out (fun _ hk => ⟨hk.1.1, ⟨hk.2, ⟨hk.1.2.1, ⟨hk.1.2.2.1, ⟨hk.1.2.2.2.1, ⟨hk.1.2.2.2.2.1, hk.1.2.2.2.2.2⟩⟩⟩⟩⟩⟩)⟩, ⟨viR HO_8.out⟩, ⟨by refine viN ?_; exact Kd.N_mono HO_470001.out (fun _ hk => ⟨hk.1.1, ⟨hk.1.2.2.1, ⟨hk.2, ⟨hk.1.2.1, ⟨hk.1.2.2.2.1, ⟨hk.1.2.2.2.2.1, hk.1.2.2.2.2.2⟩⟩⟩⟩⟩⟩)⟩, ⟨by refine viR ?_; exact Kd.R_mono HO_470002.out (fun _ hk => hk.1)⟩, ⟨viK BK466.out⟩, ⟨viK BK467.out⟩, ⟨viK BK469.out⟩, ⟨viB⟩⟩
                                      · rw [if_neg c68] at H
                                        exact absurd H (by simp)
                                    · rw [if_neg c67] at H
                                      exact absurd H (by simp)
                              · rw [if_neg c50] at H
                                exact absurd H (by simp)
                            · rw [if_neg c49] at H
                              have c49b0 : (x11_35 == (x6_2.length : Int)) = false := beq_eq_false_iff_ne.mpr c49
                              have c49b1 : (x11_35 != (x6_2.length : Int)) = true := bne_iff_ne.mpr c49
                              by_cases c78 : (x6_2.length : Int) > 1024
                              · rw [if_pos c78] at H
                                have c78b0 : decide (1024 < (x6_2.length : Int)) = true := decide_eq_true c78
                                have c78b1 : decide (1024 < x6_2.length) = true := decide_eq_true (by omega)
                                clear c78
                                simp only [Option.some.injEq, Prod.mk.injEq] at H
                                obtain ⟨rfl, rfl, rfl, rfl⟩ := H
                                have hnb79 := NB467_466.out
                                have hnc79 := NB466_467.out
                                have hnb80 := NB467_469.out
                                have hnc80 := NB469_467.out
                                have hcz81_0 : wc.cell? ⟨gb467, 0, none⟩ = some (.int .i64 x468000_2) := (blk_cell BK467.out 0).trans rfl
                                have hcz81_1 : wc.cell? ⟨gb467, 1, none⟩ = some (.slice none 0 0) := (blk_cell BK467.out 1).trans rfl
                                have hcz81_2 : wc.cell? ⟨gb467, 2, none⟩ = some (.slice none 0 0) := (blk_cell BK467.out 2).trans rfl
                                have hfz81_0 := blk_frozen BK467.out 0
                                have hfz81_1 := blk_frozen BK467.out 1
                                have hfz81_2 := blk_frozen BK467.out 2
                                go_wp2
                                refine bodyPost_ret (results_ct rfl _ _ gb467 46 #[.int .i64 0, .slice none 0 0, .slice none 0 0] (0, 0) _ rfl (by refine viK ?_; refine blk_put (cs := #[.int .i64 0, .slice none 0 0, .slice none 0 0]) ?_ 2 _ rfl; refine viK ?_; refine blk_put (cs := #[.int .i64 0, .slice none 0 0, .slice none 0 0]) ?_ 1 _ rfl; refine viK ?_; refine blk_put (cs := #[.int .i64 x468000_2, .slice none 0 0, .slice none 0 0]) ?_ 0 _ rfl; refine viK ?_; exact BK467.out) Try.underlying46 rfl (by kernel_rfl)) rfl ?_
                                exact ⟨_, _, by first | rfl | (simp [errW_none, errW_some] <;> rfl) | (simp [*, errW_none, errW_some] <;> rfl), by first | exact Kd.S_nil _ _ _ _ _ | exact Kd.N_nil _ _ _ _ _ | exact Kd.V_nil _ _ _ _ _ | exact Kd.Q_nil _ _ _ _ _ | exact Kd.R_nil _ _ _ _ _, by first | exact Kd.R_nil _ _ _ _ _ | exact Kd.N_nil _ _ _ _ _ | exact Kd.V_nil _ _ _ _ _ | exact Kd.Q_nil _ _ _ _ _ | exact Kd.S_nil _ _ _ _ _, viB⟩
                              · rw [if_neg c78] at H
                                have c78b0 : decide (1024 < (x6_2.length : Int)) = false := decide_eq_false c78
                                have c78b1 : decide (1024 < x6_2.length) = false := decide_eq_false (by omega)
                                clear c78
                                by_cases c82 : (wrap64 ((x6_2.length : Int) * a0_1)) > 65536
                                · rw [if_pos c82] at H
                                  have c82b0 : decide (65536 < (wrap64 ((x6_2.length : Int) * a0_1))) = true := decide_eq_true c82
                                  clear c82
                                  simp only [Option.some.injEq, Prod.mk.injEq] at H
                                  obtain ⟨rfl, rfl, rfl, rfl⟩ := H
                                  have hnb83 := NB466_467.out
                                  have hnc83 := NB467_466.out
                                  have hnb84 := NB466_469.out
                                  have hnc84 := NB469_466.out
                                  have hcz85_0 : wc.cell? ⟨gb466, 0, none⟩ = some (.int .i64 a0_0) := (blk_cell BK466.out 0).trans rfl
                                  have hcz85_1 : wc.cell? ⟨gb466, 1, none⟩ = some (.int .i64 a0_1) := (blk_cell BK466.out 1).trans rfl
                                  have hcz85_2 : wc.cell? ⟨gb466, 2, none⟩ = some (.int .i64 a0_2) := (blk_cell BK466.out 2).trans rfl
                                  have hcz85_3 : wc.cell? ⟨gb466, 3, none⟩ = some (.int .i64 a0_3) := (blk_cell BK466.out 3).trans rfl
                                  have hcz85_4 : wc.cell? ⟨gb466, 4, none⟩ = some (.slice A0_4 l0_4.length c0_4) := (blk_cell BK466.out 4).trans rfl
                                  have hfz85_0 := blk_frozen BK466.out 0
                                  have hfz85_1 := blk_frozen BK466.out 1
                                  have hfz85_2 := blk_frozen BK466.out 2
                                  have hfz85_3 := blk_frozen BK466.out 3
                                  have hfz85_4 := blk_frozen BK466.out 4
                                  have hnb86 := NB467_469.out
                                  have hnc86 := NB469_467.out
                                  have hcz87_0 : wc.cell? ⟨gb467, 0, none⟩ = some (.int .i64 x468000_2) := (blk_cell BK467.out 0).trans rfl
                                  have hcz87_1 : wc.cell? ⟨gb467, 1, none⟩ = some (.slice none 0 0) := (blk_cell BK467.out 1).trans rfl
                                  have hcz87_2 : wc.cell? ⟨gb467, 2, none⟩ = some (.slice none 0 0) := (blk_cell BK467.out 2).trans rfl
                                  have hfz87_0 := blk_frozen BK467.out 0
                                  have hfz87_1 := blk_frozen BK467.out 1
                                  have hfz87_2 := blk_frozen BK467.out 2
                                  go_wp2
                                  refine bodyPost_ret (results_ct rfl _ _ gb467 46 #[.int .i64 0, .slice none 0 0, .slice none 0 0] (0, 0) _ rfl (by refine viK ?_; refine blk_put (cs := #[.int .i64 0, .slice none 0 0, .slice none 0 0]) ?_ 2 _ rfl; refine viK ?_; refine blk_put (cs := #[.int .i64 0, .slice none 0 0, .slice none 0 0]) ?_ 1 _ rfl; refine viK ?_; refine blk_put (cs := #[.int .i64 x468000_2, .slice none 0 0, .slice none 0 0]) ?_ 0 _ rfl; refine viK ?_; exact BK467.out) Try.underlying46 rfl (by kernel_rfl)) rfl ?_
                                  exact ⟨_, _, by first | rfl | (simp [errW_none, errW_some] <;> rfl) | (simp [*, errW_none, errW_some] <;> rfl), by first | exact Kd.S_nil _ _ _ _ _ | exact Kd.N_nil _ _ _ _ _ | exact Kd.V_nil _ _ _ _ _ | exact Kd.Q_nil _ _ _ _ _ | exact Kd.R_nil _ _ _ _ _, by first | exact Kd.R_nil _ _ _ _ _ | exact Kd.N_nil _ _ _ _ _ | exact Kd.V_nil _ _ _ _ _ | exact Kd.Q_nil _ _ _ _ _ | exact Kd.S_nil _ _ _ _ _, viB⟩
                                · rw [if_neg c82] at H
                                  have c82b0 : decide (65536 < (wrap64 ((x6_2.length : Int) * a0_1))) = false := decide_eq_false c82
                                  clear c82
                                  by_cases c88 : 0 ≤ x9_2
                                  · rw [if_pos c88] at H
                                    have c88b0 : decide (0 ≤ x9_2) = true := decide_eq_true c88
                                    clear c88
                                    by_cases c89 : x9_2 < (x8_2.length : Int)
                                    · rw [if_pos c89] at H
                                      have c89b0 : decide (x9_2 < (x8_2.length : Int)) = true := decide_eq_true c89
                                      clear c89
                                      obtain ⟨y500, hy500⟩ : ∃ y_ : List Int, y_ = (x8_2.set (x9_2 : Int).toNat x11_35) := ⟨_, rfl⟩
                                      replace H : (stackyardref08_Dfa.l1 kj35 x6_2 x7_1 y500 (wrap64 (x9_2 + 1)) a0_0 a0_1 a0_2 a0_3 l0_4 a0_1 x470001_1 x470002_1) = some (r1, r2, r3, r4) := by first | (rw [hy500]; with_reducible exact H) | (have H2_ := (Option.bind_some _ _).symm.trans H; rw [hy500]; with_reducible exact H2_) | (have H2_ := (Option.bind_some _ _).symm.trans H; with_reducible exact H2_) | with_reducible exact H | (rw [hy500]; exact H) | exact H
                                      have Ny500 := Aside0.mk hy500
                                      clear hy500
                                      have H' := Aside0.mk H
                                      clear H
                                      have hnb91 := NB466_467.out
                                      have hnc91 := NB467_466.out
                                      have hnb92 := NB466_469.out
                                      have hnc92 := NB469_466.out
                                      have hcz93_0 : wc.cell? ⟨gb466, 0, none⟩ = some (.int .i64 a0_0) := (blk_cell BK466.out 0).trans rfl
                                      have hcz93_1 : wc.cell? ⟨gb466, 1, none⟩ = some (.int .i64 a0_1) := (blk_cell BK466.out 1).trans rfl
                                      have hcz93_2 : wc.cell? ⟨gb466, 2, none⟩ = some (.int .i64 a0_2) := (blk_cell BK466.out 2).trans rfl
                                      have hcz93_3 : wc.cell? ⟨gb466, 3, none⟩ = some (.int .i64 a0_3) := (blk_cell BK466.out 3).trans rfl
                                      have hcz93_4 : wc.cell? ⟨gb466, 4, none⟩ = some (.slice A0_4 l0_4.length c0_4) := (blk_cell BK466.out 4).trans rfl
                                      have hfz93_0 := blk_frozen BK466.out 0
                                      have hfz93_1 := blk_frozen BK466.out 1
                                      have hfz93_2 := blk_frozen BK466.out 2
                                      have hfz93_3 := blk_frozen BK466.out 3
                                      have hfz93_4 := blk_frozen BK466.out 4
                                      have p90 : 0 ≤ (x9_2 : Int) := viA
                                      have q90 : (x9_2 : Int) < ((x8_2.length : Int) : Int) := viA
                                      obtain ⟨go90, co90, eo90, gb90, gl90, cl90, HG90⟩ := Kd.R_form HO_8.out (by omega)
                                      (first | cases eo90 | (injection eo90 with ea_ en_ ec_; (first | subst ea_ | (injection ea_ with ea_; subst ea_)); subst ec_; clear en_))
                                      have GB90 := Aside0.mk gb90
                                      have GG90 := Aside0.mk HG90
                                      clear gb90 gl90 HG90
                                      obtain ⟨hx90_0, hf90_0⟩ := Kd.R_celln 0 HO_8.out (x9_2 : Int) p90 q90
                                      replace p90 := eq_true p90
                                      replace q90 := eq_true q90
                                      have HP94 := Kd.R_putg HO_8.out (x9_2 : Int) x11_35
                                      go_wp2_with (first | ((with_reducible refine gate_store (t := 3) (p := 87) rfl ?_); refine store_event (t := 3) (p := 87) (v := ?vo_w95) (w1 := (wc.setCell ⟨go90, (x9_2 : Int).toNat, none⟩ (.int .i64 x11_35))) ?hg ?ho ?hn ?hr ?_; (case ho => rfl); (case hg => rfl); (case hn => rfl); (case hr => first | (go_simp; done) | (go_simp; rfl)); intro w95 hw; have hg : wc.grownBy w95 (some go90) := (by rw [hw]; exact HP94.2); have hp_ : Kd.R (Kd.int .i64) 3 w95 w.heap.size (fun k_ => (w.heap.size ≤ k_)) (.slice (some ⟨go90, 0, none⟩) x8_2.length co90) y500 := (by rw [hw, Ny500.out]; exact HP94.1); clear HP94; have n0_ := Aside0.mk (Kd.N_afterv (v := (.slice (some ⟨go90, 0, none⟩) x8_2.length co90)) (v1 := (.slice (some ⟨go90, 0, none⟩) x8_2.length co90)) (ok := (fun k_ => (w.heap.size ≤ k_) ∧ some k_ ≠ (v492 : Value).ownBlock ∧ some k_ ≠ (u470001 : Value).ownBlock ∧ some k_ ≠ (u470002 : Value).ownBlock ∧ k_ ≠ gb466 ∧ k_ ≠ gb467 ∧ k_ ≠ gb469)) (by refine viN ?_; exact Kd.N_mono HO_6.out (fun _ hk => ⟨⟨hk.1, ⟨hk.2.2.1, ⟨hk.2.2.2.1, ⟨hk.2.2.2.2.1, ⟨hk.2.2.2.2.2.1, ⟨hk.2.2.2.2.2.2.1, hk.2.2.2.2.2.2.2⟩⟩⟩⟩⟩⟩, hk.2.1⟩)) hg (.inl rfl)); have n1_ := Aside0.mk (hp_); have n2_ := Aside0.mk (Kd.R_over' (v := (.slice (some ⟨go90, 0, none⟩) x8_2.length co90)) (viR HO_10.out) (Kd.R_typed HO_8.out) (by decide) hg); have n3_ := Aside0.mk (Kd.N_afterv (v := (.slice (some ⟨go90, 0, none⟩) x8_2.length co90)) (v1 := (.slice (some ⟨go90, 0, none⟩) x8_2.length co90)) (ok := (fun k_ => (w.heap.size ≤ k_) ∧ some k_ ≠ (.slice (some ad490) x6_2.length co41 : Value).ownBlock ∧ some k_ ≠ (v492 : Value).ownBlock ∧ some k_ ≠ (u470002 : Value).ownBlock ∧ k_ ≠ gb466 ∧ k_ ≠ gb467 ∧ k_ ≠ gb469)) (by refine viN ?_; exact Kd.N_mono HO_470001.out (fun _ hk => ⟨⟨hk.1, ⟨hk.2.1, ⟨hk.2.2.2.1, ⟨hk.2.2.2.2.1, ⟨hk.2.2.2.2.2.1, ⟨hk.2.2.2.2.2.2.1, hk.2.2.2.2.2.2.2⟩⟩⟩⟩⟩⟩, hk.2.2.1⟩)) hg (.inl rfl)); have n4_ := Aside0.mk (Kd.R_over' (v := (.slice (some ⟨go90, 0, none⟩) x8_2.length co90)) (viR HO_470002.out) (Kd.R_typed HO_8.out) (by decide) hg); have n5_ := Aside0.mk (blk_grown (g := gb466) (o := .cells #[.int .i64 a0_0, .int .i64 a0_1, .int .i64 a0_2, .int .i64 a0_3, .slice A0_4 l0_4.length c0_4] 31 (0, 0)) (viK BK466.out) hg (Kd.R_ne HO_8.out BK466.out (by decide))); have n6_ := Aside0.mk (blk_grown (g := gb467) (o := .cells #[.int .i64 x468000_2, .slice none 0 0, .slice none 0 0] 46 (0, 0)) (viK BK467.out) hg (Kd.R_ne HO_8.out BK467.out (by decide))); have n7_ := Aside0.mk (blk_grown (g := gb469) (o := .cells #[.int .i64 a0_1, u470001, u470002] 46 (0, 0)) (viK BK469.out) hg (Kd.R_ne HO_8.out BK469.out (by decide))); have n8_ := Aside0.mk ((by rw [hw]; exact below_set (HB.out) GB90.out : Below w.heap.size w w95)); clear HO_6; clear HO_8; clear HO_10; clear HO_470001; clear HO_470002; clear BK466; clear BK467; clear BK469; clear HB; have HO_6 := n0_; have HO_8 := n1_; have HO_10 := n2_; have HO_470001 := n3_; have HO_470002 := n4_; have BK466 := n5_; have BK467 := n6_; have BK469 := n7_; have HB := n8_; clear n0_ n1_ n2_ n3_ n4_ n5_ n6_ n7_ n8_; clear hg hw hp_))
                                      go_roundg kj35
                                      case measure => have := HK1.out; have := HK2.out; have := HJ35.out; omega
                                      case rel => exact ⟨(x6_2), (y500), (wrap64 (x9_2 + 1)), (x468000_2), (by first | rfl | (simp; done) | (simp [*]; done)), H', ⟨by have := HK1.out; have := HK2.out; have := HJ35.out; omega⟩, ⟨by refine viN ?_; exact Kd.N_mono HO_6.out (fun _ hk => ⟨hk.1.1, ⟨hk.2, ⟨hk.1.2.2.1, ⟨hk.1.2.2.2.1, ⟨hk.1.2.2.2.2.1, ⟨hk.1.2.2.2.2.2.1, hk.1.2.2.2.2.2.2⟩⟩⟩⟩⟩⟩)⟩, ⟨viR HO_8.out⟩, ⟨by refine viN ?_; exact Kd.N_mono HO_470001.out (fun _ hk => ⟨hk.1.1, ⟨hk.1.2.1, ⟨hk.2, ⟨hk.1.2.2.2.1, ⟨hk.1.2.2.2.2.1, ⟨hk.1.2.2.2.2.2.1, hk.1.2.2.2.2.2.2⟩⟩⟩⟩⟩⟩)⟩, ⟨by refine viR ?_; exact Kd.R_mono HO_470002.out (fun _ hk => hk.1)⟩, ⟨viK BK466.out⟩, ⟨viK BK467.out⟩, ⟨viK BK469.out⟩, ⟨viB⟩⟩
                                    · rw [if_neg c89] at H
                                      exact absurd H (by simp)
                                  · rw [if_neg c88] at H
                                    exact absurd H (by simp)
                      · rw [if_neg c34] at H
                        exact absurd H (by simp)
                    · rw [if_neg c33] at H
                      exact absurd H (by simp)
                  · rw [if_neg c32] at H
                    have c32b0 : decide (x9_2 < a0_1) = false := decide_eq_false c32
                    clear c32
                    by_cases c96 : x470001_1.length < 5864062014805
                    · rw [if_pos c96] at H
                      have LMc96 := Aside0.mk c96
                      clear c96
                      obtain ⟨y482, hy482⟩ : ∃ y_ : List (List Int), y_ = (x470001_1 ++ [x8_2]) := ⟨_, rfl⟩
                      replace H : (if 0 ≤ x7_1 then (if x7_1 < (x6_2.length : Int) then (if 0 ≤ a0_3 then (if a0_3 < ((rd_L7 x6_2 x7_1).length : Int) then (if x470002_1.length < 140737488355328 then (stackyardref08_Dfa.l0 k2 x6_2 (wrap64 (x7_1 + 1)) a0_0 a0_1 a0_2 a0_3 l0_4 a0_1 y482 (x470002_1 ++ [rdOf false (rd_L7 x6_2 x7_1) a0_3])) else (none)) else (none)) else (none)) else (none)) else (none)) = some (r1, r2, r3, r4) := by first | (rw [hy482]; with_reducible exact H) | (have H2_ := (Option.bind_some _ _).symm.trans H; rw [hy482]; with_reducible exact H2_) | (have H2_ := (Option.bind_some _ _).symm.trans H; with_reducible exact H2_) | with_reducible exact H | (rw [hy482]; exact H) | exact H
                      have Ny482 := Aside0.mk hy482
                      clear hy482
                      by_cases c97 : 0 ≤ x7_1
                      · rw [if_pos c97] at H
                        have c97b0 : decide (0 ≤ x7_1) = true := decide_eq_true c97
                        clear c97
                        by_cases c98 : x7_1 < (x6_2.length : Int)
                        · rw [if_pos c98] at H
                          have c98b0 : decide (x7_1 < (x6_2.length : Int)) = true := decide_eq_true c98
                          clear c98
                          by_cases c99 : 0 ≤ a0_3
                          · rw [if_pos c99] at H
                            have c99b0 : decide (0 ≤ a0_3) = true := decide_eq_true c99
                            clear c99
                            by_cases c100 : a0_3 < ((rd_L7 x6_2 x7_1).length : Int)
                            · rw [if_pos c100] at H
                              have c100b0 : decide (a0_3 < ((rd_L7 x6_2 x7_1).length : Int)) = true := decide_eq_true c100
                              clear c100
                              by_cases c101 : x470002_1.length < 140737488355328
                              · rw [if_pos c101] at H
                                have LMc101 := Aside0.mk c101
                                clear c101
                                obtain ⟨y487, hy487⟩ : ∃ y_ : List Bool, y_ = (x470002_1 ++ [rdOf false (rd_L7 x6_2 x7_1) a0_3]) := ⟨_, rfl⟩
                                replace H : (stackyardref08_Dfa.l0 k2 x6_2 (wrap64 (x7_1 + 1)) a0_0 a0_1 a0_2 a0_3 l0_4 a0_1 y482 y487) = some (r1, r2, r3, r4) := by first | (rw [hy487]; with_reducible exact H) | (have H2_ := (Option.bind_some _ _).symm.trans H; rw [hy487]; with_reducible exact H2_) | (have H2_ := (Option.bind_some _ _).symm.trans H; with_reducible exact H2_) | with_reducible exact H | (rw [hy487]; exact H) | exact H
                                have Ny487 := Aside0.mk hy487
                                clear hy487
                                have H' := Aside0.mk H
                                clear H
                                have hnb102 := NB466_467.out
                                have hnc102 := NB467_466.out
                                have hnb103 := NB466_469.out
                                have hnc103 := NB469_466.out
                                have hcz104_0 : wr.cell? ⟨gb466, 0, none⟩ = some (.int .i64 a0_0) := (blk_cell BK466.out 0).trans rfl
                                have hcz104_1 : wr.cell? ⟨gb466, 1, none⟩ = some (.int .i64 a0_1) := (blk_cell BK466.out 1).trans rfl
                                have hcz104_2 : wr.cell? ⟨gb466, 2, none⟩ = some (.int .i64 a0_2) := (blk_cell BK466.out 2).trans rfl
                                have hcz104_3 : wr.cell? ⟨gb466, 3, none⟩ = some (.int .i64 a0_3) := (blk_cell BK466.out 3).trans rfl
                                have hcz104_4 : wr.cell? ⟨gb466, 4, none⟩ = some (.slice A0_4 l0_4.length c0_4) := (blk_cell BK466.out 4).trans rfl
                                have hfz104_0 := blk_frozen BK466.out 0
                                have hfz104_1 := blk_frozen BK466.out 1
                                have hfz104_2 := blk_frozen BK466.out 2
                                have hfz104_3 := blk_frozen BK466.out 3
                                have hfz104_4 := blk_frozen BK466.out 4
                                have hnb105 := NB469_467.out
                                have hnc105 := NB467_469.out
                                have hcz106_0 : wr.cell? ⟨gb469, 0, none⟩ = some (.int .i64 a0_1) := (blk_cell BK469.out 0).trans rfl
                                have hcz106_1 : wr.cell? ⟨gb469, 1, none⟩ = some (u470001) := (blk_cell BK469.out 1).trans rfl
                                have hcz106_2 : wr.cell? ⟨gb469, 2, none⟩ = some (u470002) := (blk_cell BK469.out 2).trans rfl
                                have hfz106_0 := blk_frozen BK469.out 0
                                have hfz106_1 := blk_frozen BK469.out 1
                                have hfz106_2 := blk_frozen BK469.out 2
                                obtain ⟨Ao108, co108, eo108⟩ := Kd.R_slice HO_8.out
                                subst eo108
                                try go_wp2_with (first | ((with_reducible refine gate_builtin (b := .append) (xs := #[.tmp 89, .tmp 91]) rfl ?_); (try (refine gate_guard (by rfl) ?_; dsimp only)); at_builtin; refine Kd.N_append (Kd.slice 3 (Kd.int .i64)) (w0 := w) w.heap.size rfl (.tmp 89) (.tmp 91) 43 27 (.slice none 0 0) 24 rfl Try.underlying43 info27 rfl (by decide) (by omega) u470001 x470001_1 x8_2 [.slice Ao108 x8_2.length co108] (fun k_ => (w.heap.size ≤ k_) ∧ some k_ ≠ (u6 : Value).ownBlock ∧ some k_ ≠ (u470002 : Value).ownBlock ∧ k_ ≠ gb466 ∧ k_ ≠ gb467 ∧ k_ ≠ gb469) (fun k_ => ((fun k_ => (w.heap.size ≤ k_) ∧ some k_ ≠ (u6 : Value).ownBlock ∧ some k_ ≠ (u470002 : Value).ownBlock ∧ k_ ≠ gb466 ∧ k_ ≠ gb467 ∧ k_ ≠ gb469)) k_ ∧ some k_ ≠ (u470001 : Value).ownBlock) rfl rfl ?aP (fun _ hk => hk) ?aF ?aO ?aB ?aS ?aL ?_; (case aP => exact (Kd.FK_slice_mk (Kd.R_reads' (Kd.R_mono (ok' := (fun k_ => ((fun k_ => (w.heap.size ≤ k_) ∧ some k_ ≠ (u6 : Value).ownBlock ∧ some k_ ≠ (u470002 : Value).ownBlock ∧ k_ ≠ gb466 ∧ k_ ≠ gb467 ∧ k_ ≠ gb469)) k_ ∧ some k_ ≠ (u470001 : Value).ownBlock)) (Kd.R_types (Kd.R_types (Kd.R_types (Kd.R_apart' (Kd.R_apart' (Kd.R_apart' (HO_8.out) (Kd.N_typed HO_6.out) (by decide)) (Kd.R_typed HO_470002.out) (by decide)) (Kd.N_typed HO_470001.out) (by decide)) BK466.out (by decide)) BK467.out (by decide)) BK469.out (by decide)) (fun k_ hk => ⟨⟨hk.1.1.1.1.1.1, ⟨hk.1.1.1.1.1.2, ⟨hk.1.1.1.1.2, ⟨hk.1.1.2, ⟨hk.1.2, hk.2⟩⟩⟩⟩⟩, hk.1.1.1.2⟩))).2.1 (Kd.R_F (Kd.R_mono (ok' := (fun k_ => ((fun k_ => (w.heap.size ≤ k_) ∧ some k_ ≠ (u6 : Value).ownBlock ∧ some k_ ≠ (u470002 : Value).ownBlock ∧ k_ ≠ gb466 ∧ k_ ≠ gb467 ∧ k_ ≠ gb469)) k_ ∧ some k_ ≠ (u470001 : Value).ownBlock)) (Kd.R_types (Kd.R_types (Kd.R_types (Kd.R_apart' (Kd.R_apart' (Kd.R_apart' (HO_8.out) (Kd.N_typed HO_6.out) (by decide)) (Kd.R_typed HO_470002.out) (by decide)) (Kd.N_typed HO_470001.out) (by decide)) BK466.out (by decide)) BK467.out (by decide)) BK469.out (by decide)) (fun k_ hk => ⟨⟨hk.1.1.1.1.1.1, ⟨hk.1.1.1.1.1.2, ⟨hk.1.1.1.1.2, ⟨hk.1.1.2, ⟨hk.1.2, hk.2⟩⟩⟩⟩⟩, hk.1.1.1.2⟩))))); (case aB => exact viB); (case aF => exact (fun k_ hk => ⟨(Nat.le_trans (below_size viB) hk), Kd.fresh' (Kd.N_lt (viN HO_6.out)) k_ hk, Kd.fresh' (Kd.R_lt (viR HO_470002.out)) k_ hk, Kd.freshB (g := gb466) (o := .cells #[.int .i64 a0_0, .int .i64 a0_1, .int .i64 a0_2, .int .i64 a0_3, .slice A0_4 l0_4.length c0_4] 31 (0, 0)) (viK BK466.out) k_ hk, Kd.freshB (g := gb467) (o := .cells #[.int .i64 x468000_2, .slice none 0 0, .slice none 0 0] 46 (0, 0)) (viK BK467.out) k_ hk, Kd.freshB (g := gb469) (o := .cells #[.int .i64 a0_1, u470001, u470002] 46 (0, 0)) (viK BK469.out) k_ hk⟩)); (case aO => exact (by refine viN ?_; exact Kd.N_mono HO_470001.out (fun _ hk => ⟨hk.1, ⟨hk.2.1, ⟨hk.2.2.2.1, ⟨hk.2.2.2.2.1, ⟨hk.2.2.2.2.2.1, hk.2.2.2.2.2.2⟩⟩⟩⟩⟩))); (case aS => exact (below_size viB)); (case aL => have := LMc96.out; omega); intro v483 w107 ho hb hg hat; rw [← Ny482.out] at ho; have n0_ := Aside0.mk (Kd.N_afterv (ok := (fun k_ => (w.heap.size ≤ k_) ∧ some k_ ≠ (.slice Ao108 x8_2.length co108 : Value).ownBlock ∧ some k_ ≠ (u470002 : Value).ownBlock ∧ k_ ≠ gb466 ∧ k_ ≠ gb467 ∧ k_ ≠ gb469)) (by refine viN ?_; exact Kd.N_mono HO_6.out (fun _ hk => ⟨⟨hk.1, ⟨hk.2.1, ⟨hk.2.2.2.1, ⟨hk.2.2.2.2.1, ⟨hk.2.2.2.2.2.1, hk.2.2.2.2.2.2⟩⟩⟩⟩⟩, hk.2.2.1⟩)) hg hat); have n1_ := Aside0.mk (Kd.R_over' (viR HO_470002.out) (Kd.N_typed (viN HO_470001.out)) (by decide) hg); have n2_ := Aside0.mk (blk_grown (g := gb466) (o := .cells #[.int .i64 a0_0, .int .i64 a0_1, .int .i64 a0_2, .int .i64 a0_3, .slice A0_4 l0_4.length c0_4] 31 (0, 0)) (viK BK466.out) hg (Kd.N_ne HO_470001.out BK466.out (by decide))); have n3_ := Aside0.mk (blk_grown (g := gb467) (o := .cells #[.int .i64 x468000_2, .slice none 0 0, .slice none 0 0] 46 (0, 0)) (viK BK467.out) hg (Kd.N_ne HO_470001.out BK467.out (by decide))); have n4_ := Aside0.mk (blk_grown (g := gb469) (o := .cells #[.int .i64 a0_1, u470001, u470002] 46 (0, 0)) (viK BK469.out) hg (Kd.N_ne HO_470001.out BK469.out (by decide))); have n5_ := Aside0.mk (hb); have n6_ := Aside0.mk (ho); clear HO_6; clear HO_470002; clear BK466; clear BK467; clear BK469; clear HB; clear HO_470001; clear HO_8; have HO_6 := n0_; have HO_470002 := n1_; have BK466 := n2_; have BK467 := n3_; have BK469 := n4_; have HB := n5_; have HO484 := n6_; clear n0_ n1_ n2_ n3_ n4_ n5_ n6_; clear ho hb hg hat; obtain ⟨Ao109, co109, eo109⟩ := Kd.N_slice HO484.out; subst eo109; have hcz110_0 : w107.cell? ⟨gb469, 0, none⟩ = some (.int .i64 a0_1) := (blk_cell BK469.out 0).trans rfl; have hcz110_1 : w107.cell? ⟨gb469, 1, none⟩ = some (u470001) := (blk_cell BK469.out 1).trans rfl; have hcz110_2 : w107.cell? ⟨gb469, 2, none⟩ = some (u470002) := (blk_cell BK469.out 2).trans rfl; have hfz110_0 := blk_frozen BK469.out 0; have hfz110_1 := blk_frozen BK469.out 1; have hfz110_2 := blk_frozen BK469.out 2))
                                have n0_ : Aside0 (Kd.N (Kd.slice 4 Kd.bool) 44 (w107.setCell ⟨gb469, 1, none⟩ (.slice Ao109 y482.length co109)) w.heap.size (fun k_ => (w.heap.size ≤ k_) ∧ some k_ ≠ (u470002 : Value).ownBlock ∧ some k_ ≠ (.slice Ao109 y482.length co109 : Value).ownBlock ∧ k_ ≠ gb466 ∧ k_ ≠ gb467 ∧ k_ ≠ gb469) u6 x6_2) := ⟨by refine viN ?_; exact Kd.N_mono (Kd.N_far (p := ⟨gb469, 1, none⟩) (Kd.N_mono HO_6.out (fun k_ hk => (⟨hk, hk.1.2.2.2.2.2⟩ : _ ∧ k_ ≠ gb469))) (fun _ hk => hk.2) (.slice Ao109 y482.length co109)) (fun _ hk => ⟨hk.1.1.1, ⟨hk.1.1.2.2.1, ⟨hk.1.2, ⟨hk.1.1.2.2.2.1, ⟨hk.1.1.2.2.2.2.1, hk.1.1.2.2.2.2.2⟩⟩⟩⟩⟩)⟩
                                have n1_ : Aside0 (Kd.R Kd.bool 4 (w107.setCell ⟨gb469, 1, none⟩ (.slice Ao109 y482.length co109)) w.heap.size (fun k_ => (w.heap.size ≤ k_)) u470002 x470002_1) := ⟨by refine viR ?_; exact Kd.R_mono (Kd.R_far (p := ⟨gb469, 1, none⟩) (Kd.R_types HO_470002.out BK469.out (by decide)) (fun _ hk => hk.2) (.slice Ao109 y482.length co109)) (fun _ hk => hk.1)⟩
                                have n2_ : Aside0 (Kd.N (Kd.slice 3 (Kd.int .i64)) 27 (w107.setCell ⟨gb469, 1, none⟩ (.slice Ao109 y482.length co109)) w.heap.size (fun k_ => (w.heap.size ≤ k_) ∧ some k_ ≠ (u6 : Value).ownBlock ∧ some k_ ≠ (u470002 : Value).ownBlock ∧ k_ ≠ gb466 ∧ k_ ≠ gb467 ∧ k_ ≠ gb469) (.slice Ao109 y482.length co109) y482) := ⟨by refine viN ?_; exact Kd.N_mono (Kd.N_far (p := ⟨gb469, 1, none⟩) (Kd.N_mono HO484.out (fun k_ hk => (⟨hk, hk.2.2.2.2.2⟩ : _ ∧ k_ ≠ gb469))) (fun _ hk => hk.2) (.slice Ao109 y482.length co109)) (fun _ hk => ⟨hk.1.1, ⟨hk.1.2.1, ⟨hk.1.2.2.1, ⟨hk.1.2.2.2.1, ⟨hk.1.2.2.2.2.1, hk.1.2.2.2.2.2⟩⟩⟩⟩⟩)⟩
                                have n3_ : Aside0 ((w107.setCell ⟨gb469, 1, none⟩ (.slice Ao109 y482.length co109)).heap[gb466]? = some (.cells #[.int .i64 a0_0, .int .i64 a0_1, .int .i64 a0_2, .int .i64 a0_3, .slice A0_4 l0_4.length c0_4] 31 (0, 0))) := ⟨by refine viK ?_; refine blk_far ?_ NB466_469.out _; refine viK ?_; exact BK466.out⟩
                                have n4_ : Aside0 ((w107.setCell ⟨gb469, 1, none⟩ (.slice Ao109 y482.length co109)).heap[gb467]? = some (.cells #[.int .i64 x468000_2, .slice none 0 0, .slice none 0 0] 46 (0, 0))) := ⟨by refine viK ?_; refine blk_far ?_ NB467_469.out _; refine viK ?_; exact BK467.out⟩
                                have n5_ : Aside0 ((w107.setCell ⟨gb469, 1, none⟩ (.slice Ao109 y482.length co109)).heap[gb469]? = some (.cells #[.int .i64 a0_1, .slice Ao109 y482.length co109, u470002] 46 (0, 0))) := ⟨by refine viK ?_; refine blk_put (cs := #[.int .i64 a0_1, u470001, u470002]) ?_ 1 _ rfl; refine viK ?_; exact BK469.out⟩
                                have n6_ : Aside0 (Below w.heap.size w (w107.setCell ⟨gb469, 1, none⟩ (.slice Ao109 y482.length co109))) := ⟨viB⟩
                                (try clear HO_6)
                                (try clear HO_470002)
                                (try clear HO484)
                                (try clear BK466)
                                (try clear BK467)
                                (try clear BK469)
                                (try clear HB)
                                generalize (w107.setCell ⟨gb469, 1, none⟩ (.slice Ao109 y482.length co109)) = w111 at n0_ n1_ n2_ n3_ n4_ n5_ n6_ ⊢
                                have HO_6 := n0_
                                have HO_470002 := n1_
                                have HO484 := n2_
                                have BK466 := n3_
                                have BK467 := n4_
                                have BK469 := n5_
                                have HB := n6_
                                clear n0_ n1_ n2_ n3_ n4_ n5_ n6_
                                have n0_ := Aside0.mk (Kd.N_drew HO_6.out)
                                have n1_ := Aside0.mk (Kd.R_drew HO_470002.out)
                                have n2_ := Aside0.mk (Kd.N_drew HO484.out)
                                have n3_ := Aside0.mk (blk_drew BK466.out)
                                have n4_ := Aside0.mk (blk_drew BK467.out)
                                have n5_ := Aside0.mk (blk_drew BK469.out)
                                have n6_ := Aside0.mk (below_drew1 HB.out)
                                clear HO_6
                                clear HO_470002
                                clear HO484
                                clear BK466
                                clear BK467
                                clear BK469
                                clear HB
                                have HO_6 := n0_
                                have HO_470002 := n1_
                                have HO484 := n2_
                                have BK466 := n3_
                                have BK467 := n4_
                                have BK469 := n5_
                                have HB := n6_
                                clear n0_ n1_ n2_ n3_ n4_ n5_ n6_
                                obtain ⟨Ao113, co113, eo113⟩ := Kd.N_slice HO_6.out
                                (first | subst eo113 | (injection eo113 with f1_ f2_ f3_; have f4_ := f1_.symm; have f5_ := f3_.symm; clear f1_ f2_ f3_; subst f4_; subst f5_))
                                have p485 : 0 ≤ (x7_1 : Int) := viA
                                have q485 : x7_1 < (x6_2.length : Int) := viA
                                obtain ⟨ad485, A485_0, c485_0, e485, hx485_0, hl485_0, hi485_0⟩ := at_L7 (Kd.N_reads' HO_6.out).2.2 x7_1 p485 q485
                                cases e485
                                obtain ⟨ce485, hce485, hMe485, hcc485⟩ := Kd.N_get HO_6.out [] x7_1 p485 (by first | exact q485 | exact viA | (have e_ := (Kd.N_reads' HO_6.out).1; omega))
                                obtain ⟨ua485_0, uc485_0, rfl, ul485_0, ge485_0⟩ := Kd.FK_slice_open hMe485
                                have hv485_0 := hcc485 0 _ rfl
                                rw [Nat.add_zero, show ((Kd.slice 4 Kd.bool)).sz = 1 from rfl, Nat.mul_one] at hv485_0
                                replace hv485_0 := Option.some.inj (hv485_0.symm.trans hx485_0)
                                injection hv485_0 with hva_ hvn_ hvc_
                                rw [hva_] at ge485_0
                                rw [hvc_] at ul485_0
                                have HL485_0 := Aside0.mk (show Kd.V Kd.bool 4 _ w.heap.size _ _ (rd_L7 x6_2 x7_1) from Kd.V_mk ul485_0 ge485_0)
                                clear hva_ hvn_ hvc_ ge485_0 ul485_0
                                clear hcc485 hce485
                                have HR485_0 := Aside0.mk hi485_0
                                have HC485_0 := Aside0.mk hl485_0
                                clear hi485_0 hl485_0
                                replace p485 := eq_true p485
                                replace q485 := eq_true q485
                                have p486 : 0 ≤ (a0_3 : Int) := viA
                                have q486 : a0_3 < ((rd_L7 x6_2 x7_1).length : Int) := viA
                                obtain ⟨ad486, e486, hx486_0⟩ := Kd.at_bool (by repeat (first | (with_reducible exact HR485_0.out) | (with_reducible refine Kd.C_alloc ?_ _) | (with_reducible refine Kd.C_drewN ?_ _) | (with_reducible refine Kd.C_drew ?_) | exact HR485_0.out)) a0_3 p486 q486
                                cases e486
                                replace p486 := eq_true p486
                                replace q486 := eq_true q486
                                refine start_ (n := 14) (S := fun w' => w'.cell? ⟨gb469, 0, none⟩ = some (.int .i64 a0_1) ∧ w'.cell? ⟨gb469, 1, none⟩ = some (.slice Ao109 y482.length co109) ∧ w'.cell? ⟨gb469, 2, none⟩ = some (u470002) ∧ w'.cell? ⟨gb466, 0, none⟩ = some (.int .i64 a0_0) ∧ w'.cell? ⟨gb466, 1, none⟩ = some (.int .i64 a0_1) ∧ w'.cell? ⟨gb466, 2, none⟩ = some (.int .i64 a0_2) ∧ w'.cell? ⟨gb466, 3, none⟩ = some (.int .i64 a0_3) ∧ w'.cell? ⟨gb466, 4, none⟩ = some (.slice A0_4 l0_4.length c0_4) ∧ w'.cell? (ad485.add (x7_1).toNat) = some (.slice (some ad486) (rd_L7 x6_2 x7_1).length c485_0) ∧ w'.cell? (ad486.add (a0_3).toNat) = some (.bool (rdOf false (rd_L7 x6_2 x7_1) a0_3))) (ds := [11, 13]) #[false, false, false, false, false, false, false, false, false, false, false, false, false, false] (by kernel_rfl) rfl rfl ⟨(blk_cell BK469.out 0).trans rfl, (blk_cell BK469.out 1).trans rfl, (blk_cell BK469.out 2).trans rfl, (blk_cell BK466.out 0).trans rfl, (blk_cell BK466.out 1).trans rfl, (blk_cell BK466.out 2).trans rfl, (blk_cell BK466.out 3).trans rfl, (blk_cell BK466.out 4).trans rfl, hx485_0, hx486_0⟩ (fun hHeld => ?_); refine with_tabW stackyardref08_Dfa.tab23 stackyardref08_Dfa.bits23 (fun HT_ HW_ => ?_)
                                generalize w111.drew = w112 at HO_6 HO_470002 HO484 BK466 BK467 BK469 HB HL485_0 HR485_0 hx485_0 hx486_0 hHeld ⊢
                                refine pure_ (i := 0) (N := some 94) (v := ?_) (a' := ?_) #[true, false, false, false, false, false, false, false, false, false, false, false, false, false] rfl rfl (any_of HT_.out (by kernel_rfl)) (fun _ _ _ h => h) (Or.inl ⟨by rfl, ?_⟩) ?_ ?_
                                rotate_left
                                · intro w'
                                  go_simp
                                  with_reducible rfl
                                rotate_left
                                · simp only [Act.put, List.setIfInBounds_toArray, List.set_cons_zero, List.set_cons_succ, i64_w, i32_w]
                                  rfl
                                refine pure_ (i := 2) (N := some 96) (v := ?_) (a' := ?_) #[true, false, true, false, false, false, false, false, false, false, false, false, false, false] rfl rfl (any_of HT_.out (by kernel_rfl)) (fun _ _ _ h => h) (Or.inl ⟨by rfl, ?_⟩) ?_ ?_
                                rotate_left
                                · intro w'
                                  go_simp
                                  with_reducible rfl
                                rotate_left
                                · simp only [Act.put, List.setIfInBounds_toArray, List.set_cons_zero, List.set_cons_succ, i64_w, i32_w]
                                  rfl
                                refine pure_ (i := 3) (N := some 97) (v := ?_) (a' := ?_) #[true, false, true, true, false, false, false, false, false, false, false, false, false, false] rfl rfl (any_of HT_.out (by kernel_rfl)) (fun _ _ _ h => h) (Or.inl ⟨by rfl, ?_⟩) ?_ ?_
                                rotate_left
                                · intro w'
                                  go_simp
                                  with_reducible rfl
                                rotate_left
                                · simp only [Act.put, List.setIfInBounds_toArray, List.set_cons_zero, List.set_cons_succ, i64_w, i32_w]
                                  rfl
                                refine pure_ (i := 4) (N := some 98) (v := ?_) (a' := ?_) #[true, false, true, true, true, false, false, false, false, false, false, false, false, false] rfl rfl (any_of HT_.out (by kernel_rfl)) (fun _ _ _ h => h) (Or.inl ⟨by rfl, ?_⟩) ?_ ?_
                                rotate_left
                                · intro w'
                                  go_simp
                                  with_reducible rfl
                                rotate_left
                                · simp only [Act.put, List.setIfInBounds_toArray, List.set_cons_zero, List.set_cons_succ, i64_w, i32_w]
                                  rfl
                                refine pure_ (i := 6) (N := some 100) (v := ?_) (a' := ?_) #[true, false, true, true, true, false, true, false, false, false, false, false, false, false] rfl rfl (any_of HT_.out (by kernel_rfl)) (fun _ _ _ h => h) (Or.inl ⟨by rfl, ?_⟩) ?_ ?_
                                rotate_left
                                · intro w'
                                  go_simp
                                  with_reducible rfl
                                rotate_left
                                · simp only [Act.put, List.setIfInBounds_toArray, List.set_cons_zero, List.set_cons_succ, i64_w, i32_w]
                                  rfl
                                refine take_ (i := 1) (N := some 95) (v := ?_) (a' := ?_) #[true, true, true, true, true, false, true, false, false, false, false, false, false, false] rfl rfl (take_ofW HT_.out HW_.out (by kernel_rfl)) (fun _ _ _ h => h) (Or.inl ⟨by rfl, ?_⟩) hHeld ?_ ?_
                                rotate_left
                                · rintro w' ⟨s0, s1, s2, s3, s4, s5, s6, s7, s8, s9⟩
                                  go_simp
                                  with_reducible rfl
                                rotate_left
                                · simp only [Act.put, List.setIfInBounds_toArray, List.set_cons_zero, List.set_cons_succ, i64_w, i32_w]
                                  rfl
                                refine take_ (i := 5) (N := some 99) (v := ?_) (a' := ?_) #[true, true, true, true, true, true, true, false, false, false, false, false, false, false] rfl rfl (take_ofW HT_.out HW_.out (by kernel_rfl)) (fun _ _ _ h => h) (Or.inl ⟨by rfl, ?_⟩) hHeld ?_ ?_
                                rotate_left
                                · rintro w' ⟨s0, s1, s2, s3, s4, s5, s6, s7, s8, s9⟩
                                  go_simp
                                  with_reducible rfl
                                rotate_left
                                · simp only [Act.put, List.setIfInBounds_toArray, List.set_cons_zero, List.set_cons_succ, i64_w, i32_w]
                                  rfl
                                refine take_ (i := 7) (N := some 101) (v := ?_) (a' := ?_) #[true, true, true, true, true, true, true, true, false, false, false, false, false, false] rfl rfl (take_ofW HT_.out HW_.out (by kernel_rfl)) (fun _ _ _ h => h) (Or.inl ⟨by rfl, ?_⟩) hHeld ?_ ?_
                                rotate_left
                                · rintro w' ⟨s0, s1, s2, s3, s4, s5, s6, s7, s8, s9⟩
                                  go_simp
                                  with_reducible rfl
                                rotate_left
                                · simp only [Act.put, List.setIfInBounds_toArray, List.set_cons_zero, List.set_cons_succ, i64_w, i32_w]
                                  rfl
                                refine pure_ (i := 8) (N := some 102) (v := ?_) (a' := ?_) #[true, true, true, true, true, true, true, true, true, false, false, false, false, false] rfl rfl (any_of HT_.out (by kernel_rfl)) (fun _ _ _ h => h) (Or.inl ⟨by rfl, ?_⟩) ?_ ?_
                                rotate_left
                                · intro w'
                                  go_simp
                                  with_reducible rfl
                                rotate_left
                                · simp only [Act.put, List.setIfInBounds_toArray, List.set_cons_zero, List.set_cons_succ, i64_w, i32_w]
                                  rfl
                                refine take_ (i := 9) (N := some 103) (v := ?_) (a' := ?_) #[true, true, true, true, true, true, true, true, true, true, false, false, false, false] rfl rfl (take_ofW HT_.out HW_.out (by kernel_rfl)) (fun _ _ _ h => h) (Or.inl ⟨by rfl, ?_⟩) hHeld ?_ ?_
                                rotate_left
                                · rintro w' ⟨s0, s1, s2, s3, s4, s5, s6, s7, s8, s9⟩
                                  go_simp
                                  with_reducible rfl
                                rotate_left
                                · simp only [Act.put, List.setIfInBounds_toArray, List.set_cons_zero, List.set_cons_succ, i64_w, i32_w]
                                  rfl
                                refine one_ (i := 10) (N := some 104) #[true, true, true, true, true, true, true, true, true, true, true, false, false, false] rfl rfl (one_of HT_.out (by kernel_rfl)) (by decide) (fun K hK => ?_)
                                refine value_ (w1 := ?_) (v := ?_) (by rfl) rfl ?_ ?_
                                rotate_left 2
                                · go_simp
                                  constructor
                                  · rfl
                                  · rfl
                                refine hK.out _ _ ⟨(blk_cell (blk_alloc BK469.out _) 0).trans rfl, (blk_cell (blk_alloc BK469.out _) 1).trans rfl, (blk_cell (blk_alloc BK469.out _) 2).trans rfl, (blk_cell (blk_alloc BK466.out _) 0).trans rfl, (blk_cell (blk_alloc BK466.out _) 1).trans rfl, (blk_cell (blk_alloc BK466.out _) 2).trans rfl, (blk_cell (blk_alloc BK466.out _) 3).trans rfl, (blk_cell (blk_alloc BK466.out _) 4).trans rfl, (World.cell?_alloc_lt _ _ _ (World.block_lt_of_cell? _ _ (hHeld.2.2.2.2.2.2.2.2.1))).trans (hHeld.2.2.2.2.2.2.2.2.1), (World.cell?_alloc_lt _ _ _ (World.block_lt_of_cell? _ _ (hHeld.2.2.2.2.2.2.2.2.2))).trans (hHeld.2.2.2.2.2.2.2.2.2)⟩ (fun hHeld => ?_)
                                clear hK K
                                refine norm_ (a' := ?_) ?_ ?_
                                rotate_left
                                · show Act.put _ (some 104) _ = _
                                  simp only [Act.put, List.setIfInBounds_toArray, List.set_cons_zero, List.set_cons_succ, i64_w, i32_w]
                                  rfl
                                refine last_ (i := 11) (N := some 105) #[true, true, true, true, true, true, true, true, true, true, true, true, false, false] rfl rfl (one_of HT_.out (by kernel_rfl)) (by decide) (fun K hK => ?_)
                                refine Kd.R_append_step Kd.bool (w0 := w) w.heap.size (by rfl) (.tmp 95) (.tmp 104) 44 4 (.bool false) 1 rfl Try.underlying44 info4 rfl (by decide) (by omega) u470002 x470002_1 (rdOf false (rd_L7 x6_2 x7_1) a0_3) [.bool (rdOf false (rd_L7 x6_2 x7_1) a0_3)] (fun k_ => (w.heap.size ≤ k_)) (fun _ => False) rfl rfl ?aP (fun _ hk => hk.elim) ?aF ?aO ?aB ?aS ?aL ?_
                                (case aP => exact rfl)
                                (case aB => exact viB)
                                (case aF => exact (fun k_ hk => (Nat.le_trans (below_size viB) hk)))
                                (case aO => exact (viR HO_470002.out))
                                (case aS => exact (below_size viB))
                                (case aL => have := LMc101.out; omega)
                                intro v488 w114 ho hb hg hat
                                rw [← Ny487.out] at ho
                                have n0_ := Aside0.mk (Kd.N_afterv (ok := (fun k_ => (w.heap.size ≤ k_) ∧ some k_ ≠ (.slice Ao109 y482.length co109 : Value).ownBlock ∧ k_ ≠ gb466 ∧ k_ ≠ gb467 ∧ k_ ≠ gb469)) (by refine viN ?_; exact Kd.N_mono HO_6.out (fun _ hk => ⟨⟨hk.1, ⟨hk.2.2.1, ⟨hk.2.2.2.1, ⟨hk.2.2.2.2.1, hk.2.2.2.2.2⟩⟩⟩⟩, hk.2.1⟩)) hg hat)
                                have n1_ := Aside0.mk (blk_grown (g := gb466) (o := .cells #[.int .i64 a0_0, .int .i64 a0_1, .int .i64 a0_2, .int .i64 a0_3, .slice A0_4 l0_4.length c0_4] 31 (0, 0)) (viK BK466.out) hg (Kd.R_ne HO_470002.out BK466.out (by decide)))
                                have n2_ := Aside0.mk (blk_grown (g := gb467) (o := .cells #[.int .i64 x468000_2, .slice none 0 0, .slice none 0 0] 46 (0, 0)) (viK BK467.out) hg (Kd.R_ne HO_470002.out BK467.out (by decide)))
                                have n3_ := Aside0.mk (blk_grown (g := gb469) (o := .cells #[.int .i64 a0_1, .slice Ao109 y482.length co109, u470002] 46 (0, 0)) (viK BK469.out) hg (Kd.R_ne HO_470002.out BK469.out (by decide)))
                                have n4_ := Aside0.mk (Kd.N_afterv (ok := (fun k_ => (w.heap.size ≤ k_) ∧ some k_ ≠ (.slice (some ad485) x6_2.length co113 : Value).ownBlock ∧ k_ ≠ gb466 ∧ k_ ≠ gb467 ∧ k_ ≠ gb469)) (by refine viN ?_; exact Kd.N_mono HO484.out (fun _ hk => ⟨⟨hk.1, ⟨hk.2.1, ⟨hk.2.2.2.1, ⟨hk.2.2.2.2.1, hk.2.2.2.2.2⟩⟩⟩⟩, hk.2.2.1⟩)) hg hat)
                                have n5_ := Aside0.mk (Kd.V_afterv (ok := (fun k_ => (w.heap.size ≤ k_) ∧ some k_ ≠ (.slice (some ad485) x6_2.length co113 : Value).ownBlock ∧ some k_ ≠ (.slice Ao109 y482.length co109 : Value).ownBlock ∧ k_ ≠ gb466 ∧ k_ ≠ gb467 ∧ k_ ≠ gb469)) (by refine viV ?_; exact Kd.V_mono HL485_0.out (fun _ hk => ⟨⟨hk.1.1, ⟨hk.2, ⟨hk.1.2.2.1, ⟨hk.1.2.2.2.1, ⟨hk.1.2.2.2.2.1, hk.1.2.2.2.2.2⟩⟩⟩⟩⟩, hk.1.2.1⟩)) hg hat)
                                have n6_ := Aside0.mk (hb)
                                have n7_ := Aside0.mk (ho)
                                clear HO_6
                                clear BK466
                                clear BK467
                                clear BK469
                                clear HO484
                                clear HL485_0
                                clear HB
                                clear HO_470002
                                have HO_6 := n0_
                                have BK466 := n1_
                                have BK467 := n2_
                                have BK469 := n3_
                                have HO484 := n4_
                                have HL485_0 := n5_
                                have HB := n6_
                                have HO489 := n7_
                                clear n0_ n1_ n2_ n3_ n4_ n5_ n6_ n7_
                                clear ho hb hg hat
                                obtain ⟨Ao115, co115, eo115⟩ := Kd.R_slice HO489.out
                                (first | subst eo115 | (injection eo115 with f1_ f2_ f3_; have f4_ := f1_.symm; have f5_ := f3_.symm; clear f1_ f2_ f3_; subst f4_; subst f5_))
                                refine hK.out _ _ ?_
                                clear hK K
                                refine norm_ (a' := ?_) ?_ ?_
                                rotate_left
                                · show Act.put _ (some 105) _ = _
                                  simp only [Act.put, List.setIfInBounds_toArray, List.set_cons_zero, List.set_cons_succ, i64_w, i32_w]
                                  rfl
                                refine pure_ (i := 12) (N := some 106) (v := ?_) (a' := ?_) #[true, true, true, true, true, true, true, true, true, true, true, true, true, false] rfl rfl (any_of HT_.out (by kernel_rfl)) (fun _ _ _ h => h) (Or.inl ⟨by rfl, ?_⟩) ?_ ?_
                                rotate_left
                                · intro w'
                                  go_simp
                                  with_reducible rfl
                                rotate_left
                                · simp only [Act.put, List.setIfInBounds_toArray, List.set_cons_zero, List.set_cons_succ, i64_w, i32_w]
                                  rfl
                                refine last_ (i := 13) (N := none) #[true, true, true, true, true, true, true, true, true, true, true, true, true, true] rfl rfl (one_of HT_.out (by kernel_rfl)) (by decide) (fun K hK => ?_)
                                have hs116 : w114.cell? ⟨gb469, 2, none⟩ = some (u470002) := (blk_cell BK469.out 2).trans rfl
                                have hfs116 := blk_frozen BK469.out 2
                                have hns116_0 := NB466_469.out
                                have hns116_1 := NB467_469.out
                                have hms116_0 := NB469_466.out
                                have hms116_1 := NB469_467.out
                                refine skip_ (w1 := ?_) (by rfl) rfl ?_ ?_
                                rotate_left
                                · go_simp
                                  rfl
                                refine hK.out _ _ ?_
                                clear hK K
                                refine done_ (done_of HT_.out (by kernel_rfl)) ?_
                                try go_wp2
                                go_roundg k2
                                case measure => have := HK1.out; have := HK2.out; omega
                                case rel => exact ⟨(x6_2), (wrap64 (x7_1 + 1)), (x468000_2), (y482), (y487), (.slice Ao109 y482.length co109), (.slice Ao115 y487.length co115), (by first | rfl | (simp; done) | (simp [*]; done)), H', ⟨by have := HK1.out; have := HK2.out; omega⟩, ⟨by refine viN ?_; exact Kd.N_mono (Kd.N_far (p := ⟨gb469, 2, none⟩) (Kd.N_mono HO_6.out (fun k_ hk => (⟨hk, hk.1.2.2.2.2⟩ : _ ∧ k_ ≠ gb469))) (fun _ hk => hk.2) (.slice Ao115 y487.length co115)) (fun _ hk => ⟨hk.1.1.1, ⟨hk.1.1.2.1, ⟨hk.1.2, ⟨hk.1.1.2.2.1, ⟨hk.1.1.2.2.2.1, hk.1.1.2.2.2.2⟩⟩⟩⟩⟩)⟩, ⟨by refine viN ?_; exact Kd.N_mono (Kd.N_far (p := ⟨gb469, 2, none⟩) (Kd.N_mono HO484.out (fun k_ hk => (⟨hk, hk.1.2.2.2.2⟩ : _ ∧ k_ ≠ gb469))) (fun _ hk => hk.2) (.slice Ao115 y487.length co115)) (fun _ hk => ⟨hk.1.1.1, ⟨hk.1.1.2.1, ⟨hk.1.2, ⟨hk.1.1.2.2.1, ⟨hk.1.1.2.2.2.1, hk.1.1.2.2.2.2⟩⟩⟩⟩⟩)⟩, ⟨by refine viR ?_; exact Kd.R_mono (Kd.R_far (p := ⟨gb469, 2, none⟩) (Kd.R_types HO489.out BK469.out (by decide)) (fun _ hk => hk.2) (.slice Ao115 y487.length co115)) (fun _ hk => hk.1)⟩, ⟨by refine viK ?_; refine blk_far ?_ NB466_469.out _; refine viK ?_; exact BK466.out⟩, ⟨by refine viK ?_; refine blk_far ?_ NB467_469.out _; refine viK ?_; exact BK467.out⟩, ⟨by refine viK ?_; refine blk_put (cs := #[.int .i64 a0_1, .slice Ao109 y482.length co109, u470002]) ?_ 2 _ rfl; refine viK ?_; exact BK469.out⟩, ⟨viB⟩⟩
                              · rw [if_neg c101] at H
                                exact absurd H (by simp)
                            · rw [if_neg c100] at H
                              exact absurd H (by simp)
                          · rw [if_neg c99] at H
                            exact absurd H (by simp)
                        · rw [if_neg c98] at H
                          exact absurd H (by simp)
                      · rw [if_neg c97] at H
                        exact absurd H (by simp)
                    · rw [if_neg c96] at H
                      exact absurd H (by simp)
            · rw [if_neg c25] at H
              exact absurd H (by simp)
          · rw [if_neg c24] at H
            exact absurd H (by simp)
        · rw [if_neg c23] at H
          have c23b0 : decide (x7_1 < (x6_1.length : Int)) = false := decide_eq_false c23
          clear c23
          simp only [Option.some.injEq, Prod.mk.injEq] at H
          obtain ⟨rfl, rfl, rfl, rfl⟩ := H
          obtain ⟨Ao117, co117, eo117⟩ := Kd.N_slice HO_6.out
          subst eo117
          have hnb118 := NB469_466.out
          have hnc118 := NB466_469.out
          have hnb119 := NB469_467.out
          have hnc119 := NB467_469.out
          have hcz120_0 : wr.cell? ⟨gb469, 0, none⟩ = some (.int .i64 a0_1) := (blk_cell BK469.out 0).trans rfl
          have hcz120_1 : wr.cell? ⟨gb469, 1, none⟩ = some (u470001) := (blk_cell BK469.out 1).trans rfl
          have hcz120_2 : wr.cell? ⟨gb469, 2, none⟩ = some (u470002) := (blk_cell BK469.out 2).trans rfl
          have hfz120_0 := blk_frozen BK469.out 0
          have hfz120_1 := blk_frozen BK469.out 1
          have hfz120_2 := blk_frozen BK469.out 2
          have hnb121 := NB467_466.out
          have hnc121 := NB466_467.out
          have hcz122_0 : wr.cell? ⟨gb467, 0, none⟩ = some (.int .i64 x468000_1) := (blk_cell BK467.out 0).trans rfl
          have hcz122_1 : wr.cell? ⟨gb467, 1, none⟩ = some (.slice none 0 0) := (blk_cell BK467.out 1).trans rfl
          have hcz122_2 : wr.cell? ⟨gb467, 2, none⟩ = some (.slice none 0 0) := (blk_cell BK467.out 2).trans rfl
          have hfz122_0 := blk_frozen BK467.out 0
          have hfz122_1 := blk_frozen BK467.out 1
          have hfz122_2 := blk_frozen BK467.out 2
          obtain ⟨Ao123, co123, eo123⟩ := Kd.N_slice HO_470001.out
          subst eo123
          obtain ⟨Ao124, co124, eo124⟩ := Kd.R_slice HO_470002.out
          subst eo124
          go_wp2
          refine bodyPost_ret (results_ct rfl _ _ gb467 46 #[.int .i64 a0_1, .slice Ao123 x470001_1.length co123, .slice Ao124 x470002_1.length co124] (0, 0) _ rfl (by refine viK ?_; refine blk_put (cs := #[.int .i64 a0_1, .slice Ao123 x470001_1.length co123, .slice none 0 0]) ?_ 2 _ rfl; refine viK ?_; refine blk_put (cs := #[.int .i64 a0_1, .slice none 0 0, .slice none 0 0]) ?_ 1 _ rfl; refine viK ?_; refine blk_put (cs := #[.int .i64 x468000_1, .slice none 0 0, .slice none 0 0]) ?_ 0 _ rfl; refine viK ?_; exact BK467.out) Try.underlying46 rfl (by kernel_rfl)) rfl ?_
          exact ⟨_, _, by first | rfl | (simp [errW_none, errW_some] <;> rfl) | (simp [*, errW_none, errW_some] <;> rfl), by refine viN ?_; exact Kd.N_mono (Kd.N_far (p := ⟨gb467, 2, none⟩) (Kd.N_far (p := ⟨gb467, 1, none⟩) (Kd.N_far (p := ⟨gb467, 0, none⟩) (Kd.N_mono HO_470001.out (fun k_ hk => (⟨hk, hk.2.2.2.2.1⟩ : _ ∧ k_ ≠ gb467))) (fun _ hk => hk.2) (.int .i64 a0_1)) (fun _ hk => hk.2) (.slice Ao123 x470001_1.length co123)) (fun _ hk => hk.2) (.slice Ao124 x470002_1.length co124)) (fun _ hk => ⟨hk.1.1, hk.1.2.2.1⟩), by refine viR ?_; exact Kd.R_mono (Kd.R_far (p := ⟨gb467, 2, none⟩) (Kd.R_far (p := ⟨gb467, 1, none⟩) (Kd.R_far (p := ⟨gb467, 0, none⟩) (Kd.R_types HO_470002.out BK467.out (by decide)) (fun _ hk => hk.2) (.int .i64 a0_1)) (fun _ hk => hk.2) (.slice Ao123 x470001_1.length co123)) (fun _ hk => hk.2) (.slice Ao124 x470002_1.length co124)) (fun _ hk => hk.1), viB⟩
  · rw [if_neg c3] at H
    have c3b0 : (t468 == 0) = false := beq_eq_false_iff_ne.mpr c3
    have c3b1 : (t468 != 0) = true := bne_iff_ne.mpr c3
    simp only [Option.some.injEq, Prod.mk.injEq] at H
    obtain ⟨rfl, rfl, rfl, rfl⟩ := H
    go_enter Try.func18, Try.ntmps18
    go_wp2_with (first | ((with_reducible refine gate_dst (N := 1) rfl ?_); (try (refine gate_guard (by rfl) ?_; dsimp only)); refine box_event ?hg (N := 1) ?hd (cs := #[.int .i64 a0_0, .int .i64 a0_1, .int .i64 a0_2, .int .i64 a0_3, .slice A0_4 l0_4.length c0_4]) (t := 31) ?hr ?_; (case hd => rfl); (case hg => rfl); (case hr => first | (go_simp; done) | (go_simp; rfl)); intro gb466 hg w125 hbox hb; have n0_ := Aside0.mk (below_step viB hb); have n1_ := Aside0.mk (hbox); have n2_ := Aside0.mk ((by rw [hg]; exact (below_size viB) : w.heap.size ≤ gb466)); have n3_ := Aside0.mk ((by rw [hg]; exact (below_size viB) : w.heap.size ≤ gb466)); clear HB; have HB := n0_; have BK466 := n1_; have GW466 := n2_; have GE466 := n3_; clear n0_ n1_ n2_ n3_; clear hb hbox hg) | ((with_reducible refine gate_dst (N := 2) rfl ?_); (try (refine gate_guard (by rfl) ?_; dsimp only)); refine box_event ?hg (N := 2) ?hd (cs := #[.int .i64 0, .slice none 0 0, .slice none 0 0]) (t := 46) ?hr ?_; (case hd => rfl); (case hg => rfl); (case hr => first | (go_simp; done) | (go_simp; rfl)); intro gb467 hg w126 hbox hb; have n0_ := Aside0.mk (blk_below (g := gb466) (o := .cells #[.int .i64 a0_0, .int .i64 a0_1, .int .i64 a0_2, .int .i64 a0_3, .slice A0_4 l0_4.length c0_4] 31 (0, 0)) (viK BK466.out) hb); have n1_ := Aside0.mk (below_step viB hb); have n2_ := Aside0.mk (hbox); have n3_ := Aside0.mk ((by rw [hg]; exact (below_size viB) : w.heap.size ≤ gb467)); have n4_ := Aside0.mk ((by rw [hg]; exact (below_size viB) : w.heap.size ≤ gb467)); have n5_ := Aside0.mk ((by rw [hg]; exact Nat.ne_of_lt (blk_lt (g := gb466) (o := .cells #[.int .i64 a0_0, .int .i64 a0_1, .int .i64 a0_2, .int .i64 a0_3, .slice A0_4 l0_4.length c0_4] 31 (0, 0)) (viK BK466.out)) : gb466 ≠ gb467)); have n6_ := Aside0.mk ((by rw [hg]; exact Nat.ne_of_gt (blk_lt (g := gb466) (o := .cells #[.int .i64 a0_0, .int .i64 a0_1, .int .i64 a0_2, .int .i64 a0_3, .slice A0_4 l0_4.length c0_4] 31 (0, 0)) (viK BK466.out)) : gb467 ≠ gb466)); clear BK466; clear HB; have BK466 := n0_; have HB := n1_; have BK467 := n2_; have GW467 := n3_; have GE467 := n4_; have NB466_467 := n5_; have NB467_466 := n6_; clear n0_ n1_ n2_ n3_ n4_ n5_ n6_; clear hb hbox hg; have hnb127 := NB466_467.out; have hnc127 := NB467_466.out; have hcz128_0 : w126.cell? ⟨gb466, 0, none⟩ = some (.int .i64 a0_0) := (blk_cell BK466.out 0).trans rfl; have hcz128_1 : w126.cell? ⟨gb466, 1, none⟩ = some (.int .i64 a0_1) := (blk_cell BK466.out 1).trans rfl; have hcz128_2 : w126.cell? ⟨gb466, 2, none⟩ = some (.int .i64 a0_2) := (blk_cell BK466.out 2).trans rfl; have hcz128_3 : w126.cell? ⟨gb466, 3, none⟩ = some (.int .i64 a0_3) := (blk_cell BK466.out 3).trans rfl; have hcz128_4 : w126.cell? ⟨gb466, 4, none⟩ = some (.slice A0_4 l0_4.length c0_4) := (blk_cell BK466.out 4).trans rfl; have hfz128_0 := blk_frozen BK466.out 0; have hfz128_1 := blk_frozen BK466.out 1; have hfz128_2 := blk_frozen BK466.out 2; have hfz128_3 := blk_frozen BK466.out 3; have hfz128_4 := blk_frozen BK466.out 4) | ((with_reducible refine gate_callee (f := 32) rfl ?_); refine goesL_ (some 13) rfl rfl Try.func32 (by kernel_rfl) rfl #[.agg #[.int .i64 a0_0, .int .i64 a0_1, .int .i64 a0_2, .int .i64 a0_3, .slice A0_4 l0_4.length c0_4]] rfl (by (try simp only [List.map_toArray, List.map_cons, List.map_nil]); first | done | rfl | (simp only [List.length_drop, List.length_take]; rfl)) ?_; (with_reducible refine (stackyardref08_Check.calls k a0_0 a0_1 a0_2 a0_3 _ _ l0_4 t468 _ ?side1 ?side2 A2.out).mono ?_); (case side1 => repeat (first | exact (Kd.C_below HR0_4.out HB.out) | (with_reducible refine Kd.C_alloc ?_ _) | (with_reducible refine Kd.C_drewN ?_ _) | (with_reducible refine Kd.C_drew ?_))); (case side2 => exact HC0_4.out); rintro e w129 ⟨rfl, hb⟩; refine ⟨_, rfl, ?_⟩; have n0_ := Aside0.mk (blk_below (g := gb466) (o := .cells #[.int .i64 a0_0, .int .i64 a0_1, .int .i64 a0_2, .int .i64 a0_3, .slice A0_4 l0_4.length c0_4] 31 (0, 0)) (viK BK466.out) hb); have n1_ := Aside0.mk (blk_below (g := gb467) (o := .cells #[.int .i64 0, .slice none 0 0, .slice none 0 0] 46 (0, 0)) (viK BK467.out) hb); have n2_ := Aside0.mk (below_step viB hb); clear BK466; clear BK467; clear HB; have BK466 := n0_; have BK467 := n1_; have HB := n2_; clear n0_ n1_ n2_; (try clear hb); (try clear hb2); (try clear hk); (try clear hi); have hcz130_0 : w129.cell? ⟨gb467, 0, none⟩ = some (.int .i64 0) := (blk_cell BK467.out 0).trans rfl; have hcz130_1 : w129.cell? ⟨gb467, 1, none⟩ = some (.slice none 0 0) := (blk_cell BK467.out 1).trans rfl; have hcz130_2 : w129.cell? ⟨gb467, 2, none⟩ = some (.slice none 0 0) := (blk_cell BK467.out 2).trans rfl; have hfz130_0 := blk_frozen BK467.out 0; have hfz130_1 := blk_frozen BK467.out 1; have hfz130_2 := blk_frozen BK467.out 2))
    refine bodyPost_ret (results_ct rfl _ _ gb467 46 #[.int .i64 0, .slice none 0 0, .slice none 0 0] (0, 0) _ rfl (by refine viK ?_; refine blk_put (cs := #[.int .i64 0, .slice none 0 0, .slice none 0 0]) ?_ 2 _ rfl; refine viK ?_; refine blk_put (cs := #[.int .i64 0, .slice none 0 0, .slice none 0 0]) ?_ 1 _ rfl; refine viK ?_; refine blk_put (cs := #[.int .i64 0, .slice none 0 0, .slice none 0 0]) ?_ 0 _ rfl; refine viK ?_; exact BK467.out) Try.underlying46 rfl (by kernel_rfl)) rfl ?_
    exact ⟨_, _, by first | rfl | (simp [errW_none, errW_some] <;> rfl) | (simp [*, errW_none, errW_some] <;> rfl), by first | exact Kd.S_nil _ _ _ _ _ | exact Kd.N_nil _ _ _ _ _ | exact Kd.V_nil _ _ _ _ _ | exact Kd.Q_nil _ _ _ _ _ | exact Kd.R_nil _ _ _ _ _, by first | exact Kd.R_nil _ _ _ _ _ | exact Kd.N_nil _ _ _ _ _ | exact Kd.V_nil _ _ _ _ _ | exact Kd.Q_nil _ _ _ _ _ | exact Kd.S_nil _ _ _ _ _, viB⟩
end Go.Proofs.Ytapinbmkjkbkkaa.Lb
