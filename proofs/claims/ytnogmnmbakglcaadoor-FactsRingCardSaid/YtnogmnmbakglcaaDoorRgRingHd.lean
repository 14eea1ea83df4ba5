import Derived.Test.YtnogmnmbakglcaaDoorRgPrx0
import Derived.Test.YtnogmnmbakglcaaDoorRgPrx1
import Derived.Test.YtnogmnmbakglcaaDoorRgPrx2
import Derived.Test.YtnogmnmbakglcaaDoorRgPrx3
import Derived.Test.YtnogmnmbakglcaaDoorRgPrx4
import Derived.Test.YtnogmnmbakglcaaDoorRgPrx5
import Derived.Test.YtnogmnmbakglcaaDoorRgPrx6
import Derived.Test.YtnogmnmbakglcaaDoorRgPrx7
import Derived.Test.YtnogmnmbakglcaaDoorRgPrx8
import Derived.Test.YtnogmnmbakglcaaDoorRgPrx9
import Derived.Test.YtnogmnmbakglcaaDoorRgPrx11
import Derived.Test.YtnogmnmbakglcaaDoorRgPrx13
import Derived.Test.YtnogmnmbakglcaaDoorRgCt
namespace Go.Proofs.YtnogmnmbakglcaaDoor.Pr
open Go.RowKit Go.Proofs.YtnogmnmbakglcaaDoorW.PrintWords Go.Proofs.YtnogmnmbakglcaaDoorW.PrintLast Go.Proofs.YtnogmnmbakglcaaDoorW.PrintMore
set_option linter.unusedVariables false
set_option linter.unusedSimpArgs false
mutual
def stackyardlaw03_FactsRing.j0 : Nat → Int → Bool → Int → List Int → Int → List Int → Int → List Int → Int → List Int → Option (Bool)
  | 0, _, _, _, _, _, _, _, _, _, _ => none
  | k + 1, x0, x70, x345000, x345001, x346000, x346001, x347000, x347001, x358000, x358001 => if x70 = true then (none) else ((stackyardlaw03_extend.f k x0 x345000 x345001 x346000 x346001).bind fun bt389 => ((stackyardlaw03_extend.f k x0 bt389.1 bt389.2 x347000 x347001).bind fun bt393 => ((stackyardlaw03_extend.f k x0 x346000 x346001 x347000 x347001).bind fun bt397 => ((stackyardlaw03_extend.f k x0 x345000 x345001 bt397.1 bt397.2).bind fun bt401 => ((stackyardref03_Same.f k bt393.1 bt393.2 bt401.1 bt401.2).bind fun t405 => (if t405 = true then ((stackyardlaw03_extend.f k x0 x358000 x358001 x345000 x345001).bind fun bt406 => ((stackyardref03_Same.f k bt406.1 bt406.2 x345000 x345001).bind fun t410 => (if t410 = true then ((stackyardlaw03_extend.f k x0 x345000 x345001 x358000 x358001).bind fun bt411 => ((stackyardref03_Same.f k bt411.1 bt411.2 x345000 x345001).bind fun t415 => (stackyardlaw03_FactsRing.j1 k x0 (!t415) x345000 x345001 x346000 x346001 x347000 x347001))) else (none)))) else (none)))))))
def stackyardlaw03_FactsRing.j1 : Nat → Int → Bool → Int → List Int → Int → List Int → Int → List Int → Option (Bool)
  | 0, _, _, _, _, _, _, _, _ => none
  | k + 1, x0, x104, x345000, x345001, x346000, x346001, x347000, x347001 => if x104 = true then (none) else ((stackyardlaw03_combine.f k x0 x346000 x346001 x347000 x347001).bind fun bt416 => ((stackyardlaw03_extend.f k x0 x345000 x345001 bt416.1 bt416.2).bind fun bt420 => ((stackyardlaw03_extend.f k x0 x345000 x345001 x346000 x346001).bind fun bt424 => ((stackyardlaw03_extend.f k x0 x345000 x345001 x347000 x347001).bind fun bt428 => ((stackyardlaw03_combine.f k x0 bt424.1 bt424.2 bt428.1 bt428.2).bind fun bt432 => ((stackyardref03_Same.f k bt420.1 bt420.2 bt432.1 bt432.2).bind fun t436 => (if t436 = true then ((stackyardlaw03_combine.f k x0 x345000 x345001 x346000 x346001).bind fun bt437 => ((stackyardlaw03_extend.f k x0 bt437.1 bt437.2 x347000 x347001).bind fun bt441 => ((stackyardlaw03_extend.f k x0 x345000 x345001 x347000 x347001).bind fun bt445 => ((stackyardlaw03_extend.f k x0 x346000 x346001 x347000 x347001).bind fun bt449 => ((stackyardlaw03_combine.f k x0 bt445.1 bt445.2 bt449.1 bt449.2).bind fun bt453 => ((stackyardref03_Same.f k bt441.1 bt441.2 bt453.1 bt453.2).bind fun t457 => (if t457 = true then ((stackyardlaw03_alive.f k).bind fun t458 => (some t458)) else (none)))))))) else (none))))))))
end
def stackyardlaw03_FactsRing.f (k : Nat) (a0 : Int) (a1_0 : Int) (l1_1 : List Int) (a2_0 : Int) (l2_1 : List Int) (a3_0 : Int) (l3_1 : List Int) : Option (Bool) := (stackyardlaw03_good.f k a0 (([(⟨a1_0, l1_1⟩ : S25), (⟨a2_0, l2_1⟩ : S25), (⟨a3_0, l3_1⟩ : S25)] : List (S25)))).bind fun t350 => (if t350 = true then ((facts_One.f k a0).bind fun bt352 => (if bt352.2.2 = 0 then ((stackyardlaw03_combine.f k a0 a1_0 l1_1 a2_0 l2_1).bind fun bt358 => ((stackyardlaw03_combine.f k a0 a2_0 l2_1 a1_0 l1_1).bind fun bt362 => ((stackyardref03_Same.f k bt358.1 bt358.2 bt362.1 bt362.2).bind fun t366 => (if t366 = true then ((stackyardlaw03_combine.f k a0 a1_0 l1_1 a1_0 l1_1).bind fun bt367 => ((stackyardref03_Same.f k bt367.1 bt367.2 a1_0 l1_1).bind fun t371 => (if t371 = true then ((stackyardlaw03_combine.f k a0 a1_0 l1_1 a2_0 l2_1).bind fun bt372 => ((stackyardlaw03_combine.f k a0 bt372.1 bt372.2 a3_0 l3_1).bind fun bt376 => ((stackyardlaw03_combine.f k a0 a2_0 l2_1 a3_0 l3_1).bind fun bt380 => ((stackyardlaw03_combine.f k a0 a1_0 l1_1 bt380.1 bt380.2).bind fun bt384 => ((stackyardref03_Same.f k bt376.1 bt376.2 bt384.1 bt384.2).bind fun t388 => (stackyardlaw03_FactsRing.j0 k a0 (!t388) a1_0 l1_1 a2_0 l2_1 a3_0 l3_1 bt352.1 bt352.2.1)))))) else (none)))) else (none))))) else (none))) else ((stackyardlaw03_alive.f k).bind fun t351 => (some t351)))
theorem stackyardlaw03_FactsRing.mono_l : ∀ k, (∀ y0 y1 y2 y3 y4 y5 y6 y7 y8 y9, LeO (stackyardlaw03_FactsRing.j0 k y0 y1 y2 y3 y4 y5 y6 y7 y8 y9) (stackyardlaw03_FactsRing.j0 (k + 1) y0 y1 y2 y3 y4 y5 y6 y7 y8 y9)) ∧ (∀ y0 y1 y2 y3 y4 y5 y6 y7, LeO (stackyardlaw03_FactsRing.j1 k y0 y1 y2 y3 y4 y5 y6 y7) (stackyardlaw03_FactsRing.j1 (k + 1) y0 y1 y2 y3 y4 y5 y6 y7))
  | 0 => ⟨fun _ _ _ _ _ _ _ _ _ _ r h => by simp [stackyardlaw03_FactsRing.j0] at h, fun _ _ _ _ _ _ _ _ r h => by simp [stackyardlaw03_FactsRing.j1] at h⟩
  | k + 1 => by
    obtain ⟨ih0, ih1⟩ := stackyardlaw03_FactsRing.mono_l k
    refine ⟨?_, ?_⟩
    · intro y0 y1 y2 y3 y4 y5 y6 y7 y8 y9
      unfold stackyardlaw03_FactsRing.j0
      repeat' first
      | (with_reducible exact ih0 _ _ _ _ _ _ _ _ _ _)
      | (with_reducible exact ih1 _ _ _ _ _ _ _ _)
      | (with_reducible exact facts_One.mono _ _)
      | (with_reducible exact stackyardlaw03_alive.mono _)
      | (with_reducible exact stackyardlaw03_combine.mono _ _ _ _ _ _)
      | (with_reducible exact stackyardlaw03_extend.mono _ _ _ _ _ _)
      | (with_reducible exact stackyardlaw03_good.mono _ _ _)
      | (with_reducible exact stackyardref03_Same.mono _ _ _ _ _)
      | (with_reducible exact LeO.refl _)
      | (with_reducible exact LeO.none _)
      | (with_reducible refine LeO.ite ?_ ?_)
      | (with_reducible refine LeO.bind ?_ (fun _ => ?_))
      | exact ih0 _ _ _ _ _ _ _ _ _ _
      | exact ih1 _ _ _ _ _ _ _ _
      | exact facts_One.mono _ _
      | exact stackyardlaw03_alive.mono _
      | exact stackyardlaw03_combine.mono _ _ _ _ _ _
      | exact stackyardlaw03_extend.mono _ _ _ _ _ _
      | exact stackyardlaw03_good.mono _ _ _
      | exact stackyardref03_Same.mono _ _ _ _ _
      | exact LeO.none _
      | refine LeO.ite ?_ ?_
      | refine LeO.bind ?_ (fun _ => ?_)
    · intro y0 y1 y2 y3 y4 y5 y6 y7
      unfold stackyardlaw03_FactsRing.j1
      repeat' first
      | (with_reducible exact ih0 _ _ _ _ _ _ _ _ _ _)
      | (with_reducible exact ih1 _ _ _ _ _ _ _ _)
      | (with_reducible exact facts_One.mono _ _)
      | (with_reducible exact stackyardlaw03_alive.mono _)
      | (with_reducible exact stackyardlaw03_combine.mono _ _ _ _ _ _)
      | (with_reducible exact stackyardlaw03_extend.mono _ _ _ _ _ _)
      | (with_reducible exact stackyardlaw03_good.mono _ _ _)
      | (with_reducible exact stackyardref03_Same.mono _ _ _ _ _)
      | (with_reducible exact LeO.refl _)
      | (with_reducible exact LeO.none _)
      | (with_reducible refine LeO.ite ?_ ?_)
      | (with_reducible refine LeO.bind ?_ (fun _ => ?_))
      | exact ih0 _ _ _ _ _ _ _ _ _ _
      | exact ih1 _ _ _ _ _ _ _ _
      | exact facts_One.mono _ _
      | exact stackyardlaw03_alive.mono _
      | exact stackyardlaw03_combine.mono _ _ _ _ _ _
      | exact stackyardlaw03_extend.mono _ _ _ _ _ _
      | exact stackyardlaw03_good.mono _ _ _
      | exact stackyardref03_Same.mono _ _ _ _ _
      | exact LeO.none _
      | refine LeO.ite ?_ ?_
      | refine LeO.bind ?_ (fun _ => ?_)
theorem stackyardlaw03_FactsRing.mono : ∀ a0 a1 a2 a3 a4 a5 a6 k, LeO (stackyardlaw03_FactsRing.f k a0 a1 a2 a3 a4 a5 a6) (stackyardlaw03_FactsRing.f (k + 1) a0 a1 a2 a3 a4 a5 a6) := by
  intro a0 a1 a2 a3 a4 a5 a6 k
  obtain ⟨ih0, ih1⟩ := stackyardlaw03_FactsRing.mono_l k
  unfold stackyardlaw03_FactsRing.f
  repeat' first
      | (with_reducible exact ih0 _ _ _ _ _ _ _ _ _ _)
      | (with_reducible exact ih1 _ _ _ _ _ _ _ _)
      | (with_reducible exact facts_One.mono _ _)
      | (with_reducible exact stackyardlaw03_alive.mono _)
      | (with_reducible exact stackyardlaw03_combine.mono _ _ _ _ _ _)
      | (with_reducible exact stackyardlaw03_extend.mono _ _ _ _ _ _)
      | (with_reducible exact stackyardlaw03_good.mono _ _ _)
      | (with_reducible exact stackyardref03_Same.mono _ _ _ _ _)
      | (with_reducible exact LeO.refl _)
      | (with_reducible exact LeO.none _)
      | (with_reducible refine LeO.ite ?_ ?_)
      | (with_reducible refine LeO.bind ?_ (fun _ => ?_))
      | exact ih0 _ _ _ _ _ _ _ _ _ _
      | exact ih1 _ _ _ _ _ _ _ _
      | exact facts_One.mono _ _
      | exact stackyardlaw03_alive.mono _
      | exact stackyardlaw03_combine.mono _ _ _ _ _ _
      | exact stackyardlaw03_extend.mono _ _ _ _ _ _
      | exact stackyardlaw03_good.mono _ _ _
      | exact stackyardref03_Same.mono _ _ _ _ _
      | exact LeO.none _
      | refine LeO.ite ?_ ?_
      | refine LeO.bind ?_ (fun _ => ?_)
def stackyardlaw03_FactsRing.T5 : Bool × List (List Nat × List Nat) := (true, [([], []), ([0], [0]), ([1], [1]), ([2], [2]), ([2], [2]), ([2], [2]), ([3, 4, 5, 2, 2], [2, 3, 4, 5]), ([2], [2]), ([2], [2]), ([2], [2]), ([7, 8, 9, 6, 2], [2, 7, 8, 9]), ([6, 10, 10, 2], [2, 6, 10]), ([11, 2], [2, 11]), ([2, 12], [2, 12]), ([13, 11], [13]), ([14], [14]), ([14], [14]), ([14], [14]), ([15, 16, 17, 14, 14], [14, 15, 16, 17]), ([14], [14]), ([18, 19, 18, 14], [14, 18, 19]), ([20, 14], [14, 20]), ([14, 21], [14, 21]), ([22, 20], [22]), ([23], [23]), ([23], [23]), ([23], [23]), ([23], [23]), ([25, 26, 27, 23, 23], [23, 25, 26, 27]), ([23], [23]), ([24, 28, 29, 28, 23], [23, 24, 28, 29]), ([23], [23]), ([23], [23]), ([23], [23]), ([23], [23]), ([23], [23]), ([33, 34, 35, 30, 23], [23, 33, 34, 35]), ([31, 32, 36, 36, 23], [23, 31, 32, 36]), ([30, 37, 37, 23], [23, 30, 37]), ([38, 23], [23, 38]), ([23, 39], [23, 39])])
def stackyardlaw03_FactsRing.B5 : List Nat := [0, 1, 3, 7, 7, 7, 63, 7, 7, 7, 1023, 2047, 4095, 8191, 16383, 32767, 32767, 32767, 262143, 32767, 1048575, 2097151, 4194303, 8388607, 16777215, 16777215, 16777215, 16777215, 251658239, 16777215, 1073741823, 16777215, 16777215, 16777215, 16777215, 16777215, 62277025791, 137438953471, 274877906943, 549755813887, 1099511627775]
theorem stackyardlaw03_FactsRing.tab5 : rtab .any (opsOf Tryd.f5 5) = stackyardlaw03_FactsRing.T5 := by kernel_rfl
theorem stackyardlaw03_FactsRing.bits5 : waitsOk stackyardlaw03_FactsRing.T5.2 stackyardlaw03_FactsRing.B5 = true := by kernel_rfl
def stackyardlaw03_FactsRing.T7 : Bool × List (List Nat × List Nat) := (true, [([], []), ([], []), ([], []), ([], []), ([1, 2, 3], [1, 2, 3]), ([], []), ([0, 4, 5, 4], [0, 4, 5]), ([], []), ([], []), ([], []), ([], []), ([], []), ([9, 10, 11, 6], [9, 10, 11]), ([7, 8, 12, 12], [7, 8, 12]), ([6, 13, 13], [6, 13]), ([14], [14]), ([15, 14], [15]), ([16], [16]), ([16], [16]), ([16], [16]), ([17, 18, 19, 16, 16], [16, 17, 18, 19]), ([16], [16]), ([20, 21, 20, 16], [16, 20, 21]), ([22, 16], [16, 22]), ([16, 23], [16, 23]), ([24, 22], [24]), ([25], [25]), ([25], [25]), ([25], [25]), ([26, 27, 28, 25, 25], [25, 26, 27, 28]), ([25], [25]), ([29, 30, 29, 25], [25, 29, 30]), ([31, 25], [25, 31]), ([25, 32], [25, 32])])
def stackyardlaw03_FactsRing.B7 : List Nat := [0, 0, 0, 0, 14, 0, 63, 0, 0, 0, 0, 0, 3711, 8191, 16383, 32767, 65535, 131071, 131071, 131071, 1048575, 131071, 4194303, 8388607, 16777215, 33554431, 67108863, 67108863, 67108863, 536870911, 67108863, 2147483647, 4294967295, 8589934591]
theorem stackyardlaw03_FactsRing.tab7 : rtab .any (opsOf Tryd.f5 7) = stackyardlaw03_FactsRing.T7 := by kernel_rfl
theorem stackyardlaw03_FactsRing.bits7 : waitsOk stackyardlaw03_FactsRing.T7.2 stackyardlaw03_FactsRing.B7 = true := by kernel_rfl
def stackyardlaw03_FactsRing.T9 : Bool × List (List Nat × List Nat) := (true, [([], []), ([], []), ([], []), ([], []), ([], []), ([2, 3, 4], [2, 3, 4]), ([0, 1, 5, 5], [0, 1, 5]), ([], []), ([], []), ([], []), ([], []), ([8, 9, 10, 6], [8, 9, 10]), ([], []), ([], []), ([], []), ([12, 13, 14, 11], [12, 13, 14]), ([7, 11, 15, 15], [7, 11, 15]), ([6, 16, 16], [6, 16]), ([17, 17], [17]), ([18], [18]), ([18], [18]), ([18], [18]), ([18], [18]), ([20, 21, 22, 18, 18], [18, 20, 21, 22]), ([18], [18]), ([19, 23, 24, 23, 18], [18, 19, 23, 24]), ([18], [18]), ([18], [18]), ([18], [18]), ([18], [18]), ([27, 28, 29, 25, 18], [18, 27, 28, 29]), ([18], [18]), ([18], [18]), ([18], [18]), ([31, 32, 33, 30, 18], [18, 31, 32, 33]), ([26, 30, 34, 34, 18], [18, 26, 30, 34]), ([25, 35, 35, 18], [18, 25, 35]), ([18, 36], [18, 36]), ([37, 36], [37]), ([38, 38], [38]), ([38, 39], [38, 39]), ([40, 39, 0, 1, 2, 3, 4, 5, 6, 7, 8, 9, 10, 11, 12, 13, 14, 15, 16, 17, 18, 19, 20, 21, 22, 23, 24, 25, 26, 27, 28, 29, 30, 31, 32, 33, 34, 35, 36, 37, 38, 39, 40], [40])])
def stackyardlaw03_FactsRing.B9 : List Nat := [0, 0, 0, 0, 0, 28, 63, 0, 0, 0, 0, 1919, 0, 0, 0, 32639, 65535, 131071, 262143, 524287, 524287, 524287, 524287, 7864319, 524287, 33554431, 524287, 524287, 524287, 524287, 1006632959, 524287, 524287, 524287, 17112760319, 34359738367, 68719476735, 137438953471, 274877906943, 549755813887, 1099511627775, 2199023255551]
theorem stackyardlaw03_FactsRing.tab9 : rtab .any (opsOf Tryd.f5 9) = stackyardlaw03_FactsRing.T9 := by kernel_rfl
theorem stackyardlaw03_FactsRing.bits9 : waitsOk stackyardlaw03_FactsRing.T9.2 stackyardlaw03_FactsRing.B9 = true := by kernel_rfl
end Go.Proofs.YtnogmnmbakglcaaDoor.Pr
