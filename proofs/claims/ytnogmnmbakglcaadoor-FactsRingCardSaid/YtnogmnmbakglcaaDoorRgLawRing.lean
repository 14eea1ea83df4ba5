/- FactsRing: for every input that its row lets in, the law that shows that the transformers are an idempotent semiring returns true, and each argument reads afterwards as it read before.
   Conditions: those of the given row alone (a card, tied to the program's text by the given tie); no further one. -/
import Derived.Test.YtnogmnmbakglcaaDoorRgOp
import Derived.Test.YtnogmnmbakglcaaDoorRgPt
import Derived.Test.YtnogmnmbakglcaaDoorRgRingJoin
namespace Go.Proofs.YtnogmnmbakglcaaDoor.factsRing
open Go.ChangeShapes Go.WideShapes Go.ChangeAt Go.RowKit Go.Joins Go.Proofs.YtnogmnmbakglcaaDoorW.PrintWords Go.Proofs.YtnogmnmbakglcaaDoorW.PrintLast Go.Proofs.YtnogmnmbakglcaaDoorW.PrintMore
theorem rd_ones {i : Nat} (d : Nat) : ∀ s, i < d → rd (Pr.ones s d) (i : Int) = ((2 ^ (s + i) : Nat) : Int) := by
  induction d generalizing i with
  | zero => intro s hi; omega
  | succ d ih =>
    intro s hi
    cases i with
    | zero => simp [Pr.ones, rd]
    | succ i =>
      have h := ih (i := i) (s + 1) (by omega)
      have e : rd (Pr.ones s (d + 1)) (((i + 1 : Nat)) : Int) = rd (Pr.ones (s + 1) d) (i : Int) := by
        unfold rd
        simp [Pr.ones]
      rw [e, h, show s + 1 + i = s + (i + 1) by omega]
theorem tb_ones {m i : Nat} (hm : m ≤ 64) (hi : i < m) (j : Nat) : Pr.tb (rd (Pr.ones 0 m) (i : Int)) j = decide (i = j) := by
  rw [rd_ones m 0 hi, Nat.zero_add]
  simp only [Pr.tb, Int.toNat_natCast, Nat.testBit_two_pow]
theorem one_tr {m : Nat} (hm : m ≤ 64) : Pr.Tr m 0 (Pr.ones 0 m) := by
  have hlen := Pr.ones_length m 0
  have hz : ∀ i j : Nat, Pr.tb (rd (Pr.ones 0 m) (i : Int)) j = true → i < m := by
    intro i j hj
    rcases Nat.lt_or_ge i m with hi | hi
    · exact hi
    · rw [Pr.rd_out (by omega), Pr.tb_zero] at hj; cases hj
  refine ⟨hm, hlen, Pr.U_zero, ?_, ?_, ?_, ?_⟩
  · intro i
    rcases Nat.lt_or_ge i m with hi | hi
    · rw [rd_ones m 0 hi]
      have : 2 ^ (0 + i) < 2 ^ 64 := Nat.pow_lt_pow_right (by omega) (by omega)
      unfold Pr.U
      generalize 2 ^ (0 + i) = q at *
      omega
    · rw [Pr.rd_out (by omega)]; exact Pr.U_zero
  · intro j hj; rw [Pr.tb_zero] at hj; cases hj
  · intro i j hj
    have hi := hz i j hj
    rw [tb_ones hm hi, decide_eq_true_eq] at hj
    omega
  · intro i j _; exact Pr.tb_zero j
theorem T_one {m : Nat} (hm : m ≤ 64) (s : Nat → Prop) (j : Nat) : Pr.T m 0 (Pr.ones 0 m) s j ↔ s j ∧ j < m := by
  unfold Pr.T
  constructor
  · rintro (h | ⟨i, hi, h1, h2⟩)
    · rw [Pr.tb_zero] at h; cases h
    · rw [tb_ones hm hi, decide_eq_true_eq] at h2
      subst h2
      exact ⟨h1, hi⟩
  · rintro ⟨h1, h2⟩
    exact .inr ⟨j, h2, h1, by rw [tb_ones hm h2]; simp⟩
theorem dist {m : Nat} {g : Int} {l : List Int} {s t u : Nat → Prop} (h : ∀ i, u i ↔ s i ∨ t i) (j : Nat) : Pr.T m g l u j ↔ Pr.T m g l s j ∨ Pr.T m g l t j :=
  (Pr.T_congr (fun i _ => h i) j).trans (Pr.T_union j)
section
variable {m : Nat} {g1 g2 g3 : Int} {l1 l2 l3 : List Int}
theorem j1_good (h1 : Pr.Tr m g1 l1) (h2 : Pr.Tr m g2 l2) (h3 : Pr.Tr m g3 l3) : Pr.stackyardlaw03_FactsRing.j1 1599 (m : Int) false g1 l1 g2 l2 g3 l3 = some true := by
  show Pr.stackyardlaw03_FactsRing.j1 (1598 + 1) (m : Int) false g1 l1 g2 l2 g3 l3 = some true
  simp only [Pr.stackyardlaw03_FactsRing.j1]
  rw [if_neg (by simp), Pr.combine_w h2 h3 (by omega), Pr.extend_w h1 h2 (by omega), Pr.extend_w h1 h3 (by omega), Pr.combine_w h1 h2 (by omega), Pr.extend_w h2 h3 (by omega), Pr.alive_f (by omega)]
  simp only [Option.bind_some]
  rw [Pr.extend_w h1 (h2.combine h3) (by omega), Pr.combine_w (h1.extend h2) (h1.extend h3) (by omega), Pr.extend_w (h1.combine h2) h3 (by omega), Pr.combine_w (h1.extend h3) (h2.extend h3) (by omega)]
  simp only [Option.bind_some]
  rw [Pr.same_w (h1.extend (h2.combine h3)) ((h1.extend h2).combine (h1.extend h3)) ?_ (by omega), Pr.same_w ((h1.combine h2).extend h3) ((h1.extend h3).combine (h2.extend h3)) ?_ (by omega)]
  · rfl
  · intro s j
    rw [Pr.T_extend (h1.combine h2) h3, Pr.T_combine (h1.extend h3) (h2.extend h3), Pr.T_extend h1 h3, Pr.T_extend h2 h3]
    exact dist (fun i => Pr.T_combine h1 h2 s i) j
  · intro s j
    rw [Pr.T_extend h1 (h2.combine h3), Pr.T_combine h2 h3, Pr.T_combine (h1.extend h2) (h1.extend h3), Pr.T_extend h1 h2, Pr.T_extend h1 h3]
theorem j0_good (h1 : Pr.Tr m g1 l1) (h2 : Pr.Tr m g2 l2) (h3 : Pr.Tr m g3 l3) : Pr.stackyardlaw03_FactsRing.j0 1600 (m : Int) false g1 l1 g2 l2 g3 l3 0 (Pr.ones 0 m) = some true := by
  have ho := one_tr h1.le
  show Pr.stackyardlaw03_FactsRing.j0 (1599 + 1) (m : Int) false g1 l1 g2 l2 g3 l3 0 (Pr.ones 0 m) = some true
  simp only [Pr.stackyardlaw03_FactsRing.j0]
  rw [if_neg (by simp), Pr.extend_w h1 h2 (by omega), Pr.extend_w h2 h3 (by omega), Pr.extend_w ho h1 (by omega), Pr.extend_w h1 ho (by omega)]
  simp only [Option.bind_some]
  rw [Pr.extend_w (h1.extend h2) h3 (by omega), Pr.extend_w h1 (h2.extend h3) (by omega)]
  simp only [Option.bind_some]
  rw [Pr.same_w ((h1.extend h2).extend h3) (h1.extend (h2.extend h3)) ?_ (by omega), Pr.same_w (ho.extend h1) h1 ?_ (by omega), Pr.same_w (h1.extend ho) h1 ?_ (by omega)]
  · exact j1_good h1 h2 h3
  · intro s j
    rw [Pr.T_extend h1 ho, T_one h1.le]
    exact ⟨fun h => h.1, fun h => ⟨h, Pr.T_in h1 h⟩⟩
  · intro s j
    rw [Pr.T_extend ho h1]
    exact Pr.T_congr (fun i hi => (T_one h1.le s i).trans ⟨fun h => h.1, fun h => ⟨h, hi⟩⟩) j
  · intro s j
    rw [Pr.T_extend (h1.extend h2) h3, Pr.T_extend h1 (h2.extend h3), Pr.T_extend h2 h3]
    exact Pr.T_congr (fun i _ => Pr.T_extend h1 h2 s i) j
theorem good (h1 : Pr.Tr m g1 l1) (h2 : Pr.Tr m g2 l2) (h3 : Pr.Tr m g3 l3) : Pr.stackyardlaw03_FactsRing.f 1600 (m : Int) g1 l1 g2 l2 g3 l3 = some true := by
  have hm := h1.le
  have hd : ¬ Pr.outD (m : Int) := by unfold Pr.outD; omega
  unfold Pr.stackyardlaw03_FactsRing.f
  rw [Pr.good_f (by simp) (by simp [h1.len, h2.len, h3.len]; omega) (by omega)]
  simp only [Option.bind_some, List.all_cons, List.all_nil, h1.ck, h2.ck, h3.ck, decide_true, Bool.and_true, if_true]
  rw [Pr.one_f (by omega), Pr.combine_w h1 h2 (by omega), Pr.combine_w h2 h1 (by omega), Pr.combine_w h1 h1 (by omega), Pr.combine_w h2 h3 (by omega)]
  simp only [Option.bind_some, Pr.onE, if_neg hd, if_true, Int.toNat_natCast]
  rw [Pr.combine_w (h1.combine h2) h3 (by omega), Pr.combine_w h1 (h2.combine h3) (by omega)]
  simp only [Option.bind_some]
  rw [Pr.same_w (h1.combine h2) (h2.combine h1) ?_ (by omega), Pr.same_w (h1.combine h1) h1 ?_ (by omega), Pr.same_w ((h1.combine h2).combine h3) (h1.combine (h2.combine h3)) ?_ (by omega)]
  · exact j0_good h1 h2 h3
  · intro s j
    rw [Pr.T_combine (h1.combine h2) h3, Pr.T_combine h1 h2, Pr.T_combine h1 (h2.combine h3), Pr.T_combine h2 h3]
    exact or_assoc
  · intro s j
    rw [Pr.T_combine h1 h1]
    exact or_self_iff
  · intro s j
    rw [Pr.T_combine h1 h2, Pr.T_combine h2 h1]
    exact or_comm
end
theorem pure (n g1 g2 g3 : Int) (l1 l2 l3 : List Int) (hg1 : Pr.U g1) (hg2 : Pr.U g2) (hg3 : Pr.U g3) (hu1 : Pr.UL l1) (hu2 : Pr.UL l2) (hu3 : Pr.UL l3) (h1 : l1.length ≤ 1000) (h2 : l2.length ≤ 1000) (h3 : l3.length ≤ 1000) : Pr.stackyardlaw03_FactsRing.f 1600 n g1 l1 g2 l2 g3 l3 = some true := by
  by_cases hc : Pr.ckE n g1 l1 = 0 ∧ Pr.ckE n g2 l2 = 0 ∧ Pr.ckE n g3 l3 = 0
  · obtain ⟨c1, c2, c3⟩ := hc
    obtain ⟨d, _, _⟩ := Pr.ckE_ok c1
    have hd : 0 ≤ n ∧ n ≤ 64 := by unfold Pr.outD at d; omega
    obtain ⟨m, rfl⟩ := Int.eq_ofNat_of_zero_le hd.1
    exact good (Pr.Tr.of_ck c1 hg1 hu1) (Pr.Tr.of_ck c2 hg2 hu2) (Pr.Tr.of_ck c3 hg3 hu3)
  · unfold Pr.stackyardlaw03_FactsRing.f
    rw [Pr.good_f (by simp) (by simp [h1, h2, h3]) (by omega)]
    simp only [Option.bind_some, List.all_cons, List.all_nil, Bool.and_true, Bool.and_eq_true, decide_eq_true_eq]
    rw [if_neg hc, Pr.alive_f (by omega)]
    rfl
theorem contract (H : Type) (enc : TypeId × Value → H) (W : World) (base : Nat) (args : Array Value) (ds gs : List (DataW H)) (before : List MemPlace)
    (hval : ∀ (j : Nat) t v, Tryd.f5.params[j]? = some t → args[j]? = some v → Value.okWide Tryd.prog W .any base t v)
    (hW : DataW.Whole enc Tryd.prog Tryd.f5.params.toList Rows.factsRingSpec.vars false W args.toList ds gs before) (hL : laidMetH Tryd.prog Rows.factsRingRow.laid W) :
    Calls Tryd.prog 5 args W fun e W' => ∃ v, e = .returned v ∧ Rows.factsRingSpec.post enc Tryd.prog Tryd.f5 false true false false W args v W' := by
  have hW' := hW
  obtain ⟨p, q, hA0, hV, rfl, hfz, hnd⟩ := hW
  have hA : DataW.TrodAll enc Tryd.prog W 0 (fun _ => true) true Tryd.f5.params.toList args.toList ds p := hA0
  rw [Tryd.params5] at hA hval
  obtain ⟨v0, vs0, d0, ds0, p0, q0, hargs, rfl, rfl, h0, r0⟩ := trodAll_cons hA
  obtain ⟨v1, vs1, d1, ds1, p1, q1, rfl, rfl, rfl, h1, r1⟩ := trodAll_cons r0
  obtain ⟨v2, vs2, d2, ds2, p2, q2, rfl, rfl, rfl, h2, r2⟩ := trodAll_cons r1
  obtain ⟨v3, vs3, d3, ds3, p3, q3, rfl, rfl, rfl, h3, r3⟩ := trodAll_cons r2
  obtain ⟨rfl, rfl, rfl⟩ := trodAll_nil r3
  obtain rfl : args = #[v0, v1, v2, v3] := by cases args; simp_all
  obtain ⟨rfl, rfl⟩ := trodVars_none hV
  obtain ⟨x0, rfl, rfl, rfl, w0⟩ := open_int Tryd.underlying3 (hval 0 3 v0 rfl rfl) h0
  have k1 := h1
  have lt1 : ∀ x ∈ p1, x.block < W.heap.size := by obtain ⟨m, hm⟩ := k1; exact DataW.trod_lt m _ _ _ hm
  have k2 := h2
  have lt2 : ∀ x ∈ p2, x.block < W.heap.size := by obtain ⟨m, hm⟩ := k2; exact DataW.trod_lt m _ _ _ hm
  have k3 := h3
  have lt3 : ∀ x ∈ p3, x.block < W.heap.size := by obtain ⟨m, hm⟩ := k3; exact DataW.trod_lt m _ _ _ hm
  obtain ⟨g1, A1, n1, c1, l1, rfl, ug1, ul1, e1, hc1, hb1, hr1⟩ := open_facts (hval 1 25 v1 rfl rfl) h1
  obtain ⟨g2, A2, n2, c2, l2, rfl, ug2, ul2, e2, hc2, hb2, hr2⟩ := open_facts (hval 2 25 v2 rfl rfl) h2
  obtain ⟨g3, A3, n3, c3, l3, rfl, ug3, ul3, e3, hc3, hb3, hr3⟩ := open_facts (hval 3 25 v3 rfl rfl) h3
  clear hA0
  have t1 : (l1.take 100).length ≤ 100 := by rw [List.length_take]; omega
  have m1 : (l1.take 100).length = min n1 100 := by rw [List.length_take]; omega
  have tu1 : Pr.UL (l1.take 100) := fun x hx => ul1 x (List.mem_of_mem_take hx)
  have t2 : (l2.take 100).length ≤ 100 := by rw [List.length_take]; omega
  have m2 : (l2.take 100).length = min n2 100 := by rw [List.length_take]; omega
  have tu2 : Pr.UL (l2.take 100) := fun x hx => ul2 x (List.mem_of_mem_take hx)
  have t3 : (l3.take 100).length ≤ 100 := by rw [List.length_take]; omega
  have m3 : (l3.take 100).length = min n3 100 := by rw [List.length_take]; omega
  have tu3 : Pr.UL (l3.take 100) := fun x hx => ul3 x (List.mem_of_mem_take hx)
  have hw := Pr.stackyardlaw03_FactsRing.calls 1600 x0 g1 (fun k => k < W.heap.size) A1 c1 (l1.take 100) g2 (fun k => k < W.heap.size) A2 c2 (l2.take 100) g3 (fun k => k < W.heap.size) A3 c3 (l3.take 100) true W (Kd.V_mk (by omega) (Kd.C_F (Kd.heap_int .u64) (C_take100 hr1))) (Kd.V_mk (by omega) (Kd.C_F (Kd.heap_int .u64) (C_take100 hr2))) (Kd.V_mk (by omega) (Kd.C_F (Kd.heap_int .u64) (C_take100 hr3))) n1 hc1 m1 hb1 n2 hc2 m2 hb2 n3 hc3 m3 hb3 (pure x0 g1 g2 g3 _ _ _ ug1 ug2 ug3 tu1 tu2 tu3 (by omega) (by omega) (by omega)) (tab_of hL)
  refine hw.mono fun e W' ⟨he, bel⟩ => ?_
  subst he
  exact ⟨_, rfl, _, _, _, [], _, [], hW', trodAll_mk1 (shut_bool Tryd.underlying4 _),
    (trodAll_cons_mk (shut_int Tryd.underlying3 w0) (trodAll_cons_mk (Below.trod laidOut (by kernel_rfl) (of_decide_eq_true (by kernel_rfl)) k1 bel lt1) (trodAll_cons_mk (Below.trod laidOut (by kernel_rfl) (of_decide_eq_true (by kernel_rfl)) k2 bel lt2) (trodAll_cons_mk (Below.trod laidOut (by kernel_rfl) (of_decide_eq_true (by kernel_rfl)) k3 bel lt3) trodAll_mk0)))),
    rfl, bel.frame _, fun h => by cases h⟩
theorem laid_met (os : Os) : laidMet Tryd.prog Rows.factsRingRow.laid ((laidWorld os).forCall (fun _ _ => 0) ⟨#[], #[.int .i64 0, .agg #[.int .u64 0, .slice none 0 0], .agg #[.int .u64 0, .slice none 0 0], .agg #[.int .u64 0, .slice none 0 0]], []⟩).memory :=
  laidMet_of_run' 8 (by kernel_rfl) (by kernel_rfl)
theorem reads (os : Os) {H : Type} (enc : TypeId × Value → H) : ∃ places, DataW.whole enc Tryd.prog ((laidWorld os).forCall (fun _ _ => 0) ⟨#[], #[.int .i64 0, .agg #[.int .u64 0, .slice none 0 0], .agg #[.int .u64 0, .slice none 0 0], .agg #[.int .u64 0, .slice none 0 0]], []⟩).memory Tryd.f5.params.toList Rows.factsRingSpec.vars false #[Value.int .i64 0, .agg #[.int .u64 0, .slice none 0 0], .agg #[.int .u64 0, .slice none 0 0], .agg #[.int .u64 0, .slice none 0 0]].toList 8 = some ([.lit (.int .i64 0), .agg [.lit (.int .u64 0), .nil], .agg [.lit (.int .u64 0), .nil], .agg [.lit (.int .u64 0), .nil]], [], places) :=
  ⟨[], by kernel_rfl⟩
set_option maxRecDepth 100000 in
theorem lifted (os : Os) (started : os.Started) (H : Type) (enc : TypeId × Value → H) (F : Stop.Interp) :
    ReturnsInHanded {} Tryd.checked os 5 .any ((OpenSpec.ofChange Rows.factsRingSpec).preRow enc Tryd.prog Tryd.f5 Rows.factsRingRow.domain false Rows.factsRingRow.laid) (((OpenSpec.ofChange Rows.factsRingSpec).at F).post enc Tryd.prog Tryd.f5 false true false false) := by
  obtain ⟨places, hx⟩ := reads os enc
  refine returnsInHanded_of_row (C := Tryd.checked) (s := OpenSpec.ofChange Rows.factsRingSpec) own started (by kernel_rfl) Tryd.func5
    (witness_row_at (enc := enc) (C := Tryd.checked) false (laidWorld os) #[.int .i64 0, .agg #[.int .u64 0, .slice none 0 0], .agg #[.int .u64 0, .slice none 0 0], .agg #[.int .u64 0, .slice none 0 0]] rfl (by kernel_rfl) (by kernel_rfl) (by kernel_rfl)
      (OpenSpec.preRow_of_cond 8 hx (by kernel_rfl) (fun k hk => by cases hk) (by kernel_rfl) (laid_met os))) ?_
  intro W base args ds gs before hval hW _ _ _ hL _ _
  exact contract H enc W base args ds gs before hval hW hL
theorem said : Rows.FactsRingSaid :=
  OpenClaim.holds_of_cond 5 Tryd.f5 rfl rfl rfl rfl rfl rfl rfl ⟨rfl, rfl, rfl, rfl, rfl⟩ rfl rfl rfl rfl rfl (by kernel_rfl) Tryd.func5 (by kernel_rfl)
    (of_decide_eq_true (by kernel_rfl)) (by unfold Func.isWrapper; first | (rw [if_pos (by decide +kernel)]; kernel_rfl) | (rw [if_neg (by decide +kernel)]; exact ⟨rfl, rfl⟩))
    (fun os started H enc _ F => by rw [OpenClaim.pre_eq_preRow]; exact lifted os started H enc F)
theorem plain (f : FuncId) (fn : Func) (hf : Tryd.pinned.checked.prog.funcNamed "stackyard/stackyardlaw03.FactsRing" = some f) (hfn : Tryd.pinned.checked.prog.funcs[f]? = some fn) :
    false = Tryd.pinned.checked.prog.looks [] ∧ ∀ (j : Nat) t, fn.params[j]? = some t → Tryd.pinned.checked.prog.wantsStandIn t = false := by
  obtain rfl : f = 5 := Option.some.inj ((show Tryd.prog.funcNamed "stackyard/stackyardlaw03.FactsRing" = some 5 by kernel_rfl).symm.trans hf) |>.symm
  obtain rfl : fn = Tryd.f5 := (Option.some.inj (Tryd.func5.symm.trans hfn)).symm
  refine ⟨by kernel_rfl, fun j t ht => ?_⟩
  rw [Tryd.params5] at ht
  have hm := Array.mem_of_getElem? ht
  simp only [List.mem_toArray, List.mem_cons, List.not_mem_nil, or_false] at hm
  have z3 : Tryd.prog.wantsStandIn 3 = false := by kernel_rfl
  have z25 : Tryd.prog.wantsStandIn 25 = false := by kernel_rfl
  rcases hm with rfl | rfl | rfl | rfl <;> first | exact z3 | exact z25
theorem card : Rows.FactsRingCardSaid :=
  Claim7.holds_tied_plain_at .later [] _ _ _ _ said (fun _ h => by cases h) (by kernel_rfl) (fun _ h => by cases h) factsRing_row_tie rfl ⟨rfl, rfl⟩ (by kernel_rfl) rfl plain (by kernel_rfl)
#print axioms card
end Go.Proofs.YtnogmnmbakglcaaDoor.factsRing
namespace Go.Proofs.YtnogmnmbakglcaaDoor
theorem factsRing_holds : Rows.FactsRingCardSaid := factsRing.card
end Go.Proofs.YtnogmnmbakglcaaDoor
