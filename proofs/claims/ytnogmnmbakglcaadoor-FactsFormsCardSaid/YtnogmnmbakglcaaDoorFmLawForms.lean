/- FactsForms: for every input that its row lets in, the law that shows which transformers may be, and their one form returns true, and each argument reads afterwards as it read before.
   Conditions: those of the given row alone (a card, tied to the program's text by the given tie); no further one. -/
import Derived.Test.YtnogmnmbakglcaaDoorFmOp
import Derived.Test.YtnogmnmbakglcaaDoorFmPn
import Derived.Test.YtnogmnmbakglcaaDoorFmFormsWalk
namespace Go.Proofs.YtnogmnmbakglcaaDoor.factsForms
open Go.ChangeShapes Go.WideShapes Go.ChangeAt Go.RowKit Go.Joins Go.Proofs.YtnogmnmbakglcaaDoorW.PrintWords Go.Proofs.YtnogmnmbakglcaaDoorW.PrintLast Go.Proofs.YtnogmnmbakglcaaDoorW.PrintMore
theorem pure (n g1 g2 x y : Int) (l1 l2 : List Int) (h1 : l1.length ≤ 1000) : Pr.stackyardlaw03_FactsForms.f 1500 n g1 l1 g2 l2 x y = some true := by
  unfold Pr.stackyardlaw03_FactsForms.f
  rw [Pr.Canon_f h1 (by omega), Pr.rCanon_f h1 (by omega), Pr.one_f (by omega), Pr.rone_f (by omega), Pr.set_f (by omega), Pr.rset_f (by omega), Pr.check_f h1 (by omega), Pr.rcheck_f h1 (by omega)]
  simp only [Option.bind_some]
  rw [Pr.rsame_f (Pr.caE_len h1) (by omega), Pr.rsame_f (Pr.onE_len n) (by omega), Pr.rsame_f (Pr.seE_len n x y) (by omega), Pr.same_f h1 (by omega), Pr.rsame_f h1 (by omega), Pr.same_f h1 (by omega), Pr.alive_f (by omega)]
  simp
theorem contract (H : Type) (enc : TypeId × Value → H) (W : World) (base : Nat) (args : Array Value) (ds gs : List (DataW H)) (before : List MemPlace)
    (hval : ∀ (j : Nat) t v, Tryd.f3.params[j]? = some t → args[j]? = some v → Value.okWide Tryd.prog W .any base t v)
    (hW : DataW.Whole enc Tryd.prog Tryd.f3.params.toList Rows.factsFormsSpec.vars false W args.toList ds gs before) (hL : laidMetH Tryd.prog Rows.factsFormsRow.laid W) :
    Calls Tryd.prog 3 args W fun e W' => ∃ v, e = .returned v ∧ Rows.factsFormsSpec.post enc Tryd.prog Tryd.f3 false true false false W args v W' := by
  have hW' := hW
  obtain ⟨p, q, hA0, hV, rfl, hfz, hnd⟩ := hW
  have hA : DataW.TrodAll enc Tryd.prog W 0 (fun _ => true) true Tryd.f3.params.toList args.toList ds p := hA0
  rw [Tryd.params3] at hA hval
  obtain ⟨v0, vs0, d0, ds0, p0, q0, hargs, rfl, rfl, h0, r0⟩ := trodAll_cons hA
  obtain ⟨v1, vs1, d1, ds1, p1, q1, rfl, rfl, rfl, h1, r1⟩ := trodAll_cons r0
  obtain ⟨v2, vs2, d2, ds2, p2, q2, rfl, rfl, rfl, h2, r2⟩ := trodAll_cons r1
  obtain ⟨v3, vs3, d3, ds3, p3, q3, rfl, rfl, rfl, h3, r3⟩ := trodAll_cons r2
  obtain ⟨v4, vs4, d4, ds4, p4, q4, rfl, rfl, rfl, h4, r4⟩ := trodAll_cons r3
  obtain ⟨rfl, rfl, rfl⟩ := trodAll_nil r4
  obtain rfl : args = #[v0, v1, v2, v3, v4] := by cases args; simp_all
  obtain ⟨rfl, rfl⟩ := trodVars_none hV
  obtain ⟨x0, rfl, rfl, rfl, w0⟩ := open_int Tryd.underlying3 (hval 0 3 v0 rfl rfl) h0
  obtain ⟨x3, rfl, rfl, rfl, w3⟩ := open_int Tryd.underlying3 (hval 3 3 v3 rfl rfl) h3
  obtain ⟨x4, rfl, rfl, rfl, w4⟩ := open_int Tryd.underlying3 (hval 4 3 v4 rfl rfl) h4
  have k1 := h1
  have lt1 : ∀ x ∈ p1, x.block < W.heap.size := by obtain ⟨m, hm⟩ := k1; exact DataW.trod_lt m _ _ _ hm
  have k2 := h2
  have lt2 : ∀ x ∈ p2, x.block < W.heap.size := by obtain ⟨m, hm⟩ := k2; exact DataW.trod_lt m _ _ _ hm
  obtain ⟨g1, A1, n1, c1, l1, rfl, ug1, ul1, e1, hc1, hb1, hr1⟩ := open_facts (hval 1 25 v1 rfl rfl) h1
  obtain ⟨g2, A2, n2, c2, l2, rfl, ug2, ul2, e2, hc2, hb2, hr2⟩ := open_facts (hval 2 25 v2 rfl rfl) h2
  clear hA0
  have t1 : (l1.take 100).length ≤ 100 := by rw [List.length_take]; omega
  have m1 : (l1.take 100).length = min n1 100 := by rw [List.length_take]; omega
  have tu1 : Pr.UL (l1.take 100) := fun x hx => ul1 x (List.mem_of_mem_take hx)
  have t2 : (l2.take 100).length ≤ 100 := by rw [List.length_take]; omega
  have m2 : (l2.take 100).length = min n2 100 := by rw [List.length_take]; omega
  have tu2 : Pr.UL (l2.take 100) := fun x hx => ul2 x (List.mem_of_mem_take hx)
  have hw := Pr.stackyardlaw03_FactsForms.calls 1500 x0 g1 A1 c1 (l1.take 100) g2 A2 c2 (l2.take 100) x3 x4 true W (C_take100 hr1) (by omega) n1 hc1 m1 hb1 (C_take100 hr2) (by omega) n2 hc2 m2 hb2 (pure x0 g1 g2 x3 x4 _ _ (by omega)) (tab_of hL)
  refine hw.mono fun e W' ⟨he, bel⟩ => ?_
  subst he
  exact ⟨_, rfl, _, _, _, [], _, [], hW', trodAll_mk1 (shut_bool Tryd.underlying4 _),
    (trodAll_cons_mk (shut_int Tryd.underlying3 w0) (trodAll_cons_mk (Below.trod laidOut (by kernel_rfl) (of_decide_eq_true (by kernel_rfl)) k1 bel lt1) (trodAll_cons_mk (Below.trod laidOut (by kernel_rfl) (of_decide_eq_true (by kernel_rfl)) k2 bel lt2) (trodAll_cons_mk (shut_int Tryd.underlying3 w3) (trodAll_cons_mk (shut_int Tryd.underlying3 w4) trodAll_mk0))))),
    rfl, bel.frame _, fun h => by cases h⟩
theorem laid_met (os : Os) : laidMet Tryd.prog Rows.factsFormsRow.laid ((laidWorld os).forCall (fun _ _ => 0) ⟨#[], #[.int .i64 0, .agg #[.int .u64 0, .slice none 0 0], .agg #[.int .u64 0, .slice none 0 0], .int .i64 0, .int .i64 0], []⟩).memory :=
  laidMet_of_run' 8 (by kernel_rfl) (by kernel_rfl)
theorem reads (os : Os) {H : Type} (enc : TypeId × Value → H) : ∃ places, DataW.whole enc Tryd.prog ((laidWorld os).forCall (fun _ _ => 0) ⟨#[], #[.int .i64 0, .agg #[.int .u64 0, .slice none 0 0], .agg #[.int .u64 0, .slice none 0 0], .int .i64 0, .int .i64 0], []⟩).memory Tryd.f3.params.toList Rows.factsFormsSpec.vars false #[Value.int .i64 0, .agg #[.int .u64 0, .slice none 0 0], .agg #[.int .u64 0, .slice none 0 0], .int .i64 0, .int .i64 0].toList 8 = some ([.lit (.int .i64 0), .agg [.lit (.int .u64 0), .nil], .agg [.lit (.int .u64 0), .nil], .lit (.int .i64 0), .lit (.int .i64 0)], [], places) :=
  ⟨[], by kernel_rfl⟩
set_option maxRecDepth 100000 in
theorem lifted (os : Os) (started : os.Started) (H : Type) (enc : TypeId × Value → H) (F : Stop.Interp) :
    ReturnsInHanded {} Tryd.checked os 3 .any ((OpenSpec.ofChange Rows.factsFormsSpec).preRow enc Tryd.prog Tryd.f3 Rows.factsFormsRow.domain false Rows.factsFormsRow.laid) (((OpenSpec.ofChange Rows.factsFormsSpec).at F).post enc Tryd.prog Tryd.f3 false true false false) := by
  obtain ⟨places, hx⟩ := reads os enc
  refine returnsInHanded_of_row (C := Tryd.checked) (s := OpenSpec.ofChange Rows.factsFormsSpec) own started (by kernel_rfl) Tryd.func3
    (witness_row_at (enc := enc) (C := Tryd.checked) false (laidWorld os) #[.int .i64 0, .agg #[.int .u64 0, .slice none 0 0], .agg #[.int .u64 0, .slice none 0 0], .int .i64 0, .int .i64 0] rfl (by kernel_rfl) (by kernel_rfl) (by kernel_rfl)
      (OpenSpec.preRow_of_cond 8 hx (by kernel_rfl) (fun k hk => by cases hk) (by kernel_rfl) (laid_met os))) ?_
  intro W base args ds gs before hval hW _ _ _ hL _ _
  exact contract H enc W base args ds gs before hval hW hL
theorem said : Rows.FactsFormsSaid :=
  OpenClaim.holds_of_cond 3 Tryd.f3 rfl rfl rfl rfl rfl rfl rfl ⟨rfl, rfl, rfl, rfl, rfl⟩ rfl rfl rfl rfl rfl (by kernel_rfl) Tryd.func3 (by kernel_rfl)
    (of_decide_eq_true (by kernel_rfl)) (by unfold Func.isWrapper; first | (rw [if_pos (by decide +kernel)]; kernel_rfl) | (rw [if_neg (by decide +kernel)]; exact ⟨rfl, rfl⟩))
    (fun os started H enc _ F => by rw [OpenClaim.pre_eq_preRow]; exact lifted os started H enc F)
theorem plain (f : FuncId) (fn : Func) (hf : Tryd.pinned.checked.prog.funcNamed "stackyard/stackyardlaw03.FactsForms" = some f) (hfn : Tryd.pinned.checked.prog.funcs[f]? = some fn) :
    false = Tryd.pinned.checked.prog.looks [] ∧ ∀ (j : Nat) t, fn.params[j]? = some t → Tryd.pinned.checked.prog.wantsStandIn t = false := by
  obtain rfl : f = 3 := Option.some.inj ((show Tryd.prog.funcNamed "stackyard/stackyardlaw03.FactsForms" = some 3 by kernel_rfl).symm.trans hf) |>.symm
  obtain rfl : fn = Tryd.f3 := (Option.some.inj (Tryd.func3.symm.trans hfn)).symm
  refine ⟨by kernel_rfl, fun j t ht => ?_⟩
  rw [Tryd.params3] at ht
  have hm := Array.mem_of_getElem? ht
  simp only [List.mem_toArray, List.mem_cons, List.not_mem_nil, or_false] at hm
  have z3 : Tryd.prog.wantsStandIn 3 = false := by kernel_rfl
  have z25 : Tryd.prog.wantsStandIn 25 = false := by kernel_rfl
  rcases hm with rfl | rfl | rfl | rfl | rfl <;> first | exact z3 | exact z25
theorem card : Rows.FactsFormsCardSaid :=
  Claim7.holds_tied_plain_at .later [] _ _ _ _ said (fun _ h => by cases h) (by kernel_rfl) (fun _ h => by cases h) factsForms_row_tie rfl ⟨rfl, rfl⟩ (by kernel_rfl) rfl plain (by kernel_rfl)
#print axioms card
end Go.Proofs.YtnogmnmbakglcaaDoor.factsForms
namespace Go.Proofs.YtnogmnmbakglcaaDoor
theorem factsForms_holds : Rows.FactsFormsCardSaid := factsForms.card
end Go.Proofs.YtnogmnmbakglcaaDoor
