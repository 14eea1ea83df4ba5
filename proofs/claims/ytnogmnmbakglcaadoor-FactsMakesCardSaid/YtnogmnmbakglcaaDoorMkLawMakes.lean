/- FactsMakes: for every input that its row lets in, the law that shows what comes of two transformers returns true, and each argument reads afterwards as it read before.
   Conditions: those of the given row alone (a card, tied to the program's text by the given tie); no further one. -/
import Derived.Test.YtnogmnmbakglcaaDoorMkOp
import Derived.Test.YtnogmnmbakglcaaDoorMkMakesWalk
namespace Go.Proofs.YtnogmnmbakglcaaDoor.factsMakes
open Go.ChangeShapes Go.WideShapes Go.ChangeAt Go.RowKit Go.Joins Go.Proofs.YtnogmnmbakglcaaDoorW.PrintWords Go.Proofs.YtnogmnmbakglcaaDoorW.PrintLast Go.Proofs.YtnogmnmbakglcaaDoorW.PrintMore
theorem pure (n g1 g2 s : Int) (l1 l2 : List Int) (hg1 : Pr.U g1) (hu1 : Pr.UL l1) (h1 : l1.length ≤ 1000) (h2 : l2.length ≤ 1000) (hs : Pr.U s) : Pr.stackyardlaw03_FactsMakes.f 1500 n g1 l1 g2 l2 s = some true := by
  unfold Pr.stackyardlaw03_FactsMakes.f
  rw [Pr.combine_f h1 h2 (by omega), Pr.rcombine_f h1 h2 (by omega), Pr.extend_f h1 h2 hg1 hu1 (by omega), Pr.rextend_f h1 h2 hg1 hu1 (by omega), Pr.apply_f h1 hs (by omega), Pr.rapply_f h1 hs (by omega), Pr.below_f h1 h2 (by omega), Pr.rbelow_f h1 h2 (by omega)]
  simp only [Option.bind_some]
  rw [Pr.rsame_f (Pr.coE_len h1) (by omega), Pr.rsame_f (Pr.exE_len h1) (by omega), Pr.alive_f (by omega)]
  simp
theorem contract (H : Type) (enc : TypeId × Value → H) (W : World) (base : Nat) (args : Array Value) (ds gs : List (DataW H)) (before : List MemPlace)
    (hval : ∀ (j : Nat) t v, Tryd.f7.params[j]? = some t → args[j]? = some v → Value.okWide Tryd.prog W .any base t v)
    (hW : DataW.Whole enc Tryd.prog Tryd.f7.params.toList Rows.factsMakesSpec.vars false W args.toList ds gs before) (hL : laidMetH Tryd.prog Rows.factsMakesRow.laid W) :
    Calls Tryd.prog 7 args W fun e W' => ∃ v, e = .returned v ∧ Rows.factsMakesSpec.post enc Tryd.prog Tryd.f7 false true false false W args v W' := by
  have hW' := hW
  obtain ⟨p, q, hA0, hV, rfl, hfz, hnd⟩ := hW
  have hA : DataW.TrodAll enc Tryd.prog W 0 (fun _ => true) true Tryd.f7.params.toList args.toList ds p := hA0
  rw [Tryd.params7] at hA hval
  obtain ⟨v0, vs0, d0, ds0, p0, q0, hargs, rfl, rfl, h0, r0⟩ := trodAll_cons hA
  obtain ⟨v1, vs1, d1, ds1, p1, q1, rfl, rfl, rfl, h1, r1⟩ := trodAll_cons r0
  obtain ⟨v2, vs2, d2, ds2, p2, q2, rfl, rfl, rfl, h2, r2⟩ := trodAll_cons r1
  obtain ⟨v3, vs3, d3, ds3, p3, q3, rfl, rfl, rfl, h3, r3⟩ := trodAll_cons r2
  obtain ⟨rfl, rfl, rfl⟩ := trodAll_nil r3
  obtain rfl : args = #[v0, v1, v2, v3] := by cases args; simp_all
  obtain ⟨rfl, rfl⟩ := trodVars_none hV
  obtain ⟨n, rfl, rfl, rfl, wn⟩ := open_int Tryd.underlying3 (hval 0 3 v0 rfl rfl) h0
  obtain ⟨s, rfl, rfl, rfl, ws⟩ := open_int Tryd.underlying22 (hval 3 22 v3 rfl rfl) h3
  have k1 := h1
  have lt1 : ∀ x ∈ p1, x.block < W.heap.size := by obtain ⟨m, hm⟩ := k1; exact DataW.trod_lt m _ _ _ hm
  have k2 := h2
  have lt2 : ∀ x ∈ p2, x.block < W.heap.size := by obtain ⟨m, hm⟩ := k2; exact DataW.trod_lt m _ _ _ hm
  obtain ⟨g1, A1, n1, c1, l1, rfl, ug1, ul1, e1, hc1, hb1, hr1⟩ := open_facts (hval 1 25 v1 rfl rfl) h1
  obtain ⟨g2, A2, n2, c2, l2, rfl, ug2, ul2, e2, hc2, hb2, hr2⟩ := open_facts (hval 2 25 v2 rfl rfl) h2
  clear hA0
  have t1 : (l1.take 100).length ≤ 100 := by rw [List.length_take]; omega
  have t2 : (l2.take 100).length ≤ 100 := by rw [List.length_take]; omega
  have hw := Pr.stackyardlaw03_FactsMakes.calls 1500 n g1 A1 c1 (l1.take 100) g2 A2 c2 (l2.take 100) s true W (C_take100 hr1) (by rw [List.length_take]; omega) n1 hc1 (by rw [List.length_take]; omega) hb1
    (C_take100 hr2) (by rw [List.length_take]; omega) n2 hc2 (by rw [List.length_take]; omega) hb2
    (pure n g1 g2 s _ _ ug1 (fun x hx => ul1 x (List.mem_of_mem_take hx)) (by omega) (by omega) (wf_U ws)) (tab_of hL)
  refine hw.mono fun e W' ⟨he, bel⟩ => ?_
  subst he
  exact ⟨_, rfl, _, _, _, [], _, [], hW', trodAll_mk1 (shut_bool Tryd.underlying4 _),
    trodAll_cons_mk (shut_int Tryd.underlying3 wn) (trodAll_cons_mk (Below.trod laidOut (by kernel_rfl) (of_decide_eq_true (by kernel_rfl)) k1 bel lt1) (trodAll_cons_mk (Below.trod laidOut (by kernel_rfl) (of_decide_eq_true (by kernel_rfl)) k2 bel lt2) (trodAll_cons_mk (shut_int Tryd.underlying22 ws) trodAll_mk0))),
    rfl, bel.frame _, fun h => by cases h⟩
theorem laid_met (os : Os) : laidMet Tryd.prog Rows.factsMakesRow.laid ((laidWorld os).forCall (fun _ _ => 0) ⟨#[], #[.int .i64 0, .agg #[.int .u64 0, .slice none 0 0], .agg #[.int .u64 0, .slice none 0 0], .int .u64 0], []⟩).memory :=
  laidMet_of_run' 8 (by kernel_rfl) (by kernel_rfl)
theorem reads (os : Os) {H : Type} (enc : TypeId × Value → H) : ∃ places, DataW.whole enc Tryd.prog ((laidWorld os).forCall (fun _ _ => 0) ⟨#[], #[.int .i64 0, .agg #[.int .u64 0, .slice none 0 0], .agg #[.int .u64 0, .slice none 0 0], .int .u64 0], []⟩).memory Tryd.f7.params.toList Rows.factsMakesSpec.vars false #[Value.int .i64 0, .agg #[.int .u64 0, .slice none 0 0], .agg #[.int .u64 0, .slice none 0 0], .int .u64 0].toList 8 = some ([.lit (.int .i64 0), .agg [.lit (.int .u64 0), .nil], .agg [.lit (.int .u64 0), .nil], .lit (.int .u64 0)], [], places) :=
  ⟨[], by kernel_rfl⟩
set_option maxRecDepth 100000 in
theorem lifted (os : Os) (started : os.Started) (H : Type) (enc : TypeId × Value → H) (F : Stop.Interp) :
    ReturnsInHanded {} Tryd.checked os 7 .any ((OpenSpec.ofChange Rows.factsMakesSpec).preRow enc Tryd.prog Tryd.f7 Rows.factsMakesRow.domain false Rows.factsMakesRow.laid) (((OpenSpec.ofChange Rows.factsMakesSpec).at F).post enc Tryd.prog Tryd.f7 false true false false) := by
  obtain ⟨places, hx⟩ := reads os enc
  refine returnsInHanded_of_row (C := Tryd.checked) (s := OpenSpec.ofChange Rows.factsMakesSpec) own started (by kernel_rfl) Tryd.func7
    (witness_row_at (enc := enc) (C := Tryd.checked) false (laidWorld os) #[.int .i64 0, .agg #[.int .u64 0, .slice none 0 0], .agg #[.int .u64 0, .slice none 0 0], .int .u64 0] rfl (by kernel_rfl) (by kernel_rfl) (by kernel_rfl)
      (OpenSpec.preRow_of_cond 8 hx (by kernel_rfl) (fun k hk => by cases hk) (by kernel_rfl) (laid_met os))) ?_
  intro W base args ds gs before hval hW _ _ _ hL _ _
  exact contract H enc W base args ds gs before hval hW hL
theorem said : Rows.FactsMakesSaid :=
  OpenClaim.holds_of_cond 7 Tryd.f7 rfl rfl rfl rfl rfl rfl rfl ⟨rfl, rfl, rfl, rfl, rfl⟩ rfl rfl rfl rfl rfl (by kernel_rfl) Tryd.func7 (by kernel_rfl)
    (of_decide_eq_true (by kernel_rfl)) (by unfold Func.isWrapper; first | (rw [if_pos (by decide +kernel)]; kernel_rfl) | (rw [if_neg (by decide +kernel)]; exact ⟨rfl, rfl⟩))
    (fun os started H enc _ F => by rw [OpenClaim.pre_eq_preRow]; exact lifted os started H enc F)
theorem plain (f : FuncId) (fn : Func) (hf : Tryd.pinned.checked.prog.funcNamed "stackyard/stackyardlaw03.FactsMakes" = some f) (hfn : Tryd.pinned.checked.prog.funcs[f]? = some fn) :
    false = Tryd.pinned.checked.prog.looks [] ∧ ∀ (j : Nat) t, fn.params[j]? = some t → Tryd.pinned.checked.prog.wantsStandIn t = false := by
  obtain rfl : f = 7 := Option.some.inj ((show Tryd.prog.funcNamed "stackyard/stackyardlaw03.FactsMakes" = some 7 by kernel_rfl).symm.trans hf) |>.symm
  obtain rfl : fn = Tryd.f7 := (Option.some.inj (Tryd.func7.symm.trans hfn)).symm
  refine ⟨by kernel_rfl, fun j t ht => ?_⟩
  rw [Tryd.params7] at ht
  have ht' : t = 3 ∨ t = 25 ∨ t = 22 := by
    have := Array.mem_of_getElem? ht
    simp at this
    omega
  rcases ht' with rfl | rfl | rfl
  · exact (show Tryd.prog.wantsStandIn 3 = false by kernel_rfl)
  · exact (show Tryd.prog.wantsStandIn 25 = false by kernel_rfl)
  · exact (show Tryd.prog.wantsStandIn 22 = false by kernel_rfl)
theorem card : Rows.FactsMakesCardSaid :=
  Claim7.holds_tied_plain_at .later [] _ _ _ _ said (fun _ h => by cases h) (by kernel_rfl) (fun _ h => by cases h) factsMakes_row_tie rfl ⟨rfl, rfl⟩ (by kernel_rfl) rfl plain (by kernel_rfl)
#print axioms card
end Go.Proofs.YtnogmnmbakglcaaDoor.factsMakes
namespace Go.Proofs.YtnogmnmbakglcaaDoor
theorem factsMakes_holds : Rows.FactsMakesCardSaid := factsMakes.card
end Go.Proofs.YtnogmnmbakglcaaDoor
