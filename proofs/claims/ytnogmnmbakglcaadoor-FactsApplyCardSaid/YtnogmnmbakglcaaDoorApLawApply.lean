/- FactsApply: for every input that its row lets in, the law that shows what two transformers make together returns true, and each argument reads afterwards as it read before.
   Conditions: those of the given row alone (a card, tied to the program's text by the given tie); no further one. -/
import Derived.Test.YtnogmnmbakglcaaDoorApOp
import Derived.Test.YtnogmnmbakglcaaDoorApPt
import Derived.Test.YtnogmnmbakglcaaDoorApApplyWalk
namespace Go.Proofs.YtnogmnmbakglcaaDoor.factsApply
open Go.ChangeShapes Go.WideShapes Go.ChangeAt Go.RowKit Go.Joins Go.Proofs.YtnogmnmbakglcaaDoorW.PrintWords Go.Proofs.YtnogmnmbakglcaaDoorW.PrintLast Go.Proofs.YtnogmnmbakglcaaDoorW.PrintMore
theorem apply_w {m : Nat} {g s : Int} {l : List Int} {k : Nat} (h : Pr.Tr m g l) (hs : Pr.U s) (hi : ∀ i, Pr.tb s i = true → i < m) (hk : 1500 ≤ k) : Pr.facts_Apply.f k (m : Int) g l s = some (madeI g l (bitsFrom s.toNat 0), 0) := by
  have e := h.len; have := h.le
  rw [Pr.apply_f (by omega) hs hk]
  unfold Pr.apE
  rw [if_pos h.ck, if_pos ((Pr.in_iff h.le hs).2 hi)]
theorem made_in {m : Nat} {g s : Int} {l : List Int} (h : Pr.Tr m g l) (hs : Pr.U s) : ∀ i, Pr.tb (madeI g l (bitsFrom s.toNat 0)) i = true → i < m :=
  fun i hi => Pr.T_in h ((Pr.tb_make h.ug h.ul h.len hs i).1 hi)
theorem j0_good {m : Nat} {g1 g2 s : Int} {l1 l2 : List Int} (h1 : Pr.Tr m g1 l1) (h2 : Pr.Tr m g2 l2) (hs : Pr.U s) (hi : ∀ i, Pr.tb s i = true → i < m) : Pr.stackyardlaw03_FactsApply.j0 1600 (m : Int) s false g1 l1 g2 l2 = some true := by
  show Pr.stackyardlaw03_FactsApply.j0 (1599 + 1) (m : Int) s false g1 l1 g2 l2 = some true
  simp only [Pr.stackyardlaw03_FactsApply.j0]
  have u1 := Pr.madeI_U (l := l1) h1.ug (bitsFrom s.toNat 0)
  have u2 := Pr.madeI_U (l := l2) h2.ug (bitsFrom s.toNat 0)
  rw [if_neg (by simp), apply_w h1 hs hi (by omega), Pr.extend_w h1 h2 (by omega), Pr.combine_w h1 h2 (by omega), apply_w h2 hs hi (by omega), Pr.alive_f (by omega)]
  simp only [Option.bind_some]
  rw [apply_w h2 u1 (made_in h1 hs) (by omega), apply_w (h1.extend h2) hs hi (by omega), apply_w (h1.combine h2) hs hi (by omega)]
  simp only [Option.bind_some, if_true]
  rw [if_pos, if_pos]
  · refine Pr.tb_ext (Pr.madeI_U (h1.combine h2).ug _) (Pr.U_bits _ _ _) fun j => Bool.eq_iff_iff.2 ?_
    rw [Pr.tb_make (h1.combine h2).ug (h1.combine h2).ul (h1.combine h2).len hs, Pr.T_combine h1 h2, Pr.tb_or u1 u2, Bool.or_eq_true, Pr.tb_make h1.ug h1.ul h1.len hs, Pr.tb_make h2.ug h2.ul h2.len hs]
  · refine Pr.tb_ext (Pr.madeI_U h2.ug _) (Pr.madeI_U (h1.extend h2).ug _) fun j => Bool.eq_iff_iff.2 ?_
    rw [Pr.tb_make (h1.extend h2).ug (h1.extend h2).ul (h1.extend h2).len hs, Pr.T_extend h1 h2, Pr.tb_make h2.ug h2.ul h2.len u1]
    exact Pr.T_congr (fun i _ => Pr.tb_make h1.ug h1.ul h1.len hs i) j
theorem j0_bad {n g1 g2 s : Int} {l1 l2 : List Int} : Pr.stackyardlaw03_FactsApply.j0 1600 n s true g1 l1 g2 l2 = some true := by
  show Pr.stackyardlaw03_FactsApply.j0 (1599 + 1) n s true g1 l1 g2 l2 = some true
  simp only [Pr.stackyardlaw03_FactsApply.j0]
  rw [if_pos trivial, Pr.alive_f (by omega)]
  rfl
theorem pure (n g1 g2 s : Int) (l1 l2 : List Int) (hg1 : Pr.U g1) (hg2 : Pr.U g2) (hu1 : Pr.UL l1) (hu2 : Pr.UL l2) (h1 : l1.length ≤ 1000) (h2 : l2.length ≤ 1000) (hs : Pr.U s) : Pr.stackyardlaw03_FactsApply.f 1600 n g1 l1 g2 l2 s = some true := by
  unfold Pr.stackyardlaw03_FactsApply.f
  rw [Pr.good_f (by simp) (by simp [h1, h2]) (by omega)]
  simp only [Option.bind_some, List.all_cons, List.all_nil, Bool.and_true, Bool.and_eq_true, decide_eq_true_eq]
  by_cases hc : Pr.ckE n g1 l1 = 0 ∧ Pr.ckE n g2 l2 = 0
  · rw [if_pos hc]
    obtain ⟨c1, c2⟩ := hc
    obtain ⟨d, _, _⟩ := Pr.ckE_ok c1
    have hd : 0 ≤ n ∧ n ≤ 64 := by unfold Pr.outD at d; omega
    obtain ⟨m, rfl⟩ := Int.eq_ofNat_of_zero_le hd.1
    have t1 := Pr.Tr.of_ck c1 hg1 hu1
    have t2 := Pr.Tr.of_ck c2 hg2 hu2
    rw [Pr.inside_in hd.1 hd.2 (by omega)]
    simp only [Option.bind_some]
    by_cases hi : Go.bits .andNot .u64 s (fullI (m : Int)) = 0
    · rw [hi]; exact j0_good t1 t2 hs ((Pr.in_iff t1.le hs).1 hi)
    · rw [beq_false_of_ne hi]; exact j0_bad
  · rw [if_neg hc]; exact j0_bad
theorem contract (H : Type) (enc : TypeId × Value → H) (W : World) (base : Nat) (args : Array Value) (ds gs : List (DataW H)) (before : List MemPlace)
    (hval : ∀ (j : Nat) t v, Tryd.f6.params[j]? = some t → args[j]? = some v → Value.okWide Tryd.prog W .any base t v)
    (hW : DataW.Whole enc Tryd.prog Tryd.f6.params.toList Rows.factsApplySpec.vars false W args.toList ds gs before) (hL : laidMetH Tryd.prog Rows.factsApplyRow.laid W) :
    Calls Tryd.prog 6 args W fun e W' => ∃ v, e = .returned v ∧ Rows.factsApplySpec.post enc Tryd.prog Tryd.f6 false true false false W args v W' := by
  have hW' := hW
  obtain ⟨p, q, hA0, hV, rfl, hfz, hnd⟩ := hW
  have hA : DataW.TrodAll enc Tryd.prog W 0 (fun _ => true) true Tryd.f6.params.toList args.toList ds p := hA0
  rw [Tryd.params6] at hA hval
  obtain ⟨v0, vs0, d0, ds0, p0, q0, hargs, rfl, rfl, h0, r0⟩ := trodAll_cons hA
  obtain ⟨v1, vs1, d1, ds1, p1, q1, rfl, rfl, rfl, h1, r1⟩ := trodAll_cons r0
  obtain ⟨v2, vs2, d2, ds2, p2, q2, rfl, rfl, rfl, h2, r2⟩ := trodAll_cons r1
  obtain ⟨v3, vs3, d3, ds3, p3, q3, rfl, rfl, rfl, h3, r3⟩ := trodAll_cons r2
  obtain ⟨rfl, rfl, rfl⟩ := trodAll_nil r3
  obtain rfl : args = #[v0, v1, v2, v3] := by cases args; simp_all
  obtain ⟨rfl, rfl⟩ := trodVars_none hV
  obtain ⟨x0, rfl, rfl, rfl, w0⟩ := open_int Tryd.underlying3 (hval 0 3 v0 rfl rfl) h0
  obtain ⟨x3, rfl, rfl, rfl, w3⟩ := open_int Tryd.underlying22 (hval 3 22 v3 rfl rfl) h3
  have k1 := h1
  have lt1 : ∀ x ∈ p1, x.block < W.heap.size := by obtain ⟨m, hm⟩ := k1; exact DataW.trod_lt m _ _ _ hm
  have k2 := h2
  have lt2 : ∀ x ∈ p2, x.block < W.heap.size := by obtain ⟨m, hm⟩ := k2; exact DataW.trod_lt m _ _ _ hm
  obtain ⟨g1, A1, n1, c1, l1, rfl, ug1, ul1, e1, hc1, hb1, hr1⟩ := open_facts (hval 1 25 v1 rfl rfl) h1
  obtain ⟨g2, A2, n2, c2, l2, rfl, ug2, ul2, e2, hc2, hb2, hr2⟩ := open_facts (hval 2 25 v2 rfl rfl) h2
  clear hA0
  have t1 : (l1.take 100).length ≤ 100 := by rw [List.length_take]; omega
  have m1 : (l1.take 100).length = min n1 100 := by rw [List.length_take]; omega
  have tu1 : Pr.UL (l1.take 100) := fun x hx => ul1 x (List.mem_of_mem_take hx)
  have t2 : (l2.take 100).length ≤ 100 := by rw [List.length_take]; omega
  have m2 : (l2.take 100).length = min n2 100 := by rw [List.length_take]; omega
  have tu2 : Pr.UL (l2.take 100) := fun x hx => ul2 x (List.mem_of_mem_take hx)
  have hw := Pr.stackyardlaw03_FactsApply.calls 1600 x0 g1 (fun k => k < W.heap.size) A1 c1 (l1.take 100) g2 (fun k => k < W.heap.size) A2 c2 (l2.take 100) x3 true W (Kd.V_mk (by omega) (Kd.C_F (Kd.heap_int .u64) (C_take100 hr1))) (Kd.V_mk (by omega) (Kd.C_F (Kd.heap_int .u64) (C_take100 hr2))) n1 hc1 m1 hb1 n2 hc2 m2 hb2 (pure x0 g1 g2 x3 _ _ ug1 ug2 tu1 tu2 (by omega) (by omega) (wf_U w3)) (tab_of hL)
  refine hw.mono fun e W' ⟨he, bel⟩ => ?_
  subst he
  exact ⟨_, rfl, _, _, _, [], _, [], hW', trodAll_mk1 (shut_bool Tryd.underlying4 _),
    (trodAll_cons_mk (shut_int Tryd.underlying3 w0) (trodAll_cons_mk (Below.trod laidOut (by kernel_rfl) (of_decide_eq_true (by kernel_rfl)) k1 bel lt1) (trodAll_cons_mk (Below.trod laidOut (by kernel_rfl) (of_decide_eq_true (by kernel_rfl)) k2 bel lt2) (trodAll_cons_mk (shut_int Tryd.underlying22 w3) trodAll_mk0)))),
    rfl, bel.frame _, fun h => by cases h⟩
theorem laid_met (os : Os) : laidMet Tryd.prog Rows.factsApplyRow.laid ((laidWorld os).forCall (fun _ _ => 0) ⟨#[], #[.int .i64 0, .agg #[.int .u64 0, .slice none 0 0], .agg #[.int .u64 0, .slice none 0 0], .int .u64 0], []⟩).memory :=
  laidMet_of_run' 8 (by kernel_rfl) (by kernel_rfl)
theorem reads (os : Os) {H : Type} (enc : TypeId × Value → H) : ∃ places, DataW.whole enc Tryd.prog ((laidWorld os).forCall (fun _ _ => 0) ⟨#[], #[.int .i64 0, .agg #[.int .u64 0, .slice none 0 0], .agg #[.int .u64 0, .slice none 0 0], .int .u64 0], []⟩).memory Tryd.f6.params.toList Rows.factsApplySpec.vars false #[Value.int .i64 0, .agg #[.int .u64 0, .slice none 0 0], .agg #[.int .u64 0, .slice none 0 0], .int .u64 0].toList 8 = some ([.lit (.int .i64 0), .agg [.lit (.int .u64 0), .nil], .agg [.lit (.int .u64 0), .nil], .lit (.int .u64 0)], [], places) :=
  ⟨[], by kernel_rfl⟩
set_option maxRecDepth 100000 in
theorem lifted (os : Os) (started : os.Started) (H : Type) (enc : TypeId × Value → H) (F : Stop.Interp) :
    ReturnsInHanded {} Tryd.checked os 6 .any ((OpenSpec.ofChange Rows.factsApplySpec).preRow enc Tryd.prog Tryd.f6 Rows.factsApplyRow.domain false Rows.factsApplyRow.laid) (((OpenSpec.ofChange Rows.factsApplySpec).at F).post enc Tryd.prog Tryd.f6 false true false false) := by
  obtain ⟨places, hx⟩ := reads os enc
  refine returnsInHanded_of_row (C := Tryd.checked) (s := OpenSpec.ofChange Rows.factsApplySpec) own started (by kernel_rfl) Tryd.func6
    (witness_row_at (enc := enc) (C := Tryd.checked) false (laidWorld os) #[.int .i64 0, .agg #[.int .u64 0, .slice none 0 0], .agg #[.int .u64 0, .slice none 0 0], .int .u64 0] rfl (by kernel_rfl) (by kernel_rfl) (by kernel_rfl)
      (OpenSpec.preRow_of_cond 8 hx (by kernel_rfl) (fun k hk => by cases hk) (by kernel_rfl) (laid_met os))) ?_
  intro W base args ds gs before hval hW _ _ _ hL _ _
  exact contract H enc W base args ds gs before hval hW hL
theorem said : Rows.FactsApplySaid :=
  OpenClaim.holds_of_cond 6 Tryd.f6 rfl rfl rfl rfl rfl rfl rfl ⟨rfl, rfl, rfl, rfl, rfl⟩ rfl rfl rfl rfl rfl (by kernel_rfl) Tryd.func6 (by kernel_rfl)
    (of_decide_eq_true (by kernel_rfl)) (by unfold Func.isWrapper; first | (rw [if_pos (by decide +kernel)]; kernel_rfl) | (rw [if_neg (by decide +kernel)]; exact ⟨rfl, rfl⟩))
    (fun os started H enc _ F => by rw [OpenClaim.pre_eq_preRow]; exact lifted os started H enc F)
theorem plain (f : FuncId) (fn : Func) (hf : Tryd.pinned.checked.prog.funcNamed "stackyard/stackyardlaw03.FactsApply" = some f) (hfn : Tryd.pinned.checked.prog.funcs[f]? = some fn) :
    false = Tryd.pinned.checked.prog.looks [] ∧ ∀ (j : Nat) t, fn.params[j]? = some t → Tryd.pinned.checked.prog.wantsStandIn t = false := by
  obtain rfl : f = 6 := Option.some.inj ((show Tryd.prog.funcNamed "stackyard/stackyardlaw03.FactsApply" = some 6 by kernel_rfl).symm.trans hf) |>.symm
  obtain rfl : fn = Tryd.f6 := (Option.some.inj (Tryd.func6.symm.trans hfn)).symm
  refine ⟨by kernel_rfl, fun j t ht => ?_⟩
  rw [Tryd.params6] at ht
  have hm := Array.mem_of_getElem? ht
  simp only [List.mem_toArray, List.mem_cons, List.not_mem_nil, or_false] at hm
  have z3 : Tryd.prog.wantsStandIn 3 = false := by kernel_rfl
  have z25 : Tryd.prog.wantsStandIn 25 = false := by kernel_rfl
  have z22 : Tryd.prog.wantsStandIn 22 = false := by kernel_rfl
  rcases hm with rfl | rfl | rfl | rfl <;> first | exact z3 | exact z25 | exact z22
theorem card : Rows.FactsApplyCardSaid :=
  Claim7.holds_tied_plain_at .later [] _ _ _ _ said (fun _ h => by cases h) (by kernel_rfl) (fun _ h => by cases h) factsApply_row_tie rfl ⟨rfl, rfl⟩ (by kernel_rfl) rfl plain (by kernel_rfl)
#print axioms card
end Go.Proofs.YtnogmnmbakglcaaDoor.factsApply
namespace Go.Proofs.YtnogmnmbakglcaaDoor
theorem factsApply_holds : Rows.FactsApplyCardSaid := factsApply.card
end Go.Proofs.YtnogmnmbakglcaaDoor
