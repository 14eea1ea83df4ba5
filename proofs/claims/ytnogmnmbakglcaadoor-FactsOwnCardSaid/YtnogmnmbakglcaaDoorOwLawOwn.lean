/- FactsOwn: for every input that its row lets in, the law that shows that answers are new memory returns true, and each argument reads afterwards as it read before.
   Conditions: those of the given row alone (a card, tied to the program's text by the given tie); no further one. -/
import Derived.Test.YtnogmnmbakglcaaDoorOwOp
import Derived.Test.YtnogmnmbakglcaaDoorOwPn
import Derived.Test.YtnogmnmbakglcaaDoorOwOwnWalk
namespace Go.Proofs.YtnogmnmbakglcaaDoor.factsOwn
open Go.ChangeShapes Go.WideShapes Go.ChangeAt Go.RowKit Go.Joins Go.Proofs.YtnogmnmbakglcaaDoorW.PrintWords Go.Proofs.YtnogmnmbakglcaaDoorW.PrintLast Go.Proofs.YtnogmnmbakglcaaDoorW.PrintMore
theorem own_l0 {n g1 g2 : Int} {l1 l2 : List Int} (h1 : l1.length ≤ 1000) (h2 : l2.length ≤ 1000) : ∀ (d i k : Nat) (m : List Int), m.length - i = d → i ≤ m.length → m.length ≤ 1000 → d + 1600 < k →
    Pr.stackyardlaw03_FactsOwn.l0 k n (m.length : Int) (i : Int) g1 l1 g2 l2 g1 m (Pr.coE n g1 l1 g2 l2).1 (Pr.coE n g1 l1 g2 l2).2.1 (Pr.caE n g1 l1).1 (Pr.caE n g1 l1).2.1 = some true := by
  intro d
  induction d with
  | zero =>
    intro i k m hd hi hm hk
    obtain ⟨k, rfl⟩ : ∃ q, k = q + 1 := ⟨k - 1, by omega⟩
    simp only [Pr.stackyardlaw03_FactsOwn.l0]
    rw [if_neg (by omega), Pr.rcombine_f h1 h2 (by omega), Pr.rCanon_f h1 (by omega)]
    simp only [Option.bind_some]
    rw [Pr.rsame_f (Pr.coE_len h1) (by omega), Pr.rsame_f (Pr.caE_len h1) (by omega), Pr.alive_f (by omega)]
    simp
  | succ d ih =>
    intro i k m hd hi hm hk
    obtain ⟨k, rfl⟩ : ∃ q, k = q + 1 := ⟨k - 1, by omega⟩
    simp only [Pr.stackyardlaw03_FactsOwn.l0]
    rw [if_pos (by omega), if_pos (by omega), if_pos (by omega), Pr.w_step (by omega) (by omega), show ((i : Int) + 1) = ((i + 1 : Nat) : Int) by push_cast; rfl]
    have hs : (m.set (i : Int).toNat (Go.bits .xor .u64 18446744073709551615 (rd m (i : Int)))).length = m.length := List.length_set
    have := ih (i + 1) k (m.set (i : Int).toNat (Go.bits .xor .u64 18446744073709551615 (rd m (i : Int)))) (by rw [hs]; omega) (by rw [hs]; omega) (by rw [hs]; omega) (by omega)
    rw [hs] at this
    exact this
theorem pure_at (n g1 g2 : Int) (l1 l2 : List Int) (h1 : l1.length ≤ 1000) (h2 : l2.length ≤ 1000) (k : Nat) (hk : 2700 < k) : Pr.stackyardlaw03_FactsOwn.f k n g1 l1 g2 l2 = some true := by
  have h := own_l0 (n := n) (g1 := g1) (g2 := g2) (l1 := l1) (l2 := l2) h1 h2 l1.length 0 k l1 rfl (Nat.zero_le _) h1 (by omega)
  rw [show (((0 : Nat)) : Int) = 0 from rfl] at h
  unfold Pr.stackyardlaw03_FactsOwn.f
  simp only [Option.bind_some, List.nil_append, List.length_nil]
  rw [if_pos (by omega), Pr.combine_f h1 h2 (by omega), Pr.Canon_f h1 (by omega)]
  simp only [Option.bind_some]
  exact h
theorem pure (n g1 g2 : Int) (l1 l2 : List Int) (h1 : l1.length ≤ 1000) (h2 : l2.length ≤ 1000) : Pr.stackyardlaw03_FactsOwn.f 3000 n g1 l1 g2 l2 = some true :=
  pure_at n g1 g2 l1 l2 h1 h2 3000 (by omega)
theorem contract (H : Type) (enc : TypeId × Value → H) (W : World) (base : Nat) (args : Array Value) (ds gs : List (DataW H)) (before : List MemPlace)
    (hval : ∀ (j : Nat) t v, Tryd.f4.params[j]? = some t → args[j]? = some v → Value.okWide Tryd.prog W .any base t v)
    (hW : DataW.Whole enc Tryd.prog Tryd.f4.params.toList Rows.factsOwnSpec.vars false W args.toList ds gs before) (hL : laidMetH Tryd.prog Rows.factsOwnRow.laid W) :
    Calls Tryd.prog 4 args W fun e W' => ∃ v, e = .returned v ∧ Rows.factsOwnSpec.post enc Tryd.prog Tryd.f4 false true false false W args v W' := by
  have hW' := hW
  obtain ⟨p, q, hA0, hV, rfl, hfz, hnd⟩ := hW
  have hA : DataW.TrodAll enc Tryd.prog W 0 (fun _ => true) true Tryd.f4.params.toList args.toList ds p := hA0
  rw [Tryd.params4] at hA hval
  obtain ⟨v0, vs0, d0, ds0, p0, q0, hargs, rfl, rfl, h0, r0⟩ := trodAll_cons hA
  obtain ⟨v1, vs1, d1, ds1, p1, q1, rfl, rfl, rfl, h1, r1⟩ := trodAll_cons r0
  obtain ⟨v2, vs2, d2, ds2, p2, q2, rfl, rfl, rfl, h2, r2⟩ := trodAll_cons r1
  obtain ⟨rfl, rfl, rfl⟩ := trodAll_nil r2
  obtain rfl : args = #[v0, v1, v2] := by cases args; simp_all
  obtain ⟨rfl, rfl⟩ := trodVars_none hV
  obtain ⟨x0, rfl, rfl, rfl, w0⟩ := open_int Tryd.underlying3 (hval 0 3 v0 rfl rfl) h0
  have k1 := h1
  have lt1 : ∀ x ∈ p1, x.block < W.heap.size := by obtain ⟨m, hm⟩ := k1; exact DataW.trod_lt m _ _ _ hm
  have k2 := h2
  have lt2 : ∀ x ∈ p2, x.block < W.heap.size := by obtain ⟨m, hm⟩ := k2; exact DataW.trod_lt m _ _ _ hm
  obtain ⟨g1, A1, n1, c1, l1, rfl, ug1, ul1, e1, hc1, hb1, hr1⟩ := open_facts (hval 1 25 v1 rfl rfl) h1
  obtain ⟨g2, A2, n2, c2, l2, rfl, ug2, ul2, e2, hc2, hb2, hr2⟩ := open_facts (hval 2 25 v2 rfl rfl) h2
  clear hA0
  have t1 : (l1.take 100).length ≤ 100 := by rw [List.length_take]; omega
  have m1 : (l1.take 100).length = min n1 100 := by rw [List.length_take]; omega
  have tu1 : Pr.UL (l1.take 100) := fun x hx => ul1 x (List.mem_of_mem_take hx)
  have t2 : (l2.take 100).length ≤ 100 := by rw [List.length_take]; omega
  have m2 : (l2.take 100).length = min n2 100 := by rw [List.length_take]; omega
  have tu2 : Pr.UL (l2.take 100) := fun x hx => ul2 x (List.mem_of_mem_take hx)
  have hw := Pr.stackyardlaw03_FactsOwn.calls 3000 x0 g1 A1 c1 (l1.take 100) g2 A2 c2 (l2.take 100) true W (C_take100 hr1) (by omega) (C_take100 hr2) (by omega) n1 hc1 m1 hb1 n2 hc2 m2 hb2 (pure x0 g1 g2 _ _ (by omega) (by omega)) (tab_of hL)
  refine hw.mono fun e W' ⟨he, bel⟩ => ?_
  subst he
  exact ⟨_, rfl, _, _, _, [], _, [], hW', trodAll_mk1 (shut_bool Tryd.underlying4 _),
    (trodAll_cons_mk (shut_int Tryd.underlying3 w0) (trodAll_cons_mk (Below.trod laidOut (by kernel_rfl) (of_decide_eq_true (by kernel_rfl)) k1 bel lt1) (trodAll_cons_mk (Below.trod laidOut (by kernel_rfl) (of_decide_eq_true (by kernel_rfl)) k2 bel lt2) trodAll_mk0))),
    rfl, bel.frame _, fun h => by cases h⟩
theorem laid_met (os : Os) : laidMet Tryd.prog Rows.factsOwnRow.laid ((laidWorld os).forCall (fun _ _ => 0) ⟨#[], #[.int .i64 0, .agg #[.int .u64 0, .slice none 0 0], .agg #[.int .u64 0, .slice none 0 0]], []⟩).memory :=
  laidMet_of_run' 8 (by kernel_rfl) (by kernel_rfl)
theorem reads (os : Os) {H : Type} (enc : TypeId × Value → H) : ∃ places, DataW.whole enc Tryd.prog ((laidWorld os).forCall (fun _ _ => 0) ⟨#[], #[.int .i64 0, .agg #[.int .u64 0, .slice none 0 0], .agg #[.int .u64 0, .slice none 0 0]], []⟩).memory Tryd.f4.params.toList Rows.factsOwnSpec.vars false #[Value.int .i64 0, .agg #[.int .u64 0, .slice none 0 0], .agg #[.int .u64 0, .slice none 0 0]].toList 8 = some ([.lit (.int .i64 0), .agg [.lit (.int .u64 0), .nil], .agg [.lit (.int .u64 0), .nil]], [], places) :=
  ⟨[], by kernel_rfl⟩
set_option maxRecDepth 100000 in
theorem lifted (os : Os) (started : os.Started) (H : Type) (enc : TypeId × Value → H) (F : Stop.Interp) :
    ReturnsInHanded {} Tryd.checked os 4 .any ((OpenSpec.ofChange Rows.factsOwnSpec).preRow enc Tryd.prog Tryd.f4 Rows.factsOwnRow.domain false Rows.factsOwnRow.laid) (((OpenSpec.ofChange Rows.factsOwnSpec).at F).post enc Tryd.prog Tryd.f4 false true false false) := by
  obtain ⟨places, hx⟩ := reads os enc
  refine returnsInHanded_of_row (C := Tryd.checked) (s := OpenSpec.ofChange Rows.factsOwnSpec) own started (by kernel_rfl) Tryd.func4
    (witness_row_at (enc := enc) (C := Tryd.checked) false (laidWorld os) #[.int .i64 0, .agg #[.int .u64 0, .slice none 0 0], .agg #[.int .u64 0, .slice none 0 0]] rfl (by kernel_rfl) (by kernel_rfl) (by kernel_rfl)
      (OpenSpec.preRow_of_cond 8 hx (by kernel_rfl) (fun k hk => by cases hk) (by kernel_rfl) (laid_met os))) ?_
  intro W base args ds gs before hval hW _ _ _ hL _ _
  exact contract H enc W base args ds gs before hval hW hL
theorem said : Rows.FactsOwnSaid :=
  OpenClaim.holds_of_cond 4 Tryd.f4 rfl rfl rfl rfl rfl rfl rfl ⟨rfl, rfl, rfl, rfl, rfl⟩ rfl rfl rfl rfl rfl (by kernel_rfl) Tryd.func4 (by kernel_rfl)
    (of_decide_eq_true (by kernel_rfl)) (by unfold Func.isWrapper; first | (rw [if_pos (by decide +kernel)]; kernel_rfl) | (rw [if_neg (by decide +kernel)]; exact ⟨rfl, rfl⟩))
    (fun os started H enc _ F => by rw [OpenClaim.pre_eq_preRow]; exact lifted os started H enc F)
theorem plain (f : FuncId) (fn : Func) (hf : Tryd.pinned.checked.prog.funcNamed "stackyard/stackyardlaw03.FactsOwn" = some f) (hfn : Tryd.pinned.checked.prog.funcs[f]? = some fn) :
    false = Tryd.pinned.checked.prog.looks [] ∧ ∀ (j : Nat) t, fn.params[j]? = some t → Tryd.pinned.checked.prog.wantsStandIn t = false := by
  obtain rfl : f = 4 := Option.some.inj ((show Tryd.prog.funcNamed "stackyard/stackyardlaw03.FactsOwn" = some 4 by kernel_rfl).symm.trans hf) |>.symm
  obtain rfl : fn = Tryd.f4 := (Option.some.inj (Tryd.func4.symm.trans hfn)).symm
  refine ⟨by kernel_rfl, fun j t ht => ?_⟩
  rw [Tryd.params4] at ht
  have hm := Array.mem_of_getElem? ht
  simp only [List.mem_toArray, List.mem_cons, List.not_mem_nil, or_false] at hm
  have z3 : Tryd.prog.wantsStandIn 3 = false := by kernel_rfl
  have z25 : Tryd.prog.wantsStandIn 25 = false := by kernel_rfl
  rcases hm with rfl | rfl | rfl <;> first | exact z3 | exact z25
theorem card : Rows.FactsOwnCardSaid :=
  Claim7.holds_tied_plain_at .later [] _ _ _ _ said (fun _ h => by cases h) (by kernel_rfl) (fun _ h => by cases h) factsOwn_row_tie rfl ⟨rfl, rfl⟩ (by kernel_rfl) rfl plain (by kernel_rfl)
#print axioms card
end Go.Proofs.YtnogmnmbakglcaaDoor.factsOwn
namespace Go.Proofs.YtnogmnmbakglcaaDoor
theorem factsOwn_holds : Rows.FactsOwnCardSaid := factsOwn.card
end Go.Proofs.YtnogmnmbakglcaaDoor
