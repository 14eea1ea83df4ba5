import Derived.Test.YtapinbmkjkbkkaaTuTn
import Derived.Test.YtapinbmkjkbkkaaTuMa
namespace Go.Proofs.Ytapinbmkjkbkkaa.Mk
open Go.RowKit Go.Proofs.YtapinbmkjkbkkaaW.PrintWords Go.Proofs.YtapinbmkjkbkkaaW.PrintLast Go.Proofs.YtapinbmkjkbkkaaW.PrintMore Lb
set_option maxHeartbeats 1000000
set_option maxRecDepth 20000
structure UInv (w wr : World) (n5 : Nat) (a0 a1 a2 a3 : Int) (A : Option Addr) (c n : Nat) (v : Value) (xs : List S78) : Prop where
  b1 : wr.heap[w.heap.size]? = some (.cells #[.int .i64 a0, .int .i64 a1, .int .i64 a2, .int .i64 a3, .slice A n c] 31 (0, 0))
  b2 : wr.heap[w.heap.size + 1]? = some (.cells #[.int .i64 0, .int .i64 0, .int .i64 0, .int .i64 0, .slice none 0 0] 31 (0, 0))
  b5 : wr.heap[n5]? = some (.cells #[.int .i64 a0, .int .i64 a1, .int .i64 a3, .int .i64 a2, v] 31 (0, 0))
  own : Kd.R k78 78 wr w.heap.size (fun _ => True) v xs
  bl : Below w.heap.size w wr
theorem stackyardref08_Turn.walk (k : Nat) (a0_0 : Int) (a0_1 : Int) (a0_2 : Int) (a0_3 : Int) (A : Option Addr) (c : Nat) (l : List S78) (w : World) (hr : Kd.C k78 w A l.length l) (hc : l.length ≤ c) (hck : stackyardref08_Check.f k a0_0 a0_1 a0_2 a0_3 l = some 0) (hlen : l.length ≤ 65536) :
    Calls Try.prog 26 #[.agg #[.int .i64 a0_0, .int .i64 a0_1, .int .i64 a0_2, .int .i64 a0_3, .slice A l.length c]] w fun e w' => ∃ v, e = .returned (.tuple #[.agg #[.int .i64 a0_0, .int .i64 a0_1, .int .i64 a0_3, .int .i64 a0_2, v], .int .i64 0]) ∧ Kd.R k78 78 w' w.heap.size (fun _ => True) v (l.map swapA) ∧ Below w.heap.size w w' := by
  have hm : l.length ≤ 9223372036854775807 := hr.2.1
  have HR := Aside0.mk hr
  have HC := Aside0.mk hc
  have HCK := Aside0.mk hck
  have HLN := Aside0.mk hlen
  clear hr hc hck hlen
  have BX0 : Aside0 (((w.alloc (.cells #[.int .i64 a0_0, .int .i64 a0_1, .int .i64 a0_2, .int .i64 a0_3, .slice A l.length c] 31)).alloc (.cells #[.int .i64 0, .int .i64 0, .int .i64 0, .int .i64 0, .slice none 0 0] 31)).heap[w.heap.size]? = some (.cells #[.int .i64 a0_0, .int .i64 a0_1, .int .i64 a0_2, .int .i64 a0_3, .slice A l.length c] 31 (0, 0))) := ⟨blk_alloc (blk_new _ _) _⟩
  have BY0 : Aside0 (((w.alloc (.cells #[.int .i64 a0_0, .int .i64 a0_1, .int .i64 a0_2, .int .i64 a0_3, .slice A l.length c] 31)).alloc (.cells #[.int .i64 0, .int .i64 0, .int .i64 0, .int .i64 0, .slice none 0 0] 31)).heap[w.heap.size + 1]? = some (.cells #[.int .i64 0, .int .i64 0, .int .i64 0, .int .i64 0, .slice none 0 0] 31 (0, 0))) := ⟨by have e := blk_new (w.alloc (.cells #[.int .i64 a0_0, .int .i64 a0_1, .int .i64 a0_2, .int .i64 a0_3, .slice A l.length c] 31)) (.cells #[.int .i64 0, .int .i64 0, .int .i64 0, .int .i64 0, .slice none 0 0] 31); simpa using e⟩
  go_enter Try.func26, Try.ntmps26
  go_wp2_with (fail)
  go_at_call 32
  refine (stackyardref08_Check.calls k a0_0 a0_1 a0_2 a0_3 A c l 0 _ (Kd.C_below HR.out (below_alloc (below_alloc (Below.refl _ _) _) _)) HC.out HCK.out).mono ?_
  rintro e w1 ⟨rfl, hb1⟩
  have BX1 := Aside0.mk (blk_below BX0.out hb1)
  have BY1 := Aside0.mk (blk_below BY0.out hb1)
  have HB1 := Aside0.mk (below_then (below_alloc (below_alloc (Below.refl _ _) _) _) (by simp; omega) hb1)
  have HS1 : Aside0 (w.heap.size + 2 ≤ w1.heap.size) := ⟨blk_lt BY1.out⟩
  clear hb1 BX0 BY0
  have hx0 : w1.cell? ⟨w.heap.size, 0, none⟩ = some (.int .i64 a0_0) := (blk_cell BX1.out 0).trans rfl
  have hx1 : w1.cell? ⟨w.heap.size, 1, none⟩ = some (.int .i64 a0_1) := (blk_cell BX1.out 1).trans rfl
  have hx2 : w1.cell? ⟨w.heap.size, 2, none⟩ = some (.int .i64 a0_2) := (blk_cell BX1.out 2).trans rfl
  have hx3 : w1.cell? ⟨w.heap.size, 3, none⟩ = some (.int .i64 a0_3) := (blk_cell BX1.out 3).trans rfl
  have hx4 : w1.cell? ⟨w.heap.size, 4, none⟩ = some (.slice A l.length c) := (blk_cell BX1.out 4).trans rfl
  have hy2 : ∀ o : Obj, (w1.alloc o).cell? ⟨w.heap.size, 2, none⟩ = some (.int .i64 a0_2) := fun o => (blk_cell (blk_alloc BX1.out o) 2).trans rfl
  have hy3 : ∀ o : Obj, (w1.alloc o).cell? ⟨w.heap.size, 3, none⟩ = some (.int .i64 a0_3) := fun o => (blk_cell (blk_alloc BX1.out o) 3).trans rfl
  go_wp2
  go_region
  go_wp2
  have HT : Aside0 (UInv w (w1.alloc (.cells #[.int .i64 a0_0, .int .i64 a0_1, .int .i64 a0_3, .int .i64 a0_2, .slice none 0 0] 31)).drew w1.heap.size a0_0 a0_1 a0_2 a0_3 A c l.length (.slice none 0 0) ((l.take 0).map swapA)) := ⟨⟨blk_drew (blk_alloc BX1.out _), blk_drew (blk_alloc BY1.out _), blk_drew (blk_new _ _), Kd.R_nil _ _ _ _ _, below_drew1 (below_alloc HB1.out _)⟩⟩
  have HN5 := HS1
  clear BX1 BY1 HB1 HS1 hx0 hx1 hx2 hx3 hx4 hy2 hy3
  generalize w1.heap.size = n5 at HT HN5 ⊢
  go_loopw [6, 7] (fun v6 _ wr => ∃ (j : Nat) (v : Value), j ≤ l.length ∧ v6 = .int .i64 j ∧ Aside0 (UInv w wr n5 a0_0 a0_1 a0_2 a0_3 A c l.length v ((l.take j).map swapA))) (fun v6 _ _ => l.length - (intOf v6).toNat)
  case atStart => exact ⟨0, _, Nat.zero_le _, rfl, HT⟩
  case round =>
    obtain ⟨j, v, hj, rfl, HI⟩ := hrel
    clear HT
    have hb4 : wr.cell? ⟨w.heap.size, 4, none⟩ = some (.slice A l.length c) := (blk_cell HI.out.b1 4).trans rfl
    have hplen : ((l.take j).map swapA).length = j := by rw [List.length_map, List.length_take]; omega
    obtain ⟨A', c', rfl⟩ := Kd.R_slice HI.out.own
    rw [hplen] at HI
    by_cases hlt : j < l.length
    · obtain ⟨ad, rfl, hx0, hx1, hx2⟩ := at_T78 HR.out (j : Int) (by omega) (by omega)
      rw [Int.toNat_natCast] at hx0 hx1 hx2
      have hy0 := pw_cell_below HI.out.bl hx0
      have hy1 := pw_cell_below HI.out.bl hx1
      have hy2 := pw_cell_below HI.out.bl hx2
      have hxe : rd_T78 l (j : Int) = l[j] := by unfold rd_T78; simp [List.getElem?_eq_getElem hlt]
      clear hx0 hx1 hx2
      generalize rd_T78 l (j : Int) = x at hy0 hy1 hy2 hxe
      have HXE := Aside0.mk hxe
      clear hxe
      have hc5 : ∀ o : Obj, (wr.alloc o).cell? ⟨n5, 4, none⟩ = some (.slice A' j c') := fun o => (blk_cell (blk_alloc HI.out.b5 o) 4).trans rfl
      have HJ := Aside0.mk hlt
      go_wp2_with (at_builtin; refine Kd.R_append k78 (w0 := w) w.heap.size rfl (.tmp 35) (.tmp 43) 29 78 (.agg #[.int .i64 0, .int .i64 0, .int .i64 0]) 24 rfl Try.underlying29 info78 rfl (by decide) (by decide) _ ((l.take j).map swapA) ⟨x.f2, x.f1, x.f0⟩ [.int .i64 x.f2, .int .i64 x.f1, .int .i64 x.f0] (fun _ => True) (fun _ => False) rfl ?aX ?aP (fun _ hk => hk.elim) ?aF ?aO ?aB ?aS ?aL ?_; (case aX => first | rfl | (go_simp; done) | (go_simp; rfl));  (case aP => exact k78_mkM _ _ _ _); (case aF => exact (fun _ _ => trivial)); (case aO => exact Kd.R_alloc HI.out.own _); (case aB => exact below_alloc HI.out.bl _); (case aS => have := blk_lt (blk_alloc HI.out.b1 (.cells #[.int .i64 x.f0, .int .i64 x.f1, .int .i64 x.f2] 78)); omega); (case aL => have := HJ.out; have := HLN.out; rw [hplen]; omega); intro v1 w3 hR1 hb1 hg hat; obtain ⟨A1, c1, rfl⟩ := Kd.R_slice hR1; rw [List.length_append, List.length_singleton, hplen] at hR1; rw [List.length_append, List.length_singleton, hplen]; have HK1 := Aside0.mk (blk_grown (blk_alloc HI.out.b5 (.cells #[.int .i64 x.f0, .int .i64 x.f1, .int .i64 x.f2] 78)) hg (Kd.R_ne (Kd.R_alloc HI.out.own _) (blk_alloc HI.out.b5 (.cells #[.int .i64 x.f0, .int .i64 x.f1, .int .i64 x.f2] 78)) (by decide))); have HK2 := Aside0.mk (blk_grown (blk_alloc HI.out.b1 (.cells #[.int .i64 x.f0, .int .i64 x.f1, .int .i64 x.f2] 78)) hg (Kd.R_ne (Kd.R_alloc HI.out.own _) (blk_alloc HI.out.b1 (.cells #[.int .i64 x.f0, .int .i64 x.f1, .int .i64 x.f2] 78)) (by decide))); have HK3 := Aside0.mk (blk_grown (blk_alloc HI.out.b2 (.cells #[.int .i64 x.f0, .int .i64 x.f1, .int .i64 x.f2] 78)) hg (Kd.R_ne (Kd.R_alloc HI.out.own _) (blk_alloc HI.out.b2 (.cells #[.int .i64 x.f0, .int .i64 x.f1, .int .i64 x.f2] 78)) (by decide))); have HR1 := Aside0.mk hR1; have HB1 := Aside0.mk hb1; have hc1 : w3.frozen? ⟨n5, 4, none⟩ = false := blk_frozen HK1.out 4; have hc2 : w3.cell? ⟨n5, 4, none⟩ = some (.slice A' j c') := (blk_cell HK1.out 4).trans rfl; clear hR1 hb1 hg hat)
      go_roundw
      case rel =>
        have h5 := HN5.out
        have htake : (l.take (j + 1)).map swapA = (l.take j).map swapA ++ [⟨x.f2, x.f1, x.f0⟩] := by
          rw [List.take_succ_eq_append_getElem hlt, List.map_append, HXE.out]; rfl
        refine ⟨j + 1, .slice A1 (j + 1) c1, by omega, by go_num, ⟨?_⟩⟩
        rw [htake]
        exact ⟨blk_far HK2.out (show w.heap.size ≠ n5 by omega) _, blk_far HK3.out (show w.heap.size + 1 ≠ n5 by omega) _, blk_put HK1.out 4 _ rfl, Kd.R_mono (Kd.R_far (Kd.R_types HR1.out HK1.out (by decide)) (fun k hk => hk.2) _) (fun _ _ => trivial), below_set HB1.out (by omega)⟩
      case measure => simp [intOf]; omega
    · obtain rfl : j = l.length := by omega
      rw [List.take_length] at HI
      have h5 := HN5.out
      have hg0 : wr.cell? ⟨n5, 0, none⟩ = some (.int .i64 a0_0) := (blk_cell HI.out.b5 0).trans rfl
      have hg1 : wr.cell? ⟨n5, 1, none⟩ = some (.int .i64 a0_1) := (blk_cell HI.out.b5 1).trans rfl
      have hg2 : wr.cell? ⟨n5, 2, none⟩ = some (.int .i64 a0_3) := (blk_cell HI.out.b5 2).trans rfl
      have hg3 : wr.cell? ⟨n5, 3, none⟩ = some (.int .i64 a0_2) := (blk_cell HI.out.b5 3).trans rfl
      have hg4 : wr.cell? ⟨n5, 4, none⟩ = some (.slice A' l.length c') := (blk_cell HI.out.b5 4).trans rfl
      have hd0 : wr.cell? ⟨w.heap.size + 1, 0, none⟩ = some (.int .i64 0) := (blk_cell HI.out.b2 0).trans rfl
      have hd1 : wr.cell? ⟨w.heap.size + 1, 1, none⟩ = some (.int .i64 0) := (blk_cell HI.out.b2 1).trans rfl
      have hd2 : wr.cell? ⟨w.heap.size + 1, 2, none⟩ = some (.int .i64 0) := (blk_cell HI.out.b2 2).trans rfl
      have hd3 : wr.cell? ⟨w.heap.size + 1, 3, none⟩ = some (.int .i64 0) := (blk_cell HI.out.b2 3).trans rfl
      have hd4 : wr.cell? ⟨w.heap.size + 1, 4, none⟩ = some (.slice none 0 0) := (blk_cell HI.out.b2 4).trans rfl
      have hf0 := blk_frozen HI.out.b2 0
      have hf1 := blk_frozen HI.out.b2 1
      have hf2 := blk_frozen HI.out.b2 2
      have hf3 := blk_frozen HI.out.b2 3
      have hf4 := blk_frozen HI.out.b2 4
      go_wp2
      have hI := HI.out
      refine bodyPost_ret (v := .tuple #[.agg #[.int .i64 a0_0, .int .i64 a0_1, .int .i64 a0_3, .int .i64 a0_2, .slice A' l.length c'], .int .i64 0]) (by simp [results, Try.results26, go_sem, hd0, hd1, hd2, hd3, hd4]) rfl ⟨.slice A' l.length c', rfl, ?_, ?_⟩
      · refine ownArcs_R ?_
        have ho := ownArcs_of hI.own
        unfold OwnArcs at ho ⊢
        have hno : ∀ i : Nat, some (⟨w.heap.size + 1, i, none⟩ : Addr).block ≠ (Value.slice A' l.length c').ownBlock := fun i => Kd.R_ne hI.own hI.b2 (by decide)
        exact own_setCell (own_setCell (own_setCell (own_setCell (own_setCell ho (hno 0) (.int .i64 a0_0)) (hno 1) (.int .i64 a0_1)) (hno 2) (.int .i64 a0_3)) (hno 3) (.int .i64 a0_2)) (hno 4) (.slice A' l.length c')
      · exact below_set (below_set (below_set (below_set (below_set hI.bl (by omega)) (by omega)) (by omega)) (by omega)) (by omega)
theorem nfa_Turn.bad (a0_0 : Int) (a0_1 : Int) (a0_2 : Int) (a0_3 : Int) (A : Option Addr) (c : Nat) (l : List S78) (cc : Int) (w : World) (hr : Kd.C k78 w A l.length l) (hc : l.length ≤ c) (hck : nfa_Check.f a0_0 a0_1 a0_2 a0_3 l = some cc) (hcc : cc ≠ 0) :
    Calls Try.prog 25 #[.agg #[.int .i64 a0_0, .int .i64 a0_1, .int .i64 a0_2, .int .i64 a0_3, .slice A l.length c]] w fun e w' => ∃ v, e = .returned (.tuple #[.agg #[.int .i64 0, .int .i64 0, .int .i64 0, .int .i64 0, v], .int .i64 cc]) ∧ Kd.R k78 78 w' w.heap.size (fun _ => True) v [] ∧ Below w.heap.size w w' := by
  have HR := Aside0.mk hr
  have HC := Aside0.mk hc
  have HCK := Aside0.mk hck
  clear hr hc hck
  have BX0 : Aside0 (((w.alloc (.cells #[.int .i64 a0_0, .int .i64 a0_1, .int .i64 a0_2, .int .i64 a0_3, .slice A l.length c] 31)).alloc (.cells #[.int .i64 0, .int .i64 0, .int .i64 0, .int .i64 0, .slice none 0 0] 31)).heap[w.heap.size]? = some (.cells #[.int .i64 a0_0, .int .i64 a0_1, .int .i64 a0_2, .int .i64 a0_3, .slice A l.length c] 31 (0, 0))) := ⟨blk_alloc (blk_new _ _) _⟩
  have BY0 : Aside0 (((w.alloc (.cells #[.int .i64 a0_0, .int .i64 a0_1, .int .i64 a0_2, .int .i64 a0_3, .slice A l.length c] 31)).alloc (.cells #[.int .i64 0, .int .i64 0, .int .i64 0, .int .i64 0, .slice none 0 0] 31)).heap[w.heap.size + 1]? = some (.cells #[.int .i64 0, .int .i64 0, .int .i64 0, .int .i64 0, .slice none 0 0] 31 (0, 0))) := ⟨by have e := blk_new (w.alloc (.cells #[.int .i64 a0_0, .int .i64 a0_1, .int .i64 a0_2, .int .i64 a0_3, .slice A l.length c] 31)) (.cells #[.int .i64 0, .int .i64 0, .int .i64 0, .int .i64 0, .slice none 0 0] 31); simpa using e⟩
  go_enter Try.func25, Try.ntmps25
  go_wp2_with (fail)
  go_at_call 31
  refine (nfa_Check.calls a0_0 a0_1 a0_2 a0_3 A c l cc _ (Kd.C_below HR.out (below_alloc (below_alloc (Below.refl _ _) _) _)) HC.out HCK.out).mono ?_
  rintro e w1 ⟨rfl, hb1⟩
  have BY1 := Aside0.mk (blk_below BY0.out hb1)
  have HB1 := Aside0.mk (below_then (below_alloc (below_alloc (Below.refl _ _) _) _) (by simp; omega) hb1)
  clear hb1 BX0 BY0
  have hd0 : w1.cell? ⟨w.heap.size + 1, 0, none⟩ = some (.int .i64 0) := (blk_cell BY1.out 0).trans rfl
  have hd1 : w1.cell? ⟨w.heap.size + 1, 1, none⟩ = some (.int .i64 0) := (blk_cell BY1.out 1).trans rfl
  have hd2 : w1.cell? ⟨w.heap.size + 1, 2, none⟩ = some (.int .i64 0) := (blk_cell BY1.out 2).trans rfl
  have hd3 : w1.cell? ⟨w.heap.size + 1, 3, none⟩ = some (.int .i64 0) := (blk_cell BY1.out 3).trans rfl
  have hd4 : w1.cell? ⟨w.heap.size + 1, 4, none⟩ = some (.slice none 0 0) := (blk_cell BY1.out 4).trans rfl
  have hf0 := blk_frozen BY1.out 0
  have hf1 := blk_frozen BY1.out 1
  have hf2 := blk_frozen BY1.out 2
  have hf3 := blk_frozen BY1.out 3
  have hf4 := blk_frozen BY1.out 4
  have hne : (cc == 0) = false := by simpa using hcc
  go_wp2
  refine bodyPost_ret (v := .tuple #[.agg #[.int .i64 0, .int .i64 0, .int .i64 0, .int .i64 0, .slice none 0 0], .int .i64 cc]) (by simp [results, Try.results25, go_sem, hd0, hd1, hd2, hd3, hd4]) rfl ⟨.slice none 0 0, rfl, Kd.R_nil _ _ _ _ _, ?_⟩
  exact below_set (below_set (below_set (below_set (below_set HB1.out (by omega)) (by omega)) (by omega)) (by omega)) (by omega)
theorem stackyardref08_Turn.bad (k : Nat) (a0_0 : Int) (a0_1 : Int) (a0_2 : Int) (a0_3 : Int) (A : Option Addr) (c : Nat) (l : List S78) (cc : Int) (w : World) (hr : Kd.C k78 w A l.length l) (hc : l.length ≤ c) (hck : stackyardref08_Check.f k a0_0 a0_1 a0_2 a0_3 l = some cc) (hcc : cc ≠ 0) :
    Calls Try.prog 26 #[.agg #[.int .i64 a0_0, .int .i64 a0_1, .int .i64 a0_2, .int .i64 a0_3, .slice A l.length c]] w fun e w' => ∃ v, e = .returned (.tuple #[.agg #[.int .i64 0, .int .i64 0, .int .i64 0, .int .i64 0, v], .int .i64 cc]) ∧ Kd.R k78 78 w' w.heap.size (fun _ => True) v [] ∧ Below w.heap.size w w' := by
  have HR := Aside0.mk hr
  have HC := Aside0.mk hc
  have HCK := Aside0.mk hck
  clear hr hc hck
  have BX0 : Aside0 (((w.alloc (.cells #[.int .i64 a0_0, .int .i64 a0_1, .int .i64 a0_2, .int .i64 a0_3, .slice A l.length c] 31)).alloc (.cells #[.int .i64 0, .int .i64 0, .int .i64 0, .int .i64 0, .slice none 0 0] 31)).heap[w.heap.size]? = some (.cells #[.int .i64 a0_0, .int .i64 a0_1, .int .i64 a0_2, .int .i64 a0_3, .slice A l.length c] 31 (0, 0))) := ⟨blk_alloc (blk_new _ _) _⟩
  have BY0 : Aside0 (((w.alloc (.cells #[.int .i64 a0_0, .int .i64 a0_1, .int .i64 a0_2, .int .i64 a0_3, .slice A l.length c] 31)).alloc (.cells #[.int .i64 0, .int .i64 0, .int .i64 0, .int .i64 0, .slice none 0 0] 31)).heap[w.heap.size + 1]? = some (.cells #[.int .i64 0, .int .i64 0, .int .i64 0, .int .i64 0, .slice none 0 0] 31 (0, 0))) := ⟨by have e := blk_new (w.alloc (.cells #[.int .i64 a0_0, .int .i64 a0_1, .int .i64 a0_2, .int .i64 a0_3, .slice A l.length c] 31)) (.cells #[.int .i64 0, .int .i64 0, .int .i64 0, .int .i64 0, .slice none 0 0] 31); simpa using e⟩
  go_enter Try.func26, Try.ntmps26
  go_wp2_with (fail)
  go_at_call 32
  refine (stackyardref08_Check.calls k a0_0 a0_1 a0_2 a0_3 A c l cc _ (Kd.C_below HR.out (below_alloc (below_alloc (Below.refl _ _) _) _)) HC.out HCK.out).mono ?_
  rintro e w1 ⟨rfl, hb1⟩
  have BY1 := Aside0.mk (blk_below BY0.out hb1)
  have HB1 := Aside0.mk (below_then (below_alloc (below_alloc (Below.refl _ _) _) _) (by simp; omega) hb1)
  clear hb1 BX0 BY0
  have hd0 : w1.cell? ⟨w.heap.size + 1, 0, none⟩ = some (.int .i64 0) := (blk_cell BY1.out 0).trans rfl
  have hd1 : w1.cell? ⟨w.heap.size + 1, 1, none⟩ = some (.int .i64 0) := (blk_cell BY1.out 1).trans rfl
  have hd2 : w1.cell? ⟨w.heap.size + 1, 2, none⟩ = some (.int .i64 0) := (blk_cell BY1.out 2).trans rfl
  have hd3 : w1.cell? ⟨w.heap.size + 1, 3, none⟩ = some (.int .i64 0) := (blk_cell BY1.out 3).trans rfl
  have hd4 : w1.cell? ⟨w.heap.size + 1, 4, none⟩ = some (.slice none 0 0) := (blk_cell BY1.out 4).trans rfl
  have hf0 := blk_frozen BY1.out 0
  have hf1 := blk_frozen BY1.out 1
  have hf2 := blk_frozen BY1.out 2
  have hf3 := blk_frozen BY1.out 3
  have hf4 := blk_frozen BY1.out 4
  have hne : (cc == 0) = false := by simpa using hcc
  go_wp2
  refine bodyPost_ret (v := .tuple #[.agg #[.int .i64 0, .int .i64 0, .int .i64 0, .int .i64 0, .slice none 0 0], .int .i64 cc]) (by simp [results, Try.results26, go_sem, hd0, hd1, hd2, hd3, hd4]) rfl ⟨.slice none 0 0, rfl, Kd.R_nil _ _ _ _ _, ?_⟩
  exact below_set (below_set (below_set (below_set (below_set HB1.out (by omega)) (by omega)) (by omega)) (by omega)) (by omega)
theorem check_len {a0_0 a0_1 a0_2 a0_3 : Int} {l : List S78} (h : nfa_Check.f a0_0 a0_1 a0_2 a0_3 l = some 0) : l.length ≤ 65536 := by
  unfold nfa_Check.f at h
  by_cases q : 65536 < l.length
  · rw [if_pos q] at h; exact absurd h (by decide)
  · omega
theorem nfa_Turn.calls (a0_0 : Int) (a0_1 : Int) (a0_2 : Int) (a0_3 : Int) (A0_4 : Option Addr) (c0_4 : Nat) (l0_4 : List S78) (r1 r2 r3 r4 : Int) (r5 : List S78) (r6 : Int) (w : World) (hr0_4 : Kd.C k78 w A0_4 l0_4.length l0_4) (hc0_4 : l0_4.length ≤ c0_4) (h : nfa_Turn.f a0_0 a0_1 a0_2 a0_3 l0_4 = some (r1, r2, r3, r4, r5, r6)) :
    Calls Try.prog 25 #[.agg #[.int .i64 a0_0, .int .i64 a0_1, .int .i64 a0_2, .int .i64 a0_3, .slice A0_4 l0_4.length c0_4]] w fun e w' => ∃ v, e = .returned (.tuple #[.agg #[.int .i64 r1, .int .i64 r2, .int .i64 r3, .int .i64 r4, v], .int .i64 r6]) ∧ Kd.R k78 78 w' w.heap.size (fun _ => True) v r5 ∧ Below w.heap.size w w' := by
  unfold nfa_Turn.f at h
  obtain ⟨cc, hcc, h0⟩ := Option.bind_eq_some_iff.mp h
  have h1 := Option.some.inj h0
  by_cases hz : cc = 0
  · subst hz
    rw [if_pos rfl] at h1
    obtain ⟨rfl, rfl, rfl, rfl, rfl, rfl⟩ : a0_0 = r1 ∧ a0_1 = r2 ∧ a0_3 = r3 ∧ a0_2 = r4 ∧ l0_4.map swapA = r5 ∧ (0 : Int) = r6 := by simpa [Prod.mk.injEq] using h1
    have hl := check_len hcc
    exact nfa_Turn.walk a0_0 a0_1 a0_2 a0_3 A0_4 c0_4 l0_4 w hr0_4 hc0_4 hcc (by unfold api_Arc.f; rw [Option.bind_some]; simp; omega)
  · rw [if_neg hz] at h1
    obtain ⟨rfl, rfl, rfl, rfl, rfl, rfl⟩ : (0 : Int) = r1 ∧ (0 : Int) = r2 ∧ (0 : Int) = r3 ∧ (0 : Int) = r4 ∧ ([] : List S78) = r5 ∧ cc = r6 := by simpa [Prod.mk.injEq] using h1
    exact nfa_Turn.bad a0_0 a0_1 a0_2 a0_3 A0_4 c0_4 l0_4 cc w hr0_4 hc0_4 hcc hz
def stackyardref08_Turn.f (k : Nat) (a0_0 a0_1 a0_2 a0_3 : Int) (l : List S78) : Option (Int × Int × Int × Int × List S78 × Int) :=
  (stackyardref08_Check.f k a0_0 a0_1 a0_2 a0_3 l).bind fun c => if c = 0 then (if l.length ≤ 65536 then some (a0_0, a0_1, a0_3, a0_2, l.map swapA, 0) else none) else some (0, 0, 0, 0, [], c)
theorem stackyardref08_Turn.mono : ∀ a0 a1 a2 a3 a4 k, LeO (stackyardref08_Turn.f k a0 a1 a2 a3 a4) (stackyardref08_Turn.f (k + 1) a0 a1 a2 a3 a4) := by
  intro a0 a1 a2 a3 a4 k
  unfold stackyardref08_Turn.f
  exact LeO.bind (stackyardref08_Check.mono _ _ _ _ _ _) (fun _ => LeO.refl _)
theorem stackyardref08_Turn.calls (k : Nat) (a0_0 : Int) (a0_1 : Int) (a0_2 : Int) (a0_3 : Int) (A0_4 : Option Addr) (c0_4 : Nat) (l0_4 : List S78) (r1 r2 r3 r4 : Int) (r5 : List S78) (r6 : Int) (w : World) (hr0_4 : Kd.C k78 w A0_4 l0_4.length l0_4) (hc0_4 : l0_4.length ≤ c0_4) (h : stackyardref08_Turn.f k a0_0 a0_1 a0_2 a0_3 l0_4 = some (r1, r2, r3, r4, r5, r6)) :
    Calls Try.prog 26 #[.agg #[.int .i64 a0_0, .int .i64 a0_1, .int .i64 a0_2, .int .i64 a0_3, .slice A0_4 l0_4.length c0_4]] w fun e w' => ∃ v, e = .returned (.tuple #[.agg #[.int .i64 r1, .int .i64 r2, .int .i64 r3, .int .i64 r4, v], .int .i64 r6]) ∧ Kd.R k78 78 w' w.heap.size (fun _ => True) v r5 ∧ Below w.heap.size w w' := by
  unfold stackyardref08_Turn.f at h
  obtain ⟨cc, hcc, h1⟩ := Option.bind_eq_some_iff.mp h
  by_cases hz : cc = 0
  · subst hz
    rw [if_pos rfl] at h1
    by_cases hl : l0_4.length ≤ 65536
    · rw [if_pos hl] at h1
      have h1 := Option.some.inj h1
      obtain ⟨rfl, rfl, rfl, rfl, rfl, rfl⟩ : a0_0 = r1 ∧ a0_1 = r2 ∧ a0_3 = r3 ∧ a0_2 = r4 ∧ l0_4.map swapA = r5 ∧ (0 : Int) = r6 := by simpa [Prod.mk.injEq] using h1
      exact stackyardref08_Turn.walk k a0_0 a0_1 a0_2 a0_3 A0_4 c0_4 l0_4 w hr0_4 hc0_4 hcc hl
    · rw [if_neg hl] at h1; cases h1
  · rw [if_neg hz] at h1
    have h1 := Option.some.inj h1
    obtain ⟨rfl, rfl, rfl, rfl, rfl, rfl⟩ : (0 : Int) = r1 ∧ (0 : Int) = r2 ∧ (0 : Int) = r3 ∧ (0 : Int) = r4 ∧ ([] : List S78) = r5 ∧ cc = r6 := by simpa [Prod.mk.injEq] using h1
    exact stackyardref08_Turn.bad k a0_0 a0_1 a0_2 a0_3 A0_4 c0_4 l0_4 cc w hr0_4 hc0_4 hcc hz
end Go.Proofs.Ytapinbmkjkbkkaa.Mk
