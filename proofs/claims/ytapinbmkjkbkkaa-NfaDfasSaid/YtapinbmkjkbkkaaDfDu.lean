import Derived.Test.YtapinbmkjkbkkaaDfPe
import Derived.Test.YtapinbmkjkbkkaaDfLbx19
import Derived.Test.YtapinbmkjkbkkaaDfLbx20
import Derived.Test.YtapinbmkjkbkkaaDfLbe
import Derived.Test.YtapinbmkjkbkkaaDfP4
import Derived.RegionTactic
import Derived.Deep.RegionLaw
import Derived.Lib.SmallJoins
import Derived.Laws.IdiomCopy
import Derived.Test.YtapinbmkjkbkkaaDfLbx4
import Derived.Laws.EntriesVeiled
namespace Go.Proofs.Ytapinbmkjkbkkaa.Pu
open Go.RowKit Go.Proofs.YtapinbmkjkbkkaaW.PrintWords Go.Proofs.YtapinbmkjkbkkaaW.PrintLast Go.Proofs.YtapinbmkjkbkkaaW.PrintMore Lb Mk
theorem same_dfa_l0 {x : Int} {n : List (List Int)} {a : List Bool} (ha : a.length = n.length) (hn : n.length ≤ 1024) (hr : ∀ q, q < n.length → (n.getD q []).length ≤ 4096) : ∀ (d i : Nat), n.length - i = d → i ≤ n.length → ∀ k, d + 5000 < k → stackyardlaw08_same.l0 k (i : Int) x n a x n a = some true := by
  intro d
  induction d with
  | zero =>
    intro i hd hi k hk
    obtain ⟨k, rfl⟩ : ∃ q, k = q + 1 := ⟨k - 1, by omega⟩
    simp only [stackyardlaw08_same.l0]
    rw [if_neg (by omega)]
  | succ d ih =>
    intro i hd hi k hk
    obtain ⟨k, rfl⟩ : ∃ q, k = q + 1 := ⟨k - 1, by omega⟩
    have e1 : rd_L8 n (i : Int) = n.getD i [] := by unfold rd_L8; rw [Int.toNat_natCast]
    have hri := hr i (by omega)
    have hnum : stackyardref08_Numbers.f k (n.getD i []) (n.getD i []) = some true := by
      unfold stackyardref08_Numbers.f
      rw [if_pos rfl]
      exact numbers_l0 (by omega) _ 0 rfl (by omega) k (by omega)
    simp only [stackyardlaw08_same.l0]
    rw [if_pos (by omega), if_pos (by omega), if_pos (by omega), e1, hnum, Option.bind_some, if_pos rfl, if_neg (by omega), if_pos (by omega), if_pos (by omega), if_neg (by simp), wrap1 (by omega)]
    exact ih (i + 1) (by omega) (by omega) k (by omega)
theorem same_dfa {x : Int} {n : List (List Int)} {a : List Bool} (ha : a.length = n.length) (hn : n.length ≤ 1024) (hr : ∀ q, q < n.length → (n.getD q []).length ≤ 4096) : ∀ k, 7000 < k → stackyardlaw08_same.f k x n a x n a = some true := by
  intro k hk
  obtain ⟨k, rfl⟩ : ∃ q, k = q + 1 := ⟨k - 1, by omega⟩
  unfold stackyardlaw08_same.f
  rw [if_pos rfl, if_pos rfl]
  simp only [stackyardlaw08_same.j0]
  rw [if_neg (by simp)]
  exact same_dfa_l0 ha hn hr n.length 0 rfl (Nat.zero_le _) k (by omega)
section
variable {m ns : Nat} {s e : Nat} {l : List S78}
theorem rows_len {bs : List (List Bool)} {n : List (List Int)} {a : List Bool} (h : Rows m ns e l bs n a) (hns : ns ≤ 4096) : ∀ q, q < n.length → (n.getD q []).length ≤ 4096 := fun q hq => by
  obtain ⟨row, h1, h2, _⟩ := h q hq
  rw [List.getD_eq_getElem?_getD, h1]
  simpa [h2] using hns
theorem runs_l0 {bs : List (List Bool)} {n : List (List Int)} {a : List Bool} (h : Rows m ns e l bs n a) (hlen : n.length = bs.length) (hal : a.length = n.length) {w : List Int} (hw : w.length < 4611686018427387904) (hok : okS ns w = true) {x : Int} : ∀ (d i p : Nat) (b b' : List Bool), w.length - i = d → i ≤ w.length → bs[p]? = some b → Walk m l b (w.drop i) b' → ∀ k, d < k →
    stackyardlaw08_runs.l0 k w (p : Int) (i : Int) x n a = some (b'.getD e false) := by
  intro d
  induction d with
  | zero =>
    intro i p b b' hd hi hp hW k hk
    obtain ⟨k, rfl⟩ : ∃ q, k = q + 1 := ⟨k - 1, by omega⟩
    obtain ⟨hpl, _⟩ := List.getElem?_eq_some_iff.mp hp
    rw [List.drop_eq_nil_of_le (by omega)] at hW
    cases hW
    obtain ⟨row, h1, h2, h3, h4⟩ := h p (by omega)
    have e1 : rdOf false a (p : Int) = b.getD e false := by
      unfold rdOf
      rw [Int.toNat_natCast, List.getD_eq_getElem?_getD, h4, List.getD_eq_getElem?_getD (l := bs), hp]
      rfl
    simp only [stackyardlaw08_runs.l0]
    rw [if_neg (by omega), if_pos (by omega), if_pos (by omega), e1]
  | succ d ih =>
    intro i p b b' hd hi hp hW k hk
    obtain ⟨k, rfl⟩ : ∃ q, k = q + 1 := ⟨k - 1, by omega⟩
    obtain ⟨hpl, _⟩ := List.getElem?_eq_some_iff.mp hp
    have hlt : i < w.length := by omega
    rw [List.drop_eq_getElem_cons hlt] at hW
    cases hW with
    | @cons _ _ _ b1 _ hBy hl1 hW1 =>
    obtain ⟨row, h1, h2, h3, h4⟩ := h p (by omega)
    have hx := okS_mem hok (List.getElem_mem hlt)
    have hrd := rd_get hlt
    have hgb : bs.getD p [] = b := by rw [List.getD_eq_getElem?_getD, hp]; rfl
    rw [hgb] at h3
    obtain ⟨c, hc⟩ := Int.eq_ofNat_of_zero_le hx.1
    rw [hc] at hx hrd hBy
    obtain ⟨p', b2, r1, r2, r3, r4⟩ := h3 c (by omega)
    obtain rfl : b2 = b1 := by_unique (by rw [r4, hl1]) r3 hBy
    have e1 : rd_L8 n (p : Int) = row := by
      unfold rd_L8
      rw [Int.toNat_natCast, List.getD_eq_getElem?_getD, h1]
      rfl
    have e2 : rd row (c : Int) = (p' : Int) := by
      unfold rd
      rw [Int.toNat_natCast, List.getD_eq_getElem?_getD, r1]
      rfl
    simp only [stackyardlaw08_runs.l0]
    rw [if_pos (by omega), if_pos (by omega), if_pos (by omega), if_pos (by omega), hrd, if_pos (by omega), e1, if_pos (by omega), e2, wrap1 (by omega)]
    exact ih (i + 1) p' b2 b' (by omega) (by omega) r2 hW1 k (by omega)
end
end Go.Proofs.Ytapinbmkjkbkkaa.Pu
namespace Go.Proofs.Ytapinbmkjkbkkaa.Mk
open Go.RowKit Go.Proofs.YtapinbmkjkbkkaaW.PrintWords Go.Proofs.YtapinbmkjkbkkaaW.PrintLast Go.Proofs.YtapinbmkjkbkkaaW.PrintMore Lb
def avC (a0 a1 a2 a3 : Int) (A : Option Addr) (n c : Nat) : Array Value := #[.int .i64 a0, .int .i64 a1, .int .i64 a2, .int .i64 a3, .slice A n c]
set_option maxHeartbeats 400000 in
theorem many_calls (B : Nat) (a0 a1 a2 a3 : Int) (A : Option Addr) (ln c : Nat) (n : Int) (w : World) (hB : w.heap[B]? = some (.cells (avC a0 a1 a2 a3 A ln c) 31 (0, 0))) :
    Calls Try.prog 46 #[.int .i64 n, .pointer (some ⟨B, 0, none⟩)] w fun e w' => (e = if manyF a1 n = true then tooMany else .returned (.tuple #[])) ∧ w' = w := by
  have hc1 : w.cell? ⟨B, 1, none⟩ = some (.int .i64 a1) := (blk_cell hB 1).trans rfl
  clear hB
  unfold manyF
  by_cases h1 : 1024 < n
  · have d1 : decide (1024 < n) = true := decide_eq_true h1
    rw [d1]
    go_enter Try.func46, Try.ntmps46
    go_wp2
    exact ⟨rfl, rfl, rfl⟩
  · have d1 : decide (1024 < n) = false := decide_eq_false h1
    rw [d1]
    by_cases h2 : 65536 < wrap64 (n * a1)
    · have d2 : decide (65536 < wrap64 (n * a1)) = true := decide_eq_true h2
      rw [d2]
      go_enter Try.func46, Try.ntmps46
      go_wp2
      exact ⟨rfl, rfl, rfl⟩
    · have d2 : decide (65536 < wrap64 (n * a1)) = false := decide_eq_false h2
      rw [d2]
      go_enter Try.func46, Try.ntmps46
      go_wp2
      go_end0
      exact ⟨rfl, rfl⟩
structure RowBuf (W : World) (base g : Nat) (xs : List Int) (ns : Nat) : Prop where
  ge : base ≤ g
  le : xs.length ≤ ns
  hb : W.heap[g]? = some (.cells (nums .i64 (xs ++ List.replicate (ns - xs.length) 0)).toArray 3 (0, 0))
structure NextAt (W : World) (base : Nat) (vn : Value) (gs : List Nat) (next : List (List Int)) (ns : Nat) : Prop where
  own : (Kd.raw 1).R 27 W base (fun _ => True) vn ((gs.zip next).map fun p => [.slice (some ⟨p.1, 0, none⟩) p.2.length ns])
  len : gs.length = next.length
  rows : ∀ (j g : Nat) (xs : List Int), gs[j]? = some g → next[j]? = some xs → RowBuf W base g xs ns
  nodup : gs.Nodup
theorem rowBuf_move {W W1 : World} {base g ns : Nat} {xs : List Int} (h : RowBuf W base g xs ns) (hm : W1.heap[g]? = W.heap[g]?) : RowBuf W1 base g xs ns := ⟨h.ge, h.le, hm.trans h.hb⟩
theorem rowBuf_lt {W : World} {base g ns : Nat} {xs : List Int} (h : RowBuf W base g xs ns) : g < W.heap.size := blk_lt h.hb
theorem nums_made (m : Nat) : madeCells #[.int .i64 0] m = (nums .i64 (([] : List Int) ++ List.replicate (m - ([] : List Int).length) 0)).toArray := Ls.made_nums m
theorem next_move {W W1 : World} {base ns : Nat} {vn : Value} {gs : List Nat} {next : List (List Int)} (h : NextAt W base vn gs next ns) (ho : (Kd.raw 1).R 27 W1 base (fun _ => True) vn ((gs.zip next).map fun p => [.slice (some ⟨p.1, 0, none⟩) p.2.length ns]))
    (hm : ∀ g ∈ gs, W1.heap[g]? = W.heap[g]?) : NextAt W1 base vn gs next ns :=
  ⟨ho, h.len, fun j g xs h1 h2 => rowBuf_move (h.rows j g xs h1 h2) (hm g (List.mem_of_getElem? h1)), h.nodup⟩
theorem next_mem {W : World} {base ns : Nat} {vn : Value} {gs : List Nat} {next : List (List Int)} (h : NextAt W base vn gs next ns) {g : Nat} (hg : g ∈ gs) : ∃ xs, RowBuf W base g xs ns := by
  obtain ⟨j, hj, rfl⟩ := List.mem_iff_getElem.mp hg
  have hj2 : j < next.length := by rw [← h.len]; exact hj
  exact ⟨next[j], h.rows j gs[j] next[j] (List.getElem?_eq_getElem hj) (List.getElem?_eq_getElem hj2)⟩
theorem met_mid {w w3 : World} {base O ns : Nat} {vn va v1 : Value} {gs : List Nat} {next : List (List Int)} (hO : w.heap[O]? = some (.cells #[.int .i64 (ns : Int), vn, va] 46 (0, 0))) (hN : NextAt w base vn gs next ns) (hOB : base ≤ O)
    (hR : (Kd.raw 1).R 27 w3 base (fun _ => True) v1 (((gs.zip next).map fun p => [.slice (some ⟨p.1, 0, none⟩) p.2.length ns]) ++ [[.slice (some ⟨w.heap.size, 0, none⟩) 0 ns]]))
    (hO3 : w3.heap[O]? = some (.cells #[.int .i64 (ns : Int), vn, va] 46 (0, 0))) (hg : (w.drew.alloc (.cells (madeCells #[.int .i64 0] ns) 3)).grownBy w3 vn.ownBlock) :
    (w3.setCell ⟨O, 1, none⟩ v1).heap[O]? = some (.cells #[.int .i64 (ns : Int), v1, va] 46 (0, 0)) ∧ NextAt (w3.setCell ⟨O, 1, none⟩ v1) base v1 (gs ++ [w.heap.size]) (next ++ [[]]) ns ∧
      ∀ k, k < w.heap.size → k ≠ O → some k ≠ vn.ownBlock → (w3.setCell ⟨O, 1, none⟩ v1).heap[k]? = w.heap[k]? := by
  have hlt := blk_lt hO
  have hkeep : ∀ k, k < w.heap.size → k ≠ O → some k ≠ vn.ownBlock → (w3.setCell ⟨O, 1, none⟩ v1).heap[k]? = w.heap[k]? := fun k hk hkO hkv => by
    refine (Below.heap_setCell w3 ⟨O, 1, none⟩ v1 k hkO).trans ((hg.block k ?_ hkv).trans (Below.heap_alloc w.drew _ k hk))
    show k < (w.heap.push _).size
    rw [Array.size_push]; omega
  have hne27 : ∀ g xs, RowBuf w base g xs ns → some g ≠ vn.ownBlock := fun g xs hb => Kd.R_ne hN.own hb.hb (by decide)
  have hneO : ∀ g xs, RowBuf w base g xs ns → g ≠ O := fun g xs hb => blk_ne hb.hb hO (by decide)
  have hgs : ∀ g ∈ gs, (w3.setCell ⟨O, 1, none⟩ v1).heap[g]? = w.heap[g]? ∧ g < w.heap.size := fun g hgm => by
    obtain ⟨xs, hb⟩ := next_mem hN hgm
    exact ⟨hkeep g (rowBuf_lt hb) (hneO g xs hb) (hne27 g xs hb), rowBuf_lt hb⟩
  refine ⟨blk_put hO3 1 _ rfl, ⟨?_, by simp [hN.len], fun j g xs h1 h2 => ?_, ?_⟩, hkeep⟩
  · rw [List.zip_append hN.len]
    simp only [List.zip_cons_cons, List.zip_nil_right, List.map_append, List.map_cons, List.map_nil, List.length_nil]
    exact Kd.R_mono (Kd.R_far (Kd.R_types hR hO3 (by decide)) (fun k hk => hk.2) _) (fun _ _ => trivial)
  · by_cases hj : j < gs.length
    · rw [List.getElem?_append_left hj] at h1
      rw [List.getElem?_append_left (by rw [← hN.len]; exact hj)] at h2
      exact rowBuf_move (hN.rows j g xs h1 h2) (hgs g (List.mem_of_getElem? h1)).1
    · have hjl : j = gs.length := by
        have := (List.getElem?_eq_some_iff.mp h1).1
        rw [List.length_append, List.length_singleton] at this
        omega
      subst hjl
      obtain rfl : w.heap.size = g := by simpa using h1
      obtain rfl : [] = xs := by
        rw [hN.len] at h2
        simpa using h2
      refine ⟨by omega, Nat.zero_le _, ?_⟩
      have hnew : (w.drew.alloc (.cells (madeCells #[.int .i64 0] ns) 3)).heap[w.heap.size]? = some (.cells (madeCells #[.int .i64 0] ns) 3 (0, 0)) := blk_new w.drew _
      have hv : some w.heap.size ≠ vn.ownBlock := fun e => by
        have := Kd.R_lt hN.own _ e.symm
        omega
      have := blk_far (blk_grown hnew hg hv) (p := ⟨O, 1, none⟩) (by show w.heap.size ≠ O; omega) v1
      rw [nums_made] at this
      exact this
  · rw [List.nodup_append]
    refine ⟨hN.nodup, by simp, fun a ha b hb e => ?_⟩
    have h1 := (hgs a ha).2
    have h2 : b = w.heap.size := by simpa using hb
    omega
theorem R_hold {α : Type} {d : Kd α} {e base : Nat} {w wc : World} {v : Value} {xs : List α} (hE : d.E = []) (h : d.R e w base (fun _ => True) v xs) {O : Nat} {t : TypeId} {co : Array Value} (hO : w.heap[O]? = some (.cells co t (0, 0))) (ht : e ≠ t) {vn : Value}
    (hn : ∀ k, v.ownBlock = some k → some k ≠ vn.ownBlock) (hk : ∀ k, k < w.heap.size → k ≠ O → some k ≠ vn.ownBlock → wc.heap[k]? = w.heap[k]?) : d.R e wc base (fun _ => True) v xs :=
  Kd.R_mono (Kd.R_step (Kd.R_tight hE h) (fun k hkv hlt => hk k hlt (fun e' => Kd.R_ne h hO ht (by rw [← e']; exact hkv)) (hn k hkv.symm))) (fun _ _ => trivial)
theorem raw_slice {e base : Nat} {W : World} {ok : Nat → Prop} {v : Value} {α : Type} {d : Kd α} {xs : List α} (h : d.R e W base ok v xs) : ∃ A n c, v = .slice A n c := by
  obtain ⟨A, c, hv⟩ := Kd.R_slice h
  exact ⟨A, _, c, hv⟩
theorem made_buf (ns : Nat) (hns : ns ≤ 4096) (W : World) : (Instr.makeSlice 27 (.int .i64 0) (.int .i64 (ns : Int))).run Try.prog W = .ok (.slice (some ⟨W.heap.size, 0, none⟩) 0 ns) (W.alloc (.cells (madeCells #[.int .i64 0] ns) 3)) := by
  obtain ⟨i, hi, hzz⟩ := Option.map_eq_some_iff.1 info3
  simp only [Prod.mk.injEq] at hzz
  obtain ⟨hz, hs, hb⟩ := hzz
  have hr := run_make (P := Try.prog) W 27 3 i (.int .i64 0) Try.underlying27 hi hz .i64 .i64 0 (ns : Int) (Int.le_refl _) (by omega) (by rw [hb]; omega) (by omega)
  simp only [Int.toNat_zero, Int.toNat_natCast, hs, Nat.mul_one] at hr
  exact hr
set_option maxHeartbeats 2000000 in
theorem met_calls (base O B : Nat) (a0 a2 a3 : Int) (A : Option Addr) (ln c ns : Nat) (vn va : Value) (gs : List Nat) (next : List (List Int)) (acc : List Bool) (As : Option Addr) (cs : Nat) (s : List Int) (b : Bool) (i : Int) (w0 w : World)
    (hO : w.heap[O]? = some (.cells #[.int .i64 (ns : Int), vn, va] 46 (0, 0))) (hB : w.heap[B]? = some (.cells (avC a0 (ns : Int) a2 a3 A ln c) 31 (0, 0))) (hN : NextAt w base vn gs next ns) (hacc : Kd.R Kd.bool 4 w base (fun _ => True) va acc)
    (hs : Kd.R (Kd.int .u64) 115 w base (fun _ => True) (.slice As s.length cs) s) (has : nfa_some_has.f s a3 = some b) (hOB : base ≤ O) (hbw : Below base w0 w) (hns : ns ≤ 4096) (hln : next.length ≤ 1024) (hla : acc.length ≤ 1024) :
    Calls Try.prog 48 #[.int .i64 i, .slice As s.length cs, .pointer (some ⟨O, 0, none⟩), .pointer (some ⟨B, 0, none⟩)] w fun e w' => e = .returned (.bool true) ∧ ∃ g vn' va', w.heap.size ≤ g ∧ w'.heap[O]? = some (.cells #[.int .i64 (ns : Int), vn', va'] 46 (0, 0)) ∧ NextAt w' base vn' (gs ++ [g]) (next ++ [[]]) ns ∧
      Kd.R Kd.bool 4 w' base (fun _ => True) va' (acc ++ [b]) ∧ Below base w0 w' ∧ (∀ k, k < w.heap.size → k ≠ O → some k ≠ vn.ownBlock → some k ≠ va.ownBlock → w'.heap[k]? = w.heap[k]?) ∧ w.heap.size ≤ w'.heap.size := by
  have HO := Aside0.mk hO
  have HBX := Aside0.mk hB
  have HN := Aside0.mk hN
  have HA := Aside0.mk hacc
  have HS := Aside0.mk hs
  have HAS := Aside0.mk has
  have HB := Aside0.mk hbw
  have hc1 : w.cell? ⟨O, 1, none⟩ = some vn := (blk_cell hO 1).trans rfl
  have hb1 : w.cell? ⟨B, 1, none⟩ = some (.int .i64 (ns : Int)) := (blk_cell hB 1).trans rfl
  have hz1 := blk_frozen hO 1
  have hO1 : ∀ o : Obj, (w.alloc o).cell? ⟨O, 1, none⟩ = some vn := fun o => (blk_cell (blk_alloc hO o) 1).trans rfl
  have hO2 : ∀ o o' : Obj, ((w.alloc o).alloc o').cell? ⟨O, 1, none⟩ = some vn := fun o o' => (blk_cell (blk_alloc (blk_alloc hO o) o') 1).trans rfl
  have hmk := made_buf ns hns
  clear hO hB hN hacc hs has hbw
  go_enter Try.func48, Try.ntmps48
  have hV := Kd.R_alloc (Kd.R_drew HN.out.own) (.cells (madeCells #[.int .i64 0] ns) 3)
  have hVs : base ≤ (w.drew.alloc (.cells (madeCells #[.int .i64 0] ns) 3)).heap.size := by
    have h1 : base ≤ w.heap.size := by have := blk_lt HO.out; omega
    show base ≤ (w.heap.push _).size
    rw [Array.size_push]; omega
  have hVl : (((gs.zip next).map fun p => ([.slice (some ⟨p.1, 0, none⟩) p.2.length ns] : List Value)).length + 1) * 24 ≤ 140737488355328 := by
    rw [List.length_map, List.length_zip]; omega
  have HVB := Aside0.mk (Below.alloc (w := w.drew) HB.out.drew (show base ≤ w.heap.size by have := blk_lt HO.out; omega) (.cells (madeCells #[.int .i64 0] ns) 3))
  have HV := Aside0.mk hV
  have HVS := Aside0.mk hVs
  have HVL := Aside0.mk hVl
  clear hV hVs hVl
  go_upto_region 1 with (fail)
  go_cut [7, 8, 9, 10, 11, 12, 13, 14] (fun _ _ _ _ _ _ _ _ wc => ∃ v1 : Value, Aside0 (wc.heap[O]? = some (.cells #[.int .i64 (ns : Int), v1, va] 46 (0, 0))) ∧ Aside0 (NextAt wc base v1 (gs ++ [w.heap.size]) (next ++ [[]]) ns) ∧ Aside0 (Below base w0 wc) ∧
    Aside0 (Kd.R Kd.bool 4 wc base (fun _ => True) va acc) ∧ Aside0 (w.heap.size ≤ wc.heap.size) ∧ Aside0 (∀ k, k < w.heap.size → k ≠ O → some k ≠ vn.ownBlock → wc.heap[k]? = w.heap[k]?))
  case first =>
    go_region_law (refine Kd.R_append_step (W := (w.drew.alloc (.cells (madeCells #[.int .i64 0] ns) 3))) (Kd.raw 1) (w0 := w0) base (by rfl) (.tmp 8) (.tmp 12) 43 27 (.slice none 0 0) 24 rfl Try.underlying43 info27 rfl (by decide) (by omega) vn _ [.slice (some ⟨w.heap.size, 0, none⟩) 0 ns] [.slice (some ⟨w.heap.size, 0, none⟩) 0 ns] (fun _ => True) (fun _ => False) (by simp [Act.eval, Act.put]) (by simp [Act.eval, Act.put]) ⟨rfl, rfl, by simp [Value.oneCell']⟩ (fun _ hk => hk.elim) (fun _ _ => trivial) HV.out HVB.out HVS.out HVL.out ?_; intro v1 w3 hR1 hb1 hg hat; obtain ⟨A1, L1, c1, rfl⟩ := raw_slice hR1; have HO3 := Aside0.mk (blk_grown (blk_alloc (blk_drew HO.out) (.cells (madeCells #[.int .i64 0] ns) 3)) hg (Kd.R_ne HV.out (blk_alloc (blk_drew HO.out) (.cells (madeCells #[.int .i64 0] ns) 3)) (by decide))); have HR3 := Aside0.mk hR1; have HB3 := Aside0.mk hb1; have HG3 := Aside0.mk hg; have HAT := Aside0.mk hat; have hc3 : w3.cell? ⟨O, 1, none⟩ = some vn := (blk_cell HO3.out 1).trans rfl; have hz3 := blk_frozen HO3.out 1; clear hR1 hb1 hg hat)
    all_goals (go_wp2_with (fail); go_meet)
    all_goals
      have hmid := met_mid HO.out HN.out hOB HR3.out HO3.out HG3.out
      refine ⟨_, ⟨hmid.1⟩, ⟨hmid.2.1⟩, ⟨HB3.out.setCell hOB _⟩, ⟨?_⟩, ⟨?_⟩, ⟨hmid.2.2⟩⟩
      · have hd : Kd.R Kd.bool 4 (w.drew.alloc (.cells (madeCells #[.int .i64 0] ns) 3)) base (fun _ => True) va acc := Kd.R_alloc (Kd.R_drew HA.out) _
        have h1 := Kd.R_over' hd (Kd.R_typed HV.out) (by decide) HG3.out
        exact Kd.R_mono (Kd.R_far (Kd.R_types h1 HO3.out (by decide)) (fun k hk => hk.2) _) (fun _ _ => trivial)
      · have h1 := HG3.out.size
        have h2 : (w.drew.alloc (.cells (madeCells #[.int .i64 0] ns) 3)).heap.size = w.heap.size + 1 := by show (w.heap.push _).size = _; rw [Array.size_push]
        have h3 := ((Below.refl 0 w3).setCell (p := ⟨O, 1, none⟩) (Nat.zero_le _) (.slice A1 L1 c1)).size
        omega
  case rest =>
    obtain ⟨v1, HO1, HN1, HB1, HA1, HS1, HK1⟩ := hcut
    have hc2 : wc.cell? ⟨O, 2, none⟩ = some va := (blk_cell HO1.out 2).trans rfl
    have hc2a : ∀ (n : Nat) (o : Obj), ((wc.drewN n).alloc o).cell? ⟨O, 2, none⟩ = some va := fun n o => (blk_cell (blk_alloc (blk_drewN HO1.out n) o) 2).trans rfl
    have hBX : wc.heap[B]? = some (.cells (avC a0 (ns : Int) a2 a3 A ln c) 31 (0, 0)) := (HK1.out B (blk_lt HBX.out) (blk_ne HBX.out HO.out (by decide)) (Kd.R_ne HN.out.own HBX.out (by decide))).trans HBX.out
    have hb3 : wc.cell? ⟨B, 3, none⟩ = some (.int .i64 a3) := (blk_cell hBX 3).trans rfl
    have hsn : ∀ k, (Value.slice As s.length cs).ownBlock = some k → some k ≠ vn.ownBlock := fun k hk e => by
      obtain ⟨c2, h2⟩ := Kd.R_typed HS.out k hk
      obtain ⟨c3, h3⟩ := Kd.R_typed HN.out.own k e.symm
      rw [h2] at h3
      injection h3 with h3
      injection h3 with _ h3
      exact absurd h3 (by decide)
    have HSC := Aside0.mk (R_hold rfl HS.out HO.out (by decide) hsn HK1.out)
    have HSR := Aside0.mk (Kd.R_reads' HSC.out)
    clear hsn
    go_wp2_with (fail)
    have HSZ : Aside0 (base ≤ wc.heap.size) := ⟨by have := HB1.out.size; have := blk_lt HO1.out; omega⟩
    have HLA : Aside0 ((acc.length + 1) * 1 ≤ 140737488355328) := ⟨by omega⟩
    go_region_law (first | (go_simp; go_at_call 43; refine (nfa_some_has.calls As cs s a3 b wc.drew (Kd.C_below HSR.out.2.2 (Below.refl _ _).drew) HSR.out.2.1 HAS.out).mono ?_; rintro e w5 ⟨rfl, hdr⟩; obtain ⟨nd, rfl⟩ := hdr) | (refine Kd.R_append_step Kd.bool (w0 := w0) base ?_ (.tmp 16) (.tmp 21) 44 4 (.bool false) 1 rfl Try.underlying44 info4 rfl (by decide) (by omega) va acc b [.bool b] (fun _ => True) (fun _ => False) ?_ ?_ rfl (fun _ hk => hk.elim) (fun _ _ => trivial) ?_ ?_ ?_ HLA.out ?_; rfl; (first | (simp [Act.eval, Act.put]; done) | rfl); (first | (simp [Act.eval, Act.put]; done) | rfl); (exact (by (with_reducible repeat (first | exact HA1.out | apply Kd.R_drewN | apply Kd.R_drew)))); (exact (by (with_reducible repeat (first | exact HB1.out | apply pw_below_drewN | apply below_drew1)))); (exact HSZ.out); intro v2 w3 hR1 hb1 hg hat; obtain ⟨A1, L1, c1, rfl⟩ := raw_slice hR1; have HO3 : Aside0 (w3.heap[O]? = some (.cells #[.int .i64 (ns : Int), v1, va] 46 (0, 0))) := ⟨(hg.block O (blk_lt HO1.out) (Kd.R_ne HA1.out HO1.out (by decide))).trans HO1.out⟩; have HR3 := Aside0.mk hR1; have HB3 := Aside0.mk hb1; have HG3 := Aside0.mk hg; have hc3 : w3.cell? ⟨O, 2, none⟩ = some va := (blk_cell HO3.out 2).trans rfl; have hz3 := blk_frozen HO3.out 2; clear hR1 hb1 hg hat))
    all_goals (go_wp2)
    all_goals (go_ret)
    all_goals
      have hneO : ∀ g ∈ gs ++ [w.heap.size], some g ≠ va.ownBlock ∧ g ≠ O ∧ g < wc.heap.size := fun g hgm => by
        obtain ⟨xs, hb⟩ := next_mem HN1.out hgm
        exact ⟨Kd.R_ne HA1.out hb.hb (by decide), blk_ne hb.hb HO1.out (by decide), rowBuf_lt hb⟩
      refine ⟨rfl, w.heap.size, v1, _, Nat.le_refl _, blk_put HO3.out 2 _ rfl, next_move HN1.out ?_ ?_, ?_, HB3.out.setCell hOB _, fun k hk hkO hkv hka => ?_, Nat.le_trans HS1.out (Nat.le_trans HG3.out.size ((Below.refl 0 w3).setCell (Nat.zero_le _) _).size)⟩
      · have h1 := Kd.R_step (w1 := w3) (Kd.R_tight rfl HN1.out.own) (fun k hk hlt => HG3.out.block k hlt (fun e => by
          obtain ⟨c2, h2⟩ := Kd.R_typed HN1.out.own k hk.symm
          obtain ⟨c3, h3⟩ := Kd.R_typed HA1.out k e.symm
          rw [h2] at h3
          injection h3 with h3
          injection h3 with _ h3
          exact absurd h3 (by decide)))
        exact Kd.R_mono (Kd.R_far (Kd.R_types (Kd.R_mono h1 (fun _ _ => trivial)) HO3.out (by decide)) (fun k hk => hk.2) _) (fun _ _ => trivial)
      · exact fun g hgm => (Below.heap_setCell w3 ⟨O, 2, none⟩ _ g (hneO g hgm).2.1).trans (HG3.out.block g (hneO g hgm).2.2 (hneO g hgm).1)
      · exact Kd.R_mono (Kd.R_far (Kd.R_types HR3.out HO3.out (by decide)) (fun k hk => hk.2) _) (fun _ _ => trivial)
      · exact (Below.heap_setCell w3 ⟨O, 2, none⟩ _ k hkO).trans ((HG3.out.block k (Nat.lt_of_lt_of_le hk HS1.out) hka).trans (HK1.out k hk hkO hkv))
end Go.Proofs.Ytapinbmkjkbkkaa.Mk
namespace Go.Proofs.Ytapinbmkjkbkkaa.Mk
open Go.RowKit Go.Proofs.YtapinbmkjkbkkaaW.PrintWords Go.Proofs.YtapinbmkjkbkkaaW.PrintLast Go.Proofs.YtapinbmkjkbkkaaW.PrintMore Lb
def rowE (ns : Nat) (p : Nat × Nat) : Value := .slice (some ⟨p.1, 0, none⟩) p.2 ns
theorem rowE_one (ns : Nat) (p : Nat × Nat) : (rowE ns p).oneCell' = true := rfl
theorem raw_scalar {e base : Nat} {W : World} {ok : Nat → Prop} {v : Value} {ns : Nat} {ps : List (Nat × Nat)} : (Kd.raw 1).R e W base ok v (ps.map fun p => [rowE ns p]) ↔ (Kd.scalar (rowE ns) (rowE_one ns)).R e W base ok v ps := by
  unfold Kd.R OwnRow
  rw [List.length_map]
  refine and_congr Iff.rfl ⟨?_, ?_⟩
  · rintro ⟨inner, ho, h1, h2⟩
    refine ⟨inner, ho, by rw [List.length_map] at h1; exact h1, fun j p hp => ?_⟩
    have := h2 j [rowE ns p] (by rw [List.getElem?_map, hp]; rfl)
    exact this.1
  · rintro ⟨inner, ho, h1, h2⟩
    refine ⟨inner, ho, by rw [List.length_map]; exact h1, fun j p hp => ?_⟩
    rw [List.getElem?_map] at hp
    obtain ⟨q, hq, rfl⟩ := Option.map_eq_some_iff.mp hp
    have h3 : (inner.drop (j * (Kd.raw 1).sz)).take (Kd.raw 1).sz = [rowE ns q] := h2 j q hq
    exact ⟨h3, by rw [h3]; rfl, fun u hu => by rw [h3] at hu; rw [List.mem_singleton.mp hu]; rfl⟩
def rowPs (gs : List Nat) (next : List (List Int)) : List (Nat × Nat) := (gs.zip next).map fun p => (p.1, p.2.length)
theorem rowPs_raw (ns : Nat) (gs : List Nat) (next : List (List Int)) : ((gs.zip next).map fun p => ([.slice (some ⟨p.1, 0, none⟩) p.2.length ns] : List Value)) = (rowPs gs next).map fun p => [rowE ns p] := by
  unfold rowPs rowE
  rw [List.map_map]
  rfl
theorem rowPs_get {gs : List Nat} {next : List (List Int)} {i g : Nat} {xs : List Int} (h1 : gs[i]? = some g) (h2 : next[i]? = some xs) : (rowPs gs next)[i]? = some (g, xs.length) := by
  unfold rowPs
  rw [List.getElem?_map, (List.getElem?_zip_eq_some (z := (g, xs))).mpr ⟨h1, h2⟩]
  rfl
theorem rowPs_set {gs : List Nat} {next : List (List Int)} {i g : Nat} {xs : List Int} (h1 : gs[i]? = some g) : (rowPs gs next).set i (g, xs.length) = rowPs gs (next.set i xs) := by
  unfold rowPs
  apply List.ext_getElem?
  intro j
  rw [List.getElem?_map]
  by_cases hj : j = i
  · subst hj
    by_cases hl : j < next.length
    · have hg : j < gs.length := (List.getElem?_eq_some_iff.mp h1).1
      rw [List.getElem?_set_self (by rw [List.length_map, List.length_zip]; omega), (List.getElem?_zip_eq_some (z := (g, xs))).mpr ⟨h1, List.getElem?_set_self hl⟩]
      rfl
    · rw [List.set_eq_of_length_le (by rw [List.length_map, List.length_zip]; omega), List.set_eq_of_length_le (by omega), List.getElem?_map]
  · rw [List.getElem?_set_ne (by omega), List.getElem?_map]
    congr 1
    rw [List.zip_eq_zipWith, List.zip_eq_zipWith, List.getElem?_zipWith, List.getElem?_zipWith, List.getElem?_set_ne (by omega)]
def KeepD (W W' : World) : Prop := W.heap.size ≤ W'.heap.size ∧ ∀ (g : Nat) (o : Obj), W.heap[g]? = some o → (∀ cs t fr, o = .cells cs t fr → t ≠ 46 ∧ t ≠ 27 ∧ t ≠ 4 ∧ t ≠ 3) → W'.heap[g]? = some o
theorem keepD_trans {W W1 W2 : World} (h : KeepD W W1) (k : KeepD W1 W2) : KeepD W W2 := ⟨Nat.le_trans h.1 k.1, fun g o hg ht => k.2 g o (h.2 g o hg ht) ht⟩
theorem keepD_cells {W W1 : World} (h : KeepD W W1) {g : Nat} {cs : Array Value} {t : TypeId} {fr : Nat × Nat} (hg : W.heap[g]? = some (.cells cs t fr)) (ht : t ≠ 46 ∧ t ≠ 27 ∧ t ≠ 4 ∧ t ≠ 3) : W1.heap[g]? = some (.cells cs t fr) :=
  h.2 g _ hg (fun _ _ _ e => by injection e with _ e _; subst e; exact ht)
theorem keepD_of {W W1 : World} (hs : W.heap.size ≤ W1.heap.size) (S : Nat → Prop) (hS : ∀ g, S g → ∃ cs t fr, W.heap[g]? = some (.cells cs t fr) ∧ (t = 46 ∨ t = 27 ∨ t = 4 ∨ t = 3)) (hk : ∀ g, g < W.heap.size → ¬ S g → W1.heap[g]? = W.heap[g]?) : KeepD W W1 := by
  refine ⟨hs, fun g o hg ht => (hk g (blk_lt hg) fun hSg => ?_).trans hg⟩
  obtain ⟨cs, t, fr, h1, h2⟩ := hS g hSg
  rw [hg] at h1
  injection h1 with h1
  have h3 := ht cs t fr h1
  rcases h2 with h2 | h2 | h2 | h2
  · exact absurd h2 h3.1
  · exact absurd h2 h3.2.1
  · exact absurd h2 h3.2.2.1
  · exact absurd h2 h3.2.2.2
theorem keepD_R {α : Type} {d : Kd α} {e base : Nat} {W W1 : World} {ok : Nat → Prop} {v : Value} {xs : List α} (h : d.R e W base ok v xs) (hk : KeepD W W1) (ht : ∀ q, q ∈ e :: d.E → q ≠ 46 ∧ q ≠ 27 ∧ q ≠ 4 ∧ q ≠ 3) : d.R e W1 base ok v xs := by
  refine Kd.R_mono (Kd.R_move (Kd.R_bound h) fun k hk1 => ?_) (fun _ hk => hk.1)
  obtain ⟨_, _, _, q, hq, cells, hc⟩ := hk1
  rw [hc]
  exact keepD_cells hk hc (ht q hq)
structure DS (W : World) (base O Sb Mb B ns : Nat) (ac : Array Value) (next : List (List Int)) (acc : List Bool) (n : Int) : Prop where
  out : ∃ vn va gs, W.heap[O]? = some (.cells #[.int .i64 (ns : Int), vn, va] 46 (0, 0)) ∧ NextAt W base vn gs next ns ∧ Kd.R Kd.bool 4 W base (fun _ => True) va acc ∧ ∀ g ∈ gs, Sb < g
  st : W.heap[Sb]? = some (.cells #[.int .i64 n] 3 (0, 0))
  mb : W.heap[Mb]? = some (.cells #[.func (.func 46) #[] #[.pointer (some ⟨B, 0, none⟩)]] 83 (0, 0))
  bb : W.heap[B]? = some (.cells ac 31 (0, 0))
theorem ds_below {W W1 : World} {base O Sb Mb B ns : Nat} {ac : Array Value} {next : List (List Int)} {acc : List Bool} {n : Int} (h : DS W base O Sb Mb B ns ac next acc n) (hb : Below W.heap.size W W1) : DS W1 base O Sb Mb B ns ac next acc n := by
  obtain ⟨⟨vn, va, gs, h1, h2, h3, h4⟩, h5, h6, h7⟩ := h
  exact ⟨⟨vn, va, gs, blk_below h1 hb, next_move h2 (Kd.R_below h2.own hb) (fun g hg => by obtain ⟨xs, hx⟩ := next_mem h2 hg; exact hb.block g (rowBuf_lt hx)), Kd.R_below h3 hb, h4⟩, blk_below h5 hb, blk_below h6 hb, blk_below h7 hb⟩
theorem met_ds {W w0 : World} {base O Sb Mb B ns : Nat} {a0 a2 a3 : Int} {A : Option Addr} {ln c : Nat} {next : List (List Int)} {acc : List Bool} {n : Int} (h : DS W base O Sb Mb B ns (avC a0 (ns : Int) a2 a3 A ln c) next acc n) (As : Option Addr) (cs : Nat) (s : List Int) (b : Bool) (i : Int)
    (hs : Kd.R (Kd.int .u64) 115 W base (fun _ => True) (.slice As s.length cs) s) (has : nfa_some_has.f s a3 = some b) (hOB : base ≤ O) (hbw : Below base w0 W) (hns : ns ≤ 4096) (hln : next.length ≤ 1024) (hla : acc.length ≤ 1024) :
    Calls Try.prog 48 #[.int .i64 i, .slice As s.length cs, .pointer (some ⟨O, 0, none⟩), .pointer (some ⟨B, 0, none⟩)] W fun e w' => e = .returned (.bool true) ∧ DS w' base O Sb Mb B ns (avC a0 (ns : Int) a2 a3 A ln c) (next ++ [[]]) (acc ++ [b]) n ∧ Below base w0 w' ∧ KeepD W w' := by
  obtain ⟨⟨vn, va, gs, h1, h2, h3, h4⟩, h5, h6, h7⟩ := h
  refine (met_calls base O B a0 a2 a3 A ln c ns vn va gs next acc As cs s b i w0 W h1 h7 h2 h3 hs has hOB hbw hns hln hla).mono ?_
  rintro e w' ⟨he, g, vn', va', hg, g1, g2, g3, g4, g5, hsz⟩
  have hty27 := Kd.R_typed h2.own
  have hty4 := Kd.R_typed h3
  have hkeep : KeepD W w' := keepD_of hsz (fun k => k = O ∨ some k = vn.ownBlock ∨ some k = va.ownBlock) (fun k hk => by
    rcases hk with rfl | hk | hk
    · exact ⟨_, _, _, h1, .inl rfl⟩
    · obtain ⟨c1, e1⟩ := hty27 k hk.symm
      exact ⟨_, _, _, e1, .inr (.inl rfl)⟩
    · obtain ⟨c1, e1⟩ := hty4 k hk.symm
      exact ⟨_, _, _, e1, .inr (.inr (.inl rfl))⟩) (fun k hk hn => g5 k hk (fun e => hn (.inl e)) (fun e => hn (.inr (.inl e))) (fun e => hn (.inr (.inr e))))
  have hst : w'.heap[Sb]? = some (.cells #[.int .i64 n] 3 (0, 0)) := (g5 Sb (blk_lt h5) (blk_ne h5 h1 (by decide)) (Kd.R_ne h2.own h5 (by decide)) (Kd.R_ne h3 h5 (by decide))).trans h5
  refine ⟨he, ⟨⟨vn', va', gs ++ [g], g1, g2, g3, fun q hq => ?_⟩, hst, keepD_cells hkeep h6 (by decide), keepD_cells hkeep h7 (by decide)⟩, g4, hkeep⟩
  rcases List.mem_append.mp hq with hq | hq
  · exact h4 q hq
  · rw [List.mem_singleton.mp hq]
    exact Nat.lt_of_lt_of_le (blk_lt h5) hg
end Go.Proofs.Ytapinbmkjkbkkaa.Mk
namespace Go.Proofs.Ytapinbmkjkbkkaa.Mk
open Go.RowKit Go.Proofs.YtapinbmkjkbkkaaW.PrintWords Go.Proofs.YtapinbmkjkbkkaaW.PrintLast Go.Proofs.YtapinbmkjkbkkaaW.PrintMore Lb
def ArcPost (base O Sb Mb B ns : Nat) (ac : Array Value) (next : List (List Int)) (acc : List Bool) (n : Int) (bad : Bool) (w0 w : World) (e : Ending) (w' : World) : Prop :=
  Below base w0 w' ∧ KeepD w w' ∧ (if bad = true then e = tooMany else e = .returned (.tuple #[]) ∧ DS w' base O Sb Mb B ns ac next acc n)
structure Arc1 (w w3 : World) (base g ns : Nat) (xs : List Int) (w0 : World) : Prop where
  row : RowBuf w3 base g xs ns
  keep : ∀ k, k < w.heap.size → k ≠ g → w3.heap[k]? = w.heap[k]?
  below : Below base w0 w3
  size : w.heap.size ≤ w3.heap.size
theorem nums_fill (xs : List Int) (ns : Nat) (tt : Int) (h : xs.length < ns) : ((nums .i64 (xs ++ List.replicate (ns - xs.length) 0)).toArray).setIfInBounds xs.length (.int .i64 tt) = (nums .i64 ((xs ++ [tt]) ++ List.replicate (ns - (xs ++ [tt]).length) 0)).toArray := by
  obtain ⟨d, rfl⟩ : ∃ d, ns = xs.length + 1 + d := ⟨ns - (xs.length + 1), by omega⟩
  have e1 : xs.length + 1 + d - xs.length = d + 1 := by omega
  have e2 : xs.length + 1 + d - (xs ++ [tt]).length = d := by simp
  rw [e1, e2]
  apply Array.ext'
  rw [Array.toList_setIfInBounds]
  simp only [nums, List.map_append, List.map_cons, List.map_nil, List.map_replicate]
  rw [List.set_append_right _ _ (by simp), List.length_map, Nat.sub_self, List.replicate_succ, List.set_cons_zero, List.append_assoc]
  rfl
theorem arc_mid {w w0 : World} {base g ns : Nat} {xs : List Int} (tt : Int) (h : RowBuf w base g xs ns) (hlt : xs.length < ns) (hb : Below base w0 w) (hs : base ≤ w.heap.size) :
    Arc1 w ((w.drew.alloc (.cells #[.int .i64 tt] 3)).setCells g (0 + xs.length * 1) [.int .i64 tt]) base g ns (xs ++ [tt]) w0 := by
  have e : (w.drew.alloc (.cells #[.int .i64 tt] 3)).setCells g (0 + xs.length * 1) [.int .i64 tt] = (w.drew.alloc (.cells #[.int .i64 tt] 3)).setCell ⟨g, xs.length, none⟩ (.int .i64 tt) := by
    rw [Nat.zero_add, Nat.mul_one]; rfl
  rw [e]
  refine ⟨⟨h.ge, by rw [List.length_append, List.length_singleton]; omega, ?_⟩, fun k hk hkg => ?_, ?_, ?_⟩
  · rw [← nums_fill xs ns tt hlt]
    exact blk_put (blk_alloc (blk_drew h.hb) _) xs.length _ rfl
  · exact (Below.heap_setCell _ ⟨g, xs.length, none⟩ _ k hkg).trans (Below.heap_alloc w.drew _ k hk)
  · exact (hb.drew.alloc (show base ≤ w.drew.heap.size from hs) _).setCell h.ge _
  · have h2 := ((Below.refl 0 (w.drew.alloc (.cells #[.int .i64 tt] 3))).setCell (p := ⟨g, xs.length, none⟩) (Nat.zero_le _) (.int .i64 tt)).size
    have h3 : (w.drew.alloc (.cells #[.int .i64 tt] 3)).heap.size = w.heap.size + 1 := by show (w.heap.push _).size = _; rw [Array.size_push]
    omega
theorem rowBuf_drewAlloc {w : World} {base g ns : Nat} {xs : List Int} (h : RowBuf w base g xs ns) (o : Obj) : RowBuf (w.drew.alloc o) base g xs ns := ⟨h.ge, h.le, blk_alloc (blk_drew h.hb) o⟩
theorem row_room {w : World} {base g ns : Nat} {xs : List Int} (h : RowBuf w base g xs ns) (hlt : xs.length < ns) : (w.cell? ⟨g, 0 + xs.length * 1 + 0, none⟩).isSome = true ∧ w.frozen? ⟨g, 0 + xs.length * 1 + 0, none⟩ = false := by
  refine ⟨?_, blk_frozen h.hb _⟩
  have hc := blk_cell h.hb (0 + xs.length * 1 + 0)
  rw [hc]
  have hl : (nums .i64 (xs ++ List.replicate (ns - xs.length) 0)).toArray.size = ns := by simp [nums]; omega
  simp [nums]
  omega
theorem arc_done {w w3 w0 : World} {base O Sb Mb B ns G cap g i : Nat} {ac : Array Value} {va : Value} {gs : List Nat} {next : List (List Int)} {acc : List Bool} {n : Int} {xs : List Int} {tt : Int}
    (hO : w.heap[O]? = some (.cells #[.int .i64 (ns : Int), .slice (some ⟨G, 0, none⟩) next.length cap, va] 46 (0, 0))) (hN : NextAt w base (.slice (some ⟨G, 0, none⟩) next.length cap) gs next ns) (hA : Kd.R Kd.bool 4 w base (fun _ => True) va acc) (hSg : ∀ g ∈ gs, Sb < g)
    (hS : w.heap[Sb]? = some (.cells #[.int .i64 n] 3 (0, 0))) (hM : w.heap[Mb]? = some (.cells #[.func (.func 46) #[] #[.pointer (some ⟨B, 0, none⟩)]] 83 (0, 0))) (hB : w.heap[B]? = some (.cells ac 31 (0, 0)))
    (hg : gs[i]? = some g) (hi : next[i]? = some xs) (h3 : Arc1 w w3 base g ns (xs ++ [tt]) w0) :
    DS (w3.setCell ⟨G, i, none⟩ (.slice (some ⟨g, 0, none⟩) (xs.length + 1) ns)) base O Sb Mb B ns ac (next.set i (xs ++ [tt])) acc n ∧ Below base w0 (w3.setCell ⟨G, i, none⟩ (.slice (some ⟨g, 0, none⟩) (xs.length + 1) ns)) ∧ KeepD w (w3.setCell ⟨G, i, none⟩ (.slice (some ⟨g, 0, none⟩) (xs.length + 1) ns)) := by
  have hgb := (hN.rows i g xs hg hi)
  obtain ⟨cG, hG⟩ := Kd.R_typed hN.own G rfl
  have hGb : base ≤ G := Kd.R_base hN.own G rfl
  have hgG : g ≠ G := blk_ne hgb.hb hG (by decide)
  have hkeep : ∀ k, k < w.heap.size → k ≠ g → k ≠ G → (w3.setCell ⟨G, i, none⟩ (.slice (some ⟨g, 0, none⟩) (xs.length + 1) ns)).heap[k]? = w.heap[k]? := fun k h1 h2 h4 => (Below.heap_setCell _ ⟨G, i, none⟩ _ k h4).trans (h3.keep k h1 h2)
  have hown := hN.own
  rw [rowPs_raw, raw_scalar] at hown
  have hown3 : (Kd.scalar (rowE ns) (rowE_one ns)).R 27 w3 base (fun _ => True) (.slice (some ⟨G, 0, none⟩) next.length cap) (rowPs gs next) :=
    Kd.R_mono (Kd.R_step (Kd.R_tight rfl hown) (fun k hk hlt => h3.keep k hlt (fun e => by
      have : G = k := by simpa [Value.ownBlock] using hk.symm
      omega))) (fun _ _ => trivial)
  have hput := Kd.R_putn hown3 (i : Int) (g, (xs ++ [tt]).length)
  rw [Int.toNat_natCast, rowPs_set hg, ← raw_scalar, ← rowPs_raw, show rowE ns (g, (xs ++ [tt]).length) = .slice (some ⟨g, 0, none⟩) (xs.length + 1) ns by simp [rowE]] at hput
  refine ⟨⟨⟨_, va, gs, (hkeep O (blk_lt hO) (blk_ne hgb.hb hO (by decide)).symm (blk_ne hO hG (by decide))).trans hO, ⟨hput, by rw [hN.len, List.length_set], fun j g' xs' h1 h2 => ?_, hN.nodup⟩, ?_, hSg⟩, ?_, ?_, ?_⟩, h3.below.setCell hGb _, ?_⟩
  · by_cases hj : j = i
    · subst hj
      rw [hg] at h1
      obtain rfl := Option.some.inj h1
      rw [List.getElem?_set_self (List.getElem?_eq_some_iff.mp hi).1] at h2
      obtain rfl := Option.some.inj h2
      exact rowBuf_move h3.row (Below.heap_setCell _ ⟨G, j, none⟩ _ g hgG)
    · rw [List.getElem?_set_ne (by omega)] at h2
      have hb := hN.rows j g' xs' h1 h2
      have hne : g' ≠ g := by
        rintro rfl
        obtain ⟨l1, e1⟩ := List.getElem?_eq_some_iff.mp h1
        obtain ⟨l2, e2⟩ := List.getElem?_eq_some_iff.mp hg
        exact hj ((List.getElem_inj hN.nodup).mp (e1.trans e2.symm))
      exact rowBuf_move hb (hkeep g' (rowBuf_lt hb) hne (blk_ne hb.hb hG (by decide)))
  · refine Kd.R_mono (Kd.R_step (Kd.R_tight rfl hA) (fun k hk hlt => hkeep k hlt (fun e => ?_) (fun e => ?_))) (fun _ _ => trivial)
    · exact Kd.R_ne hA hgb.hb (by decide) (by rw [← e]; exact hk)
    · exact Kd.R_ne hA hG (by decide) (by rw [← e]; exact hk)
  · exact (hkeep Sb (blk_lt hS) (by have := hSg g (List.mem_of_getElem? hg); omega) (blk_ne hS hG (by decide))).trans hS
  · exact (hkeep Mb (blk_lt hM) (blk_ne hgb.hb hM (by decide)).symm (blk_ne hM hG (by decide))).trans hM
  · exact (hkeep B (blk_lt hB) (blk_ne hgb.hb hB (by decide)).symm (blk_ne hB hG (by decide))).trans hB
  · refine keepD_of (Nat.le_trans h3.size ((Below.refl 0 w3).setCell (Nat.zero_le _) _).size) (fun k => k = g ∨ k = G) (fun k hk => ?_) (fun k h1 h2 => hkeep k h1 (fun e => h2 (.inl e)) (fun e => h2 (.inr e)))
    rcases hk with rfl | rfl
    · exact ⟨_, _, _, hgb.hb, .inr (.inr (.inr rfl))⟩
    · exact ⟨_, _, _, hG, .inr (.inl rfl)⟩
theorem ds_count {w w0 : World} {base O Sb Mb B ns : Nat} {ac : Array Value} {next : List (List Int)} {acc : List Bool} {n n' : Int} (h : DS w base O Sb Mb B ns ac next acc n) (hSB : base ≤ Sb) (hb : Below base w0 w) :
    DS (w.setCell ⟨Sb, 0, none⟩ (.int .i64 n')) base O Sb Mb B ns ac next acc n' ∧ Below base w0 (w.setCell ⟨Sb, 0, none⟩ (.int .i64 n')) ∧ KeepD w (w.setCell ⟨Sb, 0, none⟩ (.int .i64 n')) := by
  obtain ⟨⟨vn, va, gs, hO, hN, hA, hSg⟩, hS, hM, hB⟩ := h
  refine ⟨⟨⟨vn, va, gs, blk_far hO (blk_ne hO hS (by decide)) _, next_move hN ?_ (fun g hg => Below.heap_setCell _ ⟨Sb, 0, none⟩ _ g (by have := hSg g hg; show g ≠ Sb; omega)), ?_, hSg⟩, blk_put hS 0 _ rfl, blk_far hM (blk_ne hM hS (by decide)) _, blk_far hB (blk_ne hB hS (by decide)) _⟩, hb.setCell hSB _, ?_⟩
  · exact Kd.R_mono (Kd.R_far (Kd.R_types hN.own hS (by decide)) (fun k hk => hk.2) _) (fun _ _ => trivial)
  · exact Kd.R_mono (Kd.R_far (Kd.R_types hA hS (by decide)) (fun k hk => hk.2) _) (fun _ _ => trivial)
  · refine keepD_of ((Below.refl 0 w).setCell (Nat.zero_le _) _).size (fun k => k = Sb) (fun k hk => ?_) (fun k _ h2 => Below.heap_setCell _ ⟨Sb, 0, none⟩ _ k h2)
    subst hk
    exact ⟨_, _, _, hS, .inr (.inr (.inr rfl))⟩
theorem arc_law {w w0 : World} {base g ns : Nat} {xs : List Int} {tt : Int} {ops : Array Oper} {o : Oper} {a : Act} {K : Act → World → Prop} {Q : Exit → Act → World → Prop} {E : Prop} (hgd : o.guard = none) (s x : Operand) (hop : o.op = Op.call { callee := Callee.builtin Builtin.append, args := #[s, x], argTypes := #[27, 27] })
    (hs : a.eval s = .slice (some ⟨g, 0, none⟩) xs.length ns) (hx : a.eval x = .slice (some ⟨w.heap.size, 0, none⟩) 1 1) (hbuf : RowBuf w base g xs ns) (hlt : xs.length < ns) (hb : Below base w0 w) (hbs : base ≤ w.heap.size)
    (hK : ∀ w3, Arc1 w w3 base g ns (xs ++ [tt]) w0 → K (a.put o.dst (.slice (some ⟨g, 0, none⟩) (xs.length + 1) ns)) w3) :
    if Region.wanted o (yielded ops a.tmps) = true then Oper.wp Try.prog o a (w.drew.alloc (.cells #[.int .i64 tt] 3)) K Q else E := by
  obtain ⟨i3, hi3, hzz⟩ := Option.map_eq_some_iff.1 info3
  simp only [Prod.mk.injEq] at hzz
  refine step_append_room hgd s x 27 hop 3 i3 1 Try.underlying27 hi3 hzz.2.1 g 0 xs.length ns hs ⟨w.heap.size, 0, none⟩ 1 1 [.int .i64 tt] hx rfl (fun j u hj => ?_) (fun u hu => by rw [List.mem_singleton.mp hu]; rfl) (by omega) (fun j hj => ?_) (hK _ (arc_mid tt hbuf hlt hb hbs))
  · have e := blk_new w.drew (.cells #[.int .i64 tt] 3)
    obtain ⟨hj1, hj2⟩ := List.getElem?_eq_some_iff.mp hj
    obtain rfl : j = 0 := by simpa using hj1
    rw [add_plain]
    exact (blk_cell e 0).trans (by simpa using hj2)
  · obtain rfl : j = 0 := by simpa using hj
    exact row_room (rowBuf_drewAlloc hbuf (.cells #[.int .i64 tt] 3)) hlt
set_option maxHeartbeats 4000000 in
theorem arc_calls (base O Sb Mb B ns : Nat) (a0 a2 a3 : Int) (A : Option Addr) (ln c : Nat) (next : List (List Int)) (acc : List Bool) (n : Int) (i : Nat) (xs : List Int) (sy tt : Int) (anew : Bool) (w0 w : World)
    (h : DS w base O Sb Mb B ns (avC a0 (ns : Int) a2 a3 A ln c) next acc n) (hi : next[i]? = some xs) (hlt : xs.length < ns) (hSB : base ≤ Sb) (hbw : Below base w0 w) (hns : ns ≤ 4096) (hln : next.length ≤ 1024) (hn0 : 0 ≤ n) (hn1 : n ≤ 1024) :
    Calls Try.prog 49 #[.int .i64 (i : Int), .int .i64 sy, .int .i64 tt, .bool anew, .pointer (some ⟨O, 0, none⟩), .pointer (some ⟨Sb, 0, none⟩), .pointer (some ⟨Mb, 0, none⟩)] w
      (ArcPost base O Sb Mb B ns (avC a0 (ns : Int) a2 a3 A ln c) (next.set i (xs ++ [tt])) acc (if anew = true then n + 1 else n) (anew && manyF ns (n + 1)) w0 w) := by
  obtain ⟨⟨vn, va, gs, hO, hN, hA, hSg⟩, hS, hM, hB⟩ := h
  have hil : i < next.length := (List.getElem?_eq_some_iff.mp hi).1
  have hig : i < gs.length := by rw [hN.len]; exact hil
  obtain ⟨g, hg⟩ : ∃ g, gs[i]? = some g := ⟨gs[i], List.getElem?_eq_getElem hig⟩
  have hbuf := hN.rows i g xs hg hi
  have hown := hN.own
  rw [rowPs_raw, raw_scalar] at hown
  have hpl : (rowPs gs next).length = next.length := by simp [rowPs, List.length_zip, hN.len]
  obtain ⟨G, cap, rfl, hG1, hG2, cells, hG3⟩ := Kd.R_form hown (by rw [hpl]; omega)
  have hcell := Kd.R_celln (0, 0) hown (i : Int) (by omega) (by rw [hpl]; omega)
  rw [Int.toNat_natCast, show rdOf (0, 0) (rowPs gs next) (i : Int) = (g, xs.length) by unfold rdOf; rw [Int.toNat_natCast, List.getD_eq_getElem?_getD, rowPs_get hg hi]; rfl] at hcell
  rw [hpl] at hO hN
  have hc1 : w.cell? ⟨O, 1, none⟩ = some (.slice (some ⟨G, 0, none⟩) next.length cap) := (blk_cell hO 1).trans rfl
  have hc2 : w.cell? ⟨G, i, none⟩ = some (.slice (some ⟨g, 0, none⟩) xs.length ns) := hcell.1
  have hz2 := hcell.2
  have hO1 : ∀ o : Obj, (w.alloc o).cell? ⟨O, 1, none⟩ = some (.slice (some ⟨G, 0, none⟩) next.length cap) := fun o => (blk_cell (blk_alloc hO o) 1).trans rfl
  have hO2 : ∀ o : Obj, (w.alloc o).cell? ⟨G, i, none⟩ = some (.slice (some ⟨g, 0, none⟩) xs.length ns) := fun o => pw_cell_below (below_alloc (Below.refl _ _) o) hc2
  have HBS := Aside0.mk (show base ≤ w.heap.size by omega)
  have HD1 : Aside0 (∀ w3, Arc1 w w3 base g ns (xs ++ [tt]) w0 → w3.cell? ⟨O, 1, none⟩ = some (.slice (some ⟨G, 0, none⟩) next.length cap)) := ⟨fun w3 h3 => (blk_cell ((h3.keep O (blk_lt hO) (blk_ne hbuf.hb hO (by decide)).symm).trans hO) 1).trans rfl⟩
  have HD2 : Aside0 (∀ w3, Arc1 w w3 base g ns (xs ++ [tt]) w0 → w3.cell? ⟨G, i, none⟩ = some (.slice (some ⟨g, 0, none⟩) xs.length ns) ∧ w3.frozen? ⟨G, i, none⟩ = false) := ⟨fun w3 h3 => by
    have e := (h3.keep G hG2 (blk_ne hbuf.hb hG3 (by decide)).symm).trans hG3
    exact ⟨((blk_cell e i).trans (blk_cell hG3 i).symm).trans hcell.1, blk_frozen e i⟩⟩
  have HBF := Aside0.mk hbuf
  have HLT := Aside0.mk hlt
  have HO := Aside0.mk hO
  have HN := Aside0.mk hN
  have HA := Aside0.mk hA
  have HSG := Aside0.mk hSg
  have HS := Aside0.mk hS
  have HM := Aside0.mk hM
  have HB := Aside0.mk hB
  have HG := Aside0.mk hg
  have HI := Aside0.mk hi
  have HBW := Aside0.mk hbw
  have HSB := Aside0.mk hSB
  clear hO hN hA hSg hS hM hB hg hi hbw hSB hbuf hlt hcell hown hpl hig hG1 hG2 hG3
  go_enter Try.func49, Try.ntmps49
  go_upto_region 0 with (fail)
  go_cut [11, 12, 13, 14, 15, 16, 17, 18, 19, 20, 21, 22] (fun _ _ _ _ _ _ _ _ _ _ _ _ wc => Aside0 (DS wc base O Sb Mb B ns (avC a0 (ns : Int) a2 a3 A ln c) (next.set i (xs ++ [tt])) acc n) ∧ Aside0 (Below base w0 wc) ∧ Aside0 (KeepD w wc))
  case first =>
    go_region_law (refine arc_law (w := w) (w0 := w0) (base := base) (g := g) (ns := ns) (xs := xs) (tt := tt) rfl (.tmp 18) (.tmp 20) rfl ?_ ?_ HBF.out HLT.out HBW.out HBS.out ?_; rfl; rfl; intro w3 hA3; have HA3 := Aside0.mk hA3; clear hA3; have hd1 : w3.cell? ⟨O, 1, none⟩ = some (.slice (some ⟨G, 0, none⟩) next.length cap) := HD1.out w3 HA3.out; have hd2 : w3.cell? ⟨G, i, none⟩ = some (.slice (some ⟨g, 0, none⟩) xs.length ns) := (HD2.out w3 HA3.out).1; have hd3 : w3.frozen? ⟨G, i, none⟩ = false := (HD2.out w3 HA3.out).2)
    all_goals (go_wp2_with (fail); go_meet)
    all_goals
      have hdone := arc_done HO.out HN.out HA.out HSG.out HS.out HM.out HB.out HG.out HI.out HA3.out
      exact ⟨⟨hdone.1⟩, ⟨hdone.2.1⟩, ⟨hdone.2.2⟩⟩
  case rest =>
    obtain ⟨HD, HBW2, HK⟩ := hcut
    clear hc1 hc2 hz2 hO1 hO2 hil HD1 HD2 HO HN HA HSG HS HM HB HG HI HBF HLT HBS
    cases anew with
    | false =>
      go_wp2
      go_end0
      exact ⟨HBW2.out, HK.out, rfl, HD.out⟩
    | true =>
      have hs0 : wc.cell? ⟨Sb, 0, none⟩ = some (.int .i64 n) := (blk_cell HD.out.st 0).trans rfl
      have hs1 := blk_frozen HD.out.st 0
      have hcnt := ds_count (n' := n + 1) HD.out HSB.out HBW2.out
      have HD2 := Aside0.mk hcnt.1
      have HBW3 := Aside0.mk hcnt.2.1
      have HK3 := Aside0.mk (keepD_trans HK.out hcnt.2.2)
      have hm0 : (wc.setCell ⟨Sb, 0, none⟩ (.int .i64 (n + 1))).cell? ⟨Mb, 0, none⟩ = some (.func (.func 46) #[] #[.pointer (some ⟨B, 0, none⟩)]) := (blk_cell HD2.out.mb 0).trans rfl
      have hs2 : (wc.setCell ⟨Sb, 0, none⟩ (.int .i64 (n + 1))).cell? ⟨Sb, 0, none⟩ = some (.int .i64 (n + 1)) := (blk_cell HD2.out.st 0).trans rfl
      clear hcnt
      go_wp2_with (fail)
      go_at_call 46
      refine (many_calls B a0 ns a2 a3 A ln c (n + 1) _ HD2.out.bb).mono ?_
      rintro e w5 ⟨he, rfl⟩
      cases hmany : manyF ns (n + 1) with
      | true =>
        rw [hmany] at he
        obtain rfl : e = tooMany := he
        clear hmany
        go_wp2
        exact ⟨rfl, HBW3.out, HK3.out, rfl⟩
      | false =>
        rw [hmany] at he
        obtain rfl : e = .returned (.tuple #[]) := he
        have HMN := Aside0.mk hmany
        clear hmany
        go_wp2
        go_end0
        refine ⟨HBW3.out, HK3.out, ?_⟩
        rw [if_neg (by simp [HMN.out])]
        exact ⟨rfl, HD2.out⟩
end Go.Proofs.Ytapinbmkjkbkkaa.Mk
namespace Go.Proofs.Ytapinbmkjkbkkaa.Mk
open Go.RowKit Go.Proofs.YtapinbmkjkbkkaaW.PrintWords Go.Proofs.YtapinbmkjkbkkaaW.PrintLast Go.Proofs.YtapinbmkjkbkkaaW.PrintMore Lb
theorem info80_ : (Try.prog.info? 80).map (fun i => (i.zero, i.size, i.bytes)) = some (some (.slice none 0 0), 1, 24) := by kernel_rfl
abbrev kSets : Kd (List Int) := Kd.slice 115 (Kd.int .u64)
theorem names_keepD {w w' : World} {b : Nat} {l : List (List UInt8)} (h : NamesAt w b l) (hk : KeepD w w') : NamesAt w' b l := by
  obtain ⟨D, ⟨es, clock, h1, h2⟩, h3⟩ := h
  exact ⟨D, ⟨es, clock, hk.2 b _ h1 (fun _ _ _ e => by cases e), h2⟩, h3⟩
theorem names_ne {w : World} {b : Nat} {l : List (List UInt8)} (h : NamesAt w b l) {g : Nat} {cs : Array Value} {t : TypeId} {fr : Nat × Nat} (hg : w.heap[g]? = some (.cells cs t fr)) : g ≠ b := by
  obtain ⟨D, ⟨es, clock, h1, h2⟩, h3⟩ := h
  rintro rfl
  rw [h1] at hg
  cases hg
theorem R_mapput {α : Type} {d : Kd α} {e base : Nat} {W W1 : World} {ok : Nat → Prop} {v : Value} {xs : List α} {b : Nat} {l : List (List UInt8)} (h : d.R e W base ok v xs) (hn : NamesAt W b l) (hg : W.grownBy W1 (some b)) : d.R e W1 base ok v xs :=
  Kd.R_mono (Kd.R_grown (Kd.R_bound h) hg (fun k hk e => by
    obtain ⟨_, _, _, q, hq, cells, hc⟩ := hk
    exact names_ne hn hc (Option.some.inj e))) (fun _ hk => hk.1)
def MoveC (W W1 : World) : Prop := W.heap.size ≤ W1.heap.size ∧ ∀ (g : Nat) (cs : Array Value) (t : TypeId) (fr : Nat × Nat), t ≠ 80 → W.heap[g]? = some (.cells cs t fr) → W1.heap[g]? = some (.cells cs t fr)
theorem moveC_below {W W1 : World} (h : Below W.heap.size W W1) : MoveC W W1 := ⟨h.size, fun g _ _ _ _ hg => (h.block g (blk_lt hg)).trans hg⟩
theorem moveC_map {W W1 : World} {b : Nat} {l : List (List UInt8)} (hn : NamesAt W b l) (hg : W.grownBy W1 (some b)) : MoveC W W1 :=
  ⟨hg.size, fun _ _ _ _ _ h => blk_grown h hg (fun e => names_ne hn h (Option.some.inj e))⟩
theorem moveC_sets {W W1 : World} {base : Nat} {v : Value} {sets : List (List Int)} (hR : kSets.R 80 W base (fun _ => True) v sets) (hg : W.grownBy W1 v.ownBlock) : MoveC W W1 :=
  ⟨hg.size, fun g cs t fr ht h => blk_grown h hg (fun e => by
    obtain ⟨c, hc⟩ := Kd.R_typed hR g e.symm
    rw [h] at hc
    injection hc with hc
    injection hc with _ hc
    exact ht hc)⟩
theorem ds_move {W W1 : World} {base O Sb Mb B ns : Nat} {ac : Array Value} {next : List (List Int)} {acc : List Bool} {n : Int} (h : DS W base O Sb Mb B ns ac next acc n) (hm : MoveC W W1) : DS W1 base O Sb Mb B ns ac next acc n := by
  obtain ⟨⟨vn, va, gs, h1, h2, h3, h4⟩, h5, h6, h7⟩ := h
  refine ⟨⟨vn, va, gs, hm.2 _ _ _ _ (by decide) h1, next_move h2 ?_ (fun g hg => ?_), ?_, h4⟩, hm.2 _ _ _ _ (by decide) h5, hm.2 _ _ _ _ (by decide) h6, hm.2 _ _ _ _ (by decide) h7⟩
  · refine Kd.R_mono (Kd.R_move (Kd.R_bound h2.own) fun k hk => ?_) (fun _ hk => hk.1)
    obtain ⟨_, _, _, q, hq, cells, hc⟩ := hk
    rw [hc]
    obtain rfl : q = 27 := by simpa [Kd.raw] using hq
    exact hm.2 _ _ _ _ (by decide) hc
  · obtain ⟨xs, hx⟩ := next_mem h2 hg
    rw [hx.hb]
    exact hm.2 _ _ _ _ (by decide) hx.hb
  · refine Kd.R_mono (Kd.R_move (Kd.R_bound h3) fun k hk => ?_) (fun _ hk => hk.1)
    obtain ⟨_, _, _, q, hq, cells, hc⟩ := hk
    rw [hc]
    obtain rfl : q = 4 := by simpa [Kd.bool, Kd.scalar] using hq
    exact hm.2 _ _ _ _ (by decide) hc
structure SI (w0 wr : World) (base X O Sb Mb B ns : Nat) (ac : Array Value) (next : List (List Int)) (acc : List Bool) (n : Int) : Prop where
  bx : wr.heap[X]? = some (.cells ac 31 (0, 0))
  ds : DS wr base O Sb Mb B ns ac next acc n
  bl : Below base w0 wr
  sz : base ≤ wr.heap.size
section
variable {w0 wr w2 : World} {base X O Sb Mb B ns : Nat} {ac : Array Value} {next : List (List Int)} {acc : List Bool} {n : Int}
theorem si_move (h : SI w0 wr base X O Sb Mb B ns ac next acc n) (hm : MoveC wr w2) (hb : Below base w0 w2) : SI w0 w2 base X O Sb Mb B ns ac next acc n :=
  ⟨hm.2 _ _ _ _ (by decide) h.bx, ds_move h.ds hm, hb, Nat.le_trans h.sz hm.1⟩
theorem si_below (h : SI w0 wr base X O Sb Mb B ns ac next acc n) (hb : Below wr.heap.size wr w2) : SI w0 w2 base X O Sb Mb B ns ac next acc n :=
  si_move h (moveC_below hb) (below_then h.bl h.sz hb)
theorem si_map {b : Nat} {l : List (List UInt8)} (h : SI w0 wr base X O Sb Mb B ns ac next acc n) (hn : NamesAt wr b l) (hg : wr.grownBy w2 (some b)) (hb : base ≤ b) : SI w0 w2 base X O Sb Mb B ns ac next acc n :=
  si_move h (moveC_map hn hg) (pw_below_grown h.bl (some b) h.sz hg (fun q hq => by injection hq; omega))
end
theorem R_single {w : World} {base : Nat} {v : Value} {s : List Int} (hR : Kd.R (Kd.int .u64) 115 w base (fun _ => True) v s) (hb : base ≤ w.heap.size) : kSets.R 80 (w.alloc (.cells #[v] 80)) base (fun _ => True) (.slice (some ⟨w.heap.size, 0, none⟩) 1 1) [s] := by
  refine ⟨fun _ _ => trivial, [v], ⟨rfl, .inr ⟨w.heap.size, 1, #[v], rfl, hb, blk_new _ _, Nat.le_refl _, by unfold maxLen; omega, rfl, rfl⟩⟩, rfl, fun j p hj => ?_⟩
  obtain ⟨hj1, hj2⟩ := List.getElem?_eq_some_iff.mp hj
  obtain rfl : j = 0 := by simpa using hj1
  obtain rfl : s = p := by simpa using hj2
  refine ⟨v, rfl, Kd.R_mono (Kd.R_alloc (Kd.R_bound hR) _) (fun k hk => ⟨trivial, fun e => ?_⟩)⟩
  have h1 := hk.2.2.1
  have : k = w.heap.size := by simpa [Value.ownBlock] using e
  omega
def SubPost (base O Sb Mb B ns : Nat) (ac : Array Value) (w0 : World) (o : Option (List (List Int) × List Bool)) (e : Ending) (W : World) : Prop :=
  match o with
  | none => e = tooMany ∧ Below base w0 W
  | some p => e = .returned (.tuple #[]) ∧ (∃ n, DS W base O Sb Mb B ns ac p.1 p.2 n) ∧ Below base w0 W
structure SZ (i : Nat) (sets : List (List Int)) (ks : List (List UInt8)) (next : List (List Int)) (acc : List Bool) (n : Int) : Prop where
  hk : ks.length = sets.length
  hi : i ≤ sets.length
  hs : sets.length ≤ 1024
  hn : n = (sets.length : Int)
  hne : next.length = i
  hac : acc.length = i
theorem getD_of {α : Type} {l : List α} {i : Nat} {x z : α} (h : l[i]? = some x) : l.getD i z = x := by rw [List.getD_eq_getElem?_getD, h]; rfl
theorem set_at {W : World} {base : Nat} {g cap i : Nat} {n : Nat} {sets : List (List Int)} {S : List Int} (h : kSets.R 80 W base (fun _ => True) (.slice (some ⟨g, 0, none⟩) n cap) sets) (hi : sets[i]? = some S) :
    ∃ As cs, W.cell? ⟨g, i, none⟩ = some (.slice As S.length cs) ∧ S.length ≤ cs ∧ Kd.R (Kd.int .u64) 115 W base (fun _ => True) (.slice As S.length cs) S := by
  obtain ⟨hn, _, _⟩ := Kd.R_reads' h
  have hl := (List.getElem?_eq_some_iff.mp hi).1
  obtain ⟨c, hc1, ⟨v, rfl, hv⟩, hc2, _⟩ := Kd.R_elem h ([] : List Int) (i : Int) (by omega) (by omega)
  rw [Int.toNat_natCast, getD_of hi] at hv
  obtain ⟨As, cs, rfl⟩ := Kd.R_slice hv
  have := hc2 0 _ rfl
  rw [Int.toNat_natCast] at this
  have e : i * kSets.sz + 0 = i := by show i * 1 + 0 = i; omega
  rw [e] at this
  exact ⟨As, cs, this, (Kd.R_reads' hv).2.1, Kd.R_mono hv (fun _ _ => trivial)⟩
structure SZ2 (ns i j : Nat) (sets : List (List Int)) (ks : List (List UInt8)) (S row : List Int) (n : Int) : Prop where
  hk : ks.length = sets.length
  hi : sets[i]? = some S
  hs : sets.length ≤ 1024
  hn : n = (sets.length : Int)
  hr : row.length = j
  hj : j ≤ ns
theorem set_last {α : Type} {l : List α} {i : Nat} (h : l.length = i) (x y : α) : (l ++ [x]).set i y = l ++ [y] := by subst h; simp
set_option maxRecDepth 100000 in
set_option maxHeartbeats 12800000 in
theorem subsets_calls (k base O Sb Mb B ns : Nat) (a0 a2 a3 : Int) (A : Option Addr) (c : Nat) (l : List S78) (w0 W : World)
    (hD : DS W base O Sb Mb B ns (avC a0 (ns : Int) a2 a3 A l.length c) [] [] 1) (hb : Below base w0 W) (hOB : base ≤ O) (hSB : base ≤ Sb) (hw0 : w0.heap.size ≤ base) (hr : Kd.C k78 w0 A l.length l) (hc : l.length ≤ c) (hns : ns ≤ 4096)
    (b0 b1 s0 : List Int) (key : ByteArray) (h1 : nfa_empty.f a0 = some b0) (h2 : nfa_some_put.f b0 a2 = some b1) (h3 : nfa_closed.f k a0 ns a2 a3 l b1 = some s0) (h4 : nfa_key.f k s0 = some key) (hks : key.size ≤ 4096)
    (o : Option (List (List Int) × List Bool)) (h5 : dfaL k a0 ns a2 a3 l k 0 [s0] [nk key] [] [] = some o) :
    Calls Try.prog 47 #[.agg #[.int .i64 a0, .int .i64 (ns : Int), .int .i64 a2, .int .i64 a3, .slice A l.length c], .func (.func 48) #[] #[.pointer (some ⟨O, 0, none⟩), .pointer (some ⟨B, 0, none⟩)], .func (.func 49) #[] #[.pointer (some ⟨O, 0, none⟩), .pointer (some ⟨Sb, 0, none⟩), .pointer (some ⟨Mb, 0, none⟩)]] W
      (SubPost base O Sb Mb B ns (avC a0 (ns : Int) a2 a3 A l.length c) w0 o) := by
  have hm : l.length ≤ 9223372036854775807 := hr.2.1
  have hsz : base ≤ W.heap.size := by have := blk_lt hD.st; omega
  have HR := Aside0.mk hr
  have HC := Aside0.mk hc
  have HB := Aside0.mk hb
  have HD := Aside0.mk hD
  have HW := Aside0.mk hw0
  have H1 := Aside0.mk h1
  have H2 := Aside0.mk h2
  have H3 := Aside0.mk h3
  have H4 := Aside0.mk h4
  have H5 := Aside0.mk h5
  have HKS := Aside0.mk hks
  have HNS := Aside0.mk hns
  have HOB := Aside0.mk hOB
  have HSB := Aside0.mk hSB
  have HSI0 : Aside0 (SI w0 (W.alloc (.cells #[.int .i64 a0, .int .i64 (ns : Int), .int .i64 a2, .int .i64 a3, .slice A l.length c] 31)) base W.heap.size O Sb Mb B ns (avC a0 (ns : Int) a2 a3 A l.length c) [] [] 1) :=
    ⟨⟨blk_new _ _, ds_below hD (below_alloc (Below.refl _ _) _), hb.alloc hsz _, by simp; omega⟩⟩
  clear hr hc hb hD hw0 h1 h2 h3 h4 h5 hks hns hOB hSB
  go_enter Try.func47, Try.ntmps47
  go_wp2_with (fail)
  go_at_call 54
  refine (nfa_empty.calls a0 b0 _ H1.out).mono ?_
  rintro e w1 ⟨v0, rfl, hR1, hb1⟩
  have HSI1 := Aside0.mk (si_below HSI0.out hb1)
  have HBW1 : Aside0 (Below W.heap.size W w1) := ⟨below_then (below_alloc (Below.refl _ _) _) (by simp) hb1⟩
  have HR1 := Aside0.mk (Kd.R_lower hR1 (show W.heap.size ≤ _ by simp))
  have HGT1 : Aside0 (W.heap.size < w1.heap.size) := ⟨blk_lt HSI1.out.bx⟩
  obtain ⟨A0, c0, rfl⟩ := Kd.R_slice hR1
  have hc2 : w1.cell? ⟨W.heap.size, 2, none⟩ = some (.int .i64 a2) := (blk_cell HSI1.out.bx 2).trans rfl
  clear hR1 hb1 HSI0
  go_wp2_with (fail)
  go_at_call 40
  refine (nfa_some_put.calls (fun k_ => some k_ = (Value.slice A0 b0.length c0).ownBlock) (.slice A0 b0.length c0) b0 a2 b1 W _ HBW1.out (Kd.R_tight rfl HR1.out) H2.out).mono ?_
  rintro e w2 ⟨rfl, hR2, hb2, hk2⟩
  have BX2 := Aside0.mk (blk_kept HSI1.out.bx hk2 (Kd.R_ne HR1.out HSI1.out.bx (by decide)))
  have HSI2 : Aside0 (SI w0 w2 base W.heap.size O Sb Mb B ns (avC a0 (ns : Int) a2 a3 A l.length c) [] [] 1) := ⟨⟨BX2.out, ds_below HD.out hb2, below_then HB.out hsz hb2, Nat.le_trans hsz hb2.size⟩⟩
  have hlen : b1.length = b0.length := by obtain ⟨_, _, e⟩ := Kd.R_slice hR2; injection e with _ e _; exact e.symm
  obtain ⟨hrd1, hrd2, hrd3⟩ := Kd.R_reads' hR2
  have HC2 := Aside0.mk hrd3
  have HL2 := Aside0.mk hrd2
  rw [← hlen] at HL2
  rw [← hlen]
  have hd0 : w2.cell? ⟨W.heap.size, 0, none⟩ = some (.int .i64 a0) := (blk_cell HSI2.out.bx 0).trans rfl
  have hd1 : w2.cell? ⟨W.heap.size, 1, none⟩ = some (.int .i64 (ns : Int)) := (blk_cell HSI2.out.bx 1).trans rfl
  have hd2 : w2.cell? ⟨W.heap.size, 2, none⟩ = some (.int .i64 a2) := (blk_cell HSI2.out.bx 2).trans rfl
  have hd3 : w2.cell? ⟨W.heap.size, 3, none⟩ = some (.int .i64 a3) := (blk_cell HSI2.out.bx 3).trans rfl
  have hd4 : w2.cell? ⟨W.heap.size, 4, none⟩ = some (.slice A l.length c) := (blk_cell HSI2.out.bx 4).trans rfl
  clear hR2 hb2 hk2 hrd1 hrd2 hrd3 hc2 HSI1 HBW1 HR1 hlen BX2
  go_wp2_with (fail)
  go_at_call 41
  refine (nfa_closed.calls k a0 ns a2 a3 A c l A0 c0 b1 s0 _ (Kd.C_below HR.out (HSI2.out.bl.mono HW.out)) HC.out HC2.out HL2.out H3.out).mono ?_
  rintro e w3 ⟨v3, rfl, hR3, hb3⟩
  have HSI3 := Aside0.mk (si_below HSI2.out hb3)
  have HR3 := Aside0.mk (Kd.R_lower hR3 HSI2.out.sz)
  obtain ⟨A3, c3, rfl⟩ := Kd.R_slice hR3
  have HGT3 : Aside0 (W.heap.size < w3.heap.size) := ⟨blk_lt HSI3.out.bx⟩
  clear hR3 hb3 hd0 hd1 hd2 hd3 hd4 HC2 HL2 HSI2
  obtain ⟨w4, hw4⟩ : ∃ w4, w4 = (w3.alloc (.cells #[.slice A3 s0.length c3] 80)).alloc (.map #[] 0) := ⟨_, rfl⟩
  have hB4 : Below w3.heap.size w3 w4 := by rw [hw4]; exact below_alloc (below_alloc (Below.refl _ _) _) _
  have HSI4 := Aside0.mk (si_below HSI3.out hB4)
  have HR4 := Aside0.mk (Kd.R_below HR3.out hB4)
  have HSE4 : Aside0 (kSets.R 80 w4 base (fun _ => True) (.slice (some ⟨w3.heap.size, 0, none⟩) 1 1) [s0]) := ⟨by rw [hw4]; exact Kd.R_alloc (R_single HR3.out HSI3.out.sz) _⟩
  have HN4 : Aside0 (NamesAt w4 (w3.heap.size + 1) []) := ⟨by have e := names_new (w3.alloc (.cells #[.slice A3 s0.length c3] 80)); rw [← hw4] at e; simpa using e⟩
  have hx4 : w4.cell? ⟨w3.heap.size, 0, none⟩ = some (.slice A3 s0.length c3) := by obtain ⟨A', c', e, _, hR'⟩ := set_at (i := 0) (S := s0) HSE4.out rfl; rw [hw4]; exact (blk_cell (blk_alloc (blk_new w3 _) _) 0).trans rfl
  obtain ⟨_, hL4, hC4⟩ := Kd.R_reads' HR4.out
  have HC4 := Aside0.mk hC4
  have HL4 := Aside0.mk hL4
  have HSZ3 := Aside0.mk HSI3.out.sz
  have hmm : (Instr.makeMap 69 none).run Try.prog (w3.alloc (.cells #[.slice A3 s0.length c3] 80)) = .ok (.map (some (w3.heap.size + 1))) w4 := by rw [run_makeMap, hw4]; simp
  clear HSI3 HR3 hB4 hL4 hC4 HR4 hw4
  go_wp2_with (fail)
  go_at_call 77
  refine (nfa_key.calls k A3 c3 s0 key _ HC4.out HL4.out H4.out).mono ?_
  rintro e w5 ⟨rfl, hb5⟩
  have HSI5 := Aside0.mk (si_below HSI4.out hb5)
  have HSE5 := Aside0.mk (Kd.R_below HSE4.out hb5)
  have HN5 := Aside0.mk (names_below HN4.out hb5)
  obtain ⟨w6, hrun, hn6, hg6⟩ := names_put HN5.out key (by have := HKS.out; unfold maxLen; omega) (by simp) (by simp)
  have HSI6 := Aside0.mk (si_map HSI5.out HN5.out hg6 (by have := HSZ3.out; omega))
  have HSE6 := Aside0.mk (R_mapput HSE5.out HN5.out hg6)
  have HN6 : Aside0 (NamesAt w6 (w3.heap.size + 1) [nk key]) := ⟨hn6⟩
  have hrun' : (Instr.mapUpdate 69 (.map (some (w3.heap.size + 1))) (.string key) (.int .i64 0)).run Try.prog w5 = .ok () w6 := hrun
  clear hrun hn6 hg6 hb5 hx4 hmm HSI4 HSE4 HN4 HC4 HL4 HSI5 HSE5 HN5
  have HMB : Aside0 (base ≤ w3.heap.size + 1) := ⟨by have := HSZ3.out; omega⟩
  go_wp2_with (fail)
  clear hrun'
  obtain ⟨mb, hmb⟩ : ∃ mb, mb = w3.heap.size + 1 := ⟨_, rfl⟩
  rw [← hmb] at HN6 HMB
  rw [← hmb]
  obtain ⟨X, hX⟩ : ∃ X, X = W.heap.size := ⟨_, rfl⟩
  rw [← hX] at HSI6
  rw [← hX]
  obtain ⟨g0, hg0⟩ : ∃ g0, g0 = w3.heap.size := ⟨_, rfl⟩
  rw [← hg0] at HSE6
  rw [← hg0]
  clear hmb hX hg0 HSZ3 HGT3 HGT1 hsz H1 H2 H3 H4 HKS HD HB
  go_loopg [7, 9] k (fun q v7 v9 wr => ∃ (i : Nat) (sets : List (List Int)) (ks : List (List UInt8)) (next : List (List Int)) (acc : List Bool) (n : Int), v9 = .int .i64 i ∧ Aside0 (dfaL k a0 ns a2 a3 l q i sets ks next acc = some o) ∧ Aside0 (SZ i sets ks next acc n) ∧ Aside0 (SI w0 wr base X O Sb Mb B ns (avC a0 (ns : Int) a2 a3 A l.length c) next acc n) ∧ Aside0 (kSets.R 80 wr base (fun _ => True) v7 sets) ∧ Aside0 (NamesAt wr mb ks))
  case atStart => exact ⟨0, [s0], [nk key], [], [], 1, rfl, H5, ⟨⟨rfl, by simp, by simp, rfl, rfl, rfl⟩⟩, HSI6, HSE6, HN6⟩
  case round =>
    obtain ⟨i, sets, ks, next, acc, n, rfl, HL, HSZ, HSI, HSE, HN⟩ := hrel
    clear HSI6 HSE6 HN6 H5
    cases gk with
    | zero => exact absurd HL.out (by simp [dfaL])
    | succ J =>
      have hL := HL.out
      clear HL
      rw [dfaL] at hL
      by_cases hlt : i < sets.length
      · rw [if_pos hlt] at hL
        obtain ⟨b, hb, hL⟩ := Option.bind_eq_some_iff.mp hL
        obtain ⟨o2, ho2, hL⟩ := Option.bind_eq_some_iff.mp hL
        obtain ⟨S, hS⟩ : ∃ S, sets[i]? = some S := ⟨sets[i], List.getElem?_eq_getElem hlt⟩
        rw [getD_of hS] at hb ho2
        rw [Int.toNat_natCast] at ho2
        have HL := Aside0.mk hL
        have HO2 := Aside0.mk ho2
        have HS := Aside0.mk hS
        obtain ⟨g7, cap7, rfl, hg7, _⟩ := Kd.R_form HSE.out (by omega)
        obtain ⟨As, cs, hcell, hcs, hRS⟩ := set_at HSE.out hS
        have hmet := met_ds HSI.out.ds As cs S b i hRS hb HOB.out HSI.out.bl HNS.out (by have := HSZ.out.hne; have := HSZ.out.hs; omega) (by have := HSZ.out.hac; have := HSZ.out.hs; omega)
        have HMET := Aside0.mk hmet
        clear hL ho2 hS hb hcs hRS hg7 hmet
        go_wp2_with (fail)
        go_at_call 48
        refine HMET.out.mono ?_
        rintro e w8 ⟨rfl, hD8, hb8, hk8⟩
        have HSI8 : Aside0 (SI w0 w8 base X O Sb Mb B ns (avC a0 (ns : Int) a2 a3 A l.length c) (next ++ [[]]) (acc ++ [b]) n) := ⟨⟨keepD_cells hk8 HSI.out.bx (by decide), hD8, hb8, Nat.le_trans HSI.out.sz hk8.1⟩⟩
        have HSE8 : Aside0 (kSets.R 80 w8 base (fun _ => True) (.slice (some ⟨g7, 0, none⟩) sets.length cap7) sets) := ⟨keepD_R HSE.out hk8 (by decide)⟩
        have HN8 := Aside0.mk (names_keepD HN.out hk8)
        have hx1 : w8.cell? ⟨X, 1, none⟩ = some (.int .i64 (ns : Int)) := (blk_cell HSI8.out.bx 1).trans rfl
        clear hD8 hb8 hk8 hcell HSI HSE HN HMET
        go_wp2
        go_loopg [7, 47] ns (fun q v7 v47 wr => ∃ (j : Nat) (sets2 : List (List Int)) (ks2 : List (List UInt8)) (row : List Int) (n2 : Int), v47 = .int .i64 j ∧ q = ns - j ∧ Aside0 (rowF k a0 ns a2 a3 l S (ns - j) j sets2 ks2 row = some o2) ∧ Aside0 (SZ2 ns i j sets2 ks2 S row n2) ∧ Aside0 (SI w0 wr base X O Sb Mb B ns (avC a0 (ns : Int) a2 a3 A l.length c) (next ++ [row]) (acc ++ [b]) n2) ∧ Aside0 (kSets.R 80 wr base (fun _ => True) v7 sets2) ∧ Aside0 (NamesAt wr mb ks2))
        case atStart => exact ⟨0, sets, ks, [], n, rfl, rfl, HO2, ⟨⟨HSZ.out.hk, HS.out, HSZ.out.hs, HSZ.out.hn, rfl, Nat.zero_le _⟩⟩, HSI8, HSE8, HN8⟩
        case round =>
          obtain ⟨j, sets2, ks2, row, n2, rfl, rfl, HRF, HZ2, HSI, HSE, HN⟩ := hrel
          clear HSI8 HSE8 HN8 hx1 HO2 HS
          have hjle := HZ2.out.hj
          have hns4 := HNS.out
          by_cases hj : j < ns
          · obtain ⟨d, hd⟩ : ∃ d, ns - j = d + 1 := ⟨ns - j - 1, by omega⟩
            have hrf := HRF.out
            rw [hd, rowF] at hrf
            obtain ⟨t, ht, hrf⟩ := Option.bind_eq_some_iff.mp hrf
            obtain ⟨key2, hkey, hrf⟩ := Option.bind_eq_some_iff.mp hrf
            by_cases hksz : key2.size ≤ 4096
            · rw [if_pos hksz] at hrf
              have HT := Aside0.mk ht
              have HKEY := Aside0.mk hkey
              have HRF2 := Aside0.mk hrf
              have HKSZ := Aside0.mk (show key2.size ≤ maxLen by unfold maxLen; omega)
              have HDD := Aside0.mk hd
              obtain ⟨g7, cap7, rfl, hg7, _⟩ := Kd.R_form HSE.out (by have := (List.getElem?_eq_some_iff.mp HZ2.out.hi).1; omega)
              obtain ⟨As, cs, hcell, hcs, hRS⟩ := set_at HSE.out HZ2.out.hi
              have hilt : i < sets2.length := (List.getElem?_eq_some_iff.mp HZ2.out.hi).1
              have HCS := Aside0.mk hcs
              have HRS := Aside0.mk (Kd.C_below (Kd.R_reads' hRS).2.2 (below_drew1 (Below.refl _ wr)))
              have HRC := Aside0.mk (Kd.C_below HR.out ((below_drew1 HSI.out.bl).mono HW.out))
              have hd0 : wr.cell? ⟨X, 0, none⟩ = some (.int .i64 a0) := (blk_cell HSI.out.bx 0).trans rfl
              have hd1 : wr.cell? ⟨X, 1, none⟩ = some (.int .i64 (ns : Int)) := (blk_cell HSI.out.bx 1).trans rfl
              have hd2 : wr.cell? ⟨X, 2, none⟩ = some (.int .i64 a2) := (blk_cell HSI.out.bx 2).trans rfl
              have hd3 : wr.cell? ⟨X, 3, none⟩ = some (.int .i64 a3) := (blk_cell HSI.out.bx 3).trans rfl
              have hd4 : wr.cell? ⟨X, 4, none⟩ = some (.slice A l.length c) := (blk_cell HSI.out.bx 4).trans rfl
              clear ht hkey hrf hksz hd hg7 hcs hRS
              go_upto_region 12 with (fail)
              go_cut [11] (fun v11 wc => ∃ At ct, v11 = .slice At t.length ct ∧ Aside0 (Kd.R (Kd.int .u64) 115 wc base (fun _ => True) (.slice At t.length ct) t) ∧ Aside0 (SI w0 wc base X O Sb Mb B ns (avC a0 (ns : Int) a2 a3 A l.length c) (next ++ [row]) (acc ++ [b]) n2) ∧ Aside0 (kSets.R 80 wc base (fun _ => True) (.slice (some ⟨g7, 0, none⟩) sets2.length cap7) sets2) ∧ Aside0 (NamesAt wc mb ks2))
              case first =>
                go_region_law (go_simp; go_at_call 42; refine (nfa_step.calls k a0 ns a2 a3 A c l (j : Int) As cs S t _ HRC.out HC.out HRS.out HCS.out HT.out).mono ?_; rintro e w9 ⟨v9, rfl, hR9, hb9⟩; have HR9 := Aside0.mk hR9; have HB9 := Aside0.mk hb9; clear hR9 hb9)
                all_goals (go_wp2_with (fail); go_meet)
                all_goals
                  have hb10 := below_then (below_drew1 (Below.refl wr.heap.size wr)) (Nat.le_refl _) HB9.out
                  obtain ⟨At, ct, rfl⟩ := Kd.R_slice HR9.out
                  exact ⟨At, ct, rfl, ⟨Kd.R_lower HR9.out HSI.out.sz⟩, ⟨si_below HSI.out hb10⟩, ⟨Kd.R_below HSE.out hb10⟩, ⟨names_below HN.out hb10⟩⟩
              case rest =>
                obtain ⟨At, ct, rfl, HRT, HSI9, HSE9, HN9⟩ := hcut
                clear hd0 hd1 hd2 hd3 hd4 HRS HRC HCS HSI HSE HN hcell HRF HT
                obtain ⟨_, hct, hCt⟩ := Kd.R_reads' HRT.out
                have HCT := Aside0.mk hct
                have HRCT := Aside0.mk hCt
                clear hct hCt
                go_wp2_with (fail)
                go_at_call 77
                refine (nfa_key.calls k At ct t key2 _ HRCT.out HCT.out HKEY.out).mono ?_
                rintro e w10 ⟨rfl, hb10⟩
                have HSI10 := Aside0.mk (si_below HSI9.out hb10)
                have HSE10 := Aside0.mk (Kd.R_below HSE9.out hb10)
                have HRT10 := Aside0.mk (Kd.R_below HRT.out hb10)
                have HN10 := Aside0.mk (names_below HN9.out hb10)
                have hlk := names_look HN10.out key2 HKSZ.out
                clear hb10 HSI9 HSE9 HRT HN9 HRCT
                by_cases hin : nk key2 ∈ ks2
                · rw [decide_eq_true hin] at hlk
                  have hrf := HRF2.out
                  rw [if_pos hin] at hrf
                  have HRF3 : Aside0 (rowF k a0 ns a2 a3 l S (ns - (j + 1)) (j + 1) sets2 ks2 (row ++ [nameAt ks2 (nk key2)]) = some o2) := ⟨by rw [show ns - (j + 1) = d by have := HDD.out; omega]; exact hrf⟩
                  clear hrf hin HRF2
                  go_wp2_with (fail)
                  go_at_call 49
                  refine (arc_calls base O Sb Mb B ns a0 a2 a3 A l.length c (next ++ [row]) (acc ++ [b]) n2 i row (j : Int) (nameAt ks2 (nk key2)) false w0 w10 HSI10.out.ds (by rw [List.getElem?_append_right (by rw [HSZ.out.hne]; omega), HSZ.out.hne]; simp) (by rw [HZ2.out.hr]; exact hj) HSB.out HSI10.out.bl HNS.out (by rw [List.length_append, HSZ.out.hne]; have := HSZ.out.hi; have := HSZ.out.hs; simp; omega) (by rw [HZ2.out.hn]; omega) (by rw [HZ2.out.hn]; have := HZ2.out.hs; omega)).mono ?_
                  rintro e w11 ⟨hb11, hk11, he⟩
                  rw [if_neg (by simp)] at he
                  obtain ⟨rfl, hD11⟩ := he
                  rw [if_neg (by simp), set_last HSZ.out.hne] at hD11
                  have HSI11 : Aside0 (SI w0 w11 base X O Sb Mb B ns (avC a0 (ns : Int) a2 a3 A l.length c) (next ++ [row ++ [nameAt ks2 (nk key2)]]) (acc ++ [b]) n2) := ⟨⟨keepD_cells hk11 HSI10.out.bx (by decide), hD11, hb11, Nat.le_trans HSI10.out.sz hk11.1⟩⟩
                  have HSE11 := Aside0.mk (keepD_R HSE10.out hk11 (by decide))
                  have HN11 := Aside0.mk (names_keepD HN10.out hk11)
                  clear hb11 hk11 hD11 hlk HSI10 HSE10 HN10 HRT10
                  go_wp2
                  go_roundg (ns - (j + 1))
                  case measure => omega
                  case rel => exact ⟨j + 1, sets2, ks2, row ++ [nameAt ks2 (nk key2)], n2, by go_num, rfl, HRF3, ⟨⟨HZ2.out.hk, HZ2.out.hi, HZ2.out.hs, HZ2.out.hn, by rw [List.length_append, HZ2.out.hr]; rfl, by omega⟩⟩, HSI11, HSE11, HN11⟩
                · rw [decide_eq_false hin] at hlk
                  have HIN := Aside0.mk hin
                  have hrf := HRF2.out
                  rw [if_neg hin] at hrf
                  have HRF3 := Aside0.mk hrf
                  clear hrf hin HRF2
                  go_wp2_with (fail)
                  go_at_call 77
                  refine (nfa_key.calls k At ct t key2 _ (Kd.R_reads' HRT10.out).2.2 HCT.out HKEY.out).mono ?_
                  rintro e w11 ⟨rfl, hb11⟩
                  have HSI11 := Aside0.mk (si_below HSI10.out hb11)
                  have HSE11 := Aside0.mk (Kd.R_below HSE10.out hb11)
                  have HRT11 := Aside0.mk (Kd.R_below HRT10.out hb11)
                  have HN11 := Aside0.mk (names_below HN10.out hb11)
                  obtain ⟨w12, hrun, hn12, hg12⟩ := names_put HN11.out key2 HKSZ.out HIN.out (by have := HZ2.out.hk; have := HZ2.out.hs; omega)
                  rw [HZ2.out.hk] at hrun
                  have HSI12 := Aside0.mk (si_map HSI11.out HN11.out hg12 HMB.out)
                  have HSE12 := Aside0.mk (R_mapput HSE11.out HN11.out hg12)
                  have HRT12 := Aside0.mk (R_mapput HRT11.out HN11.out hg12)
                  have HN12 := Aside0.mk hn12
                  clear hb11 hlk hn12 hg12 HSI10 HSE10 HRT10 HN10 HSI11 HSE11 HRT11 HN11
                  have HLS := Aside0.mk (show (sets2.length + 1) * 24 ≤ 140737488355328 by have := HZ2.out.hs; omega)
                  go_wp2_with (at_builtin; refine Kd.R_append kSets (w0 := w0) base rfl (.tmp 72) (.tmp 74) 121 80 (.slice none 0 0) 24 rfl Try.underlying121 info80_ rfl (by decide) (by decide) _ sets2 t [.slice At t.length ct] (fun _ => True) (fun q => some q = (Value.slice At t.length ct).ownBlock) rfl rfl ?aP ?aK ?aF ?aO ?aB ?aS ?aL ?_; (case aP => exact ⟨_, rfl, Kd.R_tight rfl HRT12.out⟩); (case aK => exact (fun q hq => ⟨trivial, fun e => by obtain ⟨c1, e1⟩ := Kd.R_typed HRT12.out q hq.symm; obtain ⟨c2, e2⟩ := Kd.R_typed HSE12.out q e.symm; rw [e1] at e2; injection e2 with e2; injection e2 with _ e2; exact absurd e2 (by decide)⟩)); (case aF => exact (fun _ _ => trivial)); (case aO => exact HSE12.out); (case aB => exact HSI12.out.bl); (case aS => exact HSI12.out.sz); (case aL => exact HLS.out); intro v13 w13 hR13 hb13 hg13 hat13; obtain ⟨A13, L13, c13, rfl⟩ := raw_slice hR13; have HSI13 := Aside0.mk (si_move HSI12.out (moveC_sets HSE12.out hg13) hb13); have HSE13 := Aside0.mk hR13; have HN13 := Aside0.mk (names_kept HN12.out (hg13.block mb (names_lt HN12.out) (fun e => by obtain ⟨c2, e2⟩ := Kd.R_typed HSE12.out mb e.symm; exact names_ne HN12.out e2 rfl))); clear hR13 hb13 hg13 hat13)
                  go_at_call 49
                  refine (arc_calls base O Sb Mb B ns a0 a2 a3 A l.length c (next ++ [row]) (acc ++ [b]) n2 i row (j : Int) (sets2.length : Int) true w0 w13 HSI13.out.ds (by rw [List.getElem?_append_right (by rw [HSZ.out.hne]; omega), HSZ.out.hne]; simp) (by rw [HZ2.out.hr]; exact hj) HSB.out HSI13.out.bl HNS.out (by rw [List.length_append, HSZ.out.hne]; have := HSZ.out.hi; have := HSZ.out.hs; simp; omega) (by rw [HZ2.out.hn]; omega) (by rw [HZ2.out.hn]; have := HZ2.out.hs; omega)).mono ?_
                  rintro e w14 ⟨hb14, hk14, he⟩
                  rw [HZ2.out.hn, Bool.true_and] at he
                  cases hmany : manyF ns ((sets2.length : Int) + 1) with
                  | true =>
                    rw [if_pos hmany] at he
                    subst he
                    have hrf := HRF3.out
                    rw [if_pos hmany] at hrf
                    obtain rfl := Option.some.inj hrf
                    obtain rfl := Option.some.inj HL.out
                    have HB14 := Aside0.mk hb14
                    clear hrf hmany hb14 hk14 HSI13 HSE13 HN13
                    go_wp2
                    exact ⟨rfl, rfl, HB14.out⟩
                  | false =>
                    rw [if_neg (by rw [hmany]; simp)] at he
                    obtain ⟨rfl, hD14⟩ := he
                    rw [if_pos rfl, set_last HSZ.out.hne] at hD14
                    have hrf := HRF3.out
                    rw [if_neg (by rw [hmany]; simp)] at hrf
                    have HRF4 : Aside0 (rowF k a0 ns a2 a3 l S (ns - (j + 1)) (j + 1) (sets2 ++ [t]) (ks2 ++ [nk key2]) (row ++ [(sets2.length : Int)]) = some o2) := ⟨by rw [show ns - (j + 1) = d by have := HDD.out; omega]; exact hrf⟩
                    have HM2 : Aside0 (sets2.length + 1 ≤ 1024) := ⟨by
                      have := hmany
                      unfold manyF at this
                      rw [Bool.or_eq_false_iff] at this
                      have := of_decide_eq_false this.1
                      omega⟩
                    have HSI14 : Aside0 (SI w0 w14 base X O Sb Mb B ns (avC a0 (ns : Int) a2 a3 A l.length c) (next ++ [row ++ [(sets2.length : Int)]]) (acc ++ [b]) ((sets2.length : Int) + 1)) := ⟨⟨keepD_cells hk14 HSI13.out.bx (by decide), hD14, hb14, Nat.le_trans HSI13.out.sz hk14.1⟩⟩
                    have HSE14 := Aside0.mk (keepD_R HSE13.out hk14 (by decide))
                    have HN14 := Aside0.mk (names_keepD HN13.out hk14)
                    clear hb14 hk14 hD14 hrf hmany HSI13 HSE13 HN13 HRF3
                    go_wp2
                    go_roundg (ns - (j + 1))
                    case measure => omega
                    case rel => exact ⟨j + 1, sets2 ++ [t], ks2 ++ [nk key2], row ++ [(sets2.length : Int)], _, by go_num, rfl, HRF4, ⟨⟨by rw [List.length_append, List.length_append, HZ2.out.hk]; rfl, by rw [List.getElem?_append_left hilt]; exact HZ2.out.hi, by rw [List.length_append]; exact HM2.out, by simp, by rw [List.length_append, HZ2.out.hr]; rfl, by omega⟩⟩, HSI14, HSE14, HN14⟩
            · rw [if_neg hksz] at hrf
              exact absurd hrf (by simp)
          · obtain rfl : j = ns := by omega
            have hrf := HRF.out
            rw [Nat.sub_self, rowF] at hrf
            obtain rfl := Option.some.inj hrf
            have HL2 := Aside0.mk (show dfaL k a0 j a2 a3 l J (i + 1) sets2 ks2 (next ++ [row]) (acc ++ [b]) = some o from HL.out)
            have hi2 := (List.getElem?_eq_some_iff.mp HZ2.out.hi).1
            have HZ3 := Aside0.mk (SZ.mk (i := i + 1) HZ2.out.hk hi2 HZ2.out.hs HZ2.out.hn (by rw [List.length_append, HSZ.out.hne]; rfl) (by rw [List.length_append, HSZ.out.hac]; rfl) : SZ (i + 1) sets2 ks2 (next ++ [row]) (acc ++ [b]) n2)
            have hlim : i + 1 ≤ 1024 := by have := HZ2.out.hs; omega
            clear hrf HL HRF HZ2 HSZ
            go_wp2
            go_roundg J
            case measure => omega
            case rel => exact ⟨i + 1, sets2, ks2, next ++ [row], acc ++ [b], n2, by go_num, HL2, HZ3, HSI, HSE, HN⟩
      · rw [if_neg hlt] at hL
        obtain rfl := Option.some.inj hL
        obtain ⟨L7, c7, rfl⟩ := Kd.R_slice HSE.out
        clear hL
        go_wp2
        go_end0
        exact ⟨rfl, ⟨n, HSI.out.ds⟩, HSI.out.bl⟩
end Go.Proofs.Ytapinbmkjkbkkaa.Mk
namespace Go.Proofs.Ytapinbmkjkbkkaa.Mk
open Go.RowKit Go.Proofs.YtapinbmkjkbkkaaW.PrintWords Go.Proofs.YtapinbmkjkbkkaaW.PrintLast Go.Proofs.YtapinbmkjkbkkaaW.PrintMore Lb
theorem row_R {W : World} {base g ns : Nat} {xs : List Int} (h : RowBuf W base g xs ns) (hns : ns ≤ 4096) {ok : Nat → Prop} (hok : ok g) : Kd.R (Kd.int .i64) 3 W base ok (.slice (some ⟨g, 0, none⟩) xs.length ns) xs := by
  refine Kd.R_of_own (enc := Value.int .i64) ⟨by simp [encs], .inr ⟨g, ns, _, rfl, h.ge, h.hb, h.le, by unfold maxLen; omega, ?_, ?_⟩⟩ (fun k hk => ?_)
  · have := h.le
    simp [nums]
    omega
  · simp [nums, encs, List.map_append]
  · have : g = k := by simpa [Value.ownBlock] using hk
    exact this ▸ hok
theorem next_S {W : World} {base ns : Nat} {vn : Value} {gs : List Nat} {next : List (List Int)} (h : NextAt W base vn gs next ns) (hns : ns ≤ 4096) : Kd.S (Kd.slice 3 (Kd.int .i64)) 27 W base (fun _ => True) vn next := by
  obtain ⟨h0, inner, ho, hr1, hr2⟩ := h.own
  rw [List.length_map, List.length_zip, h.len, Nat.min_self] at ho hr1
  refine ⟨fun k => gs.idxOf k, fun _ _ => trivial, inner, by rw [List.length_zipIdx]; exact ho, by rw [List.length_zipIdx]; exact hr1, fun j p hp => ?_⟩
  rw [List.getElem?_zipIdx, Nat.zero_add] at hp
  obtain ⟨xs, hxs, rfl⟩ := Option.map_eq_some_iff.mp hp
  have hj : j < next.length := (List.getElem?_eq_some_iff.mp hxs).1
  have hjg : j < gs.length := by rw [h.len]; exact hj
  have hg : gs[j]? = some gs[j] := List.getElem?_eq_getElem hjg
  have hrow := h.rows j gs[j] xs hg hxs
  have h3 : (inner.drop (j * 1)).take 1 = [.slice (some ⟨gs[j], 0, none⟩) xs.length ns] := (hr2 j [.slice (some ⟨gs[j], 0, none⟩) xs.length ns] (by
    rw [List.getElem?_map, (List.getElem?_zip_eq_some (z := (gs[j], xs))).mpr ⟨hg, hxs⟩]; rfl)).1
  refine ⟨_, h3, row_R hrow hns ⟨⟨trivial, fun e => ?_⟩, ?_⟩⟩
  · obtain ⟨c1, e1⟩ := Kd.R_typed h.own _ e.symm
    rw [hrow.hb] at e1
    injection e1 with e1
    injection e1 with _ e1
    exact absurd e1 (by decide)
  · exact List.Nodup.idxOf_getElem h.nodup j hjg
def FinD (W0 : World) (r1 : Int) (r2 : List (List Int)) (r3 : List Bool) (r4 : Int) (e : Ending) (W : World) : Prop :=
  ∃ v v', e = .returned (.tuple #[.agg #[.int .i64 r1, v, v'], .int .i64 r4]) ∧ Kd.S (Kd.slice 3 (Kd.int .i64)) 27 W W0.heap.size (fun _ => True) v r2 ∧ Kd.R Kd.bool 4 W W0.heap.size (fun _ => True) v' r3 ∧ Below W0.heap.size W0 W
def FinDO (W0 : World) (ns : Nat) (o : Option (List (List Int) × List Bool)) (e : Ending) (W : World) : Prop :=
  match o with
  | none => FinD W0 0 [] [] 3 e W
  | some p => FinD W0 ns p.1 p.2 0 e W
theorem results17_ (tmps : Array Value) (w : World) (g g' : Nat) (cs : Array Value) (x : Value) (hp : tmps.getD 2 undef = .pointer (some ⟨g, 0, none⟩)) (hg : w.heap[g]? = some (.cells cs 46 (0, 0))) (hs : cs.size = 3)
    (hp' : tmps.getD 3 undef = .pointer (some ⟨g', 0, none⟩)) (hc' : w.cell? ⟨g', 0, none⟩ = some x) : (results Try.f17 tmps).run Try.prog w = .ok (.tuple #[.agg cs, x]) w := by
  have h1 : tmps[2]?.getD undef = .pointer (some ⟨g, 0, none⟩) := by simpa using hp
  have h2 : tmps[3]?.getD undef = .pointer (some ⟨g', 0, none⟩) := by simpa using hp'
  have hi : (Try.prog.info? 46).map (·.size) = some 3 := by kernel_rfl
  have hrow := run_loadVar_row (P := Try.prog) w g 46 46 cs (0, 0) _ hg Try.underlying46 rfl (by rw [hi, hs])
  have hrow2 : (loadVar 32 ⟨g', 0, none⟩).run Try.prog w = .ok x w := by simp [go_sem, hc']
  simp [results, Try.results17, h1, h2, asAddr, hrow, hrow2]
theorem doorD_idle (tmps : Array Value) (w : World) (g g' : Nat) (cs : Array Value) (x : Value) (hp : tmps.getD 2 undef = .pointer (some ⟨g, 0, none⟩)) (hg : w.heap[g]? = some (.cells cs 46 (0, 0))) (hs : cs.size = 3)
    (hp' : tmps.getD 3 undef = .pointer (some ⟨g', 0, none⟩)) (hc' : w.cell? ⟨g', 0, none⟩ = some x) (R : Ending → World → Prop) (hK : R (.returned (.tuple #[.agg cs, x])) w) :
    bodyPostD Try.prog Try.f17 R Exit.ret { tmps := tmps, defers := [{ target := Target.fn (Fn.func 34) #[], args := #[.pointer (some ⟨g', 0, none⟩)] }] } w := by
  refine leaves_cons (f := 34) (args := #[.pointer (some ⟨g', 0, none⟩)]) (by simp) (by simp [go_sem]) ?_
  refine (caught_idle ⟨g', 0, none⟩ _).mono ?_
  rintro e u' w'' ⟨rfl, rfl, rfl⟩
  exact ⟨_, results17_ tmps _ g g' cs x hp hg hs hp' hc', hK⟩
theorem doorD_many (tmps : Array Value) (w : World) (g g' : Nat) (cs : Array Value) (x : Int) (hp : tmps.getD 2 undef = .pointer (some ⟨g, 0, none⟩)) (hg : w.heap[g]? = some (.cells cs 46 (0, 0))) (hs : cs.size = 3)
    (hp' : tmps.getD 3 undef = .pointer (some ⟨g', 0, none⟩)) (hc' : w.heap[g']? = some (.cells #[.int .i64 x] 32 (0, 0))) (R : Ending → World → Prop) (hK : R (.returned (.tuple #[.agg cs, .int .i64 3])) (w.setCell ⟨g', 0, none⟩ (.int .i64 3))) :
    bodyPostD Try.prog Try.f17 R (Exit.panic [{ v := .iface 32 (.int .i64 3), recovered := false }]) { tmps := tmps, defers := [{ target := Target.fn (Fn.func 34) #[], args := #[.pointer (some ⟨g', 0, none⟩)] }] } w := by
  refine leaves_cons (f := 34) (args := #[.pointer (some ⟨g', 0, none⟩)]) (by simp) (by simp [go_sem]) ?_
  refine (caught_many ⟨g', 0, none⟩ x [] _ ((blk_cell hc' 0).trans rfl) (blk_frozen hc' 0)).mono ?_
  rintro e u' w'' ⟨rfl, rfl, rfl⟩
  have hne : g ≠ g' := blk_ne hg hc' (by decide)
  refine ⟨_, results17_ tmps _ g g' cs (.int .i64 3) hp (blk_far hg hne _) hs hp' ?_, hK⟩
  exact (blk_cell (blk_set hc' 0 _) 0).trans rfl
def varsD (W : World) (o1 : Obj) : World := ((W.alloc o1).alloc (.cells #[.int .i64 0, .slice none 0 0, .slice none 0 0] 46)).alloc (.cells #[.int .i64 0] 32)
theorem varsD_1 (W : World) (o1 : Obj) : (varsD W o1).heap[W.heap.size]? = some o1 := blk_alloc (blk_alloc (blk_new _ _) _) _
theorem varsD_2 (W : World) (o1 : Obj) : (varsD W o1).heap[W.heap.size + 1]? = some (.cells #[.int .i64 0, .slice none 0 0, .slice none 0 0] 46 (0, 0)) := by
  have e := blk_new (W.alloc o1) (.cells #[.int .i64 0, .slice none 0 0, .slice none 0 0] 46)
  exact blk_alloc (by simpa using e) _
theorem varsD_3 (W : World) (o1 : Obj) : (varsD W o1).heap[W.heap.size + 1 + 1]? = some (.cells #[.int .i64 0] 32 (0, 0)) := by
  have e := blk_new ((W.alloc o1).alloc (.cells #[.int .i64 0, .slice none 0 0, .slice none 0 0] 46)) (.cells #[.int .i64 0] 32)
  simpa [varsD] using e
theorem varsD_below (W : World) (o1 : Obj) : Below W.heap.size W (varsD W o1) := below_alloc (below_alloc (below_alloc (Below.refl _ _) _) _) _
theorem varsD_size (W : World) (o1 : Obj) : (varsD W o1).heap.size = W.heap.size + 1 + 1 + 1 := by simp [varsD]
def setD (w : World) (g : Nat) (x0 x1 x2 : Value) : World := ((w.setCell ⟨g, 0, none⟩ x0).setCell ⟨g, 1, none⟩ x1).setCell ⟨g, 2, none⟩ x2
theorem setD_blk {w : World} {g : Nat} {a0 a1 a2 : Value} (h : w.heap[g]? = some (.cells #[a0, a1, a2] 46 (0, 0))) (x0 x1 x2 : Value) : (setD w g x0 x1 x2).heap[g]? = some (.cells #[x0, x1, x2] 46 (0, 0)) :=
  blk_put (blk_put (blk_put h 0 x0 rfl) 1 x1 rfl) 2 x2 rfl
theorem setD_far {w : World} {g g' : Nat} {cs : Array Value} {t : TypeId} (h : w.heap[g']? = some (.cells cs t (0, 0))) (hne : g' ≠ g) (x0 x1 x2 : Value) : (setD w g x0 x1 x2).heap[g']? = some (.cells cs t (0, 0)) :=
  blk_far (blk_far (blk_far h hne _) hne _) hne _
theorem setD_below {B g : Nat} {w W : World} (h : Below B W w) (hg : B ≤ g) (x0 x1 x2 : Value) : Below B W (setD w g x0 x1 x2) := ((h.setCell hg _).setCell hg _).setCell hg _
set_option maxHeartbeats 1600000 in
theorem dfa_bad (a0 a1 a2 a3 : Int) (A : Option Addr) (c : Nat) (l : List S78) (err : Int) (W : World) (hr : Kd.C k78 W A l.length l) (hc : l.length ≤ c) (h : nfa_Check.f a0 a1 a2 a3 l = some err) (hne : err ≠ 0) :
    Calls Try.prog 17 #[.agg #[.int .i64 a0, .int .i64 a1, .int .i64 a2, .int .i64 a3, .slice A l.length c]] W (FinD W 0 [] [] err) := by
  have hm : l.length ≤ 9223372036854775807 := hr.2.1
  have HC := Aside0.mk hc
  have HR := Aside0.mk hr
  have HH := Aside0.mk h
  have hb : (err != 0) = true := by simp [hne]
  have HV1 := Aside0.mk (varsD_1 W (.cells #[.int .i64 a0, .int .i64 a1, .int .i64 a2, .int .i64 a3, .slice A l.length c] 31))
  have HV2 := Aside0.mk (varsD_2 W (.cells #[.int .i64 a0, .int .i64 a1, .int .i64 a2, .int .i64 a3, .slice A l.length c] 31))
  have HV3 := Aside0.mk (varsD_3 W (.cells #[.int .i64 a0, .int .i64 a1, .int .i64 a2, .int .i64 a3, .slice A l.length c] 31))
  have HVB := Aside0.mk (varsD_below W (.cells #[.int .i64 a0, .int .i64 a1, .int .i64 a2, .int .i64 a3, .slice A l.length c] 31))
  clear hr hc h hne
  go_enter_defers Try.func17, Try.ntmps17
  go_wp2_with (fail)
  go_at_call 31
  refine (nfa_Check.calls a0 a1 a2 a3 A c l err _ (Kd.C_below HR.out HVB.out) HC.out HH.out).mono ?_
  rintro e w1 ⟨rfl, hb1⟩
  have hb1' : Below (varsD W (.cells #[.int .i64 a0, .int .i64 a1, .int .i64 a2, .int .i64 a3, .slice A l.length c] 31)).heap.size (varsD W (.cells #[.int .i64 a0, .int .i64 a1, .int .i64 a2, .int .i64 a3, .slice A l.length c] 31)) w1 := hb1
  have B2 := Aside0.mk (blk_below HV2.out hb1')
  have B3 := Aside0.mk (blk_below HV3.out hb1')
  have HB1 := Aside0.mk (below_then HVB.out HVB.out.size hb1')
  clear hb1 hb1'
  have hc40 : w1.cell? ⟨W.heap.size + 1, 0, none⟩ = some (.int .i64 0) := (blk_cell B2.out 0).trans rfl
  have hc41 : w1.cell? ⟨W.heap.size + 1, 1, none⟩ = some (.slice none 0 0) := (blk_cell B2.out 1).trans rfl
  have hc42 : w1.cell? ⟨W.heap.size + 1, 2, none⟩ = some (.slice none 0 0) := (blk_cell B2.out 2).trans rfl
  have hc50 : w1.cell? ⟨W.heap.size + 1 + 1, 0, none⟩ = some (.int .i64 0) := (blk_cell B3.out 0).trans rfl
  have hf0 := blk_frozen B2.out 0
  have hf1 := blk_frozen B2.out 1
  have hf2 := blk_frozen B2.out 2
  have hf5 := blk_frozen B3.out 0
  go_wp2
  have hne : W.heap.size + 1 + 1 ≠ W.heap.size + 1 := by omega
  refine doorD_idle _ _ (W.heap.size + 1) (W.heap.size + 1 + 1) #[.int .i64 0, .slice none 0 0, .slice none 0 0] (.int .i64 err) rfl ?_ rfl rfl ?_ _ ?_
  · exact blk_far (setD_blk B2.out _ _ _) hne.symm _
  · exact (blk_cell (blk_set (setD_far B3.out hne _ _ _) 0 _) 0).trans rfl
  · exact ⟨.slice none 0 0, .slice none 0 0, rfl, Kd.S_nil _ _ _ _ _, Kd.R_nil _ _ _ _ _, (setD_below HB1.out (by omega) _ _ _).setCell (by simp; omega) _⟩
set_option maxRecDepth 100000 in
set_option maxHeartbeats 3200000 in
theorem dfa_ok (k ns : Nat) (a0 a2 a3 : Int) (A : Option Addr) (c : Nat) (l : List S78) (W : World) (hr : Kd.C k78 W A l.length l) (hc : l.length ≤ c) (h : nfa_Check.f a0 ns a2 a3 l = some 0) (hns : ns ≤ 4096)
    (b0 b1 s0 : List Int) (key : ByteArray) (h1 : nfa_empty.f a0 = some b0) (h2 : nfa_some_put.f b0 a2 = some b1) (h3 : nfa_closed.f k a0 ns a2 a3 l b1 = some s0) (h4 : nfa_key.f k s0 = some key) (hks : key.size ≤ 4096)
    (o : Option (List (List Int) × List Bool)) (h5 : dfaL k a0 ns a2 a3 l k 0 [s0] [nk key] [] [] = some o) :
    Calls Try.prog 17 #[.agg #[.int .i64 a0, .int .i64 (ns : Int), .int .i64 a2, .int .i64 a3, .slice A l.length c]] W (FinDO W ns o) := by
  have hm : l.length ≤ 9223372036854775807 := hr.2.1
  have HC := Aside0.mk hc
  have HR := Aside0.mk hr
  have HH := Aside0.mk h
  have HV1 := Aside0.mk (varsD_1 W (.cells (avC a0 ns a2 a3 A l.length c) 31))
  have HV2 := Aside0.mk (varsD_2 W (.cells (avC a0 ns a2 a3 A l.length c) 31))
  have HV3 := Aside0.mk (varsD_3 W (.cells (avC a0 ns a2 a3 A l.length c) 31))
  have HVB := Aside0.mk (varsD_below W (.cells (avC a0 ns a2 a3 A l.length c) 31))
  have HVZ := Aside0.mk (varsD_size W (.cells (avC a0 ns a2 a3 A l.length c) 31))
  have HSUB := Aside0.mk (fun (base O Sb Mb B : Nat) (w0 w : World) hD hb hOB hSB hw0 hr => subsets_calls k base O Sb Mb B ns a0 a2 a3 A c l w0 w hD hb hOB hSB hw0 hr hc hns b0 b1 s0 key h1 h2 h3 h4 hks o h5)
  have HNS := Aside0.mk hns
  have HM1 : Aside0 (manyF ns 1 = false) := ⟨by
    unfold manyF
    rw [Bool.or_eq_false_iff]
    refine ⟨by decide, ?_⟩
    rw [Int.one_mul, decide_eq_false_iff_not]
    have : wrap64 (ns : Int) = ns := by unfold wrap64; omega
    omega⟩
  clear hr hc h hns h1 h2 h3 h4 hks h5
  go_enter_defers Try.func17, Try.ntmps17
  go_wp2_with (fail)
  go_at_call 31
  refine (nfa_Check.calls a0 ns a2 a3 A c l 0 _ (Kd.C_below HR.out HVB.out) HC.out HH.out).mono ?_
  rintro e w1 ⟨rfl, hb1⟩
  have hb1' : Below (varsD W (.cells (avC a0 ns a2 a3 A l.length c) 31)).heap.size (varsD W (.cells (avC a0 ns a2 a3 A l.length c) 31)) w1 := hb1
  have B1 := Aside0.mk (blk_below HV1.out hb1')
  have B2 := Aside0.mk (blk_below HV2.out hb1')
  have B3 := Aside0.mk (blk_below HV3.out hb1')
  have HB1 := Aside0.mk (below_then HVB.out HVB.out.size hb1')
  have HGT : Aside0 (W.heap.size + 1 + 1 + 1 ≤ w1.heap.size) := ⟨by have := hb1'.size; rw [HVZ.out] at this; exact this⟩
  clear hb1 hb1' HV1 HV2 HV3 HVB HVZ
  have hx1 : w1.cell? ⟨W.heap.size, 1, none⟩ = some (.int .i64 (ns : Int)) := (blk_cell B1.out 1).trans rfl
  have hmf : ∀ (fn : Fn) (first cap : Array Value) (w : World), (Instr.makeFunc fn first cap).run Try.prog w = .ok (.func fn first cap) w := fun _ _ _ _ => rfl
  go_wp2_with (fail)
  go_at_call 46
  refine (many_calls W.heap.size a0 ns a2 a3 A l.length c 1 _ (blk_alloc (blk_alloc B1.out _) _)).mono ?_
  rintro e w5 ⟨he, rfl⟩
  rw [HM1.out] at he
  obtain rfl : e = .returned (.tuple #[]) := he
  obtain ⟨w3, hw3⟩ : ∃ w3, w3 = (((w1.alloc (.cells #[.int .i64 (ns : Int), .slice none 0 0, .slice none 0 0] 46)).alloc (.cells #[.func (.func 46) #[] #[.pointer (some ⟨W.heap.size, 0, none⟩)]] 83)).alloc (.cells #[.int .i64 1] 3)) := ⟨_, rfl⟩
  have HB3 : Aside0 (Below w1.heap.size w1 w3) := ⟨by rw [hw3]; exact below_alloc (below_alloc (below_alloc (Below.refl _ _) _) _) _⟩
  have E1 := Aside0.mk (blk_below B1.out HB3.out)
  have E2 := Aside0.mk (blk_below B2.out HB3.out)
  have E3 := Aside0.mk (blk_below B3.out HB3.out)
  have HDS : Aside0 (DS w3 w1.heap.size w1.heap.size (w1.heap.size + 1 + 1) (w1.heap.size + 1) W.heap.size ns (avC a0 ns a2 a3 A l.length c) [] [] 1) := ⟨by
    refine ⟨⟨.slice none 0 0, .slice none 0 0, [], ?_, ⟨Kd.R_nil _ _ _ _ _, rfl, fun _ _ _ h _ => absurd h (by simp), List.nodup_nil⟩, Kd.R_nil _ _ _ _ _, fun _ h => absurd h (by simp)⟩, ?_, ?_, E1.out⟩
    · rw [hw3]
      exact blk_alloc (blk_alloc (blk_new _ _) _) _
    · rw [hw3]
      have e := blk_new ((w1.alloc (.cells #[.int .i64 (ns : Int), .slice none 0 0, .slice none 0 0] 46)).alloc (.cells #[.func (.func 46) #[] #[.pointer (some ⟨W.heap.size, 0, none⟩)]] 83)) (.cells #[.int .i64 1] 3)
      simpa using e
    · rw [hw3]
      have e := blk_new (w1.alloc (.cells #[.int .i64 (ns : Int), .slice none 0 0, .slice none 0 0] 46)) (.cells #[.func (.func 46) #[] #[.pointer (some ⟨W.heap.size, 0, none⟩)]] 83)
      exact blk_alloc (by simpa using e) _⟩
  have hy0 : w3.cell? ⟨W.heap.size, 0, none⟩ = some (.int .i64 a0) := (blk_cell E1.out 0).trans rfl
  have hy1 : w3.cell? ⟨W.heap.size, 1, none⟩ = some (.int .i64 (ns : Int)) := (blk_cell E1.out 1).trans rfl
  have hy2 : w3.cell? ⟨W.heap.size, 2, none⟩ = some (.int .i64 a2) := (blk_cell E1.out 2).trans rfl
  have hy3 : w3.cell? ⟨W.heap.size, 3, none⟩ = some (.int .i64 a3) := (blk_cell E1.out 3).trans rfl
  have hy4 : w3.cell? ⟨W.heap.size, 4, none⟩ = some (.slice A l.length c) := (blk_cell E1.out 4).trans rfl
  rw [hw3] at hy0 hy1 hy2 hy3 hy4
  clear hx1
  go_wp2_with (fail)
  rw [← hw3]
  clear hy0 hy1 hy2 hy3 hy4 hw3
  go_at_call 47
  refine (HSUB.out w1.heap.size w1.heap.size (w1.heap.size + 1 + 1) (w1.heap.size + 1) W.heap.size w1 w3 HDS.out HB3.out (Nat.le_refl _) (by omega) (Nat.le_refl _) (Kd.C_below HR.out HB1.out)).mono ?_
  rintro e w6 hsub
  cases o with
  | none =>
    obtain ⟨rfl, hb6⟩ := hsub
    have F2 := Aside0.mk (blk_below B2.out hb6)
    have F3 := Aside0.mk (blk_below B3.out hb6)
    have HB6 := Aside0.mk (below_then HB1.out HB1.out.size hb6)
    clear hb6
    go_wp2
    refine doorD_many _ _ (W.heap.size + 1) (W.heap.size + 1 + 1) #[.int .i64 0, .slice none 0 0, .slice none 0 0] 0 rfl F2.out rfl rfl F3.out _ ?_
    exact ⟨.slice none 0 0, .slice none 0 0, rfl, Kd.S_nil _ _ _ _ _, Kd.R_nil _ _ _ _ _, HB6.out.setCell (by simp; omega) _⟩
  | some p =>
    obtain ⟨rfl, ⟨n, hD⟩, hb6⟩ := hsub
    have F2 := Aside0.mk (blk_below B2.out hb6)
    have F3 := Aside0.mk (blk_below B3.out hb6)
    have HB6 := Aside0.mk (below_then HB1.out HB1.out.size hb6)
    obtain ⟨vn, va, gs, hO, hN, hA, _⟩ := hD.out
    have HSN := Aside0.mk (Kd.S_lower (next_S hN HNS.out) HB1.out.size)
    have HRA := Aside0.mk (Kd.R_lower hA HB1.out.size)
    obtain ⟨An, Ln, cn, rfl⟩ := raw_slice hN.own
    obtain ⟨Aa, La, ca, rfl⟩ := raw_slice hA
    have hc0 : w6.cell? ⟨w1.heap.size, 0, none⟩ = some (.int .i64 (ns : Int)) := (blk_cell hO 0).trans rfl
    have hc1 : w6.cell? ⟨w1.heap.size, 1, none⟩ = some (.slice An Ln cn) := (blk_cell hO 1).trans rfl
    have hc2 : w6.cell? ⟨w1.heap.size, 2, none⟩ = some (.slice Aa La ca) := (blk_cell hO 2).trans rfl
    have hc40 : w6.cell? ⟨W.heap.size + 1, 0, none⟩ = some (.int .i64 0) := (blk_cell F2.out 0).trans rfl
    have hc41 : w6.cell? ⟨W.heap.size + 1, 1, none⟩ = some (.slice none 0 0) := (blk_cell F2.out 1).trans rfl
    have hc42 : w6.cell? ⟨W.heap.size + 1, 2, none⟩ = some (.slice none 0 0) := (blk_cell F2.out 2).trans rfl
    have hc50 : w6.cell? ⟨W.heap.size + 1 + 1, 0, none⟩ = some (.int .i64 0) := (blk_cell F3.out 0).trans rfl
    have hf0 := blk_frozen F2.out 0
    have hf1 := blk_frozen F2.out 1
    have hf2 := blk_frozen F2.out 2
    have hf5 := blk_frozen F3.out 0
    clear hb6 hD hN hA hO
    go_wp2
    have hne : W.heap.size + 1 + 1 ≠ W.heap.size + 1 := by omega
    refine doorD_idle _ _ (W.heap.size + 1) (W.heap.size + 1 + 1) #[.int .i64 (ns : Int), .slice An Ln cn, .slice Aa La ca] (.int .i64 0) rfl ?_ rfl rfl ?_ _ ?_
    · exact blk_far (setD_blk F2.out _ _ _) hne.symm _
    · exact (blk_cell (blk_set (setD_far F3.out hne _ _ _) 0 _) 0).trans rfl
    · refine ⟨.slice An Ln cn, .slice Aa La ca, rfl, ?_, ?_, (setD_below HB6.out (by omega) _ _ _).setCell (by simp; omega) _⟩
      · exact Kd.S_set (Kd.S_set (Kd.S_set (Kd.S_set HSN.out F2.out (by decide) 0 _) (blk_set F2.out 0 _) (by decide) 1 _) (blk_set (blk_set F2.out 0 _) 1 _) (by decide) 2 _) (setD_far F3.out hne _ _ _) (by decide) 0 _
      · exact Kd.R_set (Kd.R_set (Kd.R_set (Kd.R_set HRA.out F2.out (by decide) 0 _) (blk_set F2.out 0 _) (by decide) 1 _) (blk_set (blk_set F2.out 0 _) 1 _) (by decide) 2 _) (setD_far F3.out hne _ _ _) (by decide) 0 _
end Go.Proofs.Ytapinbmkjkbkkaa.Mk
namespace Go.Proofs.Ytapinbmkjkbkkaa.Mk
open Go.RowKit Go.Proofs.YtapinbmkjkbkkaaW.PrintWords Go.Proofs.YtapinbmkjkbkkaaW.PrintLast Go.Proofs.YtapinbmkjkbkkaaW.PrintMore Lb
theorem check_ns {a0 a1 a2 a3 : Int} {l : List S78} (h : nfa_Check.f a0 a1 a2 a3 l = some 0) : 0 ≤ a1 ∧ a1 ≤ 4096 := by
  unfold nfa_Check.f at h
  have h := Option.some.inj h
  by_cases b1 : 65536 < l.length
  · rw [if_pos b1] at h; exact absurd h (by decide)
  · rw [if_neg b1] at h
    by_cases b2 : nfa_headOk a0 a1 a2 a3 = true
    · have := of_decide_eq_true b2
      omega
    · rw [if_neg b2] at h; exact absurd h (by decide)
theorem nfa_Dfa.calls (k : Nat) (a0_0 a0_1 a0_2 a0_3 : Int) (A : Option Addr) (c : Nat) (l : List S78) (r1 : Int) (r2 : List (List Int)) (r3 : List Bool) (r4 : Int) (w : World) (hr : Kd.C k78 w A l.length l) (hc : l.length ≤ c) (h : nfa_Dfa.f k a0_0 a0_1 a0_2 a0_3 l = some (r1, r2, r3, r4)) :
    Calls Try.prog 17 #[.agg #[.int .i64 a0_0, .int .i64 a0_1, .int .i64 a0_2, .int .i64 a0_3, .slice A l.length c]] w fun e w' => ∃ v v', e = .returned (.tuple #[.agg #[.int .i64 r1, v, v'], .int .i64 r4]) ∧ Kd.S (Kd.slice 3 (Kd.int .i64)) 27 w' w.heap.size (fun _ => True) v r2 ∧ Kd.R Kd.bool 4 w' w.heap.size (fun _ => True) v' r3 ∧ Below w.heap.size w w' := by
  unfold nfa_Dfa.f at h
  obtain ⟨cc, hcc, h⟩ := Option.bind_eq_some_iff.mp h
  by_cases hz : cc = 0
  · subst hz
    rw [if_pos rfl] at h
    obtain ⟨b0, h1, h⟩ := Option.bind_eq_some_iff.mp h
    obtain ⟨b1, h2, h⟩ := Option.bind_eq_some_iff.mp h
    obtain ⟨s0, h3, h⟩ := Option.bind_eq_some_iff.mp h
    obtain ⟨key, h4, h⟩ := Option.bind_eq_some_iff.mp h
    by_cases hks : key.size ≤ 4096
    · rw [if_pos hks] at h
      obtain ⟨o, h5, he⟩ := Option.map_eq_some_iff.mp h
      obtain ⟨hn0, hn1⟩ := check_ns hcc
      obtain ⟨ns, rfl⟩ := Int.eq_ofNat_of_zero_le hn0
      have hd := dfa_ok k ns a0_0 a0_2 a0_3 A c l w hr hc hcc (by omega) b0 b1 s0 key h1 h2 h3 h4 hks o h5
      cases o with
      | none =>
        injection he with e1 e2
        injection e2 with e2 e3
        injection e3 with e3 e4
        subst e1; subst e2; subst e3; subst e4
        exact hd
      | some p =>
        injection he with e1 e2
        injection e2 with e2 e3
        injection e3 with e3 e4
        subst e1; subst e2; subst e3; subst e4
        exact hd
    · rw [if_neg hks] at h
      exact absurd h (by simp)
  · rw [if_neg hz] at h
    have e := Option.some.inj h
    injection e with e1 e2
    injection e2 with e2 e3
    injection e3 with e3 e4
    subst e1; subst e2; subst e3; subst e4
    exact dfa_bad a0_0 a0_1 a0_2 a0_3 A c l cc w hr hc hcc hz
end Go.Proofs.Ytapinbmkjkbkkaa.Mk
