import Derived.Test.YtapinbmkjkbkkaaTuLbx0
import Derived.WalkLawsBesides
import Derived.Outline
import Derived.Lib.Hide
namespace Go.Proofs.Ytapinbmkjkbkkaa.Mk
open Go.RowKit Go.Proofs.YtapinbmkjkbkkaaW.PrintWords Go.Proofs.YtapinbmkjkbkkaaW.PrintLast Go.Proofs.YtapinbmkjkbkkaaW.PrintMore Lb
def mkCells (st sy : Int) (v mp : Value) : Array Value := #[.int .i64 st, .int .i64 sy, .int .i64 0, .int .i64 1, v, mp]
structure Maker (base M : Nat) (sy : Int) (mp : Value) (W : World) (st : Int) (l : List S78) : Prop where mk ::
  out : ∃ v, W.heap[M]? = some (.cells (mkCells st sy v mp) 71 (0, 0)) ∧ k78.R 78 W base (fun _ => True) v l
abbrev tooMany : Ending := .panicked [{ v := .iface 32 (.int .i64 3), recovered := false }]
def KeepT (W W' : World) : Prop := W.heap.size ≤ W'.heap.size ∧ ∀ (g : Nat) (cs : Array Value) (t : TypeId) (fr : Nat × Nat), t ≠ 71 → t ≠ 78 → W.heap[g]? = some (.cells cs t fr) → W'.heap[g]? = some (.cells cs t fr)
theorem keepT_trans {W W1 W2 : World} (h : KeepT W W1) (k : KeepT W1 W2) : KeepT W W2 := ⟨Nat.le_trans h.1 k.1, fun g cs t fr h1 h2 hg => k.2 g cs t fr h1 h2 (h.2 g cs t fr h1 h2 hg)⟩
theorem keepT_below {W W1 : World} (h : Below W.heap.size W W1) : KeepT W W1 := ⟨h.size, fun g _ _ _ _ _ hg => (h.block g (blk_lt hg)).trans hg⟩
theorem keepT_alloc (W : World) (o : Obj) : KeepT W (W.alloc o) := keepT_below (below_alloc (Below.refl _ _) o)
theorem keepT_drewN (W : World) (n : Nat) : KeepT W (W.drewN n) := keepT_below (pw_below_drewN (Below.refl _ _) n)
theorem keepT_set {W : World} {M j : Nat} {cs : Array Value} (hB : W.heap[M]? = some (.cells cs 71 (0, 0))) (u : Value) : KeepT W (W.setCell ⟨M, j, none⟩ u) := by
  refine ⟨?_, fun g cs' t fr h1 _ hg => ?_⟩
  · exact ((Below.refl 0 W).setCell (Nat.zero_le _) u).size
  · have hne : g ≠ M := by
      rintro rfl
      rw [hB] at hg
      injection hg with hg
      injection hg with _ hg
      exact h1 hg.symm
    exact (Below.heap_setCell W ⟨M, j, none⟩ u g hne).trans hg
theorem keepT_grown {W W1 : World} {base : Nat} {v : Value} {l : List S78} (hR : k78.R 78 W base (fun _ => True) v l) (hg : W.grownBy W1 v.ownBlock) : KeepT W W1 := by
  refine ⟨hg.size, fun g cs t fr _ h2 hc => ?_⟩
  refine (hg.block g (blk_lt hc) ?_).trans hc
  intro e
  obtain ⟨_, inner, hown, _⟩ := hR
  obtain ⟨cells, hcells⟩ := own_typed hown g e.symm
  rw [hc] at hcells
  injection hcells with hcells
  injection hcells with _ hcells
  exact h2 hcells
section
variable {base M : Nat} {sy st : Int} {mp : Value} {l : List S78} {w0 W : World}
theorem maker_st (h : Maker base M sy mp W st l) (st' : Int) : Maker base M sy mp (W.setCell ⟨M, 0, none⟩ (.int .i64 st')) st' l := by
  obtain ⟨v, hB, hR⟩ := h
  refine ⟨v, blk_put hB 0 _ rfl, ?_⟩
  exact Kd.R_mono (Kd.R_far (Kd.R_types hR hB (by decide)) (fun k hk => hk.2) _) (fun _ _ => trivial)
theorem maker_draw (h : Maker base M sy mp W st l) (n : Nat) : Maker base M sy mp (W.drewN n) st l := by
  obtain ⟨v, hB, hR⟩ := h
  exact ⟨v, hB, Kd.R_drewN hR n⟩
theorem below_st (hM : base ≤ M) (hb : Below base w0 W) (u : Value) : Below base w0 (W.setCell ⟨M, 0, none⟩ u) := hb.setCell hM _
set_option maxHeartbeats 400000 in
theorem state_ok (h0 : 0 ≤ st) (h1 : st < 4096) (hM : base ≤ M) (h : Maker base M sy mp W st l) (hb : Below base w0 W) :
    Calls Try.prog 84 #[.pointer (some ⟨M, 0, none⟩)] W fun e W' => e = .returned (.int .i64 st) ∧ Maker base M sy mp W' (st + 1) l ∧ Below base w0 W' ∧ KeepT W W' := by
  have HK := Aside0.mk h
  obtain ⟨v, hB, hR⟩ := h
  have HB := Aside0.mk hb
  have HS := Aside0.mk hB
  have hc0 : W.cell? ⟨M, 0, none⟩ = some (.int .i64 st) := (blk_cell hB 0).trans rfl
  have hf0 := blk_frozen hB 0
  clear hB hR hb
  go_enter Try.func84, Try.ntmps84
  go_wp2
  go_ret
  refine ⟨rfl, ?_, ?_, ?_⟩
  · exact maker_st HK.out _
  · exact below_st hM HB.out _
  · exact keepT_set HS.out _
theorem state_many (h1 : 4096 ≤ st) (h : Maker base M sy mp W st l) (hb : Below base w0 W) :
    Calls Try.prog 84 #[.pointer (some ⟨M, 0, none⟩)] W fun e W' => e = tooMany ∧ Below base w0 W' := by
  obtain ⟨v, hB, hR⟩ := h
  have HB := Aside0.mk hb
  have hc0 : W.cell? ⟨M, 0, none⟩ = some (.int .i64 st) := (blk_cell hB 0).trans rfl
  have hf0 := blk_frozen hB 0
  clear hB hR hb
  go_enter Try.func84, Try.ntmps84
  go_wp2
  exact ⟨rfl, rfl, HB.out⟩
theorem arc_many (fr s tt : Int) (h1 : 65536 ≤ l.length) (h : Maker base M sy mp W st l) (hb : Below base w0 W) :
    Calls Try.prog 83 #[.pointer (some ⟨M, 0, none⟩), .int .i64 fr, .int .i64 s, .int .i64 tt] W fun e W' => e = tooMany ∧ Below base w0 W' := by
  obtain ⟨v, hB, hR⟩ := h
  have HB := Aside0.mk hb
  obtain ⟨A, c, rfl⟩ := Kd.R_slice hR
  have hc0 : W.cell? ⟨M, 4, none⟩ = some (.slice A l.length c) := (blk_cell hB 4).trans rfl
  have hf0 := blk_frozen hB 4
  clear hB hR hb
  have hd0 : decide ((65536 : Int) ≤ (l.length : Int)) = true := decide_eq_true (by omega)
  have hd1 : decide (65536 ≤ l.length) = true := decide_eq_true h1
  clear h1
  go_enter Try.func83, Try.ntmps83
  go_wp2
  exact ⟨rfl, rfl, HB.out⟩
set_option maxHeartbeats 400000 in
theorem arc_ok (fr s tt : Int) (h1 : l.length < 65536) (hM : base ≤ M) (h : Maker base M sy mp W st l) (hb : Below base w0 W) :
    Calls Try.prog 83 #[.pointer (some ⟨M, 0, none⟩), .int .i64 fr, .int .i64 s, .int .i64 tt] W fun e W' => e = .returned (.tuple #[]) ∧ Maker base M sy mp W' st (l ++ [⟨fr, s, tt⟩]) ∧ Below base w0 W' ∧ KeepT W W' := by
  obtain ⟨v, hB, hR⟩ := h
  have HB := Aside0.mk hb
  have HK := Aside0.mk hB
  have HR := Aside0.mk hR
  obtain ⟨A, c, rfl⟩ := Kd.R_slice hR
  have hc0 : W.cell? ⟨M, 4, none⟩ = some (.slice A l.length c) := (blk_cell hB 4).trans rfl
  have hf0 := blk_frozen hB 4
  clear hB hR hb
  have hd0 : decide ((65536 : Int) ≤ (l.length : Int)) = false := decide_eq_false (by omega)
  have hd1 : decide (65536 ≤ l.length) = false := decide_eq_false (by omega)
  have H1 := Aside0.mk h1
  clear h1
  go_enter Try.func83, Try.ntmps83
  go_wp2_with (at_builtin; refine Kd.R_append k78 (w0 := w0) base rfl (.tmp 21) (.tmp 26) 29 78 (.agg #[.int .i64 0, .int .i64 0, .int .i64 0]) 24 rfl Try.underlying29 info78 rfl (by decide) (by decide) _ l ⟨fr, s, tt⟩ [.int .i64 fr, .int .i64 s, .int .i64 tt] (fun _ => True) (fun _ => False) rfl rfl ?aP (fun _ hk => hk.elim) ?aF ?aO ?aB ?aS ?aL ?_; (case aP => exact k78_mkM _ _ _ _); (case aF => exact (fun _ _ => trivial)); (case aO => exact HR.out); (case aB => exact HB.out); (case aS => have := blk_lt HK.out; omega); (case aL => have := H1.out; omega); intro v1 w1 hR1 hb1 hg hat; obtain ⟨A1, c1, rfl⟩ := Kd.R_slice hR1; rw [List.length_append, List.length_singleton] at hR1; rw [List.length_append, List.length_singleton]; have HK1 := Aside0.mk (blk_grown HK.out hg (Kd.R_ne HR.out HK.out (by decide))); have HR1 := Aside0.mk hR1; have HB1 := Aside0.mk hb1; have HKT := Aside0.mk (keepT_grown HR.out hg); have hc1 : w1.frozen? ⟨M, 4, none⟩ = false := blk_frozen HK1.out 4; have hc2 : w1.cell? ⟨M, 4, none⟩ = some (.slice A l.length c) := (blk_cell HK1.out 4).trans rfl; clear hR1 hb1 hg hat)
  go_end0
  refine ⟨rfl, ⟨_, blk_put HK1.out 4 _ rfl, ?_⟩, HB1.out.setCell hM _, keepT_trans HKT.out (keepT_set HK1.out _)⟩
  exact Kd.R_mono (Kd.R_far (Kd.R_types HR1.out HK1.out (by decide)) (fun k hk => hk.2) _) (fun _ _ => trivial)
end
end Go.Proofs.Ytapinbmkjkbkkaa.Mk
