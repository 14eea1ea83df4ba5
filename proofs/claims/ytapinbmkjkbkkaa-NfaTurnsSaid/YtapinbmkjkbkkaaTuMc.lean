import Derived.Test.YtapinbmkjkbkkaaTuMb
import Derived.RegionTactic
import Derived.ChangeAlike
namespace Go.Proofs.Ytapinbmkjkbkkaa.Mk
open Go.RowKit Go.Proofs.YtapinbmkjkbkkaaW.PrintWords Go.Proofs.YtapinbmkjkbkkaaW.PrintLast Go.Proofs.YtapinbmkjkbkkaaW.PrintMore Lb
def aloneF (nm : List (List UInt8)) (nn : St → Int → Int → St → Option St) (r : S25) : Option St := mkF nm nn r 0 1 (2, [])
def FinA (sy : Int) (W0 : World) (o : Option St) (e : Ending) (W : World) : Prop :=
  match o with
  | some s => ∃ v, e = .returned (.agg #[.int .i64 s.1, .int .i64 sy, .int .i64 0, .int .i64 1, v]) ∧ k78.R 78 W W0.heap.size (fun _ => True) v s.2 ∧ Below W0.heap.size W0 W
  | none => e = tooMany ∧ Below W0.heap.size W0 W
def AloneOk (nm : List (List UInt8)) (nn : St → Int → Int → St → Option St) (r : S25) : Prop :=
  ∀ (M mb : Nat) (sy : Int) (W : World) (A : Option Addr) (c : Nat), NamesAt W mb nm → Kd.C k25 W A r.f2.length r.f2 → r.f2.length ≤ c →
    W.cell? ⟨M, 1, none⟩ = some (.int .i64 sy) → W.cell? ⟨M, 5, none⟩ = some (.map (some mb)) →
    Calls Try.prog 36 #[.pointer (some ⟨M, 0, none⟩), .agg #[.int .i64 r.f0, .string r.f1, .slice A r.f2.length c]] W (FinA sy W (aloneF nm nn r))
variable {nm : List (List UInt8)} {nn : St → Int → Int → St → Option St}
theorem r_set {W : World} {base g : Nat} {v : Value} {l : List S78} (j : Nat) (u : Value) (h : k78.R 78 W base (fun _ => True) v l ∧ ∃ cs, W.heap[g]? = some (.cells cs 31 (0, 0))) :
    k78.R 78 (W.setCell ⟨g, j, none⟩ u) base (fun _ => True) v l ∧ ∃ cs, (W.setCell ⟨g, j, none⟩ u).heap[g]? = some (.cells cs 31 (0, 0)) := by
  obtain ⟨hR, cs, hB⟩ := h
  exact ⟨Kd.R_mono (Kd.R_far (Kd.R_types hR hB (by decide)) (fun k hk => hk.2) _) (fun _ _ => trivial), _, blk_set hB j u⟩
set_option maxHeartbeats 3200000 in
theorem alone_calls (r : S25) (ih : MakeOk nm nn r) : AloneOk nm nn r := by
  intro M mb sy W A c hn hr hc h1 h5
  have HIH := Aside0.mk ih
  have HN := Aside0.mk hn
  have HG := Aside0.mk hr
  have HL := Aside0.mk hc
  have hy1 := pw_cell_below (below_alloc (below_alloc (Below.refl _ _) (.cells #[.int .i64 r.f0, .string r.f1, .slice A r.f2.length c] 25)) (.cells #[.int .i64 0, .int .i64 0, .int .i64 0, .int .i64 0, .slice none 0 0] 31)) h1
  have hy5 := pw_cell_below (below_alloc (below_alloc (Below.refl _ _) (.cells #[.int .i64 r.f0, .string r.f1, .slice A r.f2.length c] 25)) (.cells #[.int .i64 0, .int .i64 0, .int .i64 0, .int .i64 0, .slice none 0 0] 31)) h5
  obtain ⟨o, ho⟩ : ∃ o, aloneF nm nn r = o := ⟨_, rfl⟩
  rw [ho]
  have HO := Aside0.mk ho
  clear ho ih hn hr hc h1 h5
  go_enter Try.func36, Try.ntmps36
  go_wp2_with (fail)
  go_region
  go_wp2_with (fail)
  go_at_call 66
  refine (HIH.out W.heap.size (W.heap.size + 1 + 1) mb sy W _ A c (2, []) 0 1 (by omega) (Nat.le_refl _) HN.out HG.out HL.out ?_ ?_ (by show (0 : Int) ≤ 2; omega)).mono ?_
  · refine ⟨.slice none 0 0, blk_drew ?_, Kd.R_nil _ _ _ _ _⟩
    have e := blk_new ((W.alloc (.cells #[.int .i64 r.f0, .string r.f1, .slice A r.f2.length c] 25)).alloc (.cells #[.int .i64 0, .int .i64 0, .int .i64 0, .int .i64 0, .slice none 0 0] 31)) (.cells #[.int .i64 2, .int .i64 sy, .int .i64 0, .int .i64 1, .slice none 0 0, .map (some mb)] 71)
    unfold mkCells
    simpa using e
  · exact below_drew (below_alloc (below_alloc (below_alloc (Below.refl _ _) _) _) _)
  · rintro e w1 h1
    have hr4 : ((((W.alloc (.cells #[.int .i64 r.f0, .string r.f1, .slice A r.f2.length c] 25)).alloc (.cells #[.int .i64 0, .int .i64 0, .int .i64 0, .int .i64 0, .slice none 0 0] 31)).alloc (.cells #[.int .i64 2, .int .i64 sy, .int .i64 0, .int .i64 1, .slice none 0 0, .map (some mb)] 71)).drew).heap[W.heap.size + 1]? = some (.cells #[.int .i64 0, .int .i64 0, .int .i64 0, .int .i64 0, .slice none 0 0] 31 (0, 0)) := by
      refine blk_drew (blk_alloc ?_ _)
      have e := blk_new (W.alloc (.cells #[.int .i64 r.f0, .string r.f1, .slice A r.f2.length c] 25)) (.cells #[.int .i64 0, .int .i64 0, .int .i64 0, .int .i64 0, .slice none 0 0] 31)
      simpa using e
    have HR4 := Aside0.mk hr4
    clear hr4 hy1 hy5
    have ho := HO.out
    unfold aloneF at ho
    rw [ho] at h1
    cases o with
    | none =>
      obtain ⟨rfl, hb1⟩ := h1
      have HB1 := Aside0.mk hb1
      clear hb1 ho
      go_wp2
      exact ⟨rfl, rfl, HB1.out⟩
    | some s =>
      obtain ⟨rfl, ⟨v, hm, hR⟩, hb1, ht1, _⟩ := h1
      have HB1 := Aside0.mk hb1
      have HM := Aside0.mk hm
      have HR := Aside0.mk hR
      have HX := Aside0.mk (ht1.2 _ _ _ _ (by decide) (by decide) HR4.out)
      obtain ⟨A1, c1, rfl⟩ := Kd.R_slice hR
      have hc0 : w1.cell? ⟨W.heap.size + 1 + 1, 0, none⟩ = some (.int .i64 s.1) := (blk_cell HM.out 0).trans rfl
      have hc1 : w1.cell? ⟨W.heap.size + 1 + 1, 1, none⟩ = some (.int .i64 sy) := (blk_cell HM.out 1).trans rfl
      have hc2 : w1.cell? ⟨W.heap.size + 1 + 1, 2, none⟩ = some (.int .i64 0) := (blk_cell HM.out 2).trans rfl
      have hc3 : w1.cell? ⟨W.heap.size + 1 + 1, 3, none⟩ = some (.int .i64 1) := (blk_cell HM.out 3).trans rfl
      have hc4 : w1.cell? ⟨W.heap.size + 1 + 1, 4, none⟩ = some (.slice A1 s.2.length c1) := (blk_cell HM.out 4).trans rfl
      have hf0 := blk_frozen HX.out 0
      have hf1 := blk_frozen HX.out 1
      have hf2 := blk_frozen HX.out 2
      have hf3 := blk_frozen HX.out 3
      have hf4 := blk_frozen HX.out 4
      have hd0 : w1.cell? ⟨W.heap.size + 1, 0, none⟩ = some (.int .i64 0) := (blk_cell HX.out 0).trans rfl
      have hd1 : w1.cell? ⟨W.heap.size + 1, 1, none⟩ = some (.int .i64 0) := (blk_cell HX.out 1).trans rfl
      have hd2 : w1.cell? ⟨W.heap.size + 1, 2, none⟩ = some (.int .i64 0) := (blk_cell HX.out 2).trans rfl
      have hd3 : w1.cell? ⟨W.heap.size + 1, 3, none⟩ = some (.int .i64 0) := (blk_cell HX.out 3).trans rfl
      have hd4 : w1.cell? ⟨W.heap.size + 1, 4, none⟩ = some (.slice none 0 0) := (blk_cell HX.out 4).trans rfl
      clear hm hR hb1 ht1 ho
      go_wp2
      refine bodyPost_ret (v := .agg #[.int .i64 s.1, .int .i64 sy, .int .i64 0, .int .i64 1, .slice A1 s.2.length c1]) (by simp [results, Try.results36, go_sem, hd0, hd1, hd2, hd3, hd4]) rfl ⟨.slice A1 s.2.length c1, rfl, ?_, ?_⟩
      · exact (r_set _ _ (r_set _ _ (r_set _ _ (r_set _ _ (r_set _ _ ⟨HR.out, _, HX.out⟩))))).1
      · exact ((((HB1.out.setCell (by simp) _).setCell (by simp) _).setCell (by simp) _).setCell (by simp) _).setCell (by simp) _
end Go.Proofs.Ytapinbmkjkbkkaa.Mk
