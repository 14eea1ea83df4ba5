import Derived.Test.YtapinbmkjkbkkaaTuMc
import Derived.Test.YtapinbmkjkbkkaaTuLbx2
import Derived.Test.YtapinbmkjkbkkaaTuLbx7
import Derived.Test.YtapinbmkjkbkkaaTuLbx16
import Derived.WalkLawsBesides
import Derived.Outline
import Derived.Lib.Hide
import Derived.RegionTactic
import Derived.Lib.SmallJoins
namespace Go.Proofs.Ytapinbmkjkbkkaa.Mk
open Go.RowKit Go.Proofs.YtapinbmkjkbkkaaW.PrintWords Go.Proofs.YtapinbmkjkbkkaaW.PrintLast Go.Proofs.YtapinbmkjkbkkaaW.PrintMore Lb
def swapA (x : S78) : S78 := ⟨x.f2, x.f1, x.f0⟩
def nfa_Turn.f (a0_0 a0_1 a0_2 a0_3 : Int) (l : List S78) : Option (Int × Int × Int × Int × List S78 × Int) :=
  (nfa_Check.f a0_0 a0_1 a0_2 a0_3 l).bind fun c => some (if c = 0 then (a0_0, a0_1, a0_3, a0_2, l.map swapA, 0) else (0, 0, 0, 0, [], c))
def arcVals (l : List S78) : List Value := l.flatMap fun x => [.int .i64 x.f0, .int .i64 x.f1, .int .i64 x.f2]
theorem arcVals_len (l : List S78) : (arcVals l).length = l.length * 3 := by
  induction l with
  | nil => rfl
  | cons x l ih => simp only [arcVals, List.flatMap_cons, List.length_append, List.length_cons, List.length_nil] at ih ⊢; omega
theorem arcVals_app (p q : List S78) : arcVals (p ++ q) = arcVals p ++ arcVals q := by simp [arcVals]
theorem arcVals_cons (x : S78) (q : List S78) : arcVals (x :: q) = [.int .i64 x.f0, .int .i64 x.f1, .int .i64 x.f2] ++ arcVals q := by simp [arcVals]
theorem arcVals_at (p q : List S78) (x : S78) (j : Nat) (hj : j < 3) : (arcVals (p ++ x :: q))[p.length * 3 + j]? = ([.int .i64 x.f0, .int .i64 x.f1, .int .i64 x.f2] : List Value)[j]? := by
  rw [arcVals_app, arcVals_cons, List.getElem?_append_right (by rw [arcVals_len]; omega), arcVals_len, show p.length * 3 + j - p.length * 3 = j by omega, List.getElem?_append_left (by simpa using hj)]
theorem arcVals_set (p q : List S78) (x : S78) : ((arcVals (p ++ x :: q)).set (p.length * 3) (.int .i64 x.f2)).set (p.length * 3 + 2) (.int .i64 x.f0) = arcVals ((p ++ [swapA x]) ++ q) := by
  rw [arcVals_app, arcVals_cons, arcVals_app, arcVals_app, List.set_append_right _ _ (by rw [arcVals_len]; omega), arcVals_len, Nat.sub_self, List.set_append_right _ _ (by rw [arcVals_len]; omega), arcVals_len, show p.length * 3 + 2 - p.length * 3 = 2 by omega, List.append_assoc]
  simp [arcVals, swapA]
theorem reps_arcs (W : World) (base : Nat) (ok : Nat → Prop) (l : List S78) : Reps (k78.M W base ok) k78.sz l (arcVals l) := by
  refine ⟨by rw [arcVals_len]; rfl, fun j p hj => ?_⟩
  obtain ⟨hlt, rfl⟩ := List.getElem?_eq_some_iff.mp hj
  have e : l = l.take j ++ l[j] :: l.drop (j + 1) := by rw [← List.drop_eq_getElem_cons hlt, List.take_append_drop]
  have hd : ((arcVals l).drop (j * k78.sz)).take k78.sz = [.int .i64 l[j].f0, .int .i64 l[j].f1, .int .i64 l[j].f2] := by
    have hl : (arcVals (l.take j)).length = j * k78.sz := by rw [arcVals_len, List.length_take]; show min j l.length * 3 = j * 3; omega
    rw [show arcVals l = arcVals (l.take j) ++ ([.int .i64 l[j].f0, .int .i64 l[j].f1, .int .i64 l[j].f2] ++ arcVals (l.drop (j + 1))) by rw [← arcVals_cons, ← arcVals_app, ← e]]
    rw [List.drop_append_of_le_length (by omega), List.drop_of_length_le (by omega), List.nil_append]
    rfl
  rw [hd]
  exact k78_mkM W base ok _
theorem reps_unique {W : World} {base : Nat} {ok : Nat → Prop} {l : List S78} {cs : List Value} (h : Reps (k78.M W base ok) k78.sz l cs) : cs = arcVals l := by
  obtain ⟨hl, hp⟩ := h
  induction l generalizing cs with
  | nil => simp at hl; rw [hl]; rfl
  | cons x l ih =>
    have h0 := k78_openM (hp 0 x rfl)
    rw [Nat.zero_mul, List.drop_zero] at h0
    have hl' : cs.length = (l.length + 1) * 3 := hl
    have e : cs = cs.take 3 ++ cs.drop 3 := (List.take_append_drop 3 cs).symm
    have ht : cs.drop 3 = arcVals l := by
      refine ih (by rw [List.length_drop, hl']; show (l.length + 1) * 3 - 3 = l.length * 3; omega) (fun j p hj => ?_)
      have := hp (j + 1) p (by simpa using hj)
      rw [List.drop_drop]
      rw [show 3 + j * k78.sz = (j + 1) * k78.sz by show 3 + j * 3 = (j + 1) * 3; omega]
      exact this
    rw [e, ht, arcVals_cons]
    rw [show cs.take 3 = cs.take k78.sz from rfl, h0]
def OwnArcs (w : World) (base : Nat) (v : Value) (l : List S78) : Prop := w.ownsRow base 78 3 v l.length (arcVals l)
theorem ownArcs_of {w : World} {base : Nat} {ok : Nat → Prop} {v : Value} {l : List S78} (h : k78.R 78 w base ok v l) : OwnArcs w base v l := by
  obtain ⟨_, inner, ho, hr⟩ := h
  rw [reps_unique hr] at ho
  exact ho
theorem ownArcs_R {w : World} {base : Nat} {v : Value} {l : List S78} (h : OwnArcs w base v l) : k78.R 78 w base (fun _ => True) v l := ⟨fun _ _ => trivial, arcVals l, h, reps_arcs w base _ l⟩
structure TInv (w wr : World) (a0 a1 a2 a3 : Int) (v : Value) (n : Nat) (xs : List S78) : Prop where
  b1 : wr.heap[w.heap.size]? = some (.cells #[.int .i64 a0, .int .i64 a1, .int .i64 a3, .int .i64 a2, v] 31 (0, 0))
  b2 : wr.heap[w.heap.size + 1]? = some (.cells #[.int .i64 0, .int .i64 0, .int .i64 0, .int .i64 0, .slice none 0 0] 31 (0, 0))
  own : wr.ownsRow (w.heap.size + 2) 78 3 v n (arcVals xs)
  bl : Below w.heap.size w wr
theorem own_cell {W : World} {base g n cap : Nat} {e : TypeId} {size : Nat} {xs : List Value} (h : W.ownsRow base e size (.slice (some ⟨g, 0, none⟩) n cap) n xs) (i : Nat) (u : Value) (hu : xs[i]? = some u) : W.cell? ⟨g, i, none⟩ = some u := by
  have := h.cells (g := g) rfl i u hu
  rwa [add_plain] at this
theorem own_frozen {W : World} {base g n cap : Nat} {e : TypeId} {size : Nat} {xs : List Value} (h : W.ownsRow base e size (.slice (some ⟨g, 0, none⟩) n cap) n xs) (i : Nat) : W.frozen? ⟨g, i, none⟩ = false := by
  rcases h.2 with ⟨h', _⟩ | ⟨g', cap', cur, h', _, hh, _⟩
  · cases h'
  · have : g = g' := by injection h' with h'; injection h' with h'; injection h' with h'
    subst this
    simp [World.frozen?, hh]
set_option maxHeartbeats 1000000 in
set_option maxRecDepth 20000 in
theorem nfa_Turn.walk (a0_0 : Int) (a0_1 : Int) (a0_2 : Int) (a0_3 : Int) (A : Option Addr) (c : Nat) (l : List S78) (w : World) (hr : Kd.C k78 w A l.length l) (hc : l.length ≤ c) (hck : nfa_Check.f a0_0 a0_1 a0_2 a0_3 l = some 0) (harc : api_Arc.f l = some l) :
    Calls Try.prog 25 #[.agg #[.int .i64 a0_0, .int .i64 a0_1, .int .i64 a0_2, .int .i64 a0_3, .slice A l.length c]] w fun e w' => ∃ v, e = .returned (.tuple #[.agg #[.int .i64 a0_0, .int .i64 a0_1, .int .i64 a0_3, .int .i64 a0_2, v], .int .i64 0]) ∧ Kd.R k78 78 w' w.heap.size (fun _ => True) v (l.map swapA) ∧ Below w.heap.size w w' := by
  have hm : l.length ≤ 9223372036854775807 := hr.2.1
  have HR := Aside0.mk hr
  have HC := Aside0.mk hc
  have HCK := Aside0.mk hck
  have HARC := Aside0.mk harc
  clear hr hc hck harc
  have BX0 : Aside0 (((w.alloc (.cells #[.int .i64 a0_0, .int .i64 a0_1, .int .i64 a0_2, .int .i64 a0_3, .slice A l.length c] 31)).alloc (.cells #[.int .i64 0, .int .i64 0, .int .i64 0, .int .i64 0, .slice none 0 0] 31)).heap[w.heap.size]? = some (.cells #[.int .i64 a0_0, .int .i64 a0_1, .int .i64 a0_2, .int .i64 a0_3, .slice A l.length c] 31 (0, 0))) := ⟨blk_alloc (blk_new _ _) _⟩
  have BY0 : Aside0 (((w.alloc (.cells #[.int .i64 a0_0, .int .i64 a0_1, .int .i64 a0_2, .int .i64 a0_3, .slice A l.length c] 31)).alloc (.cells #[.int .i64 0, .int .i64 0, .int .i64 0, .int .i64 0, .slice none 0 0] 31)).heap[w.heap.size + 1]? = some (.cells #[.int .i64 0, .int .i64 0, .int .i64 0, .int .i64 0, .slice none 0 0] 31 (0, 0))) := ⟨by have e := blk_new (w.alloc (.cells #[.int .i64 a0_0, .int .i64 a0_1, .int .i64 a0_2, .int .i64 a0_3, .slice A l.length c] 31)) (.cells #[.int .i64 0, .int .i64 0, .int .i64 0, .int .i64 0, .slice none 0 0] 31); simpa using e⟩
  go_enter Try.func25, Try.ntmps25
  go_wp2_with (fail)
  go_at_call 31
  refine (nfa_Check.calls a0_0 a0_1 a0_2 a0_3 A c l 0 _ (Kd.C_below HR.out (below_alloc (below_alloc (Below.refl _ _) _) _)) HC.out HCK.out).mono ?_
  rintro e w1 ⟨rfl, hb1⟩
  have BX1 := Aside0.mk (blk_below BX0.out hb1)
  have BY1 := Aside0.mk (blk_below BY0.out hb1)
  have HB1 := Aside0.mk (below_then (below_alloc (below_alloc (Below.refl _ _) _) _) (by simp; omega) hb1)
  clear hb1 BX0 BY0
  have hx2 : w1.cell? ⟨w.heap.size, 2, none⟩ = some (.int .i64 a0_2) := (blk_cell BX1.out 2).trans rfl
  have hx3 : w1.cell? ⟨w.heap.size, 3, none⟩ = some (.int .i64 a0_3) := (blk_cell BX1.out 3).trans rfl
  have hx4 : w1.cell? ⟨w.heap.size, 4, none⟩ = some (.slice A l.length c) := (blk_cell BX1.out 4).trans rfl
  have hz2 := blk_frozen BX1.out 2
  have hz3 := blk_frozen BX1.out 3
  go_wp2_with (fail)
  go_at_call 60
  have BX2 : Aside0 (((w1.setCell ⟨w.heap.size, 2, none⟩ (.int .i64 a0_3)).setCell ⟨w.heap.size, 3, none⟩ (.int .i64 a0_2)).heap[w.heap.size]? = some (.cells #[.int .i64 a0_0, .int .i64 a0_1, .int .i64 a0_3, .int .i64 a0_2, .slice A l.length c] 31 (0, 0))) := ⟨blk_put (blk_put BX1.out 2 _ rfl) 3 _ rfl⟩
  have BY2 : Aside0 (((w1.setCell ⟨w.heap.size, 2, none⟩ (.int .i64 a0_3)).setCell ⟨w.heap.size, 3, none⟩ (.int .i64 a0_2)).heap[w.heap.size + 1]? = some (.cells #[.int .i64 0, .int .i64 0, .int .i64 0, .int .i64 0, .slice none 0 0] 31 (0, 0))) := ⟨blk_far (blk_far BY1.out (by simp) _) (by simp) _⟩
  have HB2 : Aside0 (Below w.heap.size w ((w1.setCell ⟨w.heap.size, 2, none⟩ (.int .i64 a0_3)).setCell ⟨w.heap.size, 3, none⟩ (.int .i64 a0_2))) := ⟨below_set (below_set HB1.out (Nat.le_refl _)) (Nat.le_refl _)⟩
  have HS : Aside0 (w.heap.size + 2 ≤ ((w1.setCell ⟨w.heap.size, 2, none⟩ (.int .i64 a0_3)).setCell ⟨w.heap.size, 3, none⟩ (.int .i64 a0_2)).heap.size) := ⟨blk_lt BY2.out⟩
  clear hx2 hx3 hx4 hz2 hz3 BX1 BY1 HB1
  generalize ((w1.setCell ⟨w.heap.size, 2, none⟩ (.int .i64 a0_3)).setCell ⟨w.heap.size, 3, none⟩ (.int .i64 a0_2)) = W at BX2 BY2 HB2 HS ⊢
  refine (api_Arc.calls A c l l W (Kd.C_below HR.out HB2.out) HC.out HARC.out).mono ?_
  rintro e w2 ⟨v, rfl, hv, hb2⟩
  have hown : w2.ownsRow (w.heap.size + 2) 78 3 v l.length (arcVals l) := Joins.ownsRow_le (ownArcs_of hv) HS.out
  obtain ⟨A', c', rfl⟩ : ∃ A' c', v = .slice A' l.length c' := by
    rcases Joins.ownsRow_forms hown with ⟨e1, e2⟩ | ⟨g, cap, e1⟩
    · exact ⟨none, 0, by rw [e2]; exact e1⟩
    · exact ⟨_, _, e1⟩
  have BX3 := Aside0.mk (blk_below BX2.out hb2)
  have BY3 := Aside0.mk (blk_below BY2.out hb2)
  have HB3 := Aside0.mk (below_step HB2.out hb2)
  have hz4 := blk_frozen BX3.out 4
  have hlt4 := blk_lt BX3.out
  have HO : Aside0 (w2.ownsRow (w.heap.size + 2) 78 3 (.slice A' l.length c') l.length (arcVals l)) := ⟨hown⟩
  have hne : (Value.slice A' l.length c').ownBlock ≠ some w.heap.size := by
    intro e
    have := own_base hown _ e
    omega
  have HT : Aside0 (TInv w (w2.setCell ⟨w.heap.size, 4, none⟩ (.slice A' l.length c')) a0_0 a0_1 a0_2 a0_3 (.slice A' l.length c') l.length ((l.take 0).map swapA ++ l.drop 0)) := ⟨⟨blk_put BX3.out 4 _ rfl, blk_far BY3.out (by simp) _, by simpa using own_setCell hown (p := ⟨w.heap.size, 4, none⟩) (Ne.symm hne) _, below_set HB3.out (Nat.le_refl _)⟩⟩
  have hx4 : w2.cell? ⟨w.heap.size, 4, none⟩ = some (.slice A l.length c) := (blk_cell BX3.out 4).trans rfl
  clear hv hb2 hown BX2 BY2 HB2 HS BX3 BY3 HB3 HO hne
  go_wp2
  go_loopw [5, 6, 26] (fun _ _ i wr => ∃ j : Nat, j ≤ l.length ∧ i = .int .i64 j ∧ Aside0 (TInv w wr a0_0 a0_1 a0_2 a0_3 (.slice A' l.length c') l.length ((l.take j).map swapA ++ l.drop j))) (fun _ _ i _ => l.length - (intOf i).toNat)
  case atStart => exact ⟨0, Nat.zero_le _, rfl, HT⟩
  case round =>
    obtain ⟨j, hj, rfl, HI⟩ := hrel
    clear HT hx4 hz4 hlt4
    have hb0 : wr.cell? ⟨w.heap.size, 0, none⟩ = some (.int .i64 a0_0) := (blk_cell HI.out.b1 0).trans rfl
    have hb1 : wr.cell? ⟨w.heap.size, 1, none⟩ = some (.int .i64 a0_1) := (blk_cell HI.out.b1 1).trans rfl
    have hb2 : wr.cell? ⟨w.heap.size, 2, none⟩ = some (.int .i64 a0_3) := (blk_cell HI.out.b1 2).trans rfl
    have hb3 : wr.cell? ⟨w.heap.size, 3, none⟩ = some (.int .i64 a0_2) := (blk_cell HI.out.b1 3).trans rfl
    have hb4 : wr.cell? ⟨w.heap.size, 4, none⟩ = some (.slice A' l.length c') := (blk_cell HI.out.b1 4).trans rfl
    by_cases hlt : j < l.length
    · obtain ⟨g, cap, hg, _⟩ := HI.out.own.form (by omega)
      obtain ⟨rfl, rfl⟩ : A' = some ⟨g, 0, none⟩ ∧ c' = cap := by
        injection hg with h1 h2 h3
        exact ⟨h1, h3⟩
      clear hg
      have hgb : w.heap.size + 2 ≤ g := own_base HI.out.own g rfl
      have hgl : g < wr.heap.size := own_lt HI.out.own g rfl
      have hplen : ((l.take j).map swapA).length = j := by rw [List.length_map, List.length_take]; omega
      have hdrop : l.drop j = l[j] :: l.drop (j + 1) := List.drop_eq_getElem_cons hlt
      have hcell : ∀ q, q < 3 → (arcVals ((l.take j).map swapA ++ l.drop j))[j * 3 + q]? = ([.int .i64 l[j].f0, .int .i64 l[j].f1, .int .i64 l[j].f2] : List Value)[q]? := fun q hq => by
        rw [hdrop]
        have := arcVals_at ((l.take j).map swapA) (l.drop (j + 1)) l[j] q hq
        rwa [hplen] at this
      have hc0 := own_cell HI.out.own (j * 3 + 0) _ (hcell 0 (by omega))
      have hc1 := own_cell HI.out.own (j * 3 + 1) _ (hcell 1 (by omega))
      have hc2 := own_cell HI.out.own (j * 3 + 2) _ (hcell 2 (by omega))
      generalize hxx : l[j] = x at hc0 hc1 hc2 hcell hdrop
      rw [Nat.add_zero] at hc0
      have hadd : ∀ q : Nat, (⟨g, 0, none⟩ : Addr).add q = ⟨g, q, none⟩ := fun q => add_plain g q
      clear hcell
      have hne1 : w.heap.size ≠ g := by omega
      have hne2 : g ≠ w.heap.size := by omega
      have hne3 : g ≠ wr.heap.size := by omega
      have hA4 : ∀ o : Obj, (wr.alloc o).cell? ⟨w.heap.size, 4, none⟩ = some (.slice (some ⟨g, 0, none⟩) l.length c') := fun o => (blk_cell (blk_alloc HI.out.b1 o) 4).trans rfl
      have hA4' : ∀ (o : Obj) (i : Nat) (u : Value), ((wr.setCell ⟨g, i, none⟩ u).alloc o).cell? ⟨w.heap.size, 4, none⟩ = some (.slice (some ⟨g, 0, none⟩) l.length c') := fun o i u => (blk_cell (blk_alloc (blk_far HI.out.b1 hne1 _) o) 4).trans rfl
      have hA5' : ∀ (i : Nat) (u : Value), ((wr.setCell ⟨g, i, none⟩ u)).cell? ⟨w.heap.size, 4, none⟩ = some (.slice (some ⟨g, 0, none⟩) l.length c') := fun i u => (blk_cell ((blk_far HI.out.b1 hne1 _)) 4).trans rfl
      have hz0 := own_frozen HI.out.own (j * 3)
      have hz2 := own_frozen HI.out.own (j * 3 + 2)
      go_wp2
      go_region
      go_wp2
      go_roundw
      case rel =>
        refine ⟨j + 1, by omega, by go_num, ⟨?_⟩⟩
        have hI := HI.out
        have htake : (l.take (j + 1)).map swapA = (l.take j).map swapA ++ [swapA x] := by
          rw [List.take_succ_eq_append_getElem hlt, List.map_append, hxx]; rfl
        have ho1 := (hI.own.stored (j * 3) (.int .i64 x.f2)).1
        have ho2 := (ho1.stored (j * 3 + 2) (.int .i64 x.f0)).1
        have hset := arcVals_set ((l.take j).map swapA) (l.drop (j + 1)) x
        rw [hplen, ← hdrop] at hset
        rw [hset, ← htake] at ho2
        refine ⟨blk_drew (blk_alloc (blk_far (blk_far hI.b1 hne1 _) hne1 _) _), blk_drew (blk_alloc (blk_far (blk_far hI.b2 (show w.heap.size + 1 ≠ g by omega) _) (show w.heap.size + 1 ≠ g by omega) _) _), own_alloc ho2 _, ?_⟩
        exact below_drew1 (below_alloc (below_set (below_set hI.bl (by omega)) (by omega)) _)
      case measure => simp [intOf]; omega
    · obtain rfl : j = l.length := by omega
      rw [List.take_length, List.drop_length, List.append_nil] at HI
      have hbl := HI.out.bl
      have hd0 : wr.cell? ⟨w.heap.size + 1, 0, none⟩ = some (.int .i64 0) := (blk_cell HI.out.b2 0).trans rfl
      have hd1 : wr.cell? ⟨w.heap.size + 1, 1, none⟩ = some (.int .i64 0) := (blk_cell HI.out.b2 1).trans rfl
      have hd2 : wr.cell? ⟨w.heap.size + 1, 2, none⟩ = some (.int .i64 0) := (blk_cell HI.out.b2 2).trans rfl
      have hd3 : wr.cell? ⟨w.heap.size + 1, 3, none⟩ = some (.int .i64 0) := (blk_cell HI.out.b2 3).trans rfl
      have hd4 : wr.cell? ⟨w.heap.size + 1, 4, none⟩ = some (.slice none 0 0) := (blk_cell HI.out.b2 4).trans rfl
      have hf0 := blk_frozen HI.out.b2 0
      have hf1 := blk_frozen HI.out.b2 1
      have hf2 := blk_frozen HI.out.b2 2
      have hf3 := blk_frozen HI.out.b2 3
      have hf4 := blk_frozen HI.out.b2 4
      go_wp2
      have hI := HI.out
      refine bodyPost_ret (v := .tuple #[.agg #[.int .i64 a0_0, .int .i64 a0_1, .int .i64 a0_3, .int .i64 a0_2, .slice A' l.length c'], .int .i64 0]) (by simp [results, Try.results25, go_sem, hd0, hd1, hd2, hd3, hd4]) rfl ⟨.slice A' l.length c', rfl, ?_, ?_⟩
      · refine ownArcs_R ?_
        have ho := Joins.ownsRow_le (base' := w.heap.size) hI.own (by omega)
        have hno : ∀ i : Nat, some (⟨w.heap.size + 1, i, none⟩ : Addr).block ≠ (Value.slice A' l.length c').ownBlock := fun i e => by
          have := own_base hI.own _ e.symm
          have : w.heap.size + 2 ≤ w.heap.size + 1 := this
          omega
        have := own_setCell (own_setCell (own_setCell (own_setCell (own_setCell ho (hno 0) (.int .i64 a0_0)) (hno 1) (.int .i64 a0_1)) (hno 2) (.int .i64 a0_3)) (hno 3) (.int .i64 a0_2)) (hno 4) (.slice A' l.length c')
        unfold OwnArcs
        rw [List.length_map]
        exact this
      · exact below_set (below_set (below_set (below_set (below_set hI.bl (by omega)) (by omega)) (by omega)) (by omega)) (by omega)
end Go.Proofs.Ytapinbmkjkbkkaa.Mk
