import Derived.Test.YtapinbmkjkbkkaaTuLa
import Derived.Test.YtapinbmkjkbkkaaTuLbx2
import Derived.Test.YtapinbmkjkbkkaaTuLbx3
import Derived.Test.YtapinbmkjkbkkaaTuLbx5
namespace Go.Proofs.Ytapinbmkjkbkkaa.Ls
open Go.RowKit Go.Proofs.YtapinbmkjkbkkaaW.PrintWords Go.Proofs.YtapinbmkjkbkkaaW.PrintLast Go.Proofs.YtapinbmkjkbkkaaW.PrintMore Lb
def relax (sy : Int) (p : List Int × Bool) (x : S78) : List Int × Bool :=
  if x.f1 = -2 ∧ sy = 0 ∨ rd p.1 x.f2 < 0 then p
  else if rd p.1 x.f0 < 0 ∨ wrap64 (rd p.1 x.f2 + (if x.f1 = -1 then 0 else 1)) < rd p.1 x.f0 then (p.1.set x.f0.toNat (wrap64 (rd p.1 x.f2 + (if x.f1 = -1 then 0 else 1))), true)
  else p
def passF (sy : Int) (xs : List S78) (p : List Int × Bool) : List Int × Bool := xs.foldl (relax sy) p
def nearF (sy : Int) (xs : List S78) : Nat → List Int → Option (List Int)
  | 0, _ => none
  | j + 1, near => if (passF sy xs (near, false)).2 = true then nearF sy xs j (passF sy xs (near, false)).1 else some (passF sy xs (near, false)).1
theorem passF_step (sy : Int) (l : List S78) (k : Nat) (p : List Int × Bool) (h : k < l.length) : passF sy (l.drop k) p = passF sy (l.drop (k + 1)) (relax sy p (rd_T78 l k)) := by
  unfold passF rd_T78
  rw [List.drop_eq_getElem_cons h, List.foldl_cons, show l.getD ((k : Int).toNat) z78 = l[k] by simp [List.getElem?_eq_getElem h]]
theorem passF_end (sy : Int) (l : List S78) (k : Nat) (p : List Int × Bool) (h : l.length ≤ k) : passF sy (l.drop k) p = p := by
  rw [List.drop_eq_nil_of_le h]; rfl
def symF (k : Nat) (a0_0 a0_1 a0_2 a0_3 : Int) (l : List S78) (near : List Int) (left : Int) (s : List Int) : Nat → Nat → Option (Option (Nat × List Int))
  | 0, _ => some none
  | d + 1, j => (nfa_step.f k a0_0 a0_1 a0_2 a0_3 l (j : Int) s).bind fun t => (nfa_some_list.f k t).bind fun q =>
    if (q.all fun i => decide (0 ≤ i) && decide (i < near.length)) = true then (if nearAny near left q = true then some (some (j, t)) else symF k a0_0 a0_1 a0_2 a0_3 l near left s d (j + 1)) else none
def leastL (k : Nat) (a0_0 a0_1 a0_2 a0_3 : Int) (l : List S78) (near : List Int) : Nat → Int → List Int → List Int → Option (List Int)
  | 0, _, _, _ => none
  | J + 1, left, w, s => if 0 ≤ left then ((symF k a0_0 a0_1 a0_2 a0_3 l near left s a0_1.toNat 0).bind fun o => match o with
      | some p => if w.length < 17592186044416 then leastL k a0_0 a0_1 a0_2 a0_3 l near J (wrap64 (left - 1)) (w ++ [(p.1 : Int)]) p.2 else none
      | none => leastL k a0_0 a0_1 a0_2 a0_3 l near J (wrap64 (left - 1)) w s) else some w
def nearS (m : Nat) (e : Int) : List Int := (List.replicate m (-1)).set e.toNat 0
def nfa_Least.f (k : Nat) (a0_0 a0_1 a0_2 a0_3 : Int) (l : List S78) : Option (List Int × Bool × Int) :=
  (nfa_Check.f a0_0 a0_1 a0_2 a0_3 l).bind fun c => if c = 0 then ((nearF a0_1 l k (nearS a0_0.toNat a0_3)).bind fun near =>
    if rd near a0_2 < 0 then some ([], false, 0) else (nfa_empty.f a0_0).bind fun b => (nfa_some_put.f b a0_2).bind fun b => (nfa_closed.f k a0_0 a0_1 a0_2 a0_3 l b).bind fun s =>
      (leastL k a0_0 a0_1 a0_2 a0_3 l near k (wrap64 (rd near a0_2 - 1)) [] s).map fun w => (w, true, 0)) else some ([], false, c)
theorem fill_set (m k : Nat) (h : k < m) : (List.replicate k (-1 : Int) ++ List.replicate (m - k) 0).set k (-1) = List.replicate (k + 1) (-1) ++ List.replicate (m - (k + 1)) 0 := by
  obtain ⟨d, rfl⟩ : ∃ d, m = k + 1 + d := ⟨m - (k + 1), by omega⟩
  have e1 : k + 1 + d - k = d + 1 := by omega
  have e2 : k + 1 + d - (k + 1) = d := by omega
  rw [e1, e2, List.set_append_right _ _ (by simp), List.replicate_succ (n := d)]
  simp [List.replicate_succ' (n := k)]
theorem row_alloc {w : World} {g : Nat} {xs : List Int} (h : RowAt w g xs) (o : Obj) : RowAt (w.alloc o) g xs := blk_alloc h o
theorem row_below {w w1 : World} {g : Nat} {xs : List Int} (h : RowAt w g xs) (hb : Below w.heap.size w w1) : RowAt w1 g xs := blk_below h hb
structure LInv (w wr : World) (g m : Nat) (av : Array Value) : Prop where
  b1 : wr.heap[w.heap.size]? = some (.cells av 31 (0, 0))
  b6 : wr.heap[g + 1]? = some (.cells #[.slice (some ⟨g, 0, none⟩) m m] 27 (0, 0))
  bl : Below w.heap.size w wr
theorem linv_below {w wr w2 : World} {g m : Nat} {av : Array Value} (h : LInv w wr g m av) (hb : Below wr.heap.size wr w2) : LInv w w2 g m av := ⟨blk_below h.b1 hb, blk_below h.b6 hb, below_then h.bl h.bl.size hb⟩
theorem linv_alloc {w wr : World} {g m : Nat} {av : Array Value} (h : LInv w wr g m av) (o : Obj) : LInv w (wr.alloc o) g m av := linv_below h (below_alloc (Below.refl _ _) o)
theorem linv_set {w wr : World} {g m : Nat} {av : Array Value} (h : LInv w wr g m av) {p : Addr} (h1 : w.heap.size ≤ p.block) (h2 : w.heap.size ≠ p.block) (h3 : g + 1 ≠ p.block) (u : Value) : LInv w (wr.setCell p u) g m av :=
  ⟨blk_far h.b1 h2 u, blk_far h.b6 h3 u, h.bl.setCell h1 u⟩
theorem linv_grown {w wr w2 : World} {g m : Nat} {av : Array Value} (h : LInv w wr g m av) {row : Option Nat} (hg : wr.grownBy w2 row) (hr : ∀ q, row = some q → q ≠ w.heap.size ∧ q ≠ g + 1 ∧ w.heap.size ≤ q) : LInv w w2 g m av :=
  ⟨blk_grown h.b1 hg (fun e => (hr _ e.symm).1 rfl), blk_grown h.b6 hg (fun e => (hr _ e.symm).2.1 rfl), pw_below_grown h.bl row h.bl.size hg (fun q hq => (hr q hq).2.2)⟩
theorem r115_grown {W W1 : World} {base : Nat} {v u : Value} {xs ys : List Int} {ok : Nat → Prop} (h : Kd.R (Kd.int .u64) 115 W base (fun _ => True) v xs) (h2 : Kd.R (Kd.int .i64) 3 W base ok u ys) (hg : W.grownBy W1 u.ownBlock) : Kd.R (Kd.int .u64) 115 W1 base (fun _ => True) v xs := by
  refine Kd.R_mono (Kd.R_grown (Kd.R_tight rfl h) hg (fun k hk e => ?_)) (fun _ _ => trivial)
  obtain ⟨_, inner, hown, _⟩ := h
  obtain ⟨_, inner2, hown2, _⟩ := h2
  obtain ⟨c1, e1⟩ := own_typed hown k hk.symm
  obtain ⟨c2, e2⟩ := own_typed hown2 k e.symm
  rw [e1] at e2
  injection e2 with e2
  injection e2 with _ e2
  exact absurd e2 (by decide)
theorem made_nums (m : Nat) : madeCells #[.int .i64 0] m = (nums .i64 (List.replicate m 0)).toArray := by
  apply Array.ext'
  apply List.ext_getElem
  · simp [nums, madeCells]
  · intro i h1 h2
    simp [nums, madeCells, Nat.mod_one]
theorem relax_skip {sy : Int} {p : List Int × Bool} {x : S78} (h : x.f1 = -2 ∧ sy = 0 ∨ rd p.1 x.f2 < 0) : relax sy p x = p := by unfold relax; rw [if_pos h]
theorem relax_set {sy : Int} {p : List Int × Bool} {x : S78} (n : Int) (h : ¬ (x.f1 = -2 ∧ sy = 0 ∨ rd p.1 x.f2 < 0)) (hn : wrap64 (rd p.1 x.f2 + (if x.f1 = -1 then 0 else 1)) = n) (h2 : rd p.1 x.f0 < 0 ∨ n < rd p.1 x.f0) : relax sy p x = (p.1.set x.f0.toNat n, true) := by
  unfold relax; rw [if_neg h, hn, if_pos h2]
theorem relax_keep {sy : Int} {p : List Int × Bool} {x : S78} (n : Int) (h : ¬ (x.f1 = -2 ∧ sy = 0 ∨ rd p.1 x.f2 < 0)) (hn : wrap64 (rd p.1 x.f2 + (if x.f1 = -1 then 0 else 1)) = n) (h2 : ¬ (rd p.1 x.f0 < 0 ∨ n < rd p.1 x.f0)) : relax sy p x = p := by
  unfold relax; rw [if_neg h, hn, if_neg h2]
set_option maxRecDepth 100000 in
set_option maxHeartbeats 12800000 in
theorem least_walk (k m : Nat) (a0_1 a0_2 a0_3 : Int) (A : Option Addr) (c : Nat) (l : List S78) (w : World) (hr : Kd.C k78 w A l.length l) (hc : l.length ≤ c)
    (hhead : nfa_headOk (m : Int) a0_1 a0_2 a0_3 = true) (harc : ∀ j : Nat, j < l.length → nfa_arcOk (m : Int) a0_1 (rd_T78 l j) = true) (hck : nfa_Check.f (m : Int) a0_1 a0_2 a0_3 l = some 0)
    (near : List Int) (hnear : nearF a0_1 l k (nearS m a0_3) = some near) (r : List Int × Bool × Int) (h : nfa_Least.f k (m : Int) a0_1 a0_2 a0_3 l = some r) :
    Calls Try.prog 22 #[.agg #[.int .i64 (m : Int), .int .i64 a0_1, .int .i64 a0_2, .int .i64 a0_3, .slice A l.length c]] w fun e w' => ∃ v0_ : Value, e = .returned (.tuple #[v0_, .bool r.2.1, .int .i64 r.2.2]) ∧ Kd.R (Kd.int .i64) 3 w' w.heap.size (fun _ => True) v0_ r.1 ∧ Below w.heap.size w w' := by
  have hm : l.length ≤ 9223372036854775807 := hr.2.1
  obtain ⟨c1, c2, c3, c4, c5, c6⟩ := of_decide_eq_true hhead
  have hmk := print_make 27 3 .i64 8 Try.underlying27 info3 (by decide) m (by omega)
  have HR := Aside0.mk hr
  have HC := Aside0.mk hc
  have HARC := Aside0.mk harc
  have HCK := Aside0.mk hck
  have HNEAR := Aside0.mk hnear
  have HH := Aside0.mk h
  have HM := Aside0.mk (show m ≤ 4096 by omega)
  have HE := Aside0.mk c6
  have HS := Aside0.mk c5
  have HY := Aside0.mk (And.intro c3 c4)
  have BX0 : Aside0 ((w.alloc (.cells #[.int .i64 (m : Int), .int .i64 a0_1, .int .i64 a0_2, .int .i64 a0_3, .slice A l.length c] 31)).heap[w.heap.size]? = some (.cells #[.int .i64 (m : Int), .int .i64 a0_1, .int .i64 a0_2, .int .i64 a0_3, .slice A l.length c] 31 (0, 0))) := ⟨blk_new _ _⟩
  clear hr hc harc hck hnear h hhead c1 c2 c3 c4 c5 c6
  go_enter Try.func22, Try.ntmps22
  go_wp2_with (fail)
  go_at_call 31
  refine (nfa_Check.calls (m : Int) a0_1 a0_2 a0_3 A c l 0 _ (Kd.C_below HR.out (below_alloc (Below.refl _ _) _)) HC.out HCK.out).mono ?_
  rintro e w1 ⟨rfl, hb1⟩
  have BX1 := Aside0.mk (blk_below BX0.out hb1)
  have HB1 := Aside0.mk (below_then (below_alloc (Below.refl _ _) _) (by simp) hb1)
  have HGT : Aside0 (w.heap.size < w1.heap.size) := ⟨blk_lt BX1.out⟩
  have hc0 : w1.cell? ⟨w.heap.size, 0, none⟩ = some (.int .i64 (m : Int)) := (blk_cell BX1.out 0).trans rfl
  have HI0 : Aside0 (LInv w ((w1.alloc (.cells (madeCells #[.int .i64 0] m) 3)).alloc (.cells #[.slice (some ⟨w1.heap.size, 0, none⟩) m m] 27)) w1.heap.size m #[.int .i64 (m : Int), .int .i64 a0_1, .int .i64 a0_2, .int .i64 a0_3, .slice A l.length c]) := ⟨⟨blk_alloc (blk_alloc BX1.out _) _, by have e := blk_new (w1.alloc (.cells (madeCells #[.int .i64 0] m) 3)) (.cells #[.slice (some ⟨w1.heap.size, 0, none⟩) m m] 27); simpa using e, below_alloc (below_alloc HB1.out _) _⟩⟩
  have HR0 : Aside0 (RowAt ((w1.alloc (.cells (madeCells #[.int .i64 0] m) 3)).alloc (.cells #[.slice (some ⟨w1.heap.size, 0, none⟩) m m] 27)) w1.heap.size (List.replicate 0 (-1) ++ List.replicate (m - 0) 0)) := ⟨blk_alloc (by have e := blk_new w1 (.cells (madeCells #[.int .i64 0] m) 3); rw [made_nums] at e; rw [made_nums]; simpa [RowAt] using e) _⟩
  clear hb1 BX0
  go_wp2
  obtain ⟨g, hg⟩ : ∃ g, g = w1.heap.size := ⟨_, rfl⟩
  rw [← hg] at HI0 HR0 HGT
  rw [← hg]
  clear hg hc0 hmk
  have hadd : ∀ q : Nat, (⟨g, 0, none⟩ : Addr).add q = ⟨g, q, none⟩ := fun q => add_plain g q
  go_loopw [7, 28] (fun _ i wr => ∃ j : Nat, j ≤ m ∧ i = .int .i64 j ∧ Aside0 (LInv w wr g m #[.int .i64 (m : Int), .int .i64 a0_1, .int .i64 a0_2, .int .i64 a0_3, .slice A l.length c]) ∧ Aside0 (RowAt wr g (List.replicate j (-1) ++ List.replicate (m - j) 0))) (fun _ i _ => m - (intOf i).toNat)
  case atStart => exact ⟨0, Nat.zero_le _, rfl, HI0, HR0⟩
  case round =>
    obtain ⟨j, hj, rfl, HI, HRW⟩ := hrel
    clear HI0 HR0
    have hn6 : wr.cell? ⟨g + 1, 0, none⟩ = some (.slice (some ⟨g, 0, none⟩) m m) := (blk_cell HI.out.b6 0).trans rfl
    have hm0 : m ≤ 9223372036854775807 := by have := HM.out; omega
    by_cases hlt : j < m
    · have hx := row_cell HRW.out (j : Int) (by omega) (by simp; omega)
      rw [Int.toNat_natCast] at hx
      have hz := blk_frozen HRW.out j
      go_wp2
      go_roundw
      case rel => exact ⟨j + 1, by omega, by go_num, ⟨linv_set HI.out (by have := HGT.out; show w.heap.size ≤ g; omega) (by have := HGT.out; show w.heap.size ≠ g; omega) (by show g + 1 ≠ g; omega) _⟩, ⟨by have e := row_set HRW.out (j : Int) (-1); rw [Int.toNat_natCast, fill_set m j hlt] at e; exact e⟩⟩
      case measure => simp [intOf]; omega
    · obtain rfl : j = m := by omega
      have hrow := HRW.out
      rw [Nat.sub_self, List.replicate_zero, List.append_nil] at hrow
      have HRW2 := Aside0.mk hrow
      have hb3 : wr.cell? ⟨w.heap.size, 3, none⟩ = some (.int .i64 a0_3) := (blk_cell HI.out.b1 3).trans rfl
      have he0 := HE.out.1
      have he1 := HE.out.2
      have hx := row_cell HRW2.out a0_3 he0 (by simpa using he1)
      have hz := blk_frozen HRW2.out a0_3.toNat
      clear hrow
      go_wp2
      have HIa : Aside0 (LInv w (wr.setCell ⟨g, a0_3.toNat, none⟩ (.int .i64 0)) g j #[.int .i64 (j : Int), .int .i64 a0_1, .int .i64 a0_2, .int .i64 a0_3, .slice A l.length c]) := ⟨linv_set HI.out (by have := HGT.out; show w.heap.size ≤ g; omega) (by have := HGT.out; show w.heap.size ≠ g; omega) (by show g + 1 ≠ g; omega) _⟩
      have HRa : Aside0 (RowAt (wr.setCell ⟨g, a0_3.toNat, none⟩ (.int .i64 0)) g (nearS j a0_3)) := ⟨row_set HRW2.out a0_3 0⟩
      clear HI HRW HRW2 hx hz hb3 hn6 hlt
      go_loopg [8] k (fun kq v8 wr => ∃ (b : Bool) (nr : List Int), v8 = .bool b ∧ Aside0 (if b = true then nearF a0_1 l kq nr = some near else nr = near) ∧ Aside0 (nr.length = j) ∧ Aside0 (LInv w wr g j #[.int .i64 (j : Int), .int .i64 a0_1, .int .i64 a0_2, .int .i64 a0_3, .slice A l.length c]) ∧ Aside0 (RowAt wr g nr))
      case atStart => exact ⟨true, nearS j a0_3, rfl, ⟨by rw [if_pos rfl]; exact HNEAR.out⟩, ⟨by simp [nearS]⟩, HIa, HRa⟩
      case round =>
        obtain ⟨b, nr, rfl, HNF, HLN, HI, HRW⟩ := hrel
        clear HIa HRa
        cases b with
        | false =>
          have hnr : nr = near := by simpa using HNF.out
          subst hnr
          have hs0 := HS.out.1
          have hs1 := HS.out.2
          have hb0 : wr.cell? ⟨w.heap.size, 0, none⟩ = some (.int .i64 (j : Int)) := (blk_cell HI.out.b1 0).trans rfl
          have hb2 : wr.cell? ⟨w.heap.size, 2, none⟩ = some (.int .i64 a0_2) := (blk_cell HI.out.b1 2).trans rfl
          have hn6 : wr.cell? ⟨g + 1, 0, none⟩ = some (.slice (some ⟨g, 0, none⟩) j j) := (blk_cell HI.out.b6 0).trans rfl
          have hx := row_cell HRW.out a0_2 hs0 (by rw [HLN.out]; exact hs1)
          have hh := HH.out
          unfold nfa_Least.f at hh
          rw [HCK.out, Option.bind_some, if_pos rfl, show (j : Int).toNat = j from Int.toNat_natCast j, HNEAR.out, Option.bind_some] at hh
          by_cases q0 : rd nr a0_2 < 0
          · have d0 : decide (rd nr a0_2 < 0) = true := decide_eq_true q0
            rw [if_pos q0] at hh
            obtain rfl := Option.some.inj hh
            clear hh q0
            go_wp2
            go_ret3
            exact ⟨.slice none 0 0, rfl, Kd.R_nil _ _ _ _ _, HI.out.bl⟩
          · have d0 : decide (rd nr a0_2 < 0) = false := decide_eq_false q0
            rw [if_neg q0] at hh
            obtain ⟨b, hb, hh⟩ := Option.bind_eq_some_iff.mp hh
            obtain ⟨b', hb', hh⟩ := Option.bind_eq_some_iff.mp hh
            obtain ⟨ss, hss, hh⟩ := Option.bind_eq_some_iff.mp hh
            obtain ⟨wf, hwf, rfl⟩ := Option.map_eq_some_iff.mp hh
            have HB_ := Aside0.mk hb
            have HB' := Aside0.mk hb'
            have HSS := Aside0.mk hss
            have HWF := Aside0.mk hwf
            clear hh hb hb' hss hwf q0
            go_wp2_with (fail)
            go_at_call 54
            refine (nfa_empty.calls (j : Int) b _ HB_.out).mono ?_
            rintro e w2 ⟨v0, rfl, hRb, hb2'⟩
            have HI2 := Aside0.mk (linv_below HI.out hb2')
            have HRW2 := Aside0.mk (row_below HRW.out hb2')
            have HRb := Aside0.mk (Kd.R_lower hRb HI.out.bl.size)
            obtain ⟨Ab, cb, rfl⟩ := Kd.R_slice hRb
            have hc2 : w2.cell? ⟨w.heap.size, 2, none⟩ = some (.int .i64 a0_2) := (blk_cell HI2.out.b1 2).trans rfl
            clear hRb hb2' hb0 hb2 hn6 hx HI HRW d0
            go_wp2_with (fail)
            go_at_call 40
            refine (nfa_some_put.calls (fun k_ => some k_ = (Value.slice Ab b.length cb).ownBlock) (.slice Ab b.length cb) b a0_2 b' w _ HI2.out.bl (Kd.R_tight rfl HRb.out) HB'.out).mono ?_
            rintro e w3 ⟨rfl, hR3, hb3, hk3⟩
            have hne1 : ¬ some w.heap.size = (Value.slice Ab b.length cb).ownBlock := Kd.R_ne HRb.out HI2.out.b1 (by decide)
            have hne6 : ¬ some (g + 1) = (Value.slice Ab b.length cb).ownBlock := Kd.R_ne HRb.out HI2.out.b6 (by decide)
            have hneg : ¬ some g = (Value.slice Ab b.length cb).ownBlock := Kd.R_ne HRb.out HRW2.out (by decide)
            have HI3 : Aside0 (LInv w w3 g j #[.int .i64 (j : Int), .int .i64 a0_1, .int .i64 a0_2, .int .i64 a0_3, .slice A l.length c]) := ⟨⟨blk_kept HI2.out.b1 hk3 hne1, blk_kept HI2.out.b6 hk3 hne6, hb3⟩⟩
            have HRW3 : Aside0 (RowAt w3 g nr) := ⟨blk_kept HRW2.out hk3 hneg⟩
            have hlen : b'.length = b.length := by obtain ⟨_, _, e⟩ := Kd.R_slice hR3; injection e with _ e _; exact e.symm
            obtain ⟨hrd1, hrd2, hrd3⟩ := Kd.R_reads' hR3
            have HC3 := Aside0.mk hrd3
            have HL3 := Aside0.mk hrd2
            rw [← hlen] at HL3
            rw [← hlen]
            have hd0 : w3.cell? ⟨w.heap.size, 0, none⟩ = some (.int .i64 (j : Int)) := (blk_cell HI3.out.b1 0).trans rfl
            have hd1 : w3.cell? ⟨w.heap.size, 1, none⟩ = some (.int .i64 a0_1) := (blk_cell HI3.out.b1 1).trans rfl
            have hd2 : w3.cell? ⟨w.heap.size, 2, none⟩ = some (.int .i64 a0_2) := (blk_cell HI3.out.b1 2).trans rfl
            have hd3 : w3.cell? ⟨w.heap.size, 3, none⟩ = some (.int .i64 a0_3) := (blk_cell HI3.out.b1 3).trans rfl
            have hd4 : w3.cell? ⟨w.heap.size, 4, none⟩ = some (.slice A l.length c) := (blk_cell HI3.out.b1 4).trans rfl
            clear hR3 hb3 hk3 hne1 hne6 hneg hrd1 hrd2 hrd3 hc2 HI2 HRW2 HRb hlen
            go_wp2_with (fail)
            go_at_call 41
            refine (nfa_closed.calls k (j : Int) a0_1 a0_2 a0_3 A c l Ab cb b' ss _ (Kd.C_below HR.out HI3.out.bl) HC.out HC3.out HL3.out HSS.out).mono ?_
            rintro e w4 ⟨v13, rfl, hR4, hb4⟩
            have HI4 := Aside0.mk (linv_below HI3.out hb4)
            have HRW4 := Aside0.mk (row_below HRW3.out hb4)
            have HS4 := Aside0.mk (Kd.R_lower hR4 HI3.out.bl.size)
            have he2 : w4.cell? ⟨w.heap.size, 2, none⟩ = some (.int .i64 a0_2) := (blk_cell HI4.out.b1 2).trans rfl
            have hn4 : w4.cell? ⟨g + 1, 0, none⟩ = some (.slice (some ⟨g, 0, none⟩) j j) := (blk_cell HI4.out.b6 0).trans rfl
            have hx4 := row_cell HRW4.out a0_2 hs0 (by rw [HLN.out]; exact hs1)
            clear hR4 hb4 hd0 hd1 hd2 hd3 hd4 HC3 HL3 HI3 HRW3
            go_wp2
            have hG4 : g < w4.heap.size := blk_lt HRW4.out
            have hB4 : w.heap.size < w4.heap.size := blk_lt HI4.out.b1
            have hG14 : g + 1 < w4.heap.size := blk_lt HI4.out.b6
            go_loopg [13, 14, 15] k (fun kq v13_ v14_ v15_ wr => ∃ (left : Int) (ws : List Int) (ss_ : List Int) (gl : Nat), v15_ = .pointer (some ⟨gl, 0, none⟩) ∧ Aside0 (leastL k (j : Int) a0_1 a0_2 a0_3 l nr kq left ws ss_ = some wf) ∧ Aside0 (LInv w wr g j #[.int .i64 (j : Int), .int .i64 a0_1, .int .i64 a0_2, .int .i64 a0_3, .slice A l.length c]) ∧ Aside0 (RowAt wr g nr) ∧ Aside0 (wr.heap[gl]? = some (.cells #[.int .i64 left] 3 (0, 0))) ∧ Aside0 (g < gl ∧ w.heap.size < gl ∧ g + 1 ≠ gl) ∧ Aside0 (Kd.R (Kd.int .u64) 115 wr w.heap.size (fun _ => True) v13_ ss_) ∧ Aside0 (Kd.R (Kd.int .i64) 3 wr w.heap.size (fun q => q ≠ g ∧ q ≠ gl) v14_ ws))
            case atStart => exact ⟨wrap64 (rd nr a0_2 - 1), [], ss, w4.heap.size, rfl, HWF, ⟨linv_alloc HI4.out _⟩, ⟨row_alloc HRW4.out _⟩, ⟨blk_new _ _⟩, ⟨hG4, hB4, by omega⟩, ⟨Kd.R_alloc HS4.out _⟩, ⟨Kd.R_nil _ _ _ _ _⟩⟩
            case round =>
              obtain ⟨left, ws, s_, gl, rfl, HLL, HI, HRW, HBL, HGL, HSR, HWR⟩ := hrel
              clear HWF HI4 HRW4 HS4
              have hl15 : wr.cell? ⟨gl, 0, none⟩ = some (.int .i64 left) := (blk_cell HBL.out 0).trans rfl
              cases gk with
              | zero => exact absurd HLL.out (by simp [leastL])
              | succ J =>
                have hL := HLL.out
                clear HLL
                rw [leastL] at hL
                by_cases hleft : 0 ≤ left
                · rw [if_pos hleft] at hL
                  have dl : decide (0 ≤ left) = true := decide_eq_true hleft
                  obtain ⟨o, ho, hL⟩ := Option.bind_eq_some_iff.mp hL
                  have HOS := Aside0.mk ho
                  have HLN2 := Aside0.mk hL
                  have hs1' : wr.cell? ⟨w.heap.size, 1, none⟩ = some (.int .i64 a0_1) := (blk_cell HI.out.b1 1).trans rfl
                  clear ho hL
                  have hmy : a0_1.toNat ≤ 9223372036854775807 := by have := HY.out; omega
                  go_wp2
                  go_loopg [13, 14, 122] a0_1.toNat (fun q v13' v14' i_ wr => ∃ i : Nat, i ≤ a0_1.toNat ∧ q = a0_1.toNat - i ∧ i_ = .int .i64 i ∧ v13' = u13 ∧ v14' = u14 ∧ Aside0 (symF k (j : Int) a0_1 a0_2 a0_3 l nr left s_ (a0_1.toNat - i) i = some o) ∧ Aside0 (LInv w wr g j #[.int .i64 (j : Int), .int .i64 a0_1, .int .i64 a0_2, .int .i64 a0_3, .slice A l.length c]) ∧ Aside0 (RowAt wr g nr) ∧ Aside0 (wr.heap[gl]? = some (.cells #[.int .i64 left] 3 (0, 0))) ∧ Aside0 (Kd.R (Kd.int .u64) 115 wr w.heap.size (fun _ => True) u13 s_) ∧ Aside0 (Kd.R (Kd.int .i64) 3 wr w.heap.size (fun q => q ≠ g ∧ q ≠ gl) u14 ws))
                  case atStart => exact ⟨0, Nat.zero_le _, by omega, rfl, rfl, rfl, HOS, HI, HRW, HBL, HSR, HWR⟩
                  case round =>
                    obtain ⟨i, hi, rfl, rfl, rfl, rfl, HSF, HI, HRW, HBL, HSR, HWR⟩ := hrel
                    clear hl15 hs1' HOS dl
                    by_cases hlt : i < a0_1.toNat
                    · have di : decide ((i : Int) < a0_1) = true := decide_eq_true (by omega)
                      have hsf := HSF.out
                      obtain ⟨d, hd⟩ : ∃ d, a0_1.toNat - i = d + 1 := ⟨a0_1.toNat - i - 1, by omega⟩
                      rw [hd, symF] at hsf
                      obtain ⟨t, ht, hsf⟩ := Option.bind_eq_some_iff.mp hsf
                      obtain ⟨q, hq, hsf⟩ := Option.bind_eq_some_iff.mp hsf
                      by_cases hall : (q.all fun i => decide (0 ≤ i) && decide (i < nr.length)) = true
                      · rw [if_pos hall] at hsf
                        have HT := Aside0.mk ht
                        have HQ := Aside0.mk hq
                        have HSF2 := Aside0.mk hsf
                        have HD := Aside0.mk hd
                        have HIN : Aside0 (∀ z : Nat, z < q.length → 0 ≤ rd q z ∧ rd q z < nr.length) := ⟨fun z hz => by
                          have hm := (List.all_eq_true.mp hall) (rd q z) (by unfold rd; simp [List.getElem?_eq_getElem hz])
                          simpa using hm⟩
                        obtain ⟨As, cs, rfl⟩ := Kd.R_slice HSR.out
                        obtain ⟨_, hrd2, hrd3⟩ := Kd.R_reads' HSR.out
                        have HC3 := Aside0.mk hrd3
                        have HL3 := Aside0.mk hrd2
                        have hmf : ∀ (fn : Fn) (first cap : Array Value) (w : World), (Instr.makeFunc fn first cap).run Try.prog w = .ok (.func fn first cap) w := fun _ _ _ _ => rfl
                        have hd0 : wr.cell? ⟨w.heap.size, 0, none⟩ = some (.int .i64 (j : Int)) := (blk_cell HI.out.b1 0).trans rfl
                        have hd1 : wr.cell? ⟨w.heap.size, 1, none⟩ = some (.int .i64 a0_1) := (blk_cell HI.out.b1 1).trans rfl
                        have hd2 : wr.cell? ⟨w.heap.size, 2, none⟩ = some (.int .i64 a0_2) := (blk_cell HI.out.b1 2).trans rfl
                        have hd3 : wr.cell? ⟨w.heap.size, 3, none⟩ = some (.int .i64 a0_3) := (blk_cell HI.out.b1 3).trans rfl
                        have hd4 : wr.cell? ⟨w.heap.size, 4, none⟩ = some (.slice A l.length c) := (blk_cell HI.out.b1 4).trans rfl
                        clear ht hq hsf hd hall hrd2 hrd3
                        go_wp2_with (fail)
                        go_at_call 42
                        refine (nfa_step.calls k (j : Int) a0_1 a0_2 a0_3 A c l (i : Int) As cs s_ t _ (Kd.C_below HR.out HI.out.bl) HC.out HC3.out HL3.out HT.out).mono ?_
                        rintro e w5 ⟨v17, rfl, hR5, hb5⟩
                        have HI5 := Aside0.mk (linv_below HI.out hb5)
                        have HRW5 := Aside0.mk (row_below HRW.out hb5)
                        have HBL5 := Aside0.mk (blk_below HBL.out hb5)
                        have HSR5 := Aside0.mk (Kd.R_below HSR.out hb5)
                        have HWR5 := Aside0.mk (Kd.R_below HWR.out hb5)
                        have HTR5 := Aside0.mk (Kd.R_lower hR5 HI.out.bl.size)
                        obtain ⟨At, ct, rfl⟩ := Kd.R_slice hR5
                        obtain ⟨_, hrt2, hrt3⟩ := Kd.R_reads' hR5
                        have HCT := Aside0.mk hrt3
                        have HLT := Aside0.mk hrt2
                        clear hR5 hb5 hd0 hd1 hd2 hd3 hd4 HC3 HL3 hrt2 hrt3 HI HRW HBL HSR HWR
                        go_wp2_with (fail)
                        go_at_call 56
                        refine (nfa_some_list.calls k At ct t q _ HCT.out HLT.out HQ.out).mono ?_
                        rintro e w6 ⟨v130, rfl, hR6, hb6⟩
                        have HI6 := Aside0.mk (linv_below HI5.out hb6)
                        have HRW6 := Aside0.mk (row_below HRW5.out hb6)
                        have HBL6 := Aside0.mk (blk_below HBL5.out hb6)
                        have HSR6 := Aside0.mk (Kd.R_below HSR5.out hb6)
                        have HWR6 := Aside0.mk (Kd.R_below HWR5.out hb6)
                        have HTR6 := Aside0.mk (Kd.R_below HTR5.out hb6)
                        obtain ⟨Aq, cq, rfl⟩ := Kd.R_slice hR6
                        obtain ⟨_, _, hrq3⟩ := Kd.R_reads' hR6
                        have HCQ := Aside0.mk hrq3
                        have HHD : Aside0 (Held w6 (g + 1) gl g nr left) := ⟨⟨by rw [HLN.out]; exact HI6.out.b6, HBL6.out, HRW6.out⟩⟩
                        clear hR6 hb6 hrq3 HI5 HRW5 HBL5 HSR5 HWR5 HTR5 HCT HLT
                        go_wp2_with (fail)
                        go_at_call 55
                        refine (nearContains_calls (g + 1) gl g nr left q Aq cq _ HHD.out HCQ.out HIN.out).mono ?_
                        rintro e w7 ⟨rfl, hb7⟩
                        have HI7 := Aside0.mk (linv_below HI6.out hb7)
                        have HRW7 := Aside0.mk (row_below HRW6.out hb7)
                        have HBL7 := Aside0.mk (blk_below HBL6.out hb7)
                        have HSR7 := Aside0.mk (Kd.R_below HSR6.out hb7)
                        have HWR7 := Aside0.mk (Kd.R_below HWR6.out hb7)
                        have HTR7 := Aside0.mk (Kd.R_below HTR6.out hb7)
                        clear hb7 HI6 HRW6 HBL6 HSR6 HWR6 HTR6 HHD HCQ HIN
                        cases hany : nearAny nr left q with
                        | true =>
                          have hsf := HSF2.out
                          rw [if_pos hany] at hsf
                          obtain rfl := Option.some.inj hsf
                          have hl2 := HLN2.out
                          by_cases hwl : ws.length < 17592186044416
                          · have hl3 : leastL k (j : Int) a0_1 a0_2 a0_3 l nr J (wrap64 (left - 1)) (ws ++ [(i : Int)]) t = some wf := by simpa [hwl] using hl2
                            have HL3 := Aside0.mk hl3
                            have HWL := Aside0.mk hwl
                            clear hsf hl2 hl3 hwl hany
                            have HGL7 := Aside0.mk (And.intro (show g < w7.heap.size from blk_lt HRW7.out) (And.intro (show gl < w7.heap.size from blk_lt HBL7.out) (And.intro (show w.heap.size < w7.heap.size from blk_lt HI7.out.b1) (show g + 1 < w7.heap.size from blk_lt HI7.out.b6))))
                            go_wp2_with (at_builtin; refine Kd.R_append (Kd.int .i64) (w0 := w) w.heap.size rfl (.tmp 133) (.tmp 135) 27 3 (.int .i64 0) 8 rfl Try.underlying27 info3 rfl (by decide) (by decide) _ ws (i : Int) [.int .i64 (i : Int)] (fun q => q ≠ g ∧ q ≠ gl ∧ q ≠ w.heap.size ∧ q ≠ g + 1) (fun _ => False) rfl rfl ?aP (fun _ hk => hk.elim) ?aF ?aO ?aB ?aS ?aL ?_; (case aP => exact rfl); (case aF => exact (fun q hq => ⟨by have := HGL7.out.1; omega, by have := HGL7.out.2.1; omega, by have := HGL7.out.2.2.1; omega, by have := HGL7.out.2.2.2; omega⟩)); (case aO => exact Kd.R_mono (Kd.R_types (Kd.R_types HWR7.out HI7.out.b1 (by decide)) HI7.out.b6 (by decide)) (fun q hq => ⟨hq.1.1.1, hq.1.1.2, hq.1.2, hq.2⟩)); (case aB => exact HI7.out.bl); (case aS => exact HI7.out.bl.size); (case aL => have := HWL.out; omega); intro v1 w8 hR8 hb8 hg8 hat8; obtain ⟨Aw, cw, rfl⟩ := Kd.R_slice hR8; rw [List.length_append, List.length_singleton] at hR8; rw [List.length_append, List.length_singleton]; have hrow8 := HWR7.out.1; have HI8 : Aside0 (LInv w w8 g j #[.int .i64 (j : Int), .int .i64 a0_1, .int .i64 a0_2, .int .i64 a0_3, .slice A l.length c]) := ⟨linv_grown HI7.out hg8 (fun q hq => ⟨by rintro rfl; exact Kd.R_ne HWR7.out HI7.out.b1 (by decide) hq.symm, by rintro rfl; exact Kd.R_ne HWR7.out HI7.out.b6 (by decide) hq.symm, by obtain ⟨_, inner, hown, _⟩ := HWR7.out; exact own_base hown q hq⟩)⟩; have HRW8 : Aside0 (RowAt w8 g nr) := ⟨blk_grown HRW7.out hg8 (fun e => (hrow8 g e.symm).1 rfl)⟩; have HBL8 := Aside0.mk (blk_grown HBL7.out hg8 (fun e => (hrow8 gl e.symm).2 rfl)); have HTR8 := Aside0.mk (r115_grown HTR7.out HWR7.out hg8); have HWR8 := Aside0.mk hR8; have hm8 : w8.cell? ⟨gl, 0, none⟩ = some (.int .i64 left) := (blk_cell HBL8.out 0).trans rfl; clear hR8 hb8 hg8 hat8 hrow8)
                            go_roundg J
                            case measure => omega
                            case rel => exact ⟨wrap64 (left - 1), ws ++ [(i : Int)], t, w8.heap.size, rfl, HL3, ⟨linv_alloc HI8.out _⟩, ⟨row_alloc HRW8.out _⟩, ⟨blk_new _ _⟩, ⟨blk_lt HRW8.out, blk_lt HI8.out.b1, by have := blk_lt HI8.out.b6; omega⟩, ⟨Kd.R_alloc HTR8.out _⟩, ⟨Kd.R_alloc (Kd.R_mono (Kd.R_bound HWR8.out) (fun q hq => ⟨hq.1.1, by have := hq.2.2.1; omega⟩)) _⟩⟩
                          · exact absurd hl2 (by simp [hwl])
                        | false =>
                          have hsf := HSF2.out
                          rw [hany, if_neg (by simp)] at hsf
                          have HSF3 : Aside0 (symF k (j : Int) a0_1 a0_2 a0_3 l nr left s_ (a0_1.toNat - (i + 1)) (i + 1) = some o) := ⟨by rw [show a0_1.toNat - (i + 1) = d by have := HD.out; omega]; exact hsf⟩
                          clear hsf hany
                          go_wp2
                          go_roundg (a0_1.toNat - (i + 1))
                          case measure => omega
                          case rel => exact ⟨i + 1, by omega, rfl, by go_num, rfl, rfl, HSF3, HI7, HRW7, HBL7, HSR7, HWR7⟩
                      · rw [if_neg hall] at hsf
                        exact absurd hsf (by simp)
                    · have di : decide ((i : Int) < a0_1) = false := decide_eq_false (by omega)
                      have hsf := HSF.out
                      rw [show a0_1.toNat - i = 0 by omega, symF] at hsf
                      obtain rfl := Option.some.inj hsf
                      have HL3 := Aside0.mk HLN2.out
                      have hm15 : wr.cell? ⟨gl, 0, none⟩ = some (.int .i64 left) := (blk_cell HBL.out 0).trans rfl
                      clear hsf
                      have hgw : g < wr.heap.size := blk_lt HRW.out
                      have hbw : w.heap.size < wr.heap.size := blk_lt HI.out.b1
                      have hg1 : g + 1 < wr.heap.size := blk_lt HI.out.b6
                      have HGW := Aside0.mk (And.intro hgw (And.intro hbw hg1))
                      clear hgw hbw hg1
                      go_wp2
                      go_roundg J
                      case measure => omega
                      case rel => exact ⟨wrap64 (left - 1), ws, s_, wr.heap.size, rfl, HL3, ⟨linv_alloc HI.out _⟩, ⟨row_alloc HRW.out _⟩, ⟨blk_new _ _⟩, ⟨HGW.out.1, HGW.out.2.1, by have := HGW.out.2.2; omega⟩, ⟨Kd.R_alloc HSR.out _⟩, ⟨Kd.R_alloc (Kd.R_mono (Kd.R_bound HWR.out) (fun q hq => ⟨hq.1.1, by have := hq.2.2.1; omega⟩)) _⟩⟩
                · rw [if_neg hleft] at hL
                  have dl : decide (0 ≤ left) = false := decide_eq_false hleft
                  obtain rfl := Option.some.inj hL
                  clear hL hleft
                  go_wp2
                  go_ret3
                  exact ⟨_, rfl, Kd.R_mono HWR.out (fun _ _ => trivial), HI.out.bl⟩
        | true =>
          cases gk with
          | zero => exact absurd HNF.out (by simp [nearF])
          | succ kq =>
            have hb4 : wr.cell? ⟨w.heap.size, 4, none⟩ = some (.slice A l.length c) := (blk_cell HI.out.b1 4).trans rfl
            have HOUT := HNF
            clear HNF
            go_wp2
            go_loopg [8, 43] l.length (fun q v8 i wr => ∃ (i' : Nat) (b2 : Bool) (nr2 : List Int), i' ≤ l.length ∧ q = l.length - i' ∧ i = .int .i64 i' ∧ v8 = .bool b2 ∧ Aside0 (passF a0_1 l (nr, false) = passF a0_1 (l.drop i') (nr2, b2)) ∧ Aside0 (nr2.length = j) ∧ Aside0 (LInv w wr g j #[.int .i64 (j : Int), .int .i64 a0_1, .int .i64 a0_2, .int .i64 a0_3, .slice A l.length c]) ∧ Aside0 (RowAt wr g nr2))
            case atStart => exact ⟨0, false, nr, Nat.zero_le _, by omega, rfl, rfl, ⟨rfl⟩, HLN, HI, HRW⟩
            case round =>
              obtain ⟨i, b2, nr2, hi, rfl, rfl, rfl, HPS, HLN, HI, HRW⟩ := hrel
              clear hb4
              by_cases hlt : i < l.length
              · obtain ⟨ad, rfl, hx0, hx1, hx2⟩ := at_T78 HR.out (i : Int) (by omega) (by omega)
                rw [Int.toNat_natCast] at hx0 hx1 hx2
                have hy0 := pw_cell_below HI.out.bl hx0
                have hy1 := pw_cell_below HI.out.bl hx1
                have hy2 := pw_cell_below HI.out.bl hx2
                obtain ⟨⟨p0, p1⟩, ⟨p2, p3⟩, p4, p5⟩ := of_decide_eq_true (HARC.out i hlt)
                have hw1 : ∀ o : Obj, (wr.alloc o).cell? ⟨w.heap.size, 1, none⟩ = some (.int .i64 a0_1) := fun o => (blk_cell (blk_alloc HI.out.b1 o) 1).trans rfl
                have hw6 : ∀ o : Obj, (wr.alloc o).cell? ⟨g + 1, 0, none⟩ = some (.slice (some ⟨g, 0, none⟩) j j) := fun o => (blk_cell (blk_alloc HI.out.b6 o) 0).trans rfl
                have hr2 : ∀ o : Obj, (wr.alloc o).cell? ⟨g, (rd_T78 l i).f2.toNat, none⟩ = some (.int .i64 (rd nr2 (rd_T78 l i).f2)) := fun o => row_cell (row_alloc HRW.out o) _ p2 (by rw [HLN.out]; exact p3)
                have hr0 : ∀ o : Obj, (wr.alloc o).cell? ⟨g, (rd_T78 l i).f0.toNat, none⟩ = some (.int .i64 (rd nr2 (rd_T78 l i).f0)) := fun o => row_cell (row_alloc HRW.out o) _ p0 (by rw [HLN.out]; exact p1)
                have hz0 : ∀ o : Obj, (wr.alloc o).frozen? ⟨g, (rd_T78 l i).f0.toNat, none⟩ = false := fun o => blk_frozen (row_alloc HRW.out o) _
                clear hx0 hx1 hx2 p4 p5
                by_cases q1 : (rd_T78 l i).f1 = -1
                · have e1 : ((rd_T78 l i).f1 == -1) = true := by simp [q1]
                  have e2 : ((rd_T78 l i).f1 == -2) = false := by simp [q1]
                  by_cases q3 : rd nr2 (rd_T78 l i).f2 < 0
                  · have d1 : decide (rd nr2 (rd_T78 l i).f2 < 0) = true := decide_eq_true q3
                    have HX := Aside0.mk (relax_skip (sy := a0_1) (p := (nr2, b2)) (x := (rd_T78 l i)) (Or.inr q3))
                    have HP2 := Aside0.mk (HPS.out.trans ((passF_step a0_1 l i (nr2, b2) hlt).trans (by rw [HX.out])))
                    clear HX
                    try clear q1
                    try clear q2
                    try clear q3
                    try clear q4
                    try clear q5
                    try clear q6
                    go_wp2
                    go_roundg (l.length - (i + 1))
                    case measure => omega
                    case rel => exact ⟨i + 1, b2, nr2, by omega, rfl, by go_num, rfl, HP2, HLN, ⟨linv_alloc HI.out _⟩, ⟨row_alloc HRW.out _⟩⟩
                  · have d1 : decide (rd nr2 (rd_T78 l i).f2 < 0) = false := decide_eq_false q3
                    have q6 : ¬ ((rd_T78 l i).f1 = -2 ∧ a0_1 = 0 ∨ rd nr2 (rd_T78 l i).f2 < 0) := by omega
                    obtain ⟨n, hn⟩ : ∃ n, wrap64 (rd nr2 (rd_T78 l i).f2) = n := ⟨_, rfl⟩
                    have hnn : wrap64 (rd nr2 (rd_T78 l i).f2 + (if (rd_T78 l i).f1 = -1 then 0 else 1)) = n := by rw [← hn]; simp [q1]
                    by_cases q4 : rd nr2 (rd_T78 l i).f0 < 0
                    · have d2 : decide (rd nr2 (rd_T78 l i).f0 < 0) = true := decide_eq_true q4
                      have HX := Aside0.mk (relax_set (sy := a0_1) (p := (nr2, b2)) (x := (rd_T78 l i)) n (q6) hnn (Or.inl q4))
                      have HP2 := Aside0.mk (HPS.out.trans ((passF_step a0_1 l i (nr2, b2) hlt).trans (by rw [HX.out])))
                      clear hnn HX
                      try clear q1
                      try clear q2
                      try clear q3
                      try clear q4
                      try clear q5
                      try clear q6
                      go_wp2
                      go_roundg (l.length - (i + 1))
                      case measure => omega
                      case rel => exact ⟨i + 1, true, nr2.set (rd_T78 l i).f0.toNat n, by omega, rfl, by go_num, rfl, HP2, ⟨by rw [List.length_set]; exact HLN.out⟩, ⟨linv_set (linv_alloc HI.out _) (by have := HGT.out; show w.heap.size ≤ g; omega) (by have := HGT.out; show w.heap.size ≠ g; omega) (by show g + 1 ≠ g; omega) _⟩, ⟨row_set (row_alloc HRW.out _) _ _⟩⟩
                    · have d2 : decide (rd nr2 (rd_T78 l i).f0 < 0) = false := decide_eq_false q4
                      by_cases q5 : n < rd nr2 (rd_T78 l i).f0
                      · have d3 : decide (n < rd nr2 (rd_T78 l i).f0) = true := decide_eq_true q5
                        have HX := Aside0.mk (relax_set (sy := a0_1) (p := (nr2, b2)) (x := (rd_T78 l i)) n (q6) hnn (Or.inr q5))
                        have HP2 := Aside0.mk (HPS.out.trans ((passF_step a0_1 l i (nr2, b2) hlt).trans (by rw [HX.out])))
                        clear hnn HX
                        try clear q1
                        try clear q2
                        try clear q3
                        try clear q4
                        try clear q5
                        try clear q6
                        go_wp2
                        go_roundg (l.length - (i + 1))
                        case measure => omega
                        case rel => exact ⟨i + 1, true, nr2.set (rd_T78 l i).f0.toNat n, by omega, rfl, by go_num, rfl, HP2, ⟨by rw [List.length_set]; exact HLN.out⟩, ⟨linv_set (linv_alloc HI.out _) (by have := HGT.out; show w.heap.size ≤ g; omega) (by have := HGT.out; show w.heap.size ≠ g; omega) (by show g + 1 ≠ g; omega) _⟩, ⟨row_set (row_alloc HRW.out _) _ _⟩⟩
                      · have d3 : decide (n < rd nr2 (rd_T78 l i).f0) = false := decide_eq_false q5
                        have HX := Aside0.mk (relax_keep (sy := a0_1) (p := (nr2, b2)) (x := (rd_T78 l i)) n (q6) hnn (fun q => q.elim q4 q5))
                        have HP2 := Aside0.mk (HPS.out.trans ((passF_step a0_1 l i (nr2, b2) hlt).trans (by rw [HX.out])))
                        clear hnn HX
                        try clear q1
                        try clear q2
                        try clear q3
                        try clear q4
                        try clear q5
                        try clear q6
                        go_wp2
                        go_roundg (l.length - (i + 1))
                        case measure => omega
                        case rel => exact ⟨i + 1, b2, nr2, by omega, rfl, by go_num, rfl, HP2, HLN, ⟨linv_alloc HI.out _⟩, ⟨row_alloc HRW.out _⟩⟩
                · have e1 : ((rd_T78 l i).f1 == -1) = false := by simp [q1]
                  by_cases q2 : (rd_T78 l i).f1 = -2
                  · have e2 : ((rd_T78 l i).f1 == -2) = true := by simp [q2]
                    by_cases q7 : a0_1 = 0
                    · have e3 : (a0_1 == 0) = true := by simp [q7]
                      have HX := Aside0.mk (relax_skip (sy := a0_1) (p := (nr2, b2)) (x := (rd_T78 l i)) (Or.inl ⟨q2, q7⟩))
                      have HP2 := Aside0.mk (HPS.out.trans ((passF_step a0_1 l i (nr2, b2) hlt).trans (by rw [HX.out])))
                      clear HX
                      try clear q1
                      try clear q2
                      try clear q3
                      try clear q4
                      try clear q5
                      try clear q6
                      go_wp2
                      go_roundg (l.length - (i + 1))
                      case measure => omega
                      case rel => exact ⟨i + 1, b2, nr2, by omega, rfl, by go_num, rfl, HP2, HLN, ⟨linv_alloc HI.out _⟩, ⟨row_alloc HRW.out _⟩⟩
                    · have e3 : (a0_1 == 0) = false := by simp [q7]
                      by_cases q3 : rd nr2 (rd_T78 l i).f2 < 0
                      · have d1 : decide (rd nr2 (rd_T78 l i).f2 < 0) = true := decide_eq_true q3
                        have HX := Aside0.mk (relax_skip (sy := a0_1) (p := (nr2, b2)) (x := (rd_T78 l i)) (Or.inr q3))
                        have HP2 := Aside0.mk (HPS.out.trans ((passF_step a0_1 l i (nr2, b2) hlt).trans (by rw [HX.out])))
                        clear HX
                        try clear q1
                        try clear q2
                        try clear q3
                        try clear q4
                        try clear q5
                        try clear q6
                        go_wp2
                        go_roundg (l.length - (i + 1))
                        case measure => omega
                        case rel => exact ⟨i + 1, b2, nr2, by omega, rfl, by go_num, rfl, HP2, HLN, ⟨linv_alloc HI.out _⟩, ⟨row_alloc HRW.out _⟩⟩
                      · have d1 : decide (rd nr2 (rd_T78 l i).f2 < 0) = false := decide_eq_false q3
                        have q6 : ¬ ((rd_T78 l i).f1 = -2 ∧ a0_1 = 0 ∨ rd nr2 (rd_T78 l i).f2 < 0) := by omega
                        obtain ⟨n, hn⟩ : ∃ n, wrap64 (rd nr2 (rd_T78 l i).f2 + 1) = n := ⟨_, rfl⟩
                        have hnn : wrap64 (rd nr2 (rd_T78 l i).f2 + (if (rd_T78 l i).f1 = -1 then 0 else 1)) = n := by rw [← hn]; simp [q1]
                        by_cases q4 : rd nr2 (rd_T78 l i).f0 < 0
                        · have d2 : decide (rd nr2 (rd_T78 l i).f0 < 0) = true := decide_eq_true q4
                          have HX := Aside0.mk (relax_set (sy := a0_1) (p := (nr2, b2)) (x := (rd_T78 l i)) n (q6) hnn (Or.inl q4))
                          have HP2 := Aside0.mk (HPS.out.trans ((passF_step a0_1 l i (nr2, b2) hlt).trans (by rw [HX.out])))
                          clear hnn HX
                          try clear q1
                          try clear q2
                          try clear q3
                          try clear q4
                          try clear q5
                          try clear q6
                          go_wp2
                          go_roundg (l.length - (i + 1))
                          case measure => omega
                          case rel => exact ⟨i + 1, true, nr2.set (rd_T78 l i).f0.toNat n, by omega, rfl, by go_num, rfl, HP2, ⟨by rw [List.length_set]; exact HLN.out⟩, ⟨linv_set (linv_alloc HI.out _) (by have := HGT.out; show w.heap.size ≤ g; omega) (by have := HGT.out; show w.heap.size ≠ g; omega) (by show g + 1 ≠ g; omega) _⟩, ⟨row_set (row_alloc HRW.out _) _ _⟩⟩
                        · have d2 : decide (rd nr2 (rd_T78 l i).f0 < 0) = false := decide_eq_false q4
                          by_cases q5 : n < rd nr2 (rd_T78 l i).f0
                          · have d3 : decide (n < rd nr2 (rd_T78 l i).f0) = true := decide_eq_true q5
                            have HX := Aside0.mk (relax_set (sy := a0_1) (p := (nr2, b2)) (x := (rd_T78 l i)) n (q6) hnn (Or.inr q5))
                            have HP2 := Aside0.mk (HPS.out.trans ((passF_step a0_1 l i (nr2, b2) hlt).trans (by rw [HX.out])))
                            clear hnn HX
                            try clear q1
                            try clear q2
                            try clear q3
                            try clear q4
                            try clear q5
                            try clear q6
                            go_wp2
                            go_roundg (l.length - (i + 1))
                            case measure => omega
                            case rel => exact ⟨i + 1, true, nr2.set (rd_T78 l i).f0.toNat n, by omega, rfl, by go_num, rfl, HP2, ⟨by rw [List.length_set]; exact HLN.out⟩, ⟨linv_set (linv_alloc HI.out _) (by have := HGT.out; show w.heap.size ≤ g; omega) (by have := HGT.out; show w.heap.size ≠ g; omega) (by show g + 1 ≠ g; omega) _⟩, ⟨row_set (row_alloc HRW.out _) _ _⟩⟩
                          · have d3 : decide (n < rd nr2 (rd_T78 l i).f0) = false := decide_eq_false q5
                            have HX := Aside0.mk (relax_keep (sy := a0_1) (p := (nr2, b2)) (x := (rd_T78 l i)) n (q6) hnn (fun q => q.elim q4 q5))
                            have HP2 := Aside0.mk (HPS.out.trans ((passF_step a0_1 l i (nr2, b2) hlt).trans (by rw [HX.out])))
                            clear hnn HX
                            try clear q1
                            try clear q2
                            try clear q3
                            try clear q4
                            try clear q5
                            try clear q6
                            go_wp2
                            go_roundg (l.length - (i + 1))
                            case measure => omega
                            case rel => exact ⟨i + 1, b2, nr2, by omega, rfl, by go_num, rfl, HP2, HLN, ⟨linv_alloc HI.out _⟩, ⟨row_alloc HRW.out _⟩⟩
                  · have e2 : ((rd_T78 l i).f1 == -2) = false := by simp [q2]
                    by_cases q3 : rd nr2 (rd_T78 l i).f2 < 0
                    · have d1 : decide (rd nr2 (rd_T78 l i).f2 < 0) = true := decide_eq_true q3
                      have HX := Aside0.mk (relax_skip (sy := a0_1) (p := (nr2, b2)) (x := (rd_T78 l i)) (Or.inr q3))
                      have HP2 := Aside0.mk (HPS.out.trans ((passF_step a0_1 l i (nr2, b2) hlt).trans (by rw [HX.out])))
                      clear HX
                      try clear q1
                      try clear q2
                      try clear q3
                      try clear q4
                      try clear q5
                      try clear q6
                      go_wp2
                      go_roundg (l.length - (i + 1))
                      case measure => omega
                      case rel => exact ⟨i + 1, b2, nr2, by omega, rfl, by go_num, rfl, HP2, HLN, ⟨linv_alloc HI.out _⟩, ⟨row_alloc HRW.out _⟩⟩
                    · have d1 : decide (rd nr2 (rd_T78 l i).f2 < 0) = false := decide_eq_false q3
                      have q6 : ¬ ((rd_T78 l i).f1 = -2 ∧ a0_1 = 0 ∨ rd nr2 (rd_T78 l i).f2 < 0) := by omega
                      obtain ⟨n, hn⟩ : ∃ n, wrap64 (rd nr2 (rd_T78 l i).f2 + 1) = n := ⟨_, rfl⟩
                      have hnn : wrap64 (rd nr2 (rd_T78 l i).f2 + (if (rd_T78 l i).f1 = -1 then 0 else 1)) = n := by rw [← hn]; simp [q1]
                      by_cases q4 : rd nr2 (rd_T78 l i).f0 < 0
                      · have d2 : decide (rd nr2 (rd_T78 l i).f0 < 0) = true := decide_eq_true q4
                        have HX := Aside0.mk (relax_set (sy := a0_1) (p := (nr2, b2)) (x := (rd_T78 l i)) n (q6) hnn (Or.inl q4))
                        have HP2 := Aside0.mk (HPS.out.trans ((passF_step a0_1 l i (nr2, b2) hlt).trans (by rw [HX.out])))
                        clear hnn HX
                        try clear q1
                        try clear q2
                        try clear q3
                        try clear q4
                        try clear q5
                        try clear q6
                        go_wp2
                        go_roundg (l.length - (i + 1))
                        case measure => omega
                        case rel => exact ⟨i + 1, true, nr2.set (rd_T78 l i).f0.toNat n, by omega, rfl, by go_num, rfl, HP2, ⟨by rw [List.length_set]; exact HLN.out⟩, ⟨linv_set (linv_alloc HI.out _) (by have := HGT.out; show w.heap.size ≤ g; omega) (by have := HGT.out; show w.heap.size ≠ g; omega) (by show g + 1 ≠ g; omega) _⟩, ⟨row_set (row_alloc HRW.out _) _ _⟩⟩
                      · have d2 : decide (rd nr2 (rd_T78 l i).f0 < 0) = false := decide_eq_false q4
                        by_cases q5 : n < rd nr2 (rd_T78 l i).f0
                        · have d3 : decide (n < rd nr2 (rd_T78 l i).f0) = true := decide_eq_true q5
                          have HX := Aside0.mk (relax_set (sy := a0_1) (p := (nr2, b2)) (x := (rd_T78 l i)) n (q6) hnn (Or.inr q5))
                          have HP2 := Aside0.mk (HPS.out.trans ((passF_step a0_1 l i (nr2, b2) hlt).trans (by rw [HX.out])))
                          clear hnn HX
                          try clear q1
                          try clear q2
                          try clear q3
                          try clear q4
                          try clear q5
                          try clear q6
                          go_wp2
                          go_roundg (l.length - (i + 1))
                          case measure => omega
                          case rel => exact ⟨i + 1, true, nr2.set (rd_T78 l i).f0.toNat n, by omega, rfl, by go_num, rfl, HP2, ⟨by rw [List.length_set]; exact HLN.out⟩, ⟨linv_set (linv_alloc HI.out _) (by have := HGT.out; show w.heap.size ≤ g; omega) (by have := HGT.out; show w.heap.size ≠ g; omega) (by show g + 1 ≠ g; omega) _⟩, ⟨row_set (row_alloc HRW.out _) _ _⟩⟩
                        · have d3 : decide (n < rd nr2 (rd_T78 l i).f0) = false := decide_eq_false q5
                          have HX := Aside0.mk (relax_keep (sy := a0_1) (p := (nr2, b2)) (x := (rd_T78 l i)) n (q6) hnn (fun q => q.elim q4 q5))
                          have HP2 := Aside0.mk (HPS.out.trans ((passF_step a0_1 l i (nr2, b2) hlt).trans (by rw [HX.out])))
                          clear hnn HX
                          try clear q1
                          try clear q2
                          try clear q3
                          try clear q4
                          try clear q5
                          try clear q6
                          go_wp2
                          go_roundg (l.length - (i + 1))
                          case measure => omega
                          case rel => exact ⟨i + 1, b2, nr2, by omega, rfl, by go_num, rfl, HP2, HLN, ⟨linv_alloc HI.out _⟩, ⟨row_alloc HRW.out _⟩⟩
              · obtain rfl : i = l.length := by omega
                have HEND := Aside0.mk (HPS.out.trans (passF_end a0_1 l l.length (nr2, b2) (Nat.le_refl _)))
                have HNX : Aside0 (if b2 = true then nearF a0_1 l kq nr2 = some near else nr2 = near) := ⟨by
                  have h : nearF a0_1 l (kq + 1) nr = some near := by simpa using HOUT.out
                  rw [nearF, HEND.out] at h
                  cases b2 with
                  | true => rw [if_pos rfl]; rw [if_pos rfl] at h; exact h
                  | false => rw [if_neg (by simp)]; rw [if_neg (by simp)] at h; exact Option.some.inj h⟩
                go_wp2
                go_roundg kq
                case measure => omega
                case rel => exact ⟨b2, nr2, rfl, HNX, HLN, HI, HRW⟩
set_option maxRecDepth 100000 in
set_option maxHeartbeats 1600000 in
theorem nfa_Least.calls (k : Nat) (a0_0 : Int) (a0_1 : Int) (a0_2 : Int) (a0_3 : Int) (A0_4 : Option Addr) (c0_4 : Nat) (l0_4 : List (S78)) (r1 : List Int) (r2 : Bool) (r3 : Int) (w : World) (hr0_4 : Kd.C k78 w A0_4 l0_4.length l0_4) (hc0_4 : l0_4.length ≤ c0_4) (h : nfa_Least.f k a0_0 a0_1 a0_2 a0_3 l0_4 = some (r1, r2, r3)) :
    Calls Try.prog 22 #[.agg #[.int .i64 a0_0, .int .i64 a0_1, .int .i64 a0_2, .int .i64 a0_3, .slice A0_4 l0_4.length c0_4]] w fun e w' => ∃ v0_ : Value, e = .returned (.tuple #[v0_, .bool r2, .int .i64 r3]) ∧ Kd.R (Kd.int .i64) 3 w' w.heap.size (fun _ => True) v0_ r1 ∧ Below w.heap.size w w' := by
  have h0 := h
  unfold nfa_Least.f at h0
  obtain ⟨cc, hcc, h0⟩ := Option.bind_eq_some_iff.mp h0
  by_cases hc : cc = 0
  · subst hc
    rw [if_pos rfl] at h0
    obtain ⟨near, hnear, _⟩ := Option.bind_eq_some_iff.mp h0
    have hck := hcc
    unfold nfa_Check.f at hck
    have hck := Option.some.inj hck
    by_cases b1 : 65536 < l0_4.length
    · rw [if_pos b1] at hck; exact absurd hck (by decide)
    · rw [if_neg b1] at hck
      by_cases b2 : nfa_headOk a0_0 a0_1 a0_2 a0_3 = true
      · rw [if_pos b2] at hck
        by_cases b3 : l0_4.all (nfa_arcOk a0_0 a0_1) = true
        · obtain ⟨m, rfl⟩ := Int.eq_ofNat_of_zero_le (show 0 ≤ a0_0 by have := (of_decide_eq_true b2).1; omega)
          refine (least_walk k m a0_1 a0_2 a0_3 A0_4 c0_4 l0_4 w hr0_4 hc0_4 b2 (fun j hj => ?_) hcc near (by rw [show m = ((m : Nat) : Int).toNat by simp]; exact hnear) (r1, r2, r3) h).mono fun _ _ q => q
          exact (List.all_eq_true.mp b3) (rd_T78 l0_4 j) (by unfold rd_T78; simp [List.getElem?_eq_getElem hj])
        · rw [if_neg b3] at hck; exact absurd hck (by decide)
      · rw [if_neg b2] at hck; exact absurd hck (by decide)
  · rw [if_neg hc] at h0
    have e := Option.some.inj h0
    injection e with e1 e2
    injection e2 with e2 e3
    subst e1; subst e2; subst e3
    have HCC := Aside0.mk hcc
    have HR := Aside0.mk hr0_4
    have HL := Aside0.mk hc0_4
    have hne : (cc != 0) = true := by simp [hc]
    clear h h0 hcc hr0_4 hc0_4 hc
    go_enter Try.func22, Try.ntmps22
    go_wp2_with (go_at_call 31; refine (nfa_Check.calls a0_0 a0_1 a0_2 a0_3 A0_4 c0_4 l0_4 cc _ (Kd.C_below HR.out (below_alloc (Below.refl _ _) _)) HL.out HCC.out).mono ?_; rintro e w1 ⟨rfl, hb1⟩; have HB1 := Aside0.mk (below_then (below_alloc (Below.refl _ _) _) (by simp) hb1); clear hb1)
    go_ret3
    exact ⟨.slice none 0 0, rfl, Kd.R_nil _ _ _ _ _, HB1.out⟩
theorem nearF_mono (sy : Int) (xs : List S78) : ∀ (j : Nat) (near : List Int), LeO (nearF sy xs j near) (nearF sy xs (j + 1) near)
  | 0, _ => LeO.none _
  | j + 1, near => by
    rw [nearF, nearF]
    exact LeO.ite (nearF_mono sy xs j _) (LeO.refl _)
theorem symF_mono (k : Nat) (a0_0 a0_1 a0_2 a0_3 : Int) (l : List S78) (near : List Int) (left : Int) (s : List Int) : ∀ (d j : Nat), LeO (symF k a0_0 a0_1 a0_2 a0_3 l near left s d j) (symF (k + 1) a0_0 a0_1 a0_2 a0_3 l near left s d j)
  | 0, _ => LeO.refl _
  | d + 1, j => by
    rw [symF, symF]
    refine LeO.bind (nfa_step.mono _ _ _ _ _ _ _ k) fun t => LeO.bind (nfa_some_list.mono _ k) fun q => LeO.ite (LeO.ite (LeO.refl _) (symF_mono k a0_0 a0_1 a0_2 a0_3 l near left s d (j + 1))) (LeO.refl _)
theorem leastL_mono (k : Nat) (a0_0 a0_1 a0_2 a0_3 : Int) (l : List S78) (near : List Int) : ∀ (J : Nat) (left : Int) (w s : List Int), LeO (leastL k a0_0 a0_1 a0_2 a0_3 l near J left w s) (leastL (k + 1) a0_0 a0_1 a0_2 a0_3 l near (J + 1) left w s)
  | 0, _, _, _ => LeO.none _
  | J + 1, left, w, s => by
    rw [leastL, leastL]
    refine LeO.ite (LeO.bind (symF_mono k a0_0 a0_1 a0_2 a0_3 l near left s _ _) fun o => ?_) (LeO.refl _)
    cases o with
    | none => exact leastL_mono k a0_0 a0_1 a0_2 a0_3 l near J _ _ _
    | some p => exact LeO.ite (leastL_mono k a0_0 a0_1 a0_2 a0_3 l near J _ _ _) (LeO.refl _)
theorem nfa_Least.mono : ∀ a0 a1 a2 a3 a4 k, LeO (nfa_Least.f k a0 a1 a2 a3 a4) (nfa_Least.f (k + 1) a0 a1 a2 a3 a4) := by
  intro a0 a1 a2 a3 a4 k
  unfold nfa_Least.f
  refine LeO.bind (LeO.refl _) fun c => LeO.ite (LeO.bind (nearF_mono _ _ k _) fun near => LeO.ite (LeO.refl _) (LeO.bind (LeO.refl _) fun b => LeO.bind (LeO.refl _) fun b => LeO.bind (nfa_closed.mono _ _ _ _ _ _ k) fun s => LeO.map _ (leastL_mono k _ _ _ _ _ _ k _ _ _))) (LeO.refl _)
end Go.Proofs.Ytapinbmkjkbkkaa.Ls
