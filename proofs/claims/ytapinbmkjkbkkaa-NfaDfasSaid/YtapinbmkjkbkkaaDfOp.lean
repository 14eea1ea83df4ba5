import Derived.Test.YtapinbmkjkbkkaaRows
import Derived.WalkKit
import Derived.ProofKit
import Derived.OpenShut
import Derived.Lib.SmallJoins
import Derived.Deep.DeepHandedRow
import Derived.Deep.Slices
import Derived.SizedLaws
import Derived.Below
import Derived.ChangeOld
import Derived.Test.YtapinbmkjkbkkaaDfLbx2
namespace Go.Proofs.Ytapinbmkjkbkkaa
open Go.ChangeShapes Go.WideShapes Go.ChangeAt Go.RowKit Go.Joins Go.Proofs.YtapinbmkjkbkkaaW.PrintWords Go.Proofs.YtapinbmkjkbkkaaW.PrintLast Go.Proofs.YtapinbmkjkbkkaaW.PrintMore Lb
theorem own : ownKnob Try.prog.godebug = none := by kernel_rfl
theorem laidOut : laidOutB Try.prog = true := by kernel_rfl
theorem cells31 : Try.prog.cellsOf 31 = 5 := by kernel_rfl
theorem cells78 : Try.prog.cellsOf 78 = 3 := by kernel_rfl
theorem cells29 : Try.prog.cellsOf 29 = 1 := by kernel_rfl
theorem cells3 : Try.prog.cellsOf 3 = 1 := by kernel_rfl
theorem bytes3 : Try.prog.bytesOf 3 = 8 := by kernel_rfl
theorem array5 {α : Type} {cs : Array α} (h : cs.size = 5) : ∃ c0 c1 c2 c3 c4, cs = #[c0, c1, c2, c3, c4] := by
  obtain ⟨l⟩ := cs
  match l, h with
  | [c0, c1, c2, c3, c4], _ => exact ⟨c0, c1, c2, c3, c4, rfl⟩
theorem list3 {α : Type} {l : List α} (h : l.length = 3) : ∃ c0 c1 c2, l = [c0, c1, c2] := by
  match l, h with
  | [c0, c1, c2], _ => exact ⟨c0, c1, c2, rfl⟩
theorem list5 {α : Type} {l : List α} (h : l.length = 5) : ∃ c0 c1 c2 c3 c4, l = [c0, c1, c2, c3, c4] := by
  match l, h with
  | [c0, c1, c2, c3, c4], _ => exact ⟨c0, c1, c2, c3, c4, rfl⟩
section
variable {H : Type} {enc : TypeId × Value → H} {W : World} {base : Nat} {held : Bool} {r : Reach} {b0 : Nat}
theorem open_nums {fuel : Nat} {v : Value} {x : DataW H × List MemPlace} (h : DataW.trod enc Try.prog W base (fun _ => true) held fuel 27 [v] = some x) :
    ∃ (A : Option Addr) (c : Nat) (l : List Int), v = .slice A l.length c ∧ l.length ≤ c ∧ Kd.C (Kd.int .i64) W A l.length l ∧ (l = [] ∨ ∃ es sp, x.1 = .slice es sp ∧ es.length = l.length) := by
  rcases open_ints Try.underlying27 Try.underlying3 cells3 h with ⟨e1, e2⟩ | ⟨a, len, cap, zs, e1, _, hl, hm, hz, e2, hcell, hwf⟩
  · obtain rfl : v = .slice none 0 0 := by simpa using e1
    exact ⟨none, 0, [], rfl, Nat.le_refl _, Kd.C_nil _ _, .inl rfl⟩
  · obtain rfl : v = .slice (some a) len cap := by simpa using e1
    have hz' : zs.length = cap := by simpa using hz
    have hm' : cap ≤ 9223372036854775807 := by simpa [maxLen] using hm
    have hlen : (zs.take len).length = len := by rw [List.length_take]; omega
    refine ⟨some a, cap, zs.take len, by rw [hlen], by omega, ?_, .inr ⟨_, _, by rw [e2], by simp [lits]⟩⟩
    refine ⟨rfl, by omega, fun hn => ⟨a, rfl, fun j x hj => ⟨[.int .i64 x], rfl, rfl, fun i u hi => ?_⟩⟩⟩
    have hjl : j < len := by
      have := (List.getElem?_eq_some_iff.1 hj).1
      omega
    have hx : zs.getD j 0 = x := by
      rw [List.getElem?_take_of_lt hjl] at hj
      simp [List.getD_eq_getElem?_getD, hj]
    have := hcell j (by omega)
    rw [hx] at this
    match i, hi with
    | 0, hi =>
      obtain rfl : Value.int .i64 x = u := by simpa using hi
      simpa [Kd.int, Kd.scalar] using this
theorem open_arc {fuel : Nat} {cs : List Value} {x : DataW H × List MemPlace} (h : DataW.trod enc Try.prog W base (fun _ => true) held fuel 78 cs = some x) :
    ∃ y : S78, cs = [.int .i64 y.f0, .int .i64 y.f1, .int .i64 y.f2] := by
  obtain ⟨xs, n, _, _, hl, hlen, hf⟩ := DataW.trod_struct Try.underlying78 h
  rw [cells78] at hl
  obtain ⟨c0, c1, c2, rfl⟩ := list3 hl
  obtain ⟨y0, y1, y2, rfl⟩ := list3 (show xs.length = 3 from hlen)
  have f0 : DataW.trod enc Try.prog W base (fun _ => true) held n 3 (([c0, c1, c2].drop 0).take (Try.prog.cellsOf 3)) = some y0 := hf 0 _ rfl
  have f1 : DataW.trod enc Try.prog W base (fun _ => true) held n 3 (([c0, c1, c2].drop 1).take (Try.prog.cellsOf 3)) = some y1 := hf 1 _ rfl
  have f2 : DataW.trod enc Try.prog W base (fun _ => true) held n 3 (([c0, c1, c2].drop 2).take (Try.prog.cellsOf 3)) = some y2 := hf 2 _ rfl
  rw [cells3] at f0 f1 f2
  obtain ⟨z0, e0, _, _⟩ := DataW.trod_int Try.underlying3 f0
  obtain ⟨z1, e1, _, _⟩ := DataW.trod_int Try.underlying3 f1
  obtain ⟨z2, e2, _, _⟩ := DataW.trod_int Try.underlying3 f2
  obtain rfl : c0 = .int .i64 z0 := by simpa using e0
  obtain rfl : c1 = .int .i64 z1 := by simpa using e1
  obtain rfl : c2 = .int .i64 z2 := by simpa using e2
  exact ⟨⟨z0, z1, z2⟩, rfl⟩
theorem open_arcs {fuel : Nat} {v : Value} {x : DataW H × List MemPlace} (h : DataW.trod enc Try.prog W base (fun _ => true) held fuel 29 [v] = some x) :
    ∃ (A : Option Addr) (c : Nat) (l : List S78), v = .slice A l.length c ∧ l.length ≤ c ∧ Kd.C k78 W A l.length l := by
  rcases Go.Deep.open_slice Try.underlying29 h with ⟨e1, e2⟩ | ⟨a, len, cap, m, n, D, Pl, e1, hb, hl, hm, hmm, _, hx⟩
  · obtain rfl : v = .slice none 0 0 := by simpa using e1
    exact ⟨none, 0, [], rfl, Nat.le_refl _, Kd.C_nil _ _⟩
  · obtain rfl : v = .slice (some a) len cap := by simpa using e1
    have hm' : cap ≤ 9223372036854775807 := by simpa [maxLen] using hm
    have hmc : m = cap := by simpa using hmm
    obtain ⟨V, hV⟩ := @Go.Deep.choose_lt S78 ⟨z78⟩ len (fun i y => W.cells? base (a.add (i * 3)) 3 = some [.int .i64 y.f0, .int .i64 y.f1, .int .i64 y.f2]) (fun i hi => by
      obtain ⟨cs', h1, h2⟩ := hx i (by omega)
      obtain ⟨y, rfl⟩ := open_arc h2
      exact ⟨y, by rw [cells78] at h1; exact h1⟩)
    refine ⟨some a, cap, (List.range len).map V, by simp, by simpa using hl, ?_⟩
    refine ⟨by simp, by simp; omega, fun _ => ⟨a, rfl, fun j y hj => ?_⟩⟩
    have hjl : j < len := by simpa using (List.getElem?_eq_some_iff.1 hj).1
    obtain rfl : V j = y := by simpa [hjl] using hj
    refine ⟨_, rfl, k78_mk W (V j), fun i u hi => ?_⟩
    obtain ⟨_, _, hc⟩ := World.cells?_some (hV j hjl)
    have hi3 : i < 3 := by simpa using (List.getElem?_eq_some_iff.1 hi).1
    have := hc i hi3
    rw [hi, add_add] at this
    exact this
set_option maxRecDepth 20000 in
theorem open_nfa {v : Value} {d : DataW H} {p : List MemPlace} (hv : Value.okWide Try.prog W r b0 31 v) (h : DataW.Trod enc Try.prog W base (fun _ => true) held 31 v d p) :
    ∃ (n0 n1 n2 n3 : Int) (A : Option Addr) (c : Nat) (l : List S78), v = .agg #[.int .i64 n0, .int .i64 n1, .int .i64 n2, .int .i64 n3, .slice A l.length c] ∧ l.length ≤ c ∧ Kd.C k78 W A l.length l := by
  obtain ⟨cs, rfl, hsz⟩ := okWide_struct Try.underlying31 hv
  obtain ⟨c0, c1, c2, c3, c4, rfl⟩ := array5 (hsz.trans cells31)
  obtain ⟨fuel, hf⟩ := h
  obtain ⟨xs, n, _, _, hl, hlen, hf⟩ := DataW.trod_struct Try.underlying31 hf
  obtain ⟨y0, y1, y2, y3, y4, rfl⟩ := list5 (show xs.length = 5 from hlen)
  have f0 : DataW.trod enc Try.prog W base (fun _ => true) held n 3 (((Value.agg #[c0, c1, c2, c3, c4]).cells.toList.drop 0).take (Try.prog.cellsOf 3)) = some y0 := hf 0 _ rfl
  have f1 : DataW.trod enc Try.prog W base (fun _ => true) held n 3 (((Value.agg #[c0, c1, c2, c3, c4]).cells.toList.drop 1).take (Try.prog.cellsOf 3)) = some y1 := hf 1 _ rfl
  have f2 : DataW.trod enc Try.prog W base (fun _ => true) held n 3 (((Value.agg #[c0, c1, c2, c3, c4]).cells.toList.drop 2).take (Try.prog.cellsOf 3)) = some y2 := hf 2 _ rfl
  have f3 : DataW.trod enc Try.prog W base (fun _ => true) held n 3 (((Value.agg #[c0, c1, c2, c3, c4]).cells.toList.drop 3).take (Try.prog.cellsOf 3)) = some y3 := hf 3 _ rfl
  have f4 : DataW.trod enc Try.prog W base (fun _ => true) held n 29 (((Value.agg #[c0, c1, c2, c3, c4]).cells.toList.drop 4).take (Try.prog.cellsOf 29)) = some y4 := hf 4 _ rfl
  rw [cells3] at f0 f1 f2 f3
  rw [cells29] at f4
  obtain ⟨z0, e0, _, _⟩ := DataW.trod_int Try.underlying3 f0
  obtain ⟨z1, e1, _, _⟩ := DataW.trod_int Try.underlying3 f1
  obtain ⟨z2, e2, _, _⟩ := DataW.trod_int Try.underlying3 f2
  obtain ⟨z3, e3, _, _⟩ := DataW.trod_int Try.underlying3 f3
  obtain ⟨A, c, l, e4, hc, hC⟩ := open_arcs (v := c4) (by simpa [Value.cells] using f4)
  obtain rfl : c0 = .int .i64 z0 := by simpa [Value.cells] using e0
  obtain rfl : c1 = .int .i64 z1 := by simpa [Value.cells] using e1
  obtain rfl : c2 = .int .i64 z2 := by simpa [Value.cells] using e2
  obtain rfl : c3 = .int .i64 z3 := by simpa [Value.cells] using e3
  subst e4
  exact ⟨z0, z1, z2, z3, A, c, l, rfl, hc, hC⟩
set_option maxRecDepth 20000 in
theorem open_list {v : Value} {d : DataW H} {p : List MemPlace} (hv : Value.okWide Try.prog W r b0 27 v) (h : DataW.Trod enc Try.prog W base (fun _ => true) held 27 v d p) :
    ∃ (A : Option Addr) (c : Nat) (l : List Int), v = .slice A l.length c ∧ l.length ≤ c ∧ Kd.C (Kd.int .i64) W A l.length l ∧ (l = [] ∨ ∃ es sp, d = .slice es sp ∧ es.length = l.length) := by
  obtain ⟨a, len, cap, rfl⟩ := okWide_slice Try.underlying27 hv
  obtain ⟨fuel, hf⟩ := h
  exact open_nums hf
end
theorem short {H : Type} {ts : List TypeId} {ds : List (DataW H)} (h : (DataW.weightsEach Try.prog ts ds).all (· ≤ reachBytes) = true) {j : Nat} {d : DataW H} {l : List Int} (ht : ts[j]? = some 27) (hd : ds[j]? = some d)
    (hl : l = [] ∨ ∃ es sp, d = .slice es sp ∧ es.length = l.length) : l.length < 17592186044416 := by
  rcases hl with rfl | ⟨es, sp, rfl, he⟩
  · simp
  · have := sized_slice h ht hd Try.underlying27
    have hr := reachBytes_lt
    rw [bytes3] at this
    omega
end Go.Proofs.Ytapinbmkjkbkkaa
