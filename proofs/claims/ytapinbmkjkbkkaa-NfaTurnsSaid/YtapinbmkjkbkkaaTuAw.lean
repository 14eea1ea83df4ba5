import Derived.Test.YtapinbmkjkbkkaaTuMe
import Derived.Test.YtapinbmkjkbkkaaTuLq
import Derived.Test.YtapinbmkjkbkkaaTuLbx4
namespace Go.Proofs.Ytapinbmkjkbkkaa.Mk
open Go.RowKit Go.Proofs.YtapinbmkjkbkkaaW.PrintWords Go.Proofs.YtapinbmkjkbkkaaW.PrintLast Go.Proofs.YtapinbmkjkbkkaaW.PrintMore Lb Ls
def exB : ByteArray := ⟨#[98]⟩
def exA : ByteArray := ⟨#[97]⟩
def ex0 : ByteArray := ⟨#[]⟩
def exK1 : List S25 := [⟨1, exB, []⟩, ⟨3, ex0, []⟩]
def exK3 : List S25 := [⟨1, exA, []⟩, ⟨6, ex0, exK1⟩]
def exR : S25 := ⟨5, ex0, exK3⟩
def exArcs : List S78 := [⟨0, 0, 2⟩, ⟨2, -1, 3⟩, ⟨3, 1, 4⟩, ⟨4, -1, 1⟩, ⟨2, -1, 5⟩, ⟨5, -1, 6⟩, ⟨6, -1, 1⟩]
def noNot : St → Int → Int → St → Option St := fun _ _ _ s => some s
theorem ex_alone : aloneF ([exA, exB].map nk) noNot exR = some (7, exArcs) := by kernel_rfl
theorem ex_check : checkF 10 exR.f0 exR.f1 exR.f2 = some 0 := by kernel_rfl
theorem ex_names : namesOkF [] [exA, exB] = true := by kernel_rfl
theorem ex_run1 : nfa_Run.f 30 7 2 0 1 exArcs [0, 1] = some (true, 0) := by kernel_rfl
theorem ex_run2 : nfa_Run.f 30 7 2 0 1 exArcs [1] = some (false, 0) := by kernel_rfl
theorem ex_least : nfa_Least.f 80 7 2 0 1 exArcs = some ([0], true, 0) := by kernel_rfl
def exV (B3 : Nat) : Value := .agg #[.int .i64 5, .string ⟨#[]⟩, .slice (some ⟨B3, 0, none⟩) 2 2]
def exC3 (B1 : Nat) : Array Value := #[.int .i64 1, .string ⟨#[97]⟩, .slice none 0 0, .int .i64 6, .string ⟨#[]⟩, .slice (some ⟨B1, 0, none⟩) 2 2]
def exC1 : Array Value := #[.int .i64 1, .string ⟨#[98]⟩, .slice none 0 0, .int .i64 3, .string ⟨#[]⟩, .slice none 0 0]
set_option maxHeartbeats 800000 in
theorem example_calls (w : World) : Calls Try.prog 33 #[] w fun e w' => ∃ B3 B1 : Nat, e = .returned (exV B3) ∧ w'.heap[B1]? = some (.cells exC1 25 (0, 0)) ∧ w'.heap[B3]? = some (.cells (exC3 B1) 25 (0, 0)) ∧ Below w.heap.size w w' := by
  go_enter Try.func33, Try.ntmps33
  go_wp2
  refine bodyPost_ret (v := exV (w.heap.size + 1 + 1 + 1)) (by simp [results, Try.results33, go_sem, exV]) rfl ⟨w.heap.size + 1 + 1 + 1, w.heap.size + 1, rfl, ?_, ?_, ?_⟩
  · show ((((w.heap.push _).push _).push _).push _)[w.heap.size + 1]? = _
    rw [Array.getElem?_push, if_neg (by simp), Array.getElem?_push, if_neg (by simp), Array.getElem?_push, if_pos (by simp)]
    rfl
  · show ((((w.heap.push _).push _).push _).push _)[w.heap.size + 1 + 1 + 1]? = _
    rw [Array.getElem?_push, if_pos (by simp)]
    rfl
  · repeat (first | exact Below.refl _ _ | apply below_alloc | apply below_drew1)
theorem c25_nil (w : World) : Kd.C k25 w none ([] : List S25).length [] := Kd.C_nil _ _
theorem ex_C1 {w : World} {B1 : Nat} (h : w.heap[B1]? = some (.cells exC1 25 (0, 0))) : Kd.C k25 w (some ⟨B1, 0, none⟩) exK1.length exK1 := by
  refine ⟨rfl, by decide, fun _ => ⟨⟨B1, 0, none⟩, rfl, fun j p hj => ?_⟩⟩
  match j, hj with
  | 0, hj =>
    obtain rfl := Option.some.inj hj
    refine ⟨_, rfl, k25_mk w ⟨1, exB, []⟩ (A2 := none) (c2 := 0) (Nat.le_refl _) (c25_nil w), fun i u hu => ?_⟩
    rw [add_plain, blk_cell h]
    match i, hu with
    | 0, hu => exact hu
    | 1, hu => exact hu
    | 2, hu => exact hu
    | i + 3, hu => simp at hu
  | 1, hj =>
    obtain rfl := Option.some.inj hj
    refine ⟨_, rfl, k25_mk w ⟨3, ex0, []⟩ (A2 := none) (c2 := 0) (Nat.le_refl _) (c25_nil w), fun i u hu => ?_⟩
    rw [add_plain, blk_cell h]
    match i, hu with
    | 0, hu => exact hu
    | 1, hu => exact hu
    | 2, hu => exact hu
    | i + 3, hu => simp at hu
  | j + 2, hj => simp [exK1] at hj
theorem ex_C3 {w : World} {B1 B3 : Nat} (h1 : w.heap[B1]? = some (.cells exC1 25 (0, 0))) (h : w.heap[B3]? = some (.cells (exC3 B1) 25 (0, 0))) : Kd.C k25 w (some ⟨B3, 0, none⟩) exK3.length exK3 := by
  refine ⟨rfl, by decide, fun _ => ⟨⟨B3, 0, none⟩, rfl, fun j p hj => ?_⟩⟩
  match j, hj with
  | 0, hj =>
    obtain rfl := Option.some.inj hj
    refine ⟨_, rfl, k25_mk w ⟨1, exA, []⟩ (A2 := none) (c2 := 0) (Nat.le_refl _) (c25_nil w), fun i u hu => ?_⟩
    rw [add_plain, blk_cell h]
    match i, hu with
    | 0, hu => exact hu
    | 1, hu => exact hu
    | 2, hu => exact hu
    | i + 3, hu => simp at hu
  | 1, hj =>
    obtain rfl := Option.some.inj hj
    refine ⟨_, rfl, k25_mk w ⟨6, ex0, exK1⟩ (A2 := some ⟨B1, 0, none⟩) (c2 := 2) (Nat.le_refl _) (ex_C1 h1), fun i u hu => ?_⟩
    rw [add_plain, blk_cell h]
    match i, hu with
    | 0, hu => exact hu
    | 1, hu => exact hu
    | 2, hu => exact hu
    | i + 3, hu => simp at hu
  | j + 2, hj => simp [exK3] at hj
theorem ex_make (nm : List (List UInt8)) : MakeOk nm noNot exR := by
  refine make_seq ex0 exK3 (fun k hk => ?_)
  rcases List.mem_cons.mp hk with rfl | hk
  · exact make_name exA [] (by decide)
  · rcases List.mem_cons.mp hk with rfl | hk
    · refine make_alt ex0 exK1 (fun k hk => ?_)
      rcases List.mem_cons.mp hk with rfl | hk
      · exact make_name exB [] (by decide)
      · rcases List.mem_cons.mp hk with rfl | hk
        · exact make_arc 3 ex0 [] (.inr rfl)
        · cases hk
    · cases hk
set_option maxHeartbeats 1600000 in
theorem ex_build {w0 w : World} {B1 B3 : Nat} (An : Option Addr) (cn : Nat) (h1 : w.heap[B1]? = some (.cells exC1 25 (0, 0))) (h3 : w.heap[B3]? = some (.cells (exC3 B1) 25 (0, 0))) (hn : Kd.C Kd.string w An [exA, exB].length [exA, exB]) :
    Calls Try.prog 11 #[exV B3, .slice An 2 cn] w fun e w' => FinB w 7 2 0 1 exArcs 0 e w' := by
  refine (build_names 10 exR (some ⟨B3, 0, none⟩) 2 [exA, exB] An cn noNot w (ex_C3 h1 h3) (Nat.le_refl _) hn (fun i => ?_) ex_check (alone_calls exR (ex_make _)) _ ?_ ?_ ?_)
  · unfold rdOf
    match i.toNat with
    | 0 => decide
    | 1 => decide
    | j + 2 => show (ByteArray.empty).size ≤ _; decide
  · rintro (h | h)
    · simp at h
    · rw [ex_names] at h; cases h
  · intro _ _ h
    rw [ex_alone] at h; cases h
  · intro _ _ s hs e W' hF
    rw [ex_alone] at hs
    obtain rfl := Option.some.inj hs
    exact hF
theorem names_C {w : World} {b : Nat} (h : w.heap[b]? = some (.cells #[.string exA, .string exB] 9 (0, 0))) : Kd.C Kd.string w (some ⟨b, 0, none⟩) [exA, exB].length [exA, exB] := by
  refine ⟨rfl, by decide, fun _ => ⟨⟨b, 0, none⟩, rfl, fun j p hj => ?_⟩⟩
  match j, hj with
  | 0, hj =>
    obtain rfl := Option.some.inj hj
    refine ⟨[.string exA], rfl, rfl, fun i u hu => ?_⟩
    rw [add_plain, blk_cell h]
    match i, hu with
    | 0, hu => exact hu
    | i + 1, hu => simp at hu
  | 1, hj =>
    obtain rfl := Option.some.inj hj
    refine ⟨[.string exB], rfl, rfl, fun i u hu => ?_⟩
    rw [add_plain, blk_cell h]
    match i, hu with
    | 0, hu => exact hu
    | i + 1, hu => simp at hu
  | j + 2, hj => simp at hj
theorem ints_C {w : World} {b : Nat} {xs : List Int} (h : w.heap[b]? = some (.cells (nums .i64 xs).toArray 3 (0, 0))) (hl : xs.length ≤ 9223372036854775807) : Kd.C (Kd.int .i64) w (some ⟨b, 0, none⟩) xs.length xs := by
  refine ⟨rfl, hl, fun _ => ⟨⟨b, 0, none⟩, rfl, fun j p hj => ⟨[.int .i64 p], rfl, rfl, fun i u hu => ?_⟩⟩⟩
  rw [add_plain, blk_cell h]
  match i, hu with
  | 0, hu =>
    show (nums .i64 xs).toArray[j * 1 + 0]? = some u
    obtain ⟨hlt, hp⟩ := List.getElem?_eq_some_iff.mp hj
    obtain rfl := Option.some.inj hu
    simp [nums, List.getElem?_eq_getElem hlt, hp]
  | i + 1, hu => simp at hu
def stackyardlaw08_awake.f : Option Bool := some true
set_option maxRecDepth 100000 in
set_option maxHeartbeats 6400000 in
theorem awake_calls (w : World) : Calls Try.prog 10 #[] w fun e w' => e = .returned (.bool true) ∧ Below w.heap.size w w' := by
  go_enter Try.func10, Try.ntmps10
  go_wp2_with (fail)
  go_at_call 33
  refine (example_calls w).mono ?_
  rintro e w1 ⟨B3, B1, rfl, h1, h3, hb1⟩
  have H1 := Aside0.mk (blk_alloc h1 (.cells #[.string exA, .string exB] 9))
  have H3 := Aside0.mk (blk_alloc h3 (.cells #[.string exA, .string exB] 9))
  have HB1 := Aside0.mk (below_alloc hb1 (.cells #[.string exA, .string exB] 9))
  have HN := Aside0.mk (names_C (blk_new w1 (.cells #[.string exA, .string exB] 9)))
  clear h1 h3 hb1
  go_wp2_with (fail)
  go_at_call 11
  refine (ex_build (w0 := w) (some ⟨w1.heap.size, 0, none⟩) 2 H1.out H3.out HN.out).mono ?_
  rintro e w2 ⟨v, rfl, hR, hb2⟩
  obtain ⟨Av, cv, rfl⟩ := Kd.R_slice hR
  obtain ⟨_, hcv, hrc⟩ := Kd.R_reads' hR
  have HCV := Aside0.mk hcv
  have HC2 := Aside0.mk hrc
  have HB2 := Aside0.mk (below_then HB1.out HB1.out.size hb2)
  have HX3 := Aside0.mk (blk_alloc (blk_new w2 (.cells #[.int .i64 7, .int .i64 2, .int .i64 0, .int .i64 1, .slice Av exArcs.length cv] 31)) (.cells #[.int .i64 0, .int .i64 1] 3))
  have HC3 := Aside0.mk (Kd.C_below HC2.out (below_alloc (below_alloc (Below.refl _ _) (.cells #[.int .i64 7, .int .i64 2, .int .i64 0, .int .i64 1, .slice Av exArcs.length cv] 31)) (.cells #[.int .i64 0, .int .i64 1] 3)))
  have HW3 : Aside0 (Kd.C (Kd.int .i64) ((w2.alloc (.cells #[.int .i64 7, .int .i64 2, .int .i64 0, .int .i64 1, .slice Av exArcs.length cv] 31)).alloc (.cells #[.int .i64 0, .int .i64 1] 3)) (some ⟨w2.heap.size + 1, 0, none⟩) [(0 : Int), 1].length [0, 1]) := ⟨ints_C (by have e := blk_new (w2.alloc (.cells #[.int .i64 7, .int .i64 2, .int .i64 0, .int .i64 1, .slice Av exArcs.length cv] 31)) (.cells #[.int .i64 0, .int .i64 1] 3); simpa [nums] using e) (by decide)⟩
  clear hR hb2 hcv hrc H1 H3 HN
  go_wp2_with (fail)
  go_at_call 14
  refine (nfa_Run.calls 30 7 2 0 1 Av cv exArcs (some ⟨w2.heap.size + 1, 0, none⟩) 2 [0, 1] true 0 _ HC3.out HCV.out HW3.out (Nat.le_refl _) ex_run1).mono ?_
  rintro e w3 ⟨rfl, hb3⟩
  have HX4 := Aside0.mk (blk_below HX3.out hb3)
  have HC4 := Aside0.mk (Kd.C_below HC3.out hb3)
  have HB4 := Aside0.mk (below_then (below_alloc (below_alloc HB2.out (.cells #[.int .i64 7, .int .i64 2, .int .i64 0, .int .i64 1, .slice Av exArcs.length cv] 31)) (.cells #[.int .i64 0, .int .i64 1] 3)) (below_alloc (below_alloc HB2.out (.cells #[.int .i64 7, .int .i64 2, .int .i64 0, .int .i64 1, .slice Av exArcs.length cv] 31)) (.cells #[.int .i64 0, .int .i64 1] 3)).size hb3)
  have ha0 : w3.cell? ⟨w2.heap.size, 0, none⟩ = some (.int .i64 7) := (blk_cell HX4.out 0).trans rfl
  have ha1 : w3.cell? ⟨w2.heap.size, 1, none⟩ = some (.int .i64 2) := (blk_cell HX4.out 1).trans rfl
  have ha2 : w3.cell? ⟨w2.heap.size, 2, none⟩ = some (.int .i64 0) := (blk_cell HX4.out 2).trans rfl
  have ha3 : w3.cell? ⟨w2.heap.size, 3, none⟩ = some (.int .i64 1) := (blk_cell HX4.out 3).trans rfl
  have ha4 : w3.cell? ⟨w2.heap.size, 4, none⟩ = some (.slice Av exArcs.length cv) := (blk_cell HX4.out 4).trans rfl
  have HX5 := Aside0.mk (blk_alloc HX4.out (.cells #[.int .i64 1] 3))
  have HC5 := Aside0.mk (Kd.C_below HC4.out (below_alloc (Below.refl _ _) (.cells #[.int .i64 1] 3)))
  have HW5 : Aside0 (Kd.C (Kd.int .i64) (w3.alloc (.cells #[.int .i64 1] 3)) (some ⟨w3.heap.size, 0, none⟩) [(1 : Int)].length [1]) := ⟨ints_C (by have e := blk_new w3 (.cells #[.int .i64 1] 3); simpa [nums] using e) (by decide)⟩
  clear hb3 HX3 HC3 HW3
  go_wp2_with (fail)
  go_at_call 14
  refine (nfa_Run.calls 30 7 2 0 1 Av cv exArcs (some ⟨w3.heap.size, 0, none⟩) 1 [1] false 0 _ HC5.out HCV.out HW5.out (Nat.le_refl _) ex_run2).mono ?_
  rintro e w4 ⟨rfl, hb4⟩
  have HX6 := Aside0.mk (blk_below HX5.out hb4)
  have HC6 := Aside0.mk (Kd.C_below HC5.out hb4)
  have HB6 := Aside0.mk (below_then (below_alloc HB4.out (.cells #[.int .i64 1] 3)) (below_alloc HB4.out (.cells #[.int .i64 1] 3)).size hb4)
  clear hb4 HX5 HC5 HW5 ha0 ha1 ha2 ha3 ha4
  have hb0 : w4.cell? ⟨w2.heap.size, 0, none⟩ = some (.int .i64 7) := (blk_cell HX6.out 0).trans rfl
  have hb1 : w4.cell? ⟨w2.heap.size, 1, none⟩ = some (.int .i64 2) := (blk_cell HX6.out 1).trans rfl
  have hb2 : w4.cell? ⟨w2.heap.size, 2, none⟩ = some (.int .i64 0) := (blk_cell HX6.out 2).trans rfl
  have hb3 : w4.cell? ⟨w2.heap.size, 3, none⟩ = some (.int .i64 1) := (blk_cell HX6.out 3).trans rfl
  have hb4 : w4.cell? ⟨w2.heap.size, 4, none⟩ = some (.slice Av exArcs.length cv) := (blk_cell HX6.out 4).trans rfl
  go_wp2_with (fail)
  go_at_call 22
  refine (nfa_Least.calls 80 7 2 0 1 Av cv exArcs [0] true 0 _ HC6.out HCV.out ex_least).mono ?_
  rintro e w5 ⟨v7, rfl, hR7, hb7⟩
  obtain ⟨A7, c7, rfl⟩ := Kd.R_slice hR7
  have HB7 := Aside0.mk (below_then HB6.out HB6.out.size hb7)
  clear hR7 hb7
  go_wp2
  go_ret
  exact ⟨rfl, HB7.out⟩
theorem stackyardlaw08_awake.calls (r : Bool) (w : World) (h : stackyardlaw08_awake.f = some r) : Calls Try.prog 10 #[] w fun e w' => e = .returned (.bool r) ∧ Below w.heap.size w w' := by
  obtain rfl := Option.some.inj h
  exact awake_calls w
end Go.Proofs.Ytapinbmkjkbkkaa.Mk
