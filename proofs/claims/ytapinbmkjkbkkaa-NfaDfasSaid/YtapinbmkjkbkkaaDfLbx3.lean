import Derived.Lib.SliceRun
import Derived.Test.YtapinbmkjkbkkaaDfVi
namespace Go.Proofs.Ytapinbmkjkbkkaa.Lb
open Go.RowKit Go.Proofs.YtapinbmkjkbkkaaW.PrintWords Go.Proofs.YtapinbmkjkbkkaaW.PrintLast Go.Proofs.YtapinbmkjkbkkaaW.PrintMore
attribute [local go_sem] max2_int min2_int max_two min_two max_three min_three max_four min_four
set_option linter.unusedVariables false
set_option linter.unusedSimpArgs false
private theorem viB {P : Prop} (h : P := by repeat (first | (with_reducible first | exact HB.out | apply below_alloc | apply pw_below_drewN | apply below_drew1 | refine below_set ?_ GB8.out | refine below_set ?_ GE127.out | refine below_set ?_ GE132.out | refine below_set ?_ GE139.out | refine below_set ?_ GE150.out) | exact HB.out)) : P := h
def nfa_some_put.f (l0 : List Int) (a1 : Int) : Option (List Int) := if 0 ≤ (a1 / 64) then (if (a1 / 64) < (l0.length : Int) then (if 0 ≤ (Go.bits .and .i64 a1 63) then (some (l0.set ((a1 / 64) : Int).toNat (Go.bits .or .u64 (rd l0 (a1 / 64)) (shl .u64 1 (Go.bits .and .i64 a1 63))))) else (none)) else (none)) else (none)
def nfa_some_put.T0 : Bool × List (List Nat × List Nat) := (true, [([], []), ([], []), ([1], [1]), ([0, 2], [0, 2]), ([3], [3]), ([], []), ([5], [5]), ([6], [6]), ([4, 7], [4, 7]), ([0, 2, 0, 1, 2, 3, 4, 5, 6, 7, 8], [0, 2]), ([9, 8, 0, 1, 2, 3, 4, 5, 6, 7, 8], [8, 9])])
def nfa_some_put.B0 : List Nat := [0, 0, 2, 7, 15, 0, 32, 96, 255, 511, 1023]
theorem nfa_some_put.tab0 : rtab .any (opsOf Try.f40 0) = nfa_some_put.T0 := by kernel_rfl
theorem nfa_some_put.bits0 : waitsOk nfa_some_put.T0.2 nfa_some_put.B0 = true := by kernel_rfl
set_option maxHeartbeats 8000000 in
set_option maxRecDepth 100000 in
theorem nfa_some_put.calls (P0_ : Nat → Prop) (u9000_ : Value) (l0 : List Int) (a1 : Int) (r : List Int) (w0 w : World) (hB : Below w0.heap.size w0 w) (ho0 : Kd.R (Kd.int .u64) 115 w w0.heap.size P0_ u9000_ l0) (h : nfa_some_put.f l0 a1 = some r) :
    Calls Try.prog 40 #[u9000_, .int .i64 a1] w fun e w' => e = .returned (.tuple #[]) ∧ Kd.R (Kd.int .u64) 115 w' w0.heap.size (fun k_ => (P0_ k_ ∨ w.heap.size ≤ k_)) u9000_ r ∧ Below w0.heap.size w0 w' ∧ Kept w w' (fun k_ => P0_ k_) := by
  have HO0 := Aside0.mk (show Kd.R (Kd.int .u64) 115 w w0.heap.size (fun k_ => (P0_ k_ ∨ w.heap.size ≤ k_)) u9000_ l0 from Kd.R_mono ho0 (fun k_ hk => (.inl hk)))
  have HK := Aside0.mk (Kept.refl w (fun k_ => P0_ k_))
  have HW0 := Aside0.mk hB.size
  have HB := Aside0.mk hB
  clear hB
  have H : (if 0 ≤ (a1 / 64) then (if (a1 / 64) < (l0.length : Int) then (if 0 ≤ (Go.bits .and .i64 a1 63) then (some (l0.set ((a1 / 64) : Int).toNat (Go.bits .or .u64 (rd l0 (a1 / 64)) (shl .u64 1 (Go.bits .and .i64 a1 63))))) else (none)) else (none)) else (none)) = some r := h
  clear h
  obtain ⟨ji3, hji3⟩ : ∃ j_ : Int, (a1 / 64) = j_ := ⟨_, rfl⟩
  replace H : (if 0 ≤ (ji3) then (if (ji3) < (l0.length : Int) then (if 0 ≤ (Go.bits .and .i64 a1 63) then (some (l0.set ((ji3) : Int).toNat (Go.bits .or .u64 (rd l0 (ji3)) (shl .u64 1 (Go.bits .and .i64 a1 63))))) else (none)) else (none)) else (none)) = some r := by first | (rw [hji3] at H; exact H) | (simp only [hji3] at H ⊢; exact H)
  by_cases c4 : 0 ≤ (ji3)
  · rw [if_pos c4] at H
    have c4b0 : decide (0 ≤ (ji3)) = true := decide_eq_true c4
    clear c4
    by_cases c5 : (ji3) < (l0.length : Int)
    · rw [if_pos c5] at H
      have c5b0 : decide ((ji3) < (l0.length : Int)) = true := decide_eq_true c5
      clear c5
      by_cases c6 : 0 ≤ (Go.bits .and .i64 a1 63)
      · rw [if_pos c6] at H
        have c6b0 := eq_true c6
        have c6b1 : decide (0 ≤ (Go.bits .and .i64 a1 63)) = true := decide_eq_true c6
        clear c6
        obtain ⟨ji7, hji7⟩ : ∃ j_ : Int, (shl .u64 1 (Go.bits .and .i64 a1 63)) = j_ := ⟨_, rfl⟩
        replace H : (some (l0.set ((ji3) : Int).toNat (Go.bits .or .u64 (rd l0 (ji3)) (ji7)))) = some r := by first | (rw [hji7] at H; exact H) | (simp only [hji7] at H ⊢; exact H)
        have hji7_ : (IntKind.u64.wrap (1 * 2 ^ min (Go.bits .and .i64 a1 63).toNat 64)) = ji7 := hji7
        have hji7z : (Go.bits .and .i64 a1 63) ≤ 64 → (IntKind.u64.wrap (1 * 2 ^ (Go.bits .and .i64 a1 63).toNat)) = ji7 := shl_small hji7
        have hji7u : (IntKind.u64.wrap (2 ^ min (Go.bits .and .i64 a1 63).toNat 64)) = ji7 := by have h_ := hji7_; rw [Int.one_mul] at h_; exact h_
        have hji7v : (Go.bits .and .i64 a1 63) ≤ 64 → (IntKind.u64.wrap (2 ^ (Go.bits .and .i64 a1 63).toNat)) = ji7 := fun hle_ => by have h_ := hji7z hle_; rw [Int.one_mul] at h_; exact h_
        obtain ⟨y119, hy119⟩ : ∃ y_ : List Int, y_ = (l0.set ((ji3) : Int).toNat (Go.bits .or .u64 (rd l0 (ji3)) (ji7))) := ⟨_, rfl⟩
        replace H : (some y119) = some r := by first | (rw [hy119]; with_reducible exact H) | (have H2_ := (Option.bind_some _ _).symm.trans H; rw [hy119]; with_reducible exact H2_) | (have H2_ := (Option.bind_some _ _).symm.trans H; with_reducible exact H2_) | with_reducible exact H | (rw [hy119]; exact H) | exact H
        have Ny119 := Aside0.mk hy119
        clear hy119
        obtain rfl := Option.some.inj H
        go_enter Try.func40, Try.ntmps40
        try go_wp2
        have n0_ := Aside0.mk (Kd.R_drew HO0.out)
        have n1_ := Aside0.mk (Kept.drew HK.out)
        have n2_ := Aside0.mk (below_drew1 HB.out)
        clear HO0
        clear HK
        clear HB
        have HO0 := n0_
        have HK := n1_
        have HB := n2_
        clear n0_ n1_ n2_
        obtain ⟨Ao10, co10, eo10⟩ := Kd.R_slice HO0.out
        (first | subst eo10 | (injection eo10 with f1_ f2_ f3_; have f4_ := f1_.symm; have f5_ := f3_.symm; clear f1_ f2_ f3_; subst f4_; subst f5_))
        have p118 : 0 ≤ ((ji3) : Int) := viA
        have q118 : (ji3) < (l0.length : Int) := viA
        obtain ⟨ad118, e118, hx118_0⟩ := Kd.at_int (Kd.R_reads' HO0.out).2.2 (ji3) p118 q118
        cases e118
        replace p118 := eq_true p118
        replace q118 := eq_true q118
        have p8 : 0 ≤ ((ji3) : Int) := viA
        have q8 : ((ji3) : Int) < ((l0.length : Int) : Int) := viA
        obtain ⟨go8, co8, eo8, gb8, gl8, cl8, HG8⟩ := Kd.R_form HO0.out (by omega)
        (first | cases eo8 | (injection eo8 with ea_ en_ ec_; (first | subst ea_ | (injection ea_ with ea_; subst ea_)); subst ec_; clear en_))
        have GB8 := Aside0.mk gb8
        have GG8 := Aside0.mk HG8
        clear gb8 gl8 HG8
        have HMgo8 := Aside0.mk (show (P0_ go8 ∨ w.heap.size ≤ go8) from (HO0.out.1 _ rfl))
        (first | simp only [add_plain] at hx118_0 | skip)
        obtain ⟨hx8_0, hf8_0⟩ := Kd.R_celln 0 HO0.out ((ji3) : Int) p8 q8
        replace p8 := eq_true p8
        replace q8 := eq_true q8
        have HP11 := Kd.R_putn HO0.out ((ji3) : Int) (Go.bits .or .u64 (rd l0 (ji3)) (ji7))
        rw [← Ny119.out] at HP11
        have HQ11 := Aside0.mk HP11
        clear HP11
        refine start_ (n := 11) (S := fun w' => w'.cell? ⟨go8, ((ji3)).toNat, none⟩ = some (.int .u64 (rd l0 (ji3)))) (ds := [10]) #[false, false, false, false, false, false, false, false, false, false, false] (by kernel_rfl) rfl rfl (hx118_0) (fun hHeld => ?_); refine with_tabW nfa_some_put.tab0 nfa_some_put.bits0 (fun HT_ HW_ => ?_)
        generalize w.drew = w9 at HO0 HK HB GG8 HQ11 hf8_0 hx118_0 hx8_0 hHeld ⊢
        refine pure_ (i := 0) (N := some 4) (v := ?_) (a' := ?_) #[true, false, false, false, false, false, false, false, false, false, false] rfl rfl (any_of HT_.out (by kernel_rfl)) (fun _ _ _ h => h) (Or.inl ⟨by rfl, ?_⟩) ?_ ?_
        rotate_left
        · intro w'
          go_simp
          with_reducible rfl
        rotate_left
        · simp only [Act.put, List.setIfInBounds_toArray, List.set_cons_zero, List.set_cons_succ, i64_w, i32_w]
          rfl
        refine pure_ (i := 1) (N := some 5) (v := ?_) (a' := ?_) #[true, true, false, false, false, false, false, false, false, false, false] rfl rfl (any_of HT_.out (by kernel_rfl)) (fun _ _ _ h => h) (Or.inl ⟨by rfl, ?_⟩) ?_ ?_
        rotate_left
        · intro w'
          go_simp
          with_reducible rfl
        rotate_left
        · simp only [Act.put, List.setIfInBounds_toArray, List.set_cons_zero, List.set_cons_succ, i64_w, i32_w]
          rfl
        refine pure_ (i := 2) (N := some 6) (v := ?_) (a' := ?_) #[true, true, true, false, false, false, false, false, false, false, false] rfl rfl (any_of HT_.out (by kernel_rfl)) (fun _ _ _ h => h) (Or.inl ⟨by rfl, ?_⟩) ?_ ?_
        rotate_left
        · intro w'
          go_simp
          with_reducible rfl
        rotate_left
        · simp only [Act.put, List.setIfInBounds_toArray, List.set_cons_zero, List.set_cons_succ, i64_w, i32_w]
          rfl
        refine pure_ (i := 3) (N := some 7) (v := ?_) (a' := ?_) #[true, true, true, true, false, false, false, false, false, false, false] rfl rfl (any_of HT_.out (by kernel_rfl)) (fun _ _ _ h => h) (Or.inl ⟨by rfl, ?_⟩) ?_ ?_
        rotate_left
        · intro w'
          go_simp
          with_reducible rfl
        rotate_left
        · simp only [Act.put, List.setIfInBounds_toArray, List.set_cons_zero, List.set_cons_succ, i64_w, i32_w]
          rfl
        refine pure_ (i := 5) (N := some 9) (v := ?_) (a' := ?_) #[true, true, true, true, false, true, false, false, false, false, false] rfl rfl (any_of HT_.out (by kernel_rfl)) (fun _ _ _ h => h) (Or.inl ⟨by rfl, ?_⟩) ?_ ?_
        rotate_left
        · intro w'
          go_simp
          with_reducible rfl
        rotate_left
        · simp only [Act.put, List.setIfInBounds_toArray, List.set_cons_zero, List.set_cons_succ, i64_w, i32_w]
          rfl
        refine pure_ (i := 6) (N := some 10) (v := ?_) (a' := ?_) #[true, true, true, true, false, true, true, false, false, false, false] rfl rfl (any_of HT_.out (by kernel_rfl)) (fun _ _ _ h => h) (Or.inl ⟨by rfl, ?_⟩) ?_ ?_
        rotate_left
        · intro w'
          go_simp
          with_reducible rfl
        rotate_left
        · simp only [Act.put, List.setIfInBounds_toArray, List.set_cons_zero, List.set_cons_succ, i64_w, i32_w]
          rfl
        refine pure_ (i := 7) (N := some 11) (v := ?_) (a' := ?_) #[true, true, true, true, false, true, true, true, false, false, false] rfl rfl (any_of HT_.out (by kernel_rfl)) (fun _ _ _ h => h) (Or.inl ⟨by rfl, ?_⟩) ?_ ?_
        rotate_left
        · intro w'
          go_simp
          with_reducible rfl
        rotate_left
        · simp only [Act.put, List.setIfInBounds_toArray, List.set_cons_zero, List.set_cons_succ, i64_w, i32_w]
          rfl
        refine take_ (i := 4) (N := some 8) (v := ?_) (a' := ?_) #[true, true, true, true, true, true, true, true, false, false, false] rfl rfl (take_ofW HT_.out HW_.out (by kernel_rfl)) (fun _ _ _ h => h) (Or.inl ⟨by rfl, ?_⟩) hHeld ?_ ?_
        rotate_left
        · intro w' s0
          go_simp
          with_reducible rfl
        rotate_left
        · simp only [Act.put, List.setIfInBounds_toArray, List.set_cons_zero, List.set_cons_succ, i64_w, i32_w]
          rfl
        refine pure_ (i := 8) (N := some 12) (v := ?_) (a' := ?_) #[true, true, true, true, true, true, true, true, true, false, false] rfl rfl (any_of HT_.out (by kernel_rfl)) (fun _ _ _ h => h) (Or.inl ⟨by rfl, ?_⟩) ?_ ?_
        rotate_left
        · intro w'
          go_simp
          with_reducible rfl
        rotate_left
        · simp only [Act.put, List.setIfInBounds_toArray, List.set_cons_zero, List.set_cons_succ, i64_w, i32_w]
          rfl
        refine pure_ (i := 9) (N := some 13) (v := ?_) (a' := ?_) #[true, true, true, true, true, true, true, true, true, true, false] rfl rfl (any_of HT_.out (by kernel_rfl)) (fun _ _ _ h => h) (Or.inl ⟨by rfl, ?_⟩) ?_ ?_
        rotate_left
        · intro w'
          go_simp
          with_reducible rfl
        rotate_left
        · simp only [Act.put, List.setIfInBounds_toArray, List.set_cons_zero, List.set_cons_succ, i64_w, i32_w]
          rfl
        refine last_ (i := 10) (N := none) #[true, true, true, true, true, true, true, true, true, true, true] rfl rfl (one_of HT_.out (by kernel_rfl)) (by decide) (fun K hK => ?_)
        refine skip_ (w1 := ?_) (by rfl) rfl ?_ ?_
        rotate_left
        · go_simp
          rfl
        refine hK.out _ _ ?_
        clear hK K
        refine done_ (done_of HT_.out (by kernel_rfl)) ?_
        try go_wp2
        first | go_end0 | ((try simp only [Exit.inBlock, Exit.then]); refine bodyPost_ret (results_none rfl _ _ _) rfl ?_)
        exact ⟨by first | rfl | (simp [errW_none, errW_some] <;> rfl) | (simp only [← hji3, ← hji7]; first | rfl | (simp [errW_none, errW_some] <;> rfl)) | (simp [*, errW_none, errW_some] <;> rfl), viR HQ11.out, viB, by repeat (first | (with_reducible first | exact HK.out | apply Kept.alloc | apply Kept.drewN | apply Kept.drew | refine Kept.setCell ?_ HMgo8.out _) | exact HK.out)⟩
      · rw [if_neg c6] at H
        exact absurd H (by simp)
    · rw [if_neg c5] at H
      exact absurd H (by simp)
  · rw [if_neg c4] at H
    exact absurd H (by simp)
def nfa_some_has.f (l0 : List Int) (a1 : Int) : Option (Bool) := if 0 ≤ (a1 / 64) then (if (a1 / 64) < (l0.length : Int) then (if 0 ≤ (Go.bits .and .i64 a1 63) then (some ((Go.bits .and .u64 (shr .u64 (rd l0 (a1 / 64)) (Go.bits .and .i64 a1 63)) 1) == 1)) else (none)) else (none)) else (none)
set_option maxHeartbeats 8000000 in
set_option maxRecDepth 100000 in
theorem nfa_some_has.calls (A0 : Option Addr) (c0 : Nat) (l0 : List Int) (a1 : Int) (r : Bool) (w : World) (hr0 : Kd.C (Kd.int .u64) w A0 l0.length l0) (hc0 : l0.length ≤ c0) (h : nfa_some_has.f l0 a1 = some r) :
    Calls Try.prog 43 #[.slice A0 l0.length c0, .int .i64 a1] w fun e w' => e = .returned (.bool r) ∧ Drawn0 w w' := by
  have HR0 := Aside0.mk hr0
  have HC0 := Aside0.mk hc0
  clear hr0 hc0
  have H : (if 0 ≤ (a1 / 64) then (if (a1 / 64) < (l0.length : Int) then (if 0 ≤ (Go.bits .and .i64 a1 63) then (some ((Go.bits .and .u64 (shr .u64 (rd l0 (a1 / 64)) (Go.bits .and .i64 a1 63)) 1) == 1)) else (none)) else (none)) else (none)) = some r := h
  clear h
  obtain ⟨ji3, hji3⟩ : ∃ j_ : Int, (a1 / 64) = j_ := ⟨_, rfl⟩
  replace H : (if 0 ≤ (ji3) then (if (ji3) < (l0.length : Int) then (if 0 ≤ (Go.bits .and .i64 a1 63) then (some ((Go.bits .and .u64 (shr .u64 (rd l0 (ji3)) (Go.bits .and .i64 a1 63)) 1) == 1)) else (none)) else (none)) else (none)) = some r := by first | (rw [hji3] at H; exact H) | (simp only [hji3] at H ⊢; exact H)
  by_cases c4 : 0 ≤ (ji3)
  · rw [if_pos c4] at H
    have c4b0 : decide (0 ≤ (ji3)) = true := decide_eq_true c4
    clear c4
    by_cases c5 : (ji3) < (l0.length : Int)
    · rw [if_pos c5] at H
      have c5b0 : decide ((ji3) < (l0.length : Int)) = true := decide_eq_true c5
      clear c5
      by_cases c6 : 0 ≤ (Go.bits .and .i64 a1 63)
      · rw [if_pos c6] at H
        have c6b0 := eq_true c6
        have c6b1 : decide (0 ≤ (Go.bits .and .i64 a1 63)) = true := decide_eq_true c6
        clear c6
        obtain ⟨ji7, hji7⟩ : ∃ j_ : Int, (shr .u64 (rd l0 (ji3)) (Go.bits .and .i64 a1 63)) = j_ := ⟨_, rfl⟩
        replace H : (some ((Go.bits .and .u64 (ji7) 1) == 1)) = some r := by first | (rw [hji7] at H; exact H) | (simp only [hji7] at H ⊢; exact H)
        have hji7_ : ((rd l0 (ji3)) / 2 ^ min (Go.bits .and .i64 a1 63).toNat 64) = ji7 := hji7
        have hji7z : (Go.bits .and .i64 a1 63) ≤ 64 → ((rd l0 (ji3)) / 2 ^ (Go.bits .and .i64 a1 63).toNat) = ji7 := shr_small hji7
        obtain rfl := Option.some.inj H
        have p120 : 0 ≤ ((ji3) : Int) := viA
        have q120 : (ji3) < (l0.length : Int) := viA
        obtain ⟨ad120, e120, hx120_0⟩ := Kd.at_int HR0.out (ji3) p120 q120
        cases e120
        replace p120 := eq_true p120
        replace q120 := eq_true q120
        go_enter Try.func43, Try.ntmps43
        go_wp2
        go_ret
        exact ⟨by first | rfl | (simp; done) | (simp only [← hji3, ← hji7] <;> (first | rfl | simp)) | (simp [*]; done), by repeat (first | exact Drawn0.refl _ | apply Drawn0.step)⟩
      · rw [if_neg c6] at H
        exact absurd H (by simp)
    · rw [if_neg c5] at H
      exact absurd H (by simp)
  · rw [if_neg c4] at H
    exact absurd H (by simp)
def nfa_some_uint64.f (l0 : List Int) : Option (List Int) := (some (([] : List Int) : List Int)).bind fun y121 => (if y121.length + l0.length < 17592186044416 then (some (y121 ++ l0)) else (none))
set_option maxHeartbeats 8000000 in
set_option maxRecDepth 100000 in
theorem nfa_some_uint64.calls_some (ad0 : Addr) (c0 : Nat) (l0 : List Int) (r : List Int) (w : World) (hr0 : Kd.C (Kd.int .u64) w (some ad0) l0.length l0) (hc0 : l0.length ≤ c0) (h : nfa_some_uint64.f l0 = some r) :
    Calls Try.prog 70 #[.slice (some ad0) l0.length c0] w fun e w' => ∃ v0_ : Value, e = .returned (v0_) ∧ Kd.R (Kd.int .u64) 115 w' w.heap.size (fun _ => True) v0_ r ∧ Below w.heap.size w w' := by
  have HR0 := Aside0.mk hr0
  have HC0 := Aside0.mk hc0
  clear hr0 hc0
  have HB := Aside0.mk (Below.refl w.heap.size w)
  have H : ((some (([] : List Int) : List Int)).bind fun y121 => (if y121.length + l0.length < 17592186044416 then (some (y121 ++ l0)) else (none))) = some r := h
  clear h
  obtain ⟨y121, hy121⟩ : ∃ y_ : List Int, y_ = (([] : List Int)) := ⟨_, rfl⟩
  replace H : (if y121.length + l0.length < 17592186044416 then (some (y121 ++ l0)) else (none)) = some r := by first | (rw [hy121]; with_reducible exact H) | (have H2_ := (Option.bind_some _ _).symm.trans H; rw [hy121]; with_reducible exact H2_) | (have H2_ := (Option.bind_some _ _).symm.trans H; with_reducible exact H2_) | with_reducible exact H | (rw [hy121]; exact H) | exact H
  have Ny121 := Aside0.mk hy121
  clear hy121
  by_cases c2 : y121.length + l0.length < 17592186044416
  · rw [if_pos c2] at H
    have LMc2 := Aside0.mk c2
    clear c2
    obtain ⟨y124, hy124⟩ : ∃ y_ : List Int, y_ = (y121 ++ l0) := ⟨_, rfl⟩
    replace H : (some y124) = some r := by first | (rw [hy124]; with_reducible exact H) | (have H2_ := (Option.bind_some _ _).symm.trans H; rw [hy124]; with_reducible exact H2_) | (have H2_ := (Option.bind_some _ _).symm.trans H; with_reducible exact H2_) | with_reducible exact H | (rw [hy124]; exact H) | exact H
    have Ny124 := Aside0.mk hy124
    clear hy124
    obtain rfl := Option.some.inj H
    have hEq : ∀ W : World, (binOp .eql 80 (.slice (some ad0) l0.length c0) (.slice none 0 0)).run Try.prog W = .ok (.bool false) W := fun W => Lib.run_eql_slice_nil W 80 115 (some ad0) _ _ 0 0 Try.underlying80
    go_enter Try.func70, Try.ntmps70
    go_wp2_with (first | ((with_reducible refine gate_dst (N := 5) rfl ?_); refine Kd.R_lit (Kd.int .u64) _ 115 ?hg (N := 5) ?hd (xs := ([] : List Int)) (inner := []) (ok := fun _ => True) (okp := fun _ => True) ?hr ?hp (fun _ hk => hk) trivial (Below.refl _ _) (Nat.le_refl _) (by simp) ?_; (case hd => rfl); (case hg => rfl); (case hr => first | (go_simp; done) | (go_simp; rfl)); (case hp => exact (Reps.none _ _)); intro v122 w3 ho4 hb hg_ hnew_; clear hg_ hnew_; (first | rw [← Ny121.out] at ho4 | (simp only [Int.reduceToNat] at ho4; rw [← Ny121.out] at ho4)); have n0_ := Aside0.mk (Kd.R_lower ho4 (below_size viB)); have n1_ := Aside0.mk (below_step viB hb); clear HB; have HO123 := n0_; have HB := n1_; clear n0_ n1_; clear hb ho4) | ((with_reducible refine gate_builtin (b := .append) (xs := #[.tmp 5, .tmp 6]) rfl ?_); at_builtin; refine Kd.R_append_rows (Kd.int .u64) (w0 := w) w.heap.size rfl (.tmp 5) (.tmp 6) 80 115 (.int .u64 0) 8 rfl Try.underlying80 info115 rfl (by decide) (by omega) v122 y121 l0 _ _ _ (fun _ => True) (fun _ => False) rfl rfl ?aO ?aR (fun _ _ h => h) (fun _ h => h.elim) ?aF ?aB ?aS ?aL ?_; (case aR => repeat (first | exact (Kd.C_below HR0.out HB.out) | (with_reducible refine Kd.C_alloc ?_ _) | (with_reducible refine Kd.C_drewN ?_ _) | (with_reducible refine Kd.C_drew ?_))); (case aB => exact viB); (case aF => exact (fun _ _ => trivial)); (case aO => exact (viR HO123.out)); (case aS => exact (below_size viB)); (case aL => have := LMc2.out; omega); intro v125 w5 ho hb hg hat; rw [← Ny124.out] at ho; have n0_ := Aside0.mk (hb); have n1_ := Aside0.mk (ho); clear HB; clear HO123; have HB := n0_; have HO126 := n1_; clear n0_ n1_; clear ho hb hg hat))
    go_ret
    exact ⟨_, by first | rfl | (simp [errW_none, errW_some] <;> rfl) | (simp [*, errW_none, errW_some] <;> rfl), viR HO126.out, viB⟩
  · rw [if_neg c2] at H
    exact absurd H (by simp)
theorem nfa_some_uint64.calls (A0 : Option Addr) (c0 : Nat) (l0 : List Int) (r : List Int) (w : World) (hr0 : Kd.C (Kd.int .u64) w A0 l0.length l0) (hc0 : l0.length ≤ c0) (h : nfa_some_uint64.f l0 = some r) :
    Calls Try.prog 70 #[.slice A0 l0.length c0] w fun e w' => ∃ v0_ : Value, e = .returned (v0_) ∧ Kd.R (Kd.int .u64) 115 w' w.heap.size (fun _ => True) v0_ r ∧ Below w.heap.size w w' := by
  cases A0 with
  | some ad0 => exact nfa_some_uint64.calls_some ad0 c0 l0 r w hr0 hc0 h
  | none =>
    have e0 : l0 = [] := by
      cases l0 with
      | nil => rfl
      | cons x xs => obtain ⟨ad, e, _⟩ := hr0.2.2 (by simp); cases e
    subst e0
    have hr : r = [] := by
      unfold nfa_some_uint64.f at h
      simpa using h.symm
    subst hr
    clear h hr0
    have hEq : ∀ W : World, (binOp .eql 80 (.slice none 0 c0) (.slice none 0 0)).run Try.prog W = .ok (.bool true) W := fun W => Lib.run_eql_slice_nil W 80 115 none _ _ 0 0 Try.underlying80
    go_enter Try.func70, Try.ntmps70
    go_wp2
    go_ret
    exact ⟨_, rfl, Kd.R_nil _ _ _ _ _, by repeat (first | exact Below.refl _ _ | apply below_alloc | apply below_drew1)⟩
mutual
def nfa_closed.l0 : Nat → List Int → Bool → Int → Int → Int → Int → List (S78) → Option (List Int)
  | 0, _, _, _, _, _, _, _ => none
  | k + 1, x5, x6, x128000, x128001, x128002, x128003, x128004 => if x6 = true then (nfa_closed.l1 k x5 false x128004 (x128004.length : Int) 0 x128000 x128001 x128002 x128003 x128004) else (some x5)
def nfa_closed.l1 : Nat → List Int → Bool → List (S78) → Int → Int → Int → Int → Int → Int → List (S78) → Option (List Int)
  | 0, _, _, _, _, _, _, _, _, _, _ => none
  | k + 1, x5, x6, x13, x14, x15, x128000, x128001, x128002, x128003, x128004 => if x15 < x14 then (if 0 ≤ x15 then (if x15 < (x13.length : Int) then (if ((rd_T78 x13 x15).f1) = (-1) then ((nfa_some_has.f x5 ((rd_T78 x13 x15).f0)).bind fun t133 => (if t133 = true then ((nfa_some_has.f x5 ((rd_T78 x13 x15).f2)).bind fun t134 => (if t134 = true then (nfa_closed.l1 k x5 x6 x13 x14 (wrap64 (x15 + 1)) x128000 x128001 x128002 x128003 x128004) else ((nfa_some_put.f x5 ((rd_T78 x13 x15).f2)).bind fun t135 => (nfa_closed.l1 k t135 true x13 x14 (wrap64 (x15 + 1)) x128000 x128001 x128002 x128003 x128004)))) else (nfa_closed.l1 k x5 x6 x13 x14 (wrap64 (x15 + 1)) x128000 x128001 x128002 x128003 x128004))) else (nfa_closed.l1 k x5 x6 x13 x14 (wrap64 (x15 + 1)) x128000 x128001 x128002 x128003 x128004)) else (none)) else (none)) else (nfa_closed.l0 k x5 x6 x128000 x128001 x128002 x128003 x128004)
end
def nfa_closed.f (k : Nat) (a0_0 : Int) (a0_1 : Int) (a0_2 : Int) (a0_3 : Int) (l0_4 : List (S78)) (l1 : List Int) : Option (List Int) := (nfa_some_uint64.f l1).bind fun t128 => (nfa_closed.l0 k t128 true a0_0 a0_1 a0_2 a0_3 l0_4)
theorem nfa_closed.mono_l : ∀ k, (∀ y0 y1 y2 y3 y4 y5 y6, LeO (nfa_closed.l0 k y0 y1 y2 y3 y4 y5 y6) (nfa_closed.l0 (k + 1) y0 y1 y2 y3 y4 y5 y6)) ∧ (∀ y0 y1 y2 y3 y4 y5 y6 y7 y8 y9, LeO (nfa_closed.l1 k y0 y1 y2 y3 y4 y5 y6 y7 y8 y9) (nfa_closed.l1 (k + 1) y0 y1 y2 y3 y4 y5 y6 y7 y8 y9))
  | 0 => ⟨fun _ _ _ _ _ _ _ r h => by simp [nfa_closed.l0] at h, fun _ _ _ _ _ _ _ _ _ _ r h => by simp [nfa_closed.l1] at h⟩
  | k + 1 => by
    obtain ⟨ih0, ih1⟩ := nfa_closed.mono_l k
    refine ⟨?_, ?_⟩
    · intro y0 y1 y2 y3 y4 y5 y6
      unfold nfa_closed.l0
      repeat' first
      | (with_reducible exact ih0 _ _ _ _ _ _ _)
      | (with_reducible exact ih1 _ _ _ _ _ _ _ _ _ _)
      | (with_reducible exact LeO.refl _)
      | (with_reducible exact LeO.none _)
      | (with_reducible refine LeO.ite ?_ ?_)
      | (with_reducible refine LeO.bind ?_ (fun _ => ?_))
      | exact ih0 _ _ _ _ _ _ _
      | exact ih1 _ _ _ _ _ _ _ _ _ _
      | exact LeO.none _
      | refine LeO.ite ?_ ?_
      | refine LeO.bind ?_ (fun _ => ?_)
    · intro y0 y1 y2 y3 y4 y5 y6 y7 y8 y9
      unfold nfa_closed.l1
      repeat' first
      | (with_reducible exact ih0 _ _ _ _ _ _ _)
      | (with_reducible exact ih1 _ _ _ _ _ _ _ _ _ _)
      | (with_reducible exact LeO.refl _)
      | (with_reducible exact LeO.none _)
      | (with_reducible refine LeO.ite ?_ ?_)
      | (with_reducible refine LeO.bind ?_ (fun _ => ?_))
      | exact ih0 _ _ _ _ _ _ _
      | exact ih1 _ _ _ _ _ _ _ _ _ _
      | exact LeO.none _
      | refine LeO.ite ?_ ?_
      | refine LeO.bind ?_ (fun _ => ?_)
theorem nfa_closed.mono : ∀ a0 a1 a2 a3 a4 a5 k, LeO (nfa_closed.f k a0 a1 a2 a3 a4 a5) (nfa_closed.f (k + 1) a0 a1 a2 a3 a4 a5) := by
  intro a0 a1 a2 a3 a4 a5 k
  obtain ⟨ih0, ih1⟩ := nfa_closed.mono_l k
  unfold nfa_closed.f
  repeat' first
      | (with_reducible exact ih0 _ _ _ _ _ _ _)
      | (with_reducible exact ih1 _ _ _ _ _ _ _ _ _ _)
      | (with_reducible exact LeO.refl _)
      | (with_reducible exact LeO.none _)
      | (with_reducible refine LeO.ite ?_ ?_)
      | (with_reducible refine LeO.bind ?_ (fun _ => ?_))
      | exact ih0 _ _ _ _ _ _ _
      | exact ih1 _ _ _ _ _ _ _ _ _ _
      | exact LeO.none _
      | refine LeO.ite ?_ ?_
      | refine LeO.bind ?_ (fun _ => ?_)
set_option maxHeartbeats 8000000 in
set_option maxRecDepth 100000 in
theorem nfa_closed.calls (k : Nat) (a0_0 : Int) (a0_1 : Int) (a0_2 : Int) (a0_3 : Int) (A0_4 : Option Addr) (c0_4 : Nat) (l0_4 : List (S78)) (A1 : Option Addr) (c1 : Nat) (l1 : List Int) (r : List Int) (w : World) (hr0_4 : Kd.C k78 w A0_4 l0_4.length l0_4) (hc0_4 : l0_4.length ≤ c0_4) (hr1 : Kd.C (Kd.int .u64) w A1 l1.length l1) (hc1 : l1.length ≤ c1) (h : nfa_closed.f k a0_0 a0_1 a0_2 a0_3 l0_4 l1 = some r) :
    Calls Try.prog 41 #[.agg #[.int .i64 a0_0, .int .i64 a0_1, .int .i64 a0_2, .int .i64 a0_3, .slice A0_4 l0_4.length c0_4], .slice A1 l1.length c1] w fun e w' => ∃ v0_ : Value, e = .returned (v0_) ∧ Kd.R (Kd.int .u64) 115 w' w.heap.size (fun _ => True) v0_ r ∧ Below w.heap.size w w' := by
  have hu31 := Try.underlying31
  have hu78 := Try.underlying78
  have HR0_4 := Aside0.mk hr0_4
  have HC0_4 := Aside0.mk hc0_4
  clear hr0_4 hc0_4
  have HR1 := Aside0.mk hr1
  have HC1 := Aside0.mk hc1
  clear hr1 hc1
  have HB := Aside0.mk (Below.refl w.heap.size w)
  have H : ((nfa_some_uint64.f l1).bind fun t128 => (nfa_closed.l0 k t128 true a0_0 a0_1 a0_2 a0_3 l0_4)) = some r := h
  clear h
  replace H := Option.bind_eq_some_iff.mp H
  obtain ⟨t128, A30, H⟩ := H
  replace H : (nfa_closed.l0 k t128 true a0_0 a0_1 a0_2 a0_3 l0_4) = some r := H
  have A3 := Aside0.mk A30
  clear A30
  have H' := Aside0.mk H
  clear H
  go_enter Try.func41, Try.ntmps41
  go_wp2_with (first | ((with_reducible refine gate_dst (N := 2) rfl ?_); refine box_event ?hg (N := 2) ?hd (cs := #[.int .i64 a0_0, .int .i64 a0_1, .int .i64 a0_2, .int .i64 a0_3, .slice A0_4 l0_4.length c0_4]) (t := 31) ?hr ?_; (case hd => rfl); (case hg => rfl); (case hr => first | (go_simp; done) | (go_simp; rfl)); intro gb127 hg w4 hbox hb; have n0_ := Aside0.mk (below_step viB hb); have n1_ := Aside0.mk (hbox); have n2_ := Aside0.mk ((by rw [hg]; exact (below_size viB) : w.heap.size ≤ gb127)); have n3_ := Aside0.mk ((by rw [hg]; exact (below_size viB) : w.heap.size ≤ gb127)); clear HB; have HB := n0_; have BK127 := n1_; have GW127 := n2_; have GE127 := n3_; clear n0_ n1_ n2_ n3_; clear hb hbox hg) | ((with_reducible refine gate_callee (f := 70) rfl ?_); refine goesL_ (some 10) rfl rfl Try.func70 (by kernel_rfl) rfl #[.slice A1 l1.length c1] rfl (by (try simp only [List.map_toArray, List.map_cons, List.map_nil]); first | done | rfl | (simp only [List.length_drop, List.length_take]; rfl)) ?_; (with_reducible refine (nfa_some_uint64.calls _ _ l1 t128 _ ?side1 ?side2 A3.out).mono ?_); (case side1 => repeat (first | exact (Kd.C_below HR1.out HB.out) | (with_reducible refine Kd.C_alloc ?_ _) | (with_reducible refine Kd.C_drewN ?_ _) | (with_reducible refine Kd.C_drew ?_))); (case side2 => exact HC1.out); rintro e w5 ⟨v129, rfl, ho0, hb⟩; refine ⟨_, rfl, ?_⟩; have n0_ := Aside0.mk (Kd.R_lower ho0 (below_size viB)); have n1_ := Aside0.mk (blk_below (g := gb127) (o := .cells #[.int .i64 a0_0, .int .i64 a0_1, .int .i64 a0_2, .int .i64 a0_3, .slice A0_4 l0_4.length c0_4] 31 (0, 0)) (viK BK127.out) hb); have n2_ := Aside0.mk (below_step viB hb); clear BK127; clear HB; have HO130 := n0_; have BK127 := n1_; have HB := n2_; clear n0_ n1_ n2_; (try clear hb); (try clear hb2); (try clear hk); (try clear hi); (try clear ho0)))
  go_loopg [6] k (fun kq v6 w' => ∃ (x5_1 : List Int) (x6_1 : Bool), v6 = .bool x6_1 ∧ Aside0 (nfa_closed.l0 kq x5_1 x6_1 a0_0 a0_1 a0_2 a0_3 l0_4 = some r) ∧ Aside0 (kq ≤ k) ∧ Aside0 (Kd.R (Kd.int .u64) 115 w' w.heap.size (fun _ => True) v129 x5_1) ∧ Aside0 (w'.heap[gb127]? = some (.cells #[.int .i64 a0_0, .int .i64 a0_1, .int .i64 a0_2, .int .i64 a0_3, (.slice A0_4 l0_4.length c0_4)] 31 (0, 0))) ∧ Aside0 (Below w.heap.size w w'))
  case atStart => exact ⟨(t128), (true), (by first | rfl | (simp; done) | (simp [*]; done)), H', ⟨Nat.le_refl _⟩, ⟨viR HO130.out⟩, ⟨viK BK127.out⟩, ⟨viB⟩⟩
  case round =>
    clear H'
    try clear c1
    try clear p2
    try clear c4
    obtain ⟨x5_1, x6_1, rfl, HA, HK1, HO_5, BK127, HB⟩ := hrel
    cases gk with
    | zero => exact absurd HA.out (by simp [nfa_closed.l0])
    | succ k1 =>
      have H := HA.out
      clear HA
      simp only [nfa_closed.l0] at H
      by_cases c6 : x6_1 = true
      · subst c6
        have H1 : (nfa_closed.l1 k1 x5_1 false l0_4 (l0_4.length : Int) 0 a0_0 a0_1 a0_2 a0_3 l0_4) = some r := by rw [if_pos rfl] at H; exact H
        clear H
        have H := H1
        clear H1
        have H' := Aside0.mk H
        clear H
        have hcz7_0 : wr.cell? ⟨gb127, 0, none⟩ = some (.int .i64 a0_0) := (blk_cell BK127.out 0).trans rfl
        have hcz7_1 : wr.cell? ⟨gb127, 1, none⟩ = some (.int .i64 a0_1) := (blk_cell BK127.out 1).trans rfl
        have hcz7_2 : wr.cell? ⟨gb127, 2, none⟩ = some (.int .i64 a0_2) := (blk_cell BK127.out 2).trans rfl
        have hcz7_3 : wr.cell? ⟨gb127, 3, none⟩ = some (.int .i64 a0_3) := (blk_cell BK127.out 3).trans rfl
        have hcz7_4 : wr.cell? ⟨gb127, 4, none⟩ = some (.slice A0_4 l0_4.length c0_4) := (blk_cell BK127.out 4).trans rfl
        have hfz7_0 := blk_frozen BK127.out 0
        have hfz7_1 := blk_frozen BK127.out 1
        have hfz7_2 := blk_frozen BK127.out 2
        have hfz7_3 := blk_frozen BK127.out 3
        have hfz7_4 := blk_frozen BK127.out 4
        go_wp2
        go_loopg [6, 15] k1 (fun kq v6 v15 w' => ∃ (x5_2 : List Int) (x6_2 : Bool) (x15_2 : Int), v6 = .bool x6_2 ∧ v15 = .int .i64 x15_2 ∧ Aside0 (nfa_closed.l1 kq x5_2 x6_2 l0_4 (l0_4.length : Int) x15_2 a0_0 a0_1 a0_2 a0_3 l0_4 = some r) ∧ Aside0 (kq ≤ k1) ∧ Aside0 (Kd.R (Kd.int .u64) 115 w' w.heap.size (fun _ => True) v129 x5_2) ∧ Aside0 (w'.heap[gb127]? = some (.cells #[.int .i64 a0_0, .int .i64 a0_1, .int .i64 a0_2, .int .i64 a0_3, (.slice A0_4 l0_4.length c0_4)] 31 (0, 0))) ∧ Aside0 (Below w.heap.size w w'))
        case atStart => exact ⟨(x5_1), (false), (0), (by first | rfl | (simp; done) | (simp [*]; done)), (by first | rfl | (simp; done) | (simp [*]; done)), H', ⟨Nat.le_refl _⟩, ⟨viR HO_5.out⟩, ⟨viK BK127.out⟩, ⟨viB⟩⟩
        case round =>
          clear H'
          try clear c1
          try clear p2
          try clear c4
          try clear c6
          try clear c7
          try clear hcz7_0
          try clear hcz7_1
          try clear hcz7_2
          try clear hcz7_3
          try clear hcz7_4
          try clear hfz7_0
          try clear hfz7_1
          try clear hfz7_2
          try clear hfz7_3
          try clear hfz7_4
          try clear p2
          obtain ⟨x5_2, x6_2, x15_2, rfl, rfl, HA, HK2, HO_5, BK127, HB⟩ := hrel
          cases gk with
          | zero => exact absurd HA.out (by simp [nfa_closed.l1])
          | succ k2 =>
            have H := HA.out
            clear HA
            simp only [nfa_closed.l1] at H
            by_cases c8 : x15_2 < (l0_4.length : Int)
            · rw [if_pos c8] at H
              have c8b0 : decide (x15_2 < (l0_4.length : Int)) = true := decide_eq_true c8
              clear c8
              by_cases c9 : 0 ≤ x15_2
              · rw [if_pos c9] at H
                have c9b0 : decide (0 ≤ x15_2) = true := decide_eq_true c9
                clear c9
                by_cases c10 : x15_2 < (l0_4.length : Int)
                · rw [if_pos c10] at H
                  have c10b0 : decide (x15_2 < (l0_4.length : Int)) = true := decide_eq_true c10
                  clear c10
                  by_cases c11 : ((rd_T78 l0_4 x15_2).f1) = (-1)
                  · rw [if_pos c11] at H
                    have c11b0 : (((rd_T78 l0_4 x15_2).f1) == (-1)) = true := beq_iff_eq.mpr c11
                    have c11b1 : (((rd_T78 l0_4 x15_2).f1) != (-1)) = false := bne_eq_false_iff_eq.mpr c11
                    clear c11
                    replace H := Option.bind_eq_some_iff.mp H
                    obtain ⟨t133, A120, H⟩ := H
                    replace H : (if t133 = true then ((nfa_some_has.f x5_2 ((rd_T78 l0_4 x15_2).f2)).bind fun t134 => (if t134 = true then (nfa_closed.l1 k2 x5_2 x6_2 l0_4 (l0_4.length : Int) (wrap64 (x15_2 + 1)) a0_0 a0_1 a0_2 a0_3 l0_4) else ((nfa_some_put.f x5_2 ((rd_T78 l0_4 x15_2).f2)).bind fun t135 => (nfa_closed.l1 k2 t135 true l0_4 (l0_4.length : Int) (wrap64 (x15_2 + 1)) a0_0 a0_1 a0_2 a0_3 l0_4)))) else (nfa_closed.l1 k2 x5_2 x6_2 l0_4 (l0_4.length : Int) (wrap64 (x15_2 + 1)) a0_0 a0_1 a0_2 a0_3 l0_4)) = some r := H
                    have A12 := Aside0.mk A120
                    clear A120
                    by_cases c13 : t133 = true
                    · subst c13
                      have H1 : ((nfa_some_has.f x5_2 ((rd_T78 l0_4 x15_2).f2)).bind fun t134 => (if t134 = true then (nfa_closed.l1 k2 x5_2 x6_2 l0_4 (l0_4.length : Int) (wrap64 (x15_2 + 1)) a0_0 a0_1 a0_2 a0_3 l0_4) else ((nfa_some_put.f x5_2 ((rd_T78 l0_4 x15_2).f2)).bind fun t135 => (nfa_closed.l1 k2 t135 true l0_4 (l0_4.length : Int) (wrap64 (x15_2 + 1)) a0_0 a0_1 a0_2 a0_3 l0_4)))) = some r := by rw [if_pos rfl] at H; exact H
                      clear H
                      have H := H1
                      clear H1
                      replace H := Option.bind_eq_some_iff.mp H
                      obtain ⟨t134, A140, H⟩ := H
                      replace H : (if t134 = true then (nfa_closed.l1 k2 x5_2 x6_2 l0_4 (l0_4.length : Int) (wrap64 (x15_2 + 1)) a0_0 a0_1 a0_2 a0_3 l0_4) else ((nfa_some_put.f x5_2 ((rd_T78 l0_4 x15_2).f2)).bind fun t135 => (nfa_closed.l1 k2 t135 true l0_4 (l0_4.length : Int) (wrap64 (x15_2 + 1)) a0_0 a0_1 a0_2 a0_3 l0_4))) = some r := H
                      have A14 := Aside0.mk A140
                      clear A140
                      by_cases c15 : t134 = true
                      · subst c15
                        have H1 : (nfa_closed.l1 k2 x5_2 x6_2 l0_4 (l0_4.length : Int) (wrap64 (x15_2 + 1)) a0_0 a0_1 a0_2 a0_3 l0_4) = some r := by rw [if_pos rfl] at H; exact H
                        clear H
                        have H := H1
                        clear H1
                        have H' := Aside0.mk H
                        clear H
                        have p131 : 0 ≤ (x15_2 : Int) := viA
                        have q131 : x15_2 < (l0_4.length : Int) := viA
                        obtain ⟨ad131, e131, hx131_0, hx131_1, hx131_2⟩ := at_T78 HR0_4.out x15_2 p131 q131
                        cases e131
                        replace hx131_0 := (HB.out.cell (World.block_lt_of_cell? w _ hx131_0)).trans hx131_0
                        replace hx131_1 := (HB.out.cell (World.block_lt_of_cell? w _ hx131_1)).trans hx131_1
                        replace hx131_2 := (HB.out.cell (World.block_lt_of_cell? w _ hx131_2)).trans hx131_2
                        replace p131 := eq_true p131
                        replace q131 := eq_true q131
                        go_wp2_with (first | ((with_reducible refine gate_dst (N := 8) rfl ?_); refine box_event ?hg (N := 8) ?hd (cs := #[.int .i64 0, .int .i64 0, .int .i64 0]) (t := 78) ?hr ?_; (case hd => rfl); (case hg => rfl); (case hr => first | (go_simp; done) | (go_simp; rfl)); intro gb132 hg w16 hbox hb; have n0_ := Aside0.mk (Kd.R_below (viR HO_5.out) hb); have n1_ := Aside0.mk (blk_below (g := gb127) (o := .cells #[.int .i64 a0_0, .int .i64 a0_1, .int .i64 a0_2, .int .i64 a0_3, .slice (some ad131) l0_4.length c0_4] 31 (0, 0)) (viK BK127.out) hb); have n2_ := Aside0.mk (below_step viB hb); have n3_ := Aside0.mk (hbox); have n4_ := Aside0.mk ((by rw [hg]; exact (below_size viB) : w.heap.size ≤ gb132)); have n5_ := Aside0.mk ((by rw [hg]; exact (below_size viB) : w.heap.size ≤ gb132)); have n6_ := Aside0.mk ((by rw [hg]; exact Nat.ne_of_lt (blk_lt (g := gb127) (o := .cells #[.int .i64 a0_0, .int .i64 a0_1, .int .i64 a0_2, .int .i64 a0_3, .slice (some ad131) l0_4.length c0_4] 31 (0, 0)) (viK BK127.out)) : gb127 ≠ gb132)); have n7_ := Aside0.mk ((by rw [hg]; exact Nat.ne_of_gt (blk_lt (g := gb127) (o := .cells #[.int .i64 a0_0, .int .i64 a0_1, .int .i64 a0_2, .int .i64 a0_3, .slice (some ad131) l0_4.length c0_4] 31 (0, 0)) (viK BK127.out)) : gb132 ≠ gb127)); clear HO_5; clear BK127; clear HB; have HO_5 := n0_; have BK127 := n1_; have HB := n2_; have BK132 := n3_; have GW132 := n4_; have GE132 := n5_; have NB127_132 := n6_; have NB132_127 := n7_; clear n0_ n1_ n2_ n3_ n4_ n5_ n6_ n7_; clear hb hbox hg; have hnb17 := NB132_127.out; have hnc17 := NB127_132.out; have hcz18_0 : w16.cell? ⟨gb132, 0, none⟩ = some (.int .i64 0) := (blk_cell BK132.out 0).trans rfl; have hcz18_1 : w16.cell? ⟨gb132, 1, none⟩ = some (.int .i64 0) := (blk_cell BK132.out 1).trans rfl; have hcz18_2 : w16.cell? ⟨gb132, 2, none⟩ = some (.int .i64 0) := (blk_cell BK132.out 2).trans rfl; have hfz18_0 := blk_frozen BK132.out 0; have hfz18_1 := blk_frozen BK132.out 1; have hfz18_2 := blk_frozen BK132.out 2; obtain ⟨Ao19, co19, eo19⟩ := Kd.R_slice HO_5.out; subst eo19) | (go_at_call 43; (with_reducible refine (nfa_some_has.calls _ _ x5_2 ((rd_T78 l0_4 x15_2).f0) true _ ?side1 ?side2 A12.out).mono ?_); (case side1 => refine (Kd.R_reads' (e := 115) (base := w.heap.size) (ok := fun k_ => True) (n := x5_2.length) (c := co19) ?_).2.2; exact (by refine viR ?_; exact (Kd.R_mono (Kd.R_far (p := ⟨gb132, 2, none⟩) (Kd.R_far (p := ⟨gb132, 1, none⟩) (Kd.R_far (p := ⟨gb132, 0, none⟩) (Kd.R_types HO_5.out BK132.out (by decide)) (fun _ hk => hk.2) (.int .i64 ((rd_T78 l0_4 x15_2).f0))) (fun _ hk => hk.2) (.int .i64 ((rd_T78 l0_4 x15_2).f1))) (fun _ hk => hk.2) (.int .i64 ((rd_T78 l0_4 x15_2).f2))) (fun _ h_ => h_.1)))); (case side2 => exact (Kd.R_reads' HO_5.out).2.1); rintro e w' ⟨rfl, ⟨nd, rfl⟩⟩) | (go_at_call 43; (with_reducible refine (nfa_some_has.calls _ _ x5_2 ((rd_T78 l0_4 x15_2).f2) true _ ?side1 ?side2 A14.out).mono ?_); (case side1 => refine (Kd.R_reads' (e := 115) (base := w.heap.size) (ok := fun k_ => True) (n := x5_2.length) (c := co19) ?_).2.2; exact (by refine viR ?_; exact (Kd.R_mono (Kd.R_far (p := ⟨gb132, 2, none⟩) (Kd.R_far (p := ⟨gb132, 1, none⟩) (Kd.R_far (p := ⟨gb132, 0, none⟩) (Kd.R_types HO_5.out BK132.out (by decide)) (fun _ hk => hk.2) (.int .i64 ((rd_T78 l0_4 x15_2).f0))) (fun _ hk => hk.2) (.int .i64 ((rd_T78 l0_4 x15_2).f1))) (fun _ hk => hk.2) (.int .i64 ((rd_T78 l0_4 x15_2).f2))) (fun _ h_ => h_.1)))); (case side2 => exact (Kd.R_reads' HO_5.out).2.1); rintro e w' ⟨rfl, ⟨nd, rfl⟩⟩))
                        go_roundg k2
                        case measure => have := HK1.out; have := HK2.out; omega
                        case rel => exact ⟨(x5_2), (x6_2), (wrap64 (x15_2 + 1)), (by first | rfl | (simp; done) | (simp [*]; done)), (by first | rfl | (simp; done) | (simp [*]; done)), H', ⟨by have := HK1.out; have := HK2.out; omega⟩, ⟨by refine viR ?_; exact Kd.R_mono (Kd.R_far (p := ⟨gb132, 2, none⟩) (Kd.R_far (p := ⟨gb132, 1, none⟩) (Kd.R_far (p := ⟨gb132, 0, none⟩) (Kd.R_types HO_5.out BK132.out (by decide)) (fun _ hk => hk.2) (.int .i64 ((rd_T78 l0_4 x15_2).f0))) (fun _ hk => hk.2) (.int .i64 ((rd_T78 l0_4 x15_2).f1))) (fun _ hk => hk.2) (.int .i64 ((rd_T78 l0_4 x15_2).f2))) (fun _ hk => trivial)⟩, ⟨by refine viK ?_; refine blk_far ?_ NB127_132.out _; refine viK ?_; refine blk_far ?_ NB127_132.out _; refine viK ?_; refine blk_far ?_ NB127_132.out _; refine viK ?_; exact BK127.out⟩, ⟨viB⟩⟩
                      · replace c15 := Bool.eq_false_iff.mpr c15
                        subst c15
                        have H1 : ((nfa_some_put.f x5_2 ((rd_T78 l0_4 x15_2).f2)).bind fun t135 => (nfa_closed.l1 k2 t135 true l0_4 (l0_4.length : Int) (wrap64 (x15_2 + 1)) a0_0 a0_1 a0_2 a0_3 l0_4)) = some r := by rw [if_neg (show ¬ (false = true) by decide)] at H; exact H
                        clear H
                        have H := H1
                        clear H1
                        replace H := Option.bind_eq_some_iff.mp H
                        obtain ⟨t135, A200, H⟩ := H
                        replace H : (nfa_closed.l1 k2 t135 true l0_4 (l0_4.length : Int) (wrap64 (x15_2 + 1)) a0_0 a0_1 a0_2 a0_3 l0_4) = some r := H
                        have A20 := Aside0.mk A200
                        clear A200
                        have H' := Aside0.mk H
                        clear H
                        have p131 : 0 ≤ (x15_2 : Int) := viA
                        have q131 : x15_2 < (l0_4.length : Int) := viA
                        obtain ⟨ad131, e131, hx131_0, hx131_1, hx131_2⟩ := at_T78 HR0_4.out x15_2 p131 q131
                        cases e131
                        replace hx131_0 := (HB.out.cell (World.block_lt_of_cell? w _ hx131_0)).trans hx131_0
                        replace hx131_1 := (HB.out.cell (World.block_lt_of_cell? w _ hx131_1)).trans hx131_1
                        replace hx131_2 := (HB.out.cell (World.block_lt_of_cell? w _ hx131_2)).trans hx131_2
                        replace p131 := eq_true p131
                        replace q131 := eq_true q131
                        go_wp2_with (first | ((with_reducible refine gate_dst (N := 8) rfl ?_); refine box_event ?hg (N := 8) ?hd (cs := #[.int .i64 0, .int .i64 0, .int .i64 0]) (t := 78) ?hr ?_; (case hd => rfl); (case hg => rfl); (case hr => first | (go_simp; done) | (go_simp; rfl)); intro gb132 hg w21 hbox hb; have n0_ := Aside0.mk (Kd.R_below (viR HO_5.out) hb); have n1_ := Aside0.mk (blk_below (g := gb127) (o := .cells #[.int .i64 a0_0, .int .i64 a0_1, .int .i64 a0_2, .int .i64 a0_3, .slice (some ad131) l0_4.length c0_4] 31 (0, 0)) (viK BK127.out) hb); have n2_ := Aside0.mk (below_step viB hb); have n3_ := Aside0.mk (hbox); have n4_ := Aside0.mk ((by rw [hg]; exact (below_size viB) : w.heap.size ≤ gb132)); have n5_ := Aside0.mk ((by rw [hg]; exact (below_size viB) : w.heap.size ≤ gb132)); have n6_ := Aside0.mk ((by rw [hg]; exact Nat.ne_of_lt (blk_lt (g := gb127) (o := .cells #[.int .i64 a0_0, .int .i64 a0_1, .int .i64 a0_2, .int .i64 a0_3, .slice (some ad131) l0_4.length c0_4] 31 (0, 0)) (viK BK127.out)) : gb127 ≠ gb132)); have n7_ := Aside0.mk ((by rw [hg]; exact Nat.ne_of_gt (blk_lt (g := gb127) (o := .cells #[.int .i64 a0_0, .int .i64 a0_1, .int .i64 a0_2, .int .i64 a0_3, .slice (some ad131) l0_4.length c0_4] 31 (0, 0)) (viK BK127.out)) : gb132 ≠ gb127)); clear HO_5; clear BK127; clear HB; have HO_5 := n0_; have BK127 := n1_; have HB := n2_; have BK132 := n3_; have GW132 := n4_; have GE132 := n5_; have NB127_132 := n6_; have NB132_127 := n7_; clear n0_ n1_ n2_ n3_ n4_ n5_ n6_ n7_; clear hb hbox hg; have hnb22 := NB132_127.out; have hnc22 := NB127_132.out; have hcz23_0 : w21.cell? ⟨gb132, 0, none⟩ = some (.int .i64 0) := (blk_cell BK132.out 0).trans rfl; have hcz23_1 : w21.cell? ⟨gb132, 1, none⟩ = some (.int .i64 0) := (blk_cell BK132.out 1).trans rfl; have hcz23_2 : w21.cell? ⟨gb132, 2, none⟩ = some (.int .i64 0) := (blk_cell BK132.out 2).trans rfl; have hfz23_0 := blk_frozen BK132.out 0; have hfz23_1 := blk_frozen BK132.out 1; have hfz23_2 := blk_frozen BK132.out 2) | ((with_reducible refine gate_store (t := 78) (p := 8) rfl ?_); refine store_event (t := 78) (p := 8) (v := ?vo_w24) (w1 := (((w21.setCell ⟨gb132, 0, none⟩ (.int .i64 ((rd_T78 l0_4 x15_2).f0))).setCell ⟨gb132, 1, none⟩ (.int .i64 ((rd_T78 l0_4 x15_2).f1))).setCell ⟨gb132, 2, none⟩ (.int .i64 ((rd_T78 l0_4 x15_2).f2)))) ?hg ?ho ?hn ?hr ?_; (case ho => rfl); (case hg => rfl); (case hn => rfl); (case hr => first | (go_simp; done) | (go_simp; rfl)); intro w24 hw; have n0_ : Aside0 (Kd.R (Kd.int .u64) 115 w24 w.heap.size (fun _ => True) v129 x5_2) := ⟨(by rw [hw]; exact (by refine viR ?_; exact Kd.R_mono (Kd.R_far (p := ⟨gb132, 2, none⟩) (Kd.R_far (p := ⟨gb132, 1, none⟩) (Kd.R_far (p := ⟨gb132, 0, none⟩) (Kd.R_types HO_5.out BK132.out (by decide)) (fun _ hk => hk.2) (.int .i64 ((rd_T78 l0_4 x15_2).f0))) (fun _ hk => hk.2) (.int .i64 ((rd_T78 l0_4 x15_2).f1))) (fun _ hk => hk.2) (.int .i64 ((rd_T78 l0_4 x15_2).f2))) (fun _ hk => trivial)))⟩; have n1_ : Aside0 (w24.heap[gb127]? = some (.cells #[.int .i64 a0_0, .int .i64 a0_1, .int .i64 a0_2, .int .i64 a0_3, .slice (some ad131) l0_4.length c0_4] 31 (0, 0))) := ⟨(by rw [hw]; exact (by refine viK ?_; refine blk_far ?_ NB127_132.out _; refine viK ?_; refine blk_far ?_ NB127_132.out _; refine viK ?_; refine blk_far ?_ NB127_132.out _; refine viK ?_; exact BK127.out))⟩; have n2_ : Aside0 (w24.heap[gb132]? = some (.cells #[.int .i64 ((rd_T78 l0_4 x15_2).f0), .int .i64 ((rd_T78 l0_4 x15_2).f1), .int .i64 ((rd_T78 l0_4 x15_2).f2)] 78 (0, 0))) := ⟨(by rw [hw]; exact (by refine viK ?_; refine blk_put (cs := #[.int .i64 ((rd_T78 l0_4 x15_2).f0), .int .i64 ((rd_T78 l0_4 x15_2).f1), .int .i64 0]) ?_ 2 _ rfl; refine viK ?_; refine blk_put (cs := #[.int .i64 ((rd_T78 l0_4 x15_2).f0), .int .i64 0, .int .i64 0]) ?_ 1 _ rfl; refine viK ?_; refine blk_put (cs := #[.int .i64 0, .int .i64 0, .int .i64 0]) ?_ 0 _ rfl; refine viK ?_; exact BK132.out))⟩; have n3_ : Aside0 (Below w.heap.size w w24) := ⟨(by rw [hw]; exact viB)⟩; clear hw; clear HO_5; clear BK127; clear BK132; clear HB; have HO_5 := n0_; have BK127 := n1_; have BK132 := n2_; have HB := n3_; clear n0_ n1_ n2_ n3_; have hcz25_0 : w24.cell? ⟨gb132, 0, none⟩ = some (.int .i64 ((rd_T78 l0_4 x15_2).f0)) := (blk_cell BK132.out 0).trans rfl; have hcz25_1 : w24.cell? ⟨gb132, 1, none⟩ = some (.int .i64 ((rd_T78 l0_4 x15_2).f1)) := (blk_cell BK132.out 1).trans rfl; have hcz25_2 : w24.cell? ⟨gb132, 2, none⟩ = some (.int .i64 ((rd_T78 l0_4 x15_2).f2)) := (blk_cell BK132.out 2).trans rfl; have hfz25_0 := blk_frozen BK132.out 0; have hfz25_1 := blk_frozen BK132.out 1; have hfz25_2 := blk_frozen BK132.out 2; obtain ⟨Ao26, co26, eo26⟩ := Kd.R_slice HO_5.out; subst eo26) | (go_at_call 43; (with_reducible refine (nfa_some_has.calls _ _ x5_2 ((rd_T78 l0_4 x15_2).f0) true _ ?side1 ?side2 A12.out).mono ?_); (case side1 => repeat (first | exact (Kd.R_reads' HO_5.out).2.2 | (with_reducible refine Kd.C_alloc ?_ _) | (with_reducible refine Kd.C_drewN ?_ _) | (with_reducible refine Kd.C_drew ?_))); (case side2 => exact (Kd.R_reads' HO_5.out).2.1); rintro e w' ⟨rfl, ⟨nd, rfl⟩⟩) | (go_at_call 43; (with_reducible refine (nfa_some_has.calls _ _ x5_2 ((rd_T78 l0_4 x15_2).f2) false _ ?side1 ?side2 A14.out).mono ?_); (case side1 => repeat (first | exact (Kd.R_reads' HO_5.out).2.2 | (with_reducible refine Kd.C_alloc ?_ _) | (with_reducible refine Kd.C_drewN ?_ _) | (with_reducible refine Kd.C_drew ?_))); (case side2 => exact (Kd.R_reads' HO_5.out).2.1); rintro e w' ⟨rfl, ⟨nd, rfl⟩⟩) | ((with_reducible refine gate_callee (f := 40) rfl ?_); refine goesL_ (some 38) rfl rfl Try.func40 (by kernel_rfl) rfl #[.slice Ao26 x5_2.length co26, .int .i64 ((rd_T78 l0_4 x15_2).f2)] rfl (by (try simp only [List.map_toArray, List.map_cons, List.map_nil]); first | done | rfl | (simp only [List.length_drop, List.length_take]; rfl)) ?_; (with_reducible refine (nfa_some_put.calls (fun k_ => some k_ = (.slice Ao26 x5_2.length co26 : Value).ownBlock) (.slice Ao26 x5_2.length co26) x5_2 ((rd_T78 l0_4 x15_2).f2) t135 w _ ?side1 ?side2 A20.out).mono ?_); (case side1 => repeat (first | (with_reducible first | exact HB.out | apply below_alloc | apply pw_below_drewN | apply below_drew1 | refine below_set ?_ GE127.out | refine below_set ?_ GE132.out) | exact HB.out)); (case side2 => exact Kd.R_tight rfl HO_5.out); rintro e w27 ⟨rfl, hy0, hb, hkp⟩; refine ⟨_, rfl, ?_⟩; have n0_ := Aside0.mk (Kd.R_reok rfl hy0 (fun k_ e_ => HO_5.out.1 k_ e_)); have n1_ := Aside0.mk (blk_kept (viK BK127.out) hkp (fun hs_ => (fun e_ => (Kd.R_ne HO_5.out BK127.out (by decide)) e_) hs_)); have n2_ := Aside0.mk (blk_kept (viK BK132.out) hkp (fun hs_ => (fun e_ => (Kd.R_ne HO_5.out BK132.out (by decide)) e_) hs_)); have n3_ := Aside0.mk (hb); clear HO_5; clear BK127; clear BK132; clear HB; have HO_5 := n0_; have BK127 := n1_; have BK132 := n2_; have HB := n3_; clear n0_ n1_ n2_ n3_; (try clear hb); (try clear hkp); (try clear hy0)))
                        go_roundg k2
                        case measure => have := HK1.out; have := HK2.out; omega
                        case rel => exact ⟨(t135), (true), (wrap64 (x15_2 + 1)), (by first | rfl | (simp; done) | (simp [*]; done)), (by first | rfl | (simp; done) | (simp [*]; done)), H', ⟨by have := HK1.out; have := HK2.out; omega⟩, ⟨viR HO_5.out⟩, ⟨viK BK127.out⟩, ⟨viB⟩⟩
                    · replace c13 := Bool.eq_false_iff.mpr c13
                      subst c13
                      have H1 : (nfa_closed.l1 k2 x5_2 x6_2 l0_4 (l0_4.length : Int) (wrap64 (x15_2 + 1)) a0_0 a0_1 a0_2 a0_3 l0_4) = some r := by rw [if_neg (show ¬ (false = true) by decide)] at H; exact H
                      clear H
                      have H := H1
                      clear H1
                      have H' := Aside0.mk H
                      clear H
                      have p131 : 0 ≤ (x15_2 : Int) := viA
                      have q131 : x15_2 < (l0_4.length : Int) := viA
                      obtain ⟨ad131, e131, hx131_0, hx131_1, hx131_2⟩ := at_T78 HR0_4.out x15_2 p131 q131
                      cases e131
                      replace hx131_0 := (HB.out.cell (World.block_lt_of_cell? w _ hx131_0)).trans hx131_0
                      replace hx131_1 := (HB.out.cell (World.block_lt_of_cell? w _ hx131_1)).trans hx131_1
                      replace hx131_2 := (HB.out.cell (World.block_lt_of_cell? w _ hx131_2)).trans hx131_2
                      replace p131 := eq_true p131
                      replace q131 := eq_true q131
                      go_wp2_with (first | ((with_reducible refine gate_dst (N := 8) rfl ?_); refine box_event ?hg (N := 8) ?hd (cs := #[.int .i64 0, .int .i64 0, .int .i64 0]) (t := 78) ?hr ?_; (case hd => rfl); (case hg => rfl); (case hr => first | (go_simp; done) | (go_simp; rfl)); intro gb132 hg w28 hbox hb; have n0_ := Aside0.mk (Kd.R_below (viR HO_5.out) hb); have n1_ := Aside0.mk (blk_below (g := gb127) (o := .cells #[.int .i64 a0_0, .int .i64 a0_1, .int .i64 a0_2, .int .i64 a0_3, .slice (some ad131) l0_4.length c0_4] 31 (0, 0)) (viK BK127.out) hb); have n2_ := Aside0.mk (below_step viB hb); have n3_ := Aside0.mk (hbox); have n4_ := Aside0.mk ((by rw [hg]; exact (below_size viB) : w.heap.size ≤ gb132)); have n5_ := Aside0.mk ((by rw [hg]; exact (below_size viB) : w.heap.size ≤ gb132)); have n6_ := Aside0.mk ((by rw [hg]; exact Nat.ne_of_lt (blk_lt (g := gb127) (o := .cells #[.int .i64 a0_0, .int .i64 a0_1, .int .i64 a0_2, .int .i64 a0_3, .slice (some ad131) l0_4.length c0_4] 31 (0, 0)) (viK BK127.out)) : gb127 ≠ gb132)); have n7_ := Aside0.mk ((by rw [hg]; exact Nat.ne_of_gt (blk_lt (g := gb127) (o := .cells #[.int .i64 a0_0, .int .i64 a0_1, .int .i64 a0_2, .int .i64 a0_3, .slice (some ad131) l0_4.length c0_4] 31 (0, 0)) (viK BK127.out)) : gb132 ≠ gb127)); clear HO_5; clear BK127; clear HB; have HO_5 := n0_; have BK127 := n1_; have HB := n2_; have BK132 := n3_; have GW132 := n4_; have GE132 := n5_; have NB127_132 := n6_; have NB132_127 := n7_; clear n0_ n1_ n2_ n3_ n4_ n5_ n6_ n7_; clear hb hbox hg; have hnb29 := NB132_127.out; have hnc29 := NB127_132.out; have hcz30_0 : w28.cell? ⟨gb132, 0, none⟩ = some (.int .i64 0) := (blk_cell BK132.out 0).trans rfl; have hcz30_1 : w28.cell? ⟨gb132, 1, none⟩ = some (.int .i64 0) := (blk_cell BK132.out 1).trans rfl; have hcz30_2 : w28.cell? ⟨gb132, 2, none⟩ = some (.int .i64 0) := (blk_cell BK132.out 2).trans rfl; have hfz30_0 := blk_frozen BK132.out 0; have hfz30_1 := blk_frozen BK132.out 1; have hfz30_2 := blk_frozen BK132.out 2; obtain ⟨Ao31, co31, eo31⟩ := Kd.R_slice HO_5.out; subst eo31) | (go_at_call 43; (with_reducible refine (nfa_some_has.calls _ _ x5_2 ((rd_T78 l0_4 x15_2).f0) false _ ?side1 ?side2 A12.out).mono ?_); (case side1 => refine (Kd.R_reads' (e := 115) (base := w.heap.size) (ok := fun k_ => True) (n := x5_2.length) (c := co31) ?_).2.2; exact (by refine viR ?_; exact (Kd.R_mono (Kd.R_far (p := ⟨gb132, 2, none⟩) (Kd.R_far (p := ⟨gb132, 1, none⟩) (Kd.R_far (p := ⟨gb132, 0, none⟩) (Kd.R_types HO_5.out BK132.out (by decide)) (fun _ hk => hk.2) (.int .i64 ((rd_T78 l0_4 x15_2).f0))) (fun _ hk => hk.2) (.int .i64 ((rd_T78 l0_4 x15_2).f1))) (fun _ hk => hk.2) (.int .i64 ((rd_T78 l0_4 x15_2).f2))) (fun _ h_ => h_.1)))); (case side2 => exact (Kd.R_reads' HO_5.out).2.1); rintro e w' ⟨rfl, ⟨nd, rfl⟩⟩))
                      go_roundg k2
                      case measure => have := HK1.out; have := HK2.out; omega
                      case rel => exact ⟨(x5_2), (x6_2), (wrap64 (x15_2 + 1)), (by first | rfl | (simp; done) | (simp [*]; done)), (by first | rfl | (simp; done) | (simp [*]; done)), H', ⟨by have := HK1.out; have := HK2.out; omega⟩, ⟨by refine viR ?_; exact Kd.R_mono (Kd.R_far (p := ⟨gb132, 2, none⟩) (Kd.R_far (p := ⟨gb132, 1, none⟩) (Kd.R_far (p := ⟨gb132, 0, none⟩) (Kd.R_types HO_5.out BK132.out (by decide)) (fun _ hk => hk.2) (.int .i64 ((rd_T78 l0_4 x15_2).f0))) (fun _ hk => hk.2) (.int .i64 ((rd_T78 l0_4 x15_2).f1))) (fun _ hk => hk.2) (.int .i64 ((rd_T78 l0_4 x15_2).f2))) (fun _ hk => trivial)⟩, ⟨by refine viK ?_; refine blk_far ?_ NB127_132.out _; refine viK ?_; refine blk_far ?_ NB127_132.out _; refine viK ?_; refine blk_far ?_ NB127_132.out _; refine viK ?_; exact BK127.out⟩, ⟨viB⟩⟩
                  · rw [if_neg c11] at H
                    have c11b0 : (((rd_T78 l0_4 x15_2).f1) == (-1)) = false := beq_eq_false_iff_ne.mpr c11
                    have c11b1 : (((rd_T78 l0_4 x15_2).f1) != (-1)) = true := bne_iff_ne.mpr c11
                    have H' := Aside0.mk H
                    clear H
                    have p131 : 0 ≤ (x15_2 : Int) := viA
                    have q131 : x15_2 < (l0_4.length : Int) := viA
                    obtain ⟨ad131, e131, hx131_0, hx131_1, hx131_2⟩ := at_T78 HR0_4.out x15_2 p131 q131
                    cases e131
                    replace hx131_0 := (HB.out.cell (World.block_lt_of_cell? w _ hx131_0)).trans hx131_0
                    replace hx131_1 := (HB.out.cell (World.block_lt_of_cell? w _ hx131_1)).trans hx131_1
                    replace hx131_2 := (HB.out.cell (World.block_lt_of_cell? w _ hx131_2)).trans hx131_2
                    replace p131 := eq_true p131
                    replace q131 := eq_true q131
                    go_wp2_with (first | ((with_reducible refine gate_dst (N := 8) rfl ?_); refine box_event ?hg (N := 8) ?hd (cs := #[.int .i64 0, .int .i64 0, .int .i64 0]) (t := 78) ?hr ?_; (case hd => rfl); (case hg => rfl); (case hr => first | (go_simp; done) | (go_simp; rfl)); intro gb132 hg w32 hbox hb; have n0_ := Aside0.mk (Kd.R_below (viR HO_5.out) hb); have n1_ := Aside0.mk (blk_below (g := gb127) (o := .cells #[.int .i64 a0_0, .int .i64 a0_1, .int .i64 a0_2, .int .i64 a0_3, .slice (some ad131) l0_4.length c0_4] 31 (0, 0)) (viK BK127.out) hb); have n2_ := Aside0.mk (below_step viB hb); have n3_ := Aside0.mk (hbox); have n4_ := Aside0.mk ((by rw [hg]; exact (below_size viB) : w.heap.size ≤ gb132)); have n5_ := Aside0.mk ((by rw [hg]; exact (below_size viB) : w.heap.size ≤ gb132)); have n6_ := Aside0.mk ((by rw [hg]; exact Nat.ne_of_lt (blk_lt (g := gb127) (o := .cells #[.int .i64 a0_0, .int .i64 a0_1, .int .i64 a0_2, .int .i64 a0_3, .slice (some ad131) l0_4.length c0_4] 31 (0, 0)) (viK BK127.out)) : gb127 ≠ gb132)); have n7_ := Aside0.mk ((by rw [hg]; exact Nat.ne_of_gt (blk_lt (g := gb127) (o := .cells #[.int .i64 a0_0, .int .i64 a0_1, .int .i64 a0_2, .int .i64 a0_3, .slice (some ad131) l0_4.length c0_4] 31 (0, 0)) (viK BK127.out)) : gb132 ≠ gb127)); clear HO_5; clear BK127; clear HB; have HO_5 := n0_; have BK127 := n1_; have HB := n2_; have BK132 := n3_; have GW132 := n4_; have GE132 := n5_; have NB127_132 := n6_; have NB132_127 := n7_; clear n0_ n1_ n2_ n3_ n4_ n5_ n6_ n7_; clear hb hbox hg; have hnb33 := NB132_127.out; have hnc33 := NB127_132.out; have hcz34_0 : w32.cell? ⟨gb132, 0, none⟩ = some (.int .i64 0) := (blk_cell BK132.out 0).trans rfl; have hcz34_1 : w32.cell? ⟨gb132, 1, none⟩ = some (.int .i64 0) := (blk_cell BK132.out 1).trans rfl; have hcz34_2 : w32.cell? ⟨gb132, 2, none⟩ = some (.int .i64 0) := (blk_cell BK132.out 2).trans rfl; have hfz34_0 := blk_frozen BK132.out 0; have hfz34_1 := blk_frozen BK132.out 1; have hfz34_2 := blk_frozen BK132.out 2))
                    go_roundg k2
                    case measure => have := HK1.out; have := HK2.out; omega
                    case rel => exact ⟨(x5_2), (x6_2), (wrap64 (x15_2 + 1)), (by first | rfl | (simp; done) | (simp [*]; done)), (by first | rfl | (simp; done) | (simp [*]; done)), H', ⟨by have := HK1.out; have := HK2.out; omega⟩, ⟨by refine viR ?_; exact Kd.R_mono (Kd.R_far (p := ⟨gb132, 2, none⟩) (Kd.R_far (p := ⟨gb132, 1, none⟩) (Kd.R_far (p := ⟨gb132, 0, none⟩) (Kd.R_types HO_5.out BK132.out (by decide)) (fun _ hk => hk.2) (.int .i64 ((rd_T78 l0_4 x15_2).f0))) (fun _ hk => hk.2) (.int .i64 ((rd_T78 l0_4 x15_2).f1))) (fun _ hk => hk.2) (.int .i64 ((rd_T78 l0_4 x15_2).f2))) (fun _ hk => trivial)⟩, ⟨by refine viK ?_; refine blk_far ?_ NB127_132.out _; refine viK ?_; refine blk_far ?_ NB127_132.out _; refine viK ?_; refine blk_far ?_ NB127_132.out _; refine viK ?_; exact BK127.out⟩, ⟨viB⟩⟩
                · rw [if_neg c10] at H
                  exact absurd H (by simp)
              · rw [if_neg c9] at H
                exact absurd H (by simp)
            · rw [if_neg c8] at H
              have c8b0 : decide (x15_2 < (l0_4.length : Int)) = false := decide_eq_false c8
              clear c8
              have H' := Aside0.mk H
              clear H
              go_wp2
              go_roundg k2
              case measure => have := HK1.out; have := HK2.out; omega
              case rel => exact ⟨(x5_2), (x6_2), (by first | rfl | (simp; done) | (simp [*]; done)), H', ⟨by have := HK1.out; have := HK2.out; omega⟩, ⟨viR HO_5.out⟩, ⟨viK BK127.out⟩, ⟨viB⟩⟩
      · replace c6 := Bool.eq_false_iff.mpr c6
        subst c6
        have H1 : (some x5_1) = some r := by rw [if_neg (show ¬ (false = true) by decide)] at H; exact H
        clear H
        have H := H1
        clear H1
        obtain rfl := Option.some.inj H
        go_wp2
        go_ret
        exact ⟨_, by first | rfl | (simp [errW_none, errW_some] <;> rfl) | (simp [*, errW_none, errW_some] <;> rfl), viR HO_5.out, viB⟩
def nfa_empty.f (a0 : Int) : Option (List Int) := if 0 ≤ (wrap64 (Int.tdiv (wrap64 (a0 + 63)) 64)) then (if (wrap64 (Int.tdiv (wrap64 (a0 + 63)) 64) : Int).toNat ≤ 35184372088832 then (some (List.replicate (wrap64 (Int.tdiv (wrap64 (a0 + 63)) 64) : Int).toNat 0)) else (none)) else (none)
set_option maxHeartbeats 8000000 in
set_option maxRecDepth 100000 in
theorem nfa_empty.calls (a0 : Int) (r : List Int) (w : World) (h : nfa_empty.f a0 = some r) :
    Calls Try.prog 54 #[.int .i64 a0] w fun e w' => ∃ v0_ : Value, e = .returned (v0_) ∧ Kd.R (Kd.int .u64) 115 w' w.heap.size (fun _ => True) v0_ r ∧ Below w.heap.size w w' := by
  have HB := Aside0.mk (Below.refl w.heap.size w)
  have H : (if 0 ≤ (wrap64 (Int.tdiv (wrap64 (a0 + 63)) 64)) then (if (wrap64 (Int.tdiv (wrap64 (a0 + 63)) 64) : Int).toNat ≤ 35184372088832 then (some (List.replicate (wrap64 (Int.tdiv (wrap64 (a0 + 63)) 64) : Int).toNat 0)) else (none)) else (none)) = some r := h
  clear h
  obtain ⟨ji2, hji2⟩ : ∃ j_ : Int, (wrap64 (Int.tdiv (wrap64 (a0 + 63)) 64)) = j_ := ⟨_, rfl⟩
  replace H : (if 0 ≤ (ji2) then (if (ji2 : Int).toNat ≤ 35184372088832 then (some (List.replicate (ji2 : Int).toNat 0)) else (none)) else (none)) = some r := by first | (rw [hji2] at H; exact H) | (simp only [hji2] at H ⊢; exact H)
  have hji2w : (IntKind.i64.wrap (Int.tdiv (wrap64 (a0 + 63)) 64)) = ji2 := (i64_w _).trans hji2
  by_cases c3 : 0 ≤ (ji2)
  · rw [if_pos c3] at H
    have c3b0 := eq_true c3
    have c3b1 : decide (0 ≤ (ji2)) = true := decide_eq_true c3
    clear c3
    by_cases c4 : (ji2 : Int).toNat ≤ 35184372088832
    · rw [if_pos c4] at H
      have c4b0 := eq_true c4
      have c4b1 : decide ((ji2 : Int).toNat ≤ 35184372088832) = true := decide_eq_true c4
      clear c4
      obtain ⟨y136, hy136⟩ : ∃ y_ : List Int, y_ = (List.replicate (ji2 : Int).toNat 0) := ⟨_, rfl⟩
      replace H : (some y136) = some r := by first | (rw [hy136]; with_reducible exact H) | (have H2_ := (Option.bind_some _ _).symm.trans H; rw [hy136]; with_reducible exact H2_) | (have H2_ := (Option.bind_some _ _).symm.trans H; with_reducible exact H2_) | with_reducible exact H | (rw [hy136]; exact H) | exact H
      have Ny136 := Aside0.mk hy136
      clear hy136
      obtain rfl := Option.some.inj H
      go_enter Try.func54, Try.ntmps54
      go_wp2_with (first | ((with_reducible refine gate_dst (N := 6) rfl ?_); refine Kd.R_make (Kd.int .u64) _ 115 rfl (N := 6) rfl 80 _ _ rfl ji2 rfl rfl Try.underlying80 (.int .u64 0) 8 info115 rfl (by decide) (by omega) 0 (ok := fun _ => True) (okp := fun _ => True) rfl (fun _ hk => hk) trivial viA (Nat.le_trans (Nat.mul_le_mul_right _ (viA : ji2.toNat ≤ 35184372088832)) (by omega)) (Below.refl _ _) (Nat.le_refl _) ?_; intro v137 w5 ho6 hb hg_ hnew_; clear hg_ hnew_; (first | rw [← Ny136.out] at ho6 | (simp only [Int.reduceToNat] at ho6; rw [← Ny136.out] at ho6)); have n0_ := Aside0.mk (Kd.R_lower ho6 (below_size viB)); have n1_ := Aside0.mk (below_step viB hb); clear HB; have HO138 := n0_; have HB := n1_; clear n0_ n1_; clear hb ho6))
      go_ret
      exact ⟨_, by first | rfl | (simp [errW_none, errW_some] <;> rfl) | (simp only [← hji2]; first | rfl | (simp [errW_none, errW_some] <;> rfl)) | (simp [*, errW_none, errW_some] <;> rfl), viR HO138.out, viB⟩
    · rw [if_neg c4] at H
      exact absurd H (by simp)
  · rw [if_neg c3] at H
    exact absurd H (by simp)
def nfa_step.l0 : Nat → Int → List Int → List Int → List (S78) → Int → Int → Int → Int → Int → Int → List (S78) → Option (List Int)
  | 0, _, _, _, _, _, _, _, _, _, _, _ => none
  | k + 1, x1, x2, x7, x17, x18, x19, x140000, x140001, x140002, x140003, x140004 => if x19 < x18 then (if 0 ≤ x19 then (if x19 < (x17.length : Int) then (if ((rd_T78 x17 x19).f1) = x1 then ((nfa_some_has.f x2 ((rd_T78 x17 x19).f0)).bind fun t151 => (if t151 = true then ((nfa_some_put.f x7 ((rd_T78 x17 x19).f2)).bind fun t152 => (nfa_step.l0 k x1 x2 t152 x17 x18 (wrap64 (x19 + 1)) x140000 x140001 x140002 x140003 x140004)) else (nfa_step.l0 k x1 x2 x7 x17 x18 (wrap64 (x19 + 1)) x140000 x140001 x140002 x140003 x140004))) else (if ((rd_T78 x17 x19).f1) = (-2) then ((nfa_some_has.f x2 ((rd_T78 x17 x19).f0)).bind fun t153 => (if t153 = true then ((nfa_some_put.f x7 ((rd_T78 x17 x19).f2)).bind fun t154 => (nfa_step.l0 k x1 x2 t154 x17 x18 (wrap64 (x19 + 1)) x140000 x140001 x140002 x140003 x140004)) else (nfa_step.l0 k x1 x2 x7 x17 x18 (wrap64 (x19 + 1)) x140000 x140001 x140002 x140003 x140004))) else (nfa_step.l0 k x1 x2 x7 x17 x18 (wrap64 (x19 + 1)) x140000 x140001 x140002 x140003 x140004))) else (none)) else (none)) else ((nfa_closed.f k x140000 x140001 x140002 x140003 x140004 x7).bind fun t146 => (some t146))
def nfa_step.f (k : Nat) (a0_0 : Int) (a0_1 : Int) (a0_2 : Int) (a0_3 : Int) (l0_4 : List (S78)) (a1 : Int) (l2 : List Int) : Option (List Int) := (nfa_closed.f k a0_0 a0_1 a0_2 a0_3 l0_4 l2).bind fun t140 => ((nfa_empty.f a0_0).bind fun t143 => (nfa_step.l0 k a1 t140 t143 l0_4 (l0_4.length : Int) 0 a0_0 a0_1 a0_2 a0_3 l0_4))
theorem nfa_step.mono_l : ∀ k, (∀ y0 y1 y2 y3 y4 y5 y6 y7 y8 y9 y10, LeO (nfa_step.l0 k y0 y1 y2 y3 y4 y5 y6 y7 y8 y9 y10) (nfa_step.l0 (k + 1) y0 y1 y2 y3 y4 y5 y6 y7 y8 y9 y10))
  | 0 => fun _ _ _ _ _ _ _ _ _ _ _ r h => by simp [nfa_step.l0] at h
  | k + 1 => by
    have ih0 := nfa_step.mono_l k
    · intro y0 y1 y2 y3 y4 y5 y6 y7 y8 y9 y10
      unfold nfa_step.l0
      repeat' first
      | (with_reducible exact ih0 _ _ _ _ _ _ _ _ _ _ _)
      | (with_reducible exact nfa_closed.mono _ _ _ _ _ _ _)
      | (with_reducible exact LeO.refl _)
      | (with_reducible exact LeO.none _)
      | (with_reducible refine LeO.ite ?_ ?_)
      | (with_reducible refine LeO.bind ?_ (fun _ => ?_))
      | exact ih0 _ _ _ _ _ _ _ _ _ _ _
      | exact nfa_closed.mono _ _ _ _ _ _ _
      | exact LeO.none _
      | refine LeO.ite ?_ ?_
      | refine LeO.bind ?_ (fun _ => ?_)
theorem nfa_step.mono : ∀ a0 a1 a2 a3 a4 a5 a6 k, LeO (nfa_step.f k a0 a1 a2 a3 a4 a5 a6) (nfa_step.f (k + 1) a0 a1 a2 a3 a4 a5 a6) := by
  intro a0 a1 a2 a3 a4 a5 a6 k
  have ih0 := nfa_step.mono_l k
  unfold nfa_step.f
  repeat' first
      | (with_reducible exact ih0 _ _ _ _ _ _ _ _ _ _ _)
      | (with_reducible exact nfa_closed.mono _ _ _ _ _ _ _)
      | (with_reducible exact LeO.refl _)
      | (with_reducible exact LeO.none _)
      | (with_reducible refine LeO.ite ?_ ?_)
      | (with_reducible refine LeO.bind ?_ (fun _ => ?_))
      | exact ih0 _ _ _ _ _ _ _ _ _ _ _
      | exact nfa_closed.mono _ _ _ _ _ _ _
      | exact LeO.none _
      | refine LeO.ite ?_ ?_
      | refine LeO.bind ?_ (fun _ => ?_)
set_option maxHeartbeats 8000000 in
set_option maxRecDepth 100000 in
theorem nfa_step.calls (k : Nat) (a0_0 : Int) (a0_1 : Int) (a0_2 : Int) (a0_3 : Int) (A0_4 : Option Addr) (c0_4 : Nat) (l0_4 : List (S78)) (a1 : Int) (A2 : Option Addr) (c2 : Nat) (l2 : List Int) (r : List Int) (w : World) (hr0_4 : Kd.C k78 w A0_4 l0_4.length l0_4) (hc0_4 : l0_4.length ≤ c0_4) (hr2 : Kd.C (Kd.int .u64) w A2 l2.length l2) (hc2 : l2.length ≤ c2) (h : nfa_step.f k a0_0 a0_1 a0_2 a0_3 l0_4 a1 l2 = some r) :
    Calls Try.prog 42 #[.agg #[.int .i64 a0_0, .int .i64 a0_1, .int .i64 a0_2, .int .i64 a0_3, .slice A0_4 l0_4.length c0_4], .int .i64 a1, .slice A2 l2.length c2] w fun e w' => ∃ v0_ : Value, e = .returned (v0_) ∧ Kd.R (Kd.int .u64) 115 w' w.heap.size (fun _ => True) v0_ r ∧ Below w.heap.size w w' := by
  have hu31 := Try.underlying31
  have hu78 := Try.underlying78
  have HR0_4 := Aside0.mk hr0_4
  have HC0_4 := Aside0.mk hc0_4
  clear hr0_4 hc0_4
  have HR2 := Aside0.mk hr2
  have HC2 := Aside0.mk hc2
  clear hr2 hc2
  have HB := Aside0.mk (Below.refl w.heap.size w)
  have H : ((nfa_closed.f k a0_0 a0_1 a0_2 a0_3 l0_4 l2).bind fun t140 => ((nfa_empty.f a0_0).bind fun t143 => (nfa_step.l0 k a1 t140 t143 l0_4 (l0_4.length : Int) 0 a0_0 a0_1 a0_2 a0_3 l0_4))) = some r := h
  clear h
  replace H := Option.bind_eq_some_iff.mp H
  obtain ⟨t140, A40, H⟩ := H
  replace H : ((nfa_empty.f a0_0).bind fun t143 => (nfa_step.l0 k a1 t140 t143 l0_4 (l0_4.length : Int) 0 a0_0 a0_1 a0_2 a0_3 l0_4)) = some r := H
  have A4 := Aside0.mk A40
  clear A40
  replace H := Option.bind_eq_some_iff.mp H
  obtain ⟨t143, A50, H⟩ := H
  replace H : (nfa_step.l0 k a1 t140 t143 l0_4 (l0_4.length : Int) 0 a0_0 a0_1 a0_2 a0_3 l0_4) = some r := H
  have A5 := Aside0.mk A50
  clear A50
  have H' := Aside0.mk H
  clear H
  go_enter Try.func42, Try.ntmps42
  go_wp2_with (first | ((with_reducible refine gate_dst (N := 3) rfl ?_); refine box_event ?hg (N := 3) ?hd (cs := #[.int .i64 a0_0, .int .i64 a0_1, .int .i64 a0_2, .int .i64 a0_3, .slice A0_4 l0_4.length c0_4]) (t := 31) ?hr ?_; (case hd => rfl); (case hg => rfl); (case hr => first | (go_simp; done) | (go_simp; rfl)); intro gb139 hg w6 hbox hb; have n0_ := Aside0.mk (below_step viB hb); have n1_ := Aside0.mk (hbox); have n2_ := Aside0.mk ((by rw [hg]; exact (below_size viB) : w.heap.size ≤ gb139)); have n3_ := Aside0.mk ((by rw [hg]; exact (below_size viB) : w.heap.size ≤ gb139)); clear HB; have HB := n0_; have BK139 := n1_; have GW139 := n2_; have GE139 := n3_; clear n0_ n1_ n2_ n3_; clear hb hbox hg; have hcz7_0 : w6.cell? ⟨gb139, 0, none⟩ = some (.int .i64 a0_0) := (blk_cell BK139.out 0).trans rfl; have hcz7_1 : w6.cell? ⟨gb139, 1, none⟩ = some (.int .i64 a0_1) := (blk_cell BK139.out 1).trans rfl; have hcz7_2 : w6.cell? ⟨gb139, 2, none⟩ = some (.int .i64 a0_2) := (blk_cell BK139.out 2).trans rfl; have hcz7_3 : w6.cell? ⟨gb139, 3, none⟩ = some (.int .i64 a0_3) := (blk_cell BK139.out 3).trans rfl; have hcz7_4 : w6.cell? ⟨gb139, 4, none⟩ = some (.slice A0_4 l0_4.length c0_4) := (blk_cell BK139.out 4).trans rfl; have hfz7_0 := blk_frozen BK139.out 0; have hfz7_1 := blk_frozen BK139.out 1; have hfz7_2 := blk_frozen BK139.out 2; have hfz7_3 := blk_frozen BK139.out 3; have hfz7_4 := blk_frozen BK139.out 4) | ((with_reducible refine gate_callee (f := 41) rfl ?_); refine goesL_ (some 12) rfl rfl Try.func41 (by kernel_rfl) rfl #[.agg #[.int .i64 a0_0, .int .i64 a0_1, .int .i64 a0_2, .int .i64 a0_3, .slice A0_4 l0_4.length c0_4], .slice A2 l2.length c2] rfl (by (try simp only [List.map_toArray, List.map_cons, List.map_nil]); first | done | rfl | (simp only [List.length_drop, List.length_take]; rfl)) ?_; (with_reducible refine (nfa_closed.calls k a0_0 a0_1 a0_2 a0_3 _ _ l0_4 _ _ l2 t140 _ ?side1 ?side2 ?side3 ?side4 A4.out).mono ?_); (case side1 => repeat (first | exact (Kd.C_below HR0_4.out HB.out) | (with_reducible refine Kd.C_alloc ?_ _) | (with_reducible refine Kd.C_drewN ?_ _) | (with_reducible refine Kd.C_drew ?_))); (case side2 => exact HC0_4.out); (case side3 => repeat (first | exact (Kd.C_below HR2.out HB.out) | (with_reducible refine Kd.C_alloc ?_ _) | (with_reducible refine Kd.C_drewN ?_ _) | (with_reducible refine Kd.C_drew ?_))); (case side4 => exact HC2.out); rintro e w8 ⟨v141, rfl, ho0, hb⟩; refine ⟨_, rfl, ?_⟩; have n0_ := Aside0.mk (Kd.R_lower ho0 (below_size viB)); have n1_ := Aside0.mk (blk_below (g := gb139) (o := .cells #[.int .i64 a0_0, .int .i64 a0_1, .int .i64 a0_2, .int .i64 a0_3, .slice A0_4 l0_4.length c0_4] 31 (0, 0)) (viK BK139.out) hb); have n2_ := Aside0.mk (below_step viB hb); clear BK139; clear HB; have HO142 := n0_; have BK139 := n1_; have HB := n2_; clear n0_ n1_ n2_; (try clear hb); (try clear hb2); (try clear hk); (try clear hi); (try clear ho0); have hcz9_0 : w8.cell? ⟨gb139, 0, none⟩ = some (.int .i64 a0_0) := (blk_cell BK139.out 0).trans rfl; have hcz9_1 : w8.cell? ⟨gb139, 1, none⟩ = some (.int .i64 a0_1) := (blk_cell BK139.out 1).trans rfl; have hcz9_2 : w8.cell? ⟨gb139, 2, none⟩ = some (.int .i64 a0_2) := (blk_cell BK139.out 2).trans rfl; have hcz9_3 : w8.cell? ⟨gb139, 3, none⟩ = some (.int .i64 a0_3) := (blk_cell BK139.out 3).trans rfl; have hcz9_4 : w8.cell? ⟨gb139, 4, none⟩ = some (.slice A0_4 l0_4.length c0_4) := (blk_cell BK139.out 4).trans rfl; have hfz9_0 := blk_frozen BK139.out 0; have hfz9_1 := blk_frozen BK139.out 1; have hfz9_2 := blk_frozen BK139.out 2; have hfz9_3 := blk_frozen BK139.out 3; have hfz9_4 := blk_frozen BK139.out 4) | ((with_reducible refine gate_callee (f := 54) rfl ?_); refine goesL_ (some 15) rfl rfl Try.func54 (by kernel_rfl) rfl #[.int .i64 a0_0] rfl (by (try simp only [List.map_toArray, List.map_cons, List.map_nil]); first | done | rfl | (simp only [List.length_drop, List.length_take]; rfl)) ?_; (with_reducible refine (nfa_empty.calls a0_0 t143 _ A5.out).mono ?_); rintro e w10 ⟨v144, rfl, ho0, hb⟩; refine ⟨_, rfl, ?_⟩; have n0_ := Aside0.mk (Kd.R_elder' (viR HO142.out) (Kd.R_base ho0) hb); have n1_ := Aside0.mk (Kd.R_lower (Kd.R_new' ho0 (Kd.R_lt (viR HO142.out))) (below_size viB)); have n2_ := Aside0.mk (blk_below (g := gb139) (o := .cells #[.int .i64 a0_0, .int .i64 a0_1, .int .i64 a0_2, .int .i64 a0_3, .slice A0_4 l0_4.length c0_4] 31 (0, 0)) (viK BK139.out) hb); have n3_ := Aside0.mk (below_step viB hb); clear HO142; clear BK139; clear HB; have HO142 := n0_; have HO145 := n1_; have BK139 := n2_; have HB := n3_; clear n0_ n1_ n2_ n3_; (try clear hb); (try clear hb2); (try clear hk); (try clear hi); (try clear ho0); have hcz11_0 : w10.cell? ⟨gb139, 0, none⟩ = some (.int .i64 a0_0) := (blk_cell BK139.out 0).trans rfl; have hcz11_1 : w10.cell? ⟨gb139, 1, none⟩ = some (.int .i64 a0_1) := (blk_cell BK139.out 1).trans rfl; have hcz11_2 : w10.cell? ⟨gb139, 2, none⟩ = some (.int .i64 a0_2) := (blk_cell BK139.out 2).trans rfl; have hcz11_3 : w10.cell? ⟨gb139, 3, none⟩ = some (.int .i64 a0_3) := (blk_cell BK139.out 3).trans rfl; have hcz11_4 : w10.cell? ⟨gb139, 4, none⟩ = some (.slice A0_4 l0_4.length c0_4) := (blk_cell BK139.out 4).trans rfl; have hfz11_0 := blk_frozen BK139.out 0; have hfz11_1 := blk_frozen BK139.out 1; have hfz11_2 := blk_frozen BK139.out 2; have hfz11_3 := blk_frozen BK139.out 3; have hfz11_4 := blk_frozen BK139.out 4))
  go_loopg [19] k (fun kq v19 w' => ∃ (x7_1 : List Int) (x19_1 : Int), v19 = .int .i64 x19_1 ∧ Aside0 (nfa_step.l0 kq a1 t140 x7_1 l0_4 (l0_4.length : Int) x19_1 a0_0 a0_1 a0_2 a0_3 l0_4 = some r) ∧ Aside0 (kq ≤ k) ∧ Aside0 (Kd.R (Kd.int .u64) 115 w' w.heap.size (fun k_ => some k_ ≠ (v144 : Value).ownBlock) v141 t140) ∧ Aside0 (Kd.R (Kd.int .u64) 115 w' w.heap.size (fun k_ => some k_ ≠ (v141 : Value).ownBlock) v144 x7_1) ∧ Aside0 (w'.heap[gb139]? = some (.cells #[.int .i64 a0_0, .int .i64 a0_1, .int .i64 a0_2, .int .i64 a0_3, (.slice A0_4 l0_4.length c0_4)] 31 (0, 0))) ∧ Aside0 (Below w.heap.size w w'))
  case atStart => exact ⟨(t143), (0), (by first | rfl | (simp; done) | (simp [*]; done)), H', ⟨Nat.le_refl _⟩, ⟨by refine viR ?_; exact Kd.R_mono HO142.out (fun _ hk => hk.2)⟩, ⟨by refine viR ?_; exact Kd.R_mono HO145.out (fun _ hk => hk.2)⟩, ⟨viK BK139.out⟩, ⟨viB⟩⟩
  case round =>
    clear H'
    try clear c2
    try clear p2
    try clear c4
    try clear c5
    try clear hcz11_0
    try clear hcz11_1
    try clear hcz11_2
    try clear hcz11_3
    try clear hcz11_4
    try clear hcz7_0
    try clear hcz7_1
    try clear hcz7_2
    try clear hcz7_3
    try clear hcz7_4
    try clear hcz9_0
    try clear hcz9_1
    try clear hcz9_2
    try clear hcz9_3
    try clear hcz9_4
    try clear hfz11_0
    try clear hfz11_1
    try clear hfz11_2
    try clear hfz11_3
    try clear hfz11_4
    try clear hfz7_0
    try clear hfz7_1
    try clear hfz7_2
    try clear hfz7_3
    try clear hfz7_4
    try clear hfz9_0
    try clear hfz9_1
    try clear hfz9_2
    try clear hfz9_3
    try clear hfz9_4
    obtain ⟨x7_1, x19_1, rfl, HA, HK1, HO_2, HO_7, BK139, HB⟩ := hrel
    cases gk with
    | zero => exact absurd HA.out (by simp [nfa_step.l0])
    | succ k1 =>
      have H := HA.out
      clear HA
      simp only [nfa_step.l0] at H
      by_cases c12 : x19_1 < (l0_4.length : Int)
      · rw [if_pos c12] at H
        have c12b0 : decide (x19_1 < (l0_4.length : Int)) = true := decide_eq_true c12
        clear c12
        by_cases c13 : 0 ≤ x19_1
        · rw [if_pos c13] at H
          have c13b0 : decide (0 ≤ x19_1) = true := decide_eq_true c13
          clear c13
          by_cases c14 : x19_1 < (l0_4.length : Int)
          · rw [if_pos c14] at H
            have c14b0 : decide (x19_1 < (l0_4.length : Int)) = true := decide_eq_true c14
            clear c14
            by_cases c15 : ((rd_T78 l0_4 x19_1).f1) = a1
            · rw [if_pos c15] at H
              have c15b0 : (((rd_T78 l0_4 x19_1).f1) == a1) = true := beq_iff_eq.mpr c15
              have c15b1 : (((rd_T78 l0_4 x19_1).f1) != a1) = false := bne_eq_false_iff_eq.mpr c15
              clear c15
              replace H := Option.bind_eq_some_iff.mp H
              obtain ⟨t151, A160, H⟩ := H
              replace H : (if t151 = true then ((nfa_some_put.f x7_1 ((rd_T78 l0_4 x19_1).f2)).bind fun t152 => (nfa_step.l0 k1 a1 t140 t152 l0_4 (l0_4.length : Int) (wrap64 (x19_1 + 1)) a0_0 a0_1 a0_2 a0_3 l0_4)) else (nfa_step.l0 k1 a1 t140 x7_1 l0_4 (l0_4.length : Int) (wrap64 (x19_1 + 1)) a0_0 a0_1 a0_2 a0_3 l0_4)) = some r := H
              have A16 := Aside0.mk A160
              clear A160
              by_cases c17 : t151 = true
              · subst c17
                have H1 : ((nfa_some_put.f x7_1 ((rd_T78 l0_4 x19_1).f2)).bind fun t152 => (nfa_step.l0 k1 a1 t140 t152 l0_4 (l0_4.length : Int) (wrap64 (x19_1 + 1)) a0_0 a0_1 a0_2 a0_3 l0_4)) = some r := by rw [if_pos rfl] at H; exact H
                clear H
                have H := H1
                clear H1
                replace H := Option.bind_eq_some_iff.mp H
                obtain ⟨t152, A180, H⟩ := H
                replace H : (nfa_step.l0 k1 a1 t140 t152 l0_4 (l0_4.length : Int) (wrap64 (x19_1 + 1)) a0_0 a0_1 a0_2 a0_3 l0_4) = some r := H
                have A18 := Aside0.mk A180
                clear A180
                have H' := Aside0.mk H
                clear H
                have p149 : 0 ≤ (x19_1 : Int) := viA
                have q149 : x19_1 < (l0_4.length : Int) := viA
                obtain ⟨ad149, e149, hx149_0, hx149_1, hx149_2⟩ := at_T78 HR0_4.out x19_1 p149 q149
                cases e149
                replace hx149_0 := (HB.out.cell (World.block_lt_of_cell? w _ hx149_0)).trans hx149_0
                replace hx149_1 := (HB.out.cell (World.block_lt_of_cell? w _ hx149_1)).trans hx149_1
                replace hx149_2 := (HB.out.cell (World.block_lt_of_cell? w _ hx149_2)).trans hx149_2
                replace p149 := eq_true p149
                replace q149 := eq_true q149
                go_wp2_with (first | ((with_reducible refine gate_dst (N := 9) rfl ?_); refine box_event ?hg (N := 9) ?hd (cs := #[.int .i64 0, .int .i64 0, .int .i64 0]) (t := 78) ?hr ?_; (case hd => rfl); (case hg => rfl); (case hr => first | (go_simp; done) | (go_simp; rfl)); intro gb150 hg w19 hbox hb; have n0_ := Aside0.mk (Kd.R_below (viR HO_2.out) hb); have n1_ := Aside0.mk (Kd.R_below (viR HO_7.out) hb); have n2_ := Aside0.mk (blk_below (g := gb139) (o := .cells #[.int .i64 a0_0, .int .i64 a0_1, .int .i64 a0_2, .int .i64 a0_3, .slice (some ad149) l0_4.length c0_4] 31 (0, 0)) (viK BK139.out) hb); have n3_ := Aside0.mk (below_step viB hb); have n4_ := Aside0.mk (hbox); have n5_ := Aside0.mk ((by rw [hg]; exact (below_size viB) : w.heap.size ≤ gb150)); have n6_ := Aside0.mk ((by rw [hg]; exact (below_size viB) : w.heap.size ≤ gb150)); have n7_ := Aside0.mk ((by rw [hg]; exact Nat.ne_of_lt (blk_lt (g := gb139) (o := .cells #[.int .i64 a0_0, .int .i64 a0_1, .int .i64 a0_2, .int .i64 a0_3, .slice (some ad149) l0_4.length c0_4] 31 (0, 0)) (viK BK139.out)) : gb139 ≠ gb150)); have n8_ := Aside0.mk ((by rw [hg]; exact Nat.ne_of_gt (blk_lt (g := gb139) (o := .cells #[.int .i64 a0_0, .int .i64 a0_1, .int .i64 a0_2, .int .i64 a0_3, .slice (some ad149) l0_4.length c0_4] 31 (0, 0)) (viK BK139.out)) : gb150 ≠ gb139)); clear HO_2; clear HO_7; clear BK139; clear HB; have HO_2 := n0_; have HO_7 := n1_; have BK139 := n2_; have HB := n3_; have BK150 := n4_; have GW150 := n5_; have GE150 := n6_; have NB139_150 := n7_; have NB150_139 := n8_; clear n0_ n1_ n2_ n3_ n4_ n5_ n6_ n7_ n8_; clear hb hbox hg; have hnb20 := NB150_139.out; have hnc20 := NB139_150.out; have hcz21_0 : w19.cell? ⟨gb150, 0, none⟩ = some (.int .i64 0) := (blk_cell BK150.out 0).trans rfl; have hcz21_1 : w19.cell? ⟨gb150, 1, none⟩ = some (.int .i64 0) := (blk_cell BK150.out 1).trans rfl; have hcz21_2 : w19.cell? ⟨gb150, 2, none⟩ = some (.int .i64 0) := (blk_cell BK150.out 2).trans rfl; have hfz21_0 := blk_frozen BK150.out 0; have hfz21_1 := blk_frozen BK150.out 1; have hfz21_2 := blk_frozen BK150.out 2) | ((with_reducible refine gate_store (t := 78) (p := 9) rfl ?_); refine store_event (t := 78) (p := 9) (v := ?vo_w22) (w1 := (((w19.setCell ⟨gb150, 0, none⟩ (.int .i64 ((rd_T78 l0_4 x19_1).f0))).setCell ⟨gb150, 1, none⟩ (.int .i64 ((rd_T78 l0_4 x19_1).f1))).setCell ⟨gb150, 2, none⟩ (.int .i64 ((rd_T78 l0_4 x19_1).f2)))) ?hg ?ho ?hn ?hr ?_; (case ho => rfl); (case hg => rfl); (case hn => rfl); (case hr => first | (go_simp; done) | (go_simp; rfl)); intro w22 hw; have n0_ : Aside0 (Kd.R (Kd.int .u64) 115 w22 w.heap.size (fun k_ => some k_ ≠ (v144 : Value).ownBlock) v141 t140) := ⟨(by rw [hw]; exact (by refine viR ?_; exact Kd.R_mono (Kd.R_far (p := ⟨gb150, 2, none⟩) (Kd.R_far (p := ⟨gb150, 1, none⟩) (Kd.R_far (p := ⟨gb150, 0, none⟩) (Kd.R_types HO_2.out BK150.out (by decide)) (fun _ hk => hk.2) (.int .i64 ((rd_T78 l0_4 x19_1).f0))) (fun _ hk => hk.2) (.int .i64 ((rd_T78 l0_4 x19_1).f1))) (fun _ hk => hk.2) (.int .i64 ((rd_T78 l0_4 x19_1).f2))) (fun _ hk => hk.1)))⟩; have n1_ : Aside0 (Kd.R (Kd.int .u64) 115 w22 w.heap.size (fun k_ => some k_ ≠ (v141 : Value).ownBlock) v144 x7_1) := ⟨(by rw [hw]; exact (by refine viR ?_; exact Kd.R_mono (Kd.R_far (p := ⟨gb150, 2, none⟩) (Kd.R_far (p := ⟨gb150, 1, none⟩) (Kd.R_far (p := ⟨gb150, 0, none⟩) (Kd.R_types HO_7.out BK150.out (by decide)) (fun _ hk => hk.2) (.int .i64 ((rd_T78 l0_4 x19_1).f0))) (fun _ hk => hk.2) (.int .i64 ((rd_T78 l0_4 x19_1).f1))) (fun _ hk => hk.2) (.int .i64 ((rd_T78 l0_4 x19_1).f2))) (fun _ hk => hk.1)))⟩; have n2_ : Aside0 (w22.heap[gb139]? = some (.cells #[.int .i64 a0_0, .int .i64 a0_1, .int .i64 a0_2, .int .i64 a0_3, .slice (some ad149) l0_4.length c0_4] 31 (0, 0))) := ⟨(by rw [hw]; exact (by refine viK ?_; refine blk_far ?_ NB139_150.out _; refine viK ?_; refine blk_far ?_ NB139_150.out _; refine viK ?_; refine blk_far ?_ NB139_150.out _; refine viK ?_; exact BK139.out))⟩; have n3_ : Aside0 (w22.heap[gb150]? = some (.cells #[.int .i64 ((rd_T78 l0_4 x19_1).f0), .int .i64 ((rd_T78 l0_4 x19_1).f1), .int .i64 ((rd_T78 l0_4 x19_1).f2)] 78 (0, 0))) := ⟨(by rw [hw]; exact (by refine viK ?_; refine blk_put (cs := #[.int .i64 ((rd_T78 l0_4 x19_1).f0), .int .i64 ((rd_T78 l0_4 x19_1).f1), .int .i64 0]) ?_ 2 _ rfl; refine viK ?_; refine blk_put (cs := #[.int .i64 ((rd_T78 l0_4 x19_1).f0), .int .i64 0, .int .i64 0]) ?_ 1 _ rfl; refine viK ?_; refine blk_put (cs := #[.int .i64 0, .int .i64 0, .int .i64 0]) ?_ 0 _ rfl; refine viK ?_; exact BK150.out))⟩; have n4_ : Aside0 (Below w.heap.size w w22) := ⟨(by rw [hw]; exact viB)⟩; clear hw; clear HO_2; clear HO_7; clear BK139; clear BK150; clear HB; have HO_2 := n0_; have HO_7 := n1_; have BK139 := n2_; have BK150 := n3_; have HB := n4_; clear n0_ n1_ n2_ n3_ n4_; have hcz23_0 : w22.cell? ⟨gb150, 0, none⟩ = some (.int .i64 ((rd_T78 l0_4 x19_1).f0)) := (blk_cell BK150.out 0).trans rfl; have hcz23_1 : w22.cell? ⟨gb150, 1, none⟩ = some (.int .i64 ((rd_T78 l0_4 x19_1).f1)) := (blk_cell BK150.out 1).trans rfl; have hcz23_2 : w22.cell? ⟨gb150, 2, none⟩ = some (.int .i64 ((rd_T78 l0_4 x19_1).f2)) := (blk_cell BK150.out 2).trans rfl; have hfz23_0 := blk_frozen BK150.out 0; have hfz23_1 := blk_frozen BK150.out 1; have hfz23_2 := blk_frozen BK150.out 2; obtain ⟨Ao24, co24, eo24⟩ := Kd.R_slice HO_2.out; subst eo24) | (go_at_call 43; (with_reducible refine (nfa_some_has.calls _ _ t140 ((rd_T78 l0_4 x19_1).f0) true _ ?side1 ?side2 A16.out).mono ?_); (case side1 => repeat (first | exact (Kd.R_reads' HO_2.out).2.2 | (with_reducible refine Kd.C_alloc ?_ _) | (with_reducible refine Kd.C_drewN ?_ _) | (with_reducible refine Kd.C_drew ?_))); (case side2 => exact (Kd.R_reads' HO_2.out).2.1); rintro e w' ⟨rfl, ⟨nd, rfl⟩⟩; obtain ⟨Ao25, co25, eo25⟩ := Kd.R_slice HO_7.out; subst eo25) | ((with_reducible refine gate_callee (f := 40) rfl ?_); refine goesL_ (some 41) rfl rfl Try.func40 (by kernel_rfl) rfl #[.slice Ao25 x7_1.length co25, .int .i64 ((rd_T78 l0_4 x19_1).f2)] rfl (by (try simp only [List.map_toArray, List.map_cons, List.map_nil]); first | done | rfl | (simp only [List.length_drop, List.length_take]; rfl)) ?_; (with_reducible refine (nfa_some_put.calls (fun k_ => some k_ = (.slice Ao25 x7_1.length co25 : Value).ownBlock) (.slice Ao25 x7_1.length co25) x7_1 ((rd_T78 l0_4 x19_1).f2) t152 w _ ?side1 ?side2 A18.out).mono ?_); (case side1 => repeat (first | (with_reducible first | exact HB.out | apply below_alloc | apply pw_below_drewN | apply below_drew1 | refine below_set ?_ GE139.out | refine below_set ?_ GE150.out) | exact HB.out)); (case side2 => exact Kd.R_tight rfl HO_7.out); rintro e w26 ⟨rfl, hy0, hb, hkp⟩; refine ⟨_, rfl, ?_⟩; have n0_ := Aside0.mk (Kd.R_mono (ok' := fun k_ => some k_ ≠ (.slice Ao25 x7_1.length co25 : Value).ownBlock) (Kd.R_keptB (HO_2.out) hkp (fun k_ hk_ hs_ => (hk_) hs_)) (fun k_ hk_ => hk_.1)); have n1_ := Aside0.mk (Kd.R_reok rfl hy0 (fun k_ e_ => HO_7.out.1 k_ e_)); have n2_ := Aside0.mk (blk_kept (viK BK139.out) hkp (fun hs_ => (fun e_ => (Kd.R_ne HO_7.out BK139.out (by decide)) e_) hs_)); have n3_ := Aside0.mk (blk_kept (viK BK150.out) hkp (fun hs_ => (fun e_ => (Kd.R_ne HO_7.out BK150.out (by decide)) e_) hs_)); have n4_ := Aside0.mk (hb); clear HO_2; clear HO_7; clear BK139; clear BK150; clear HB; have HO_2 := n0_; have HO_7 := n1_; have BK139 := n2_; have BK150 := n3_; have HB := n4_; clear n0_ n1_ n2_ n3_ n4_; (try clear hb); (try clear hkp); (try clear hy0)))
                go_roundg k1
                case measure => have := HK1.out; omega
                case rel => exact ⟨(t152), (wrap64 (x19_1 + 1)), (by first | rfl | (simp; done) | (simp [*]; done)), H', ⟨by have := HK1.out; omega⟩, ⟨viR HO_2.out⟩, ⟨viR HO_7.out⟩, ⟨viK BK139.out⟩, ⟨viB⟩⟩
              · replace c17 := Bool.eq_false_iff.mpr c17
                subst c17
                have H1 : (nfa_step.l0 k1 a1 t140 x7_1 l0_4 (l0_4.length : Int) (wrap64 (x19_1 + 1)) a0_0 a0_1 a0_2 a0_3 l0_4) = some r := by rw [if_neg (show ¬ (false = true) by decide)] at H; exact H
                clear H
                have H := H1
                clear H1
                have H' := Aside0.mk H
                clear H
                have p149 : 0 ≤ (x19_1 : Int) := viA
                have q149 : x19_1 < (l0_4.length : Int) := viA
                obtain ⟨ad149, e149, hx149_0, hx149_1, hx149_2⟩ := at_T78 HR0_4.out x19_1 p149 q149
                cases e149
                replace hx149_0 := (HB.out.cell (World.block_lt_of_cell? w _ hx149_0)).trans hx149_0
                replace hx149_1 := (HB.out.cell (World.block_lt_of_cell? w _ hx149_1)).trans hx149_1
                replace hx149_2 := (HB.out.cell (World.block_lt_of_cell? w _ hx149_2)).trans hx149_2
                replace p149 := eq_true p149
                replace q149 := eq_true q149
                go_wp2_with (first | ((with_reducible refine gate_dst (N := 9) rfl ?_); refine box_event ?hg (N := 9) ?hd (cs := #[.int .i64 0, .int .i64 0, .int .i64 0]) (t := 78) ?hr ?_; (case hd => rfl); (case hg => rfl); (case hr => first | (go_simp; done) | (go_simp; rfl)); intro gb150 hg w27 hbox hb; have n0_ := Aside0.mk (Kd.R_below (viR HO_2.out) hb); have n1_ := Aside0.mk (Kd.R_below (viR HO_7.out) hb); have n2_ := Aside0.mk (blk_below (g := gb139) (o := .cells #[.int .i64 a0_0, .int .i64 a0_1, .int .i64 a0_2, .int .i64 a0_3, .slice (some ad149) l0_4.length c0_4] 31 (0, 0)) (viK BK139.out) hb); have n3_ := Aside0.mk (below_step viB hb); have n4_ := Aside0.mk (hbox); have n5_ := Aside0.mk ((by rw [hg]; exact (below_size viB) : w.heap.size ≤ gb150)); have n6_ := Aside0.mk ((by rw [hg]; exact (below_size viB) : w.heap.size ≤ gb150)); have n7_ := Aside0.mk ((by rw [hg]; exact Nat.ne_of_lt (blk_lt (g := gb139) (o := .cells #[.int .i64 a0_0, .int .i64 a0_1, .int .i64 a0_2, .int .i64 a0_3, .slice (some ad149) l0_4.length c0_4] 31 (0, 0)) (viK BK139.out)) : gb139 ≠ gb150)); have n8_ := Aside0.mk ((by rw [hg]; exact Nat.ne_of_gt (blk_lt (g := gb139) (o := .cells #[.int .i64 a0_0, .int .i64 a0_1, .int .i64 a0_2, .int .i64 a0_3, .slice (some ad149) l0_4.length c0_4] 31 (0, 0)) (viK BK139.out)) : gb150 ≠ gb139)); clear HO_2; clear HO_7; clear BK139; clear HB; have HO_2 := n0_; have HO_7 := n1_; have BK139 := n2_; have HB := n3_; have BK150 := n4_; have GW150 := n5_; have GE150 := n6_; have NB139_150 := n7_; have NB150_139 := n8_; clear n0_ n1_ n2_ n3_ n4_ n5_ n6_ n7_ n8_; clear hb hbox hg; have hnb28 := NB150_139.out; have hnc28 := NB139_150.out; have hcz29_0 : w27.cell? ⟨gb150, 0, none⟩ = some (.int .i64 0) := (blk_cell BK150.out 0).trans rfl; have hcz29_1 : w27.cell? ⟨gb150, 1, none⟩ = some (.int .i64 0) := (blk_cell BK150.out 1).trans rfl; have hcz29_2 : w27.cell? ⟨gb150, 2, none⟩ = some (.int .i64 0) := (blk_cell BK150.out 2).trans rfl; have hfz29_0 := blk_frozen BK150.out 0; have hfz29_1 := blk_frozen BK150.out 1; have hfz29_2 := blk_frozen BK150.out 2; obtain ⟨Ao30, co30, eo30⟩ := Kd.R_slice HO_2.out; subst eo30) | (go_at_call 43; (with_reducible refine (nfa_some_has.calls _ _ t140 ((rd_T78 l0_4 x19_1).f0) false _ ?side1 ?side2 A16.out).mono ?_); (case side1 => refine (Kd.R_reads' (e := 115) (base := w.heap.size) (ok := fun k_ => some k_ ≠ (v144 : Value).ownBlock) (n := t140.length) (c := co30) ?_).2.2; exact (by refine viR ?_; exact (Kd.R_mono (Kd.R_far (p := ⟨gb150, 2, none⟩) (Kd.R_far (p := ⟨gb150, 1, none⟩) (Kd.R_far (p := ⟨gb150, 0, none⟩) (Kd.R_types HO_2.out BK150.out (by decide)) (fun _ hk => hk.2) (.int .i64 ((rd_T78 l0_4 x19_1).f0))) (fun _ hk => hk.2) (.int .i64 ((rd_T78 l0_4 x19_1).f1))) (fun _ hk => hk.2) (.int .i64 ((rd_T78 l0_4 x19_1).f2))) (fun _ h_ => h_.1)))); (case side2 => exact (Kd.R_reads' HO_2.out).2.1); rintro e w' ⟨rfl, ⟨nd, rfl⟩⟩))
                go_roundg k1
                case measure => have := HK1.out; omega
                case rel => exact ⟨(x7_1), (wrap64 (x19_1 + 1)), (by first | rfl | (simp; done) | (simp [*]; done)), H', ⟨by have := HK1.out; omega⟩, ⟨by refine viR ?_; exact Kd.R_mono (Kd.R_far (p := ⟨gb150, 2, none⟩) (Kd.R_far (p := ⟨gb150, 1, none⟩) (Kd.R_far (p := ⟨gb150, 0, none⟩) (Kd.R_types HO_2.out BK150.out (by decide)) (fun _ hk => hk.2) (.int .i64 ((rd_T78 l0_4 x19_1).f0))) (fun _ hk => hk.2) (.int .i64 ((rd_T78 l0_4 x19_1).f1))) (fun _ hk => hk.2) (.int .i64 ((rd_T78 l0_4 x19_1).f2))) (fun _ hk => hk.1)⟩, ⟨by refine viR ?_; exact Kd.R_mono (Kd.R_far (p := ⟨gb150, 2, none⟩) (Kd.R_far (p := ⟨gb150, 1, none⟩) (Kd.R_far (p := ⟨gb150, 0, none⟩) (Kd.R_types HO_7.out BK150.out (by decide)) (fun _ hk => hk.2) (.int .i64 ((rd_T78 l0_4 x19_1).f0))) (fun _ hk => hk.2) (.int .i64 ((rd_T78 l0_4 x19_1).f1))) (fun _ hk => hk.2) (.int .i64 ((rd_T78 l0_4 x19_1).f2))) (fun _ hk => hk.1)⟩, ⟨by refine viK ?_; refine blk_far ?_ NB139_150.out _; refine viK ?_; refine blk_far ?_ NB139_150.out _; refine viK ?_; refine blk_far ?_ NB139_150.out _; refine viK ?_; exact BK139.out⟩, ⟨viB⟩⟩
            · rw [if_neg c15] at H
              have c15b0 : (((rd_T78 l0_4 x19_1).f1) == a1) = false := beq_eq_false_iff_ne.mpr c15
              have c15b1 : (((rd_T78 l0_4 x19_1).f1) != a1) = true := bne_iff_ne.mpr c15
              by_cases c31 : ((rd_T78 l0_4 x19_1).f1) = (-2)
              · rw [if_pos c31] at H
                have c31b0 : (((rd_T78 l0_4 x19_1).f1) == (-2)) = true := beq_iff_eq.mpr c31
                have c31b1 : (((rd_T78 l0_4 x19_1).f1) != (-2)) = false := bne_eq_false_iff_eq.mpr c31
                clear c31
                replace H := Option.bind_eq_some_iff.mp H
                obtain ⟨t153, A320, H⟩ := H
                replace H : (if t153 = true then ((nfa_some_put.f x7_1 ((rd_T78 l0_4 x19_1).f2)).bind fun t154 => (nfa_step.l0 k1 a1 t140 t154 l0_4 (l0_4.length : Int) (wrap64 (x19_1 + 1)) a0_0 a0_1 a0_2 a0_3 l0_4)) else (nfa_step.l0 k1 a1 t140 x7_1 l0_4 (l0_4.length : Int) (wrap64 (x19_1 + 1)) a0_0 a0_1 a0_2 a0_3 l0_4)) = some r := H
                have A32 := Aside0.mk A320
                clear A320
                by_cases c33 : t153 = true
                · subst c33
                  have H1 : ((nfa_some_put.f x7_1 ((rd_T78 l0_4 x19_1).f2)).bind fun t154 => (nfa_step.l0 k1 a1 t140 t154 l0_4 (l0_4.length : Int) (wrap64 (x19_1 + 1)) a0_0 a0_1 a0_2 a0_3 l0_4)) = some r := by rw [if_pos rfl] at H; exact H
                  clear H
                  have H := H1
                  clear H1
                  replace H := Option.bind_eq_some_iff.mp H
                  obtain ⟨t154, A340, H⟩ := H
                  replace H : (nfa_step.l0 k1 a1 t140 t154 l0_4 (l0_4.length : Int) (wrap64 (x19_1 + 1)) a0_0 a0_1 a0_2 a0_3 l0_4) = some r := H
                  have A34 := Aside0.mk A340
                  clear A340
                  have H' := Aside0.mk H
                  clear H
                  have p149 : 0 ≤ (x19_1 : Int) := viA
                  have q149 : x19_1 < (l0_4.length : Int) := viA
                  obtain ⟨ad149, e149, hx149_0, hx149_1, hx149_2⟩ := at_T78 HR0_4.out x19_1 p149 q149
                  cases e149
                  replace hx149_0 := (HB.out.cell (World.block_lt_of_cell? w _ hx149_0)).trans hx149_0
                  replace hx149_1 := (HB.out.cell (World.block_lt_of_cell? w _ hx149_1)).trans hx149_1
                  replace hx149_2 := (HB.out.cell (World.block_lt_of_cell? w _ hx149_2)).trans hx149_2
                  replace p149 := eq_true p149
                  replace q149 := eq_true q149
                  go_wp2_with (first | ((with_reducible refine gate_dst (N := 9) rfl ?_); refine box_event ?hg (N := 9) ?hd (cs := #[.int .i64 0, .int .i64 0, .int .i64 0]) (t := 78) ?hr ?_; (case hd => rfl); (case hg => rfl); (case hr => first | (go_simp; done) | (go_simp; rfl)); intro gb150 hg w35 hbox hb; have n0_ := Aside0.mk (Kd.R_below (viR HO_2.out) hb); have n1_ := Aside0.mk (Kd.R_below (viR HO_7.out) hb); have n2_ := Aside0.mk (blk_below (g := gb139) (o := .cells #[.int .i64 a0_0, .int .i64 a0_1, .int .i64 a0_2, .int .i64 a0_3, .slice (some ad149) l0_4.length c0_4] 31 (0, 0)) (viK BK139.out) hb); have n3_ := Aside0.mk (below_step viB hb); have n4_ := Aside0.mk (hbox); have n5_ := Aside0.mk ((by rw [hg]; exact (below_size viB) : w.heap.size ≤ gb150)); have n6_ := Aside0.mk ((by rw [hg]; exact (below_size viB) : w.heap.size ≤ gb150)); have n7_ := Aside0.mk ((by rw [hg]; exact Nat.ne_of_lt (blk_lt (g := gb139) (o := .cells #[.int .i64 a0_0, .int .i64 a0_1, .int .i64 a0_2, .int .i64 a0_3, .slice (some ad149) l0_4.length c0_4] 31 (0, 0)) (viK BK139.out)) : gb139 ≠ gb150)); have n8_ := Aside0.mk ((by rw [hg]; exact Nat.ne_of_gt (blk_lt (g := gb139) (o := .cells #[.int .i64 a0_0, .int .i64 a0_1, .int .i64 a0_2, .int .i64 a0_3, .slice (some ad149) l0_4.length c0_4] 31 (0, 0)) (viK BK139.out)) : gb150 ≠ gb139)); clear HO_2; clear HO_7; clear BK139; clear HB; have HO_2 := n0_; have HO_7 := n1_; have BK139 := n2_; have HB := n3_; have BK150 := n4_; have GW150 := n5_; have GE150 := n6_; have NB139_150 := n7_; have NB150_139 := n8_; clear n0_ n1_ n2_ n3_ n4_ n5_ n6_ n7_ n8_; clear hb hbox hg; have hnb36 := NB150_139.out; have hnc36 := NB139_150.out; have hcz37_0 : w35.cell? ⟨gb150, 0, none⟩ = some (.int .i64 0) := (blk_cell BK150.out 0).trans rfl; have hcz37_1 : w35.cell? ⟨gb150, 1, none⟩ = some (.int .i64 0) := (blk_cell BK150.out 1).trans rfl; have hcz37_2 : w35.cell? ⟨gb150, 2, none⟩ = some (.int .i64 0) := (blk_cell BK150.out 2).trans rfl; have hfz37_0 := blk_frozen BK150.out 0; have hfz37_1 := blk_frozen BK150.out 1; have hfz37_2 := blk_frozen BK150.out 2) | ((with_reducible refine gate_store (t := 78) (p := 9) rfl ?_); refine store_event (t := 78) (p := 9) (v := ?vo_w38) (w1 := (((w35.setCell ⟨gb150, 0, none⟩ (.int .i64 ((rd_T78 l0_4 x19_1).f0))).setCell ⟨gb150, 1, none⟩ (.int .i64 ((rd_T78 l0_4 x19_1).f1))).setCell ⟨gb150, 2, none⟩ (.int .i64 ((rd_T78 l0_4 x19_1).f2)))) ?hg ?ho ?hn ?hr ?_; (case ho => rfl); (case hg => rfl); (case hn => rfl); (case hr => first | (go_simp; done) | (go_simp; rfl)); intro w38 hw; have n0_ : Aside0 (Kd.R (Kd.int .u64) 115 w38 w.heap.size (fun k_ => some k_ ≠ (v144 : Value).ownBlock) v141 t140) := ⟨(by rw [hw]; exact (by refine viR ?_; exact Kd.R_mono (Kd.R_far (p := ⟨gb150, 2, none⟩) (Kd.R_far (p := ⟨gb150, 1, none⟩) (Kd.R_far (p := ⟨gb150, 0, none⟩) (Kd.R_types HO_2.out BK150.out (by decide)) (fun _ hk => hk.2) (.int .i64 ((rd_T78 l0_4 x19_1).f0))) (fun _ hk => hk.2) (.int .i64 ((rd_T78 l0_4 x19_1).f1))) (fun _ hk => hk.2) (.int .i64 ((rd_T78 l0_4 x19_1).f2))) (fun _ hk => hk.1)))⟩; have n1_ : Aside0 (Kd.R (Kd.int .u64) 115 w38 w.heap.size (fun k_ => some k_ ≠ (v141 : Value).ownBlock) v144 x7_1) := ⟨(by rw [hw]; exact (by refine viR ?_; exact Kd.R_mono (Kd.R_far (p := ⟨gb150, 2, none⟩) (Kd.R_far (p := ⟨gb150, 1, none⟩) (Kd.R_far (p := ⟨gb150, 0, none⟩) (Kd.R_types HO_7.out BK150.out (by decide)) (fun _ hk => hk.2) (.int .i64 ((rd_T78 l0_4 x19_1).f0))) (fun _ hk => hk.2) (.int .i64 ((rd_T78 l0_4 x19_1).f1))) (fun _ hk => hk.2) (.int .i64 ((rd_T78 l0_4 x19_1).f2))) (fun _ hk => hk.1)))⟩; have n2_ : Aside0 (w38.heap[gb139]? = some (.cells #[.int .i64 a0_0, .int .i64 a0_1, .int .i64 a0_2, .int .i64 a0_3, .slice (some ad149) l0_4.length c0_4] 31 (0, 0))) := ⟨(by rw [hw]; exact (by refine viK ?_; refine blk_far ?_ NB139_150.out _; refine viK ?_; refine blk_far ?_ NB139_150.out _; refine viK ?_; refine blk_far ?_ NB139_150.out _; refine viK ?_; exact BK139.out))⟩; have n3_ : Aside0 (w38.heap[gb150]? = some (.cells #[.int .i64 ((rd_T78 l0_4 x19_1).f0), .int .i64 ((rd_T78 l0_4 x19_1).f1), .int .i64 ((rd_T78 l0_4 x19_1).f2)] 78 (0, 0))) := ⟨(by rw [hw]; exact (by refine viK ?_; refine blk_put (cs := #[.int .i64 ((rd_T78 l0_4 x19_1).f0), .int .i64 ((rd_T78 l0_4 x19_1).f1), .int .i64 0]) ?_ 2 _ rfl; refine viK ?_; refine blk_put (cs := #[.int .i64 ((rd_T78 l0_4 x19_1).f0), .int .i64 0, .int .i64 0]) ?_ 1 _ rfl; refine viK ?_; refine blk_put (cs := #[.int .i64 0, .int .i64 0, .int .i64 0]) ?_ 0 _ rfl; refine viK ?_; exact BK150.out))⟩; have n4_ : Aside0 (Below w.heap.size w w38) := ⟨(by rw [hw]; exact viB)⟩; clear hw; clear HO_2; clear HO_7; clear BK139; clear BK150; clear HB; have HO_2 := n0_; have HO_7 := n1_; have BK139 := n2_; have BK150 := n3_; have HB := n4_; clear n0_ n1_ n2_ n3_ n4_; have hcz39_0 : w38.cell? ⟨gb150, 0, none⟩ = some (.int .i64 ((rd_T78 l0_4 x19_1).f0)) := (blk_cell BK150.out 0).trans rfl; have hcz39_1 : w38.cell? ⟨gb150, 1, none⟩ = some (.int .i64 ((rd_T78 l0_4 x19_1).f1)) := (blk_cell BK150.out 1).trans rfl; have hcz39_2 : w38.cell? ⟨gb150, 2, none⟩ = some (.int .i64 ((rd_T78 l0_4 x19_1).f2)) := (blk_cell BK150.out 2).trans rfl; have hfz39_0 := blk_frozen BK150.out 0; have hfz39_1 := blk_frozen BK150.out 1; have hfz39_2 := blk_frozen BK150.out 2; obtain ⟨Ao40, co40, eo40⟩ := Kd.R_slice HO_2.out; subst eo40) | (go_at_call 43; (with_reducible refine (nfa_some_has.calls _ _ t140 ((rd_T78 l0_4 x19_1).f0) true _ ?side1 ?side2 A32.out).mono ?_); (case side1 => repeat (first | exact (Kd.R_reads' HO_2.out).2.2 | (with_reducible refine Kd.C_alloc ?_ _) | (with_reducible refine Kd.C_drewN ?_ _) | (with_reducible refine Kd.C_drew ?_))); (case side2 => exact (Kd.R_reads' HO_2.out).2.1); rintro e w' ⟨rfl, ⟨nd, rfl⟩⟩; obtain ⟨Ao41, co41, eo41⟩ := Kd.R_slice HO_7.out; subst eo41) | ((with_reducible refine gate_callee (f := 40) rfl ?_); refine goesL_ (some 41) rfl rfl Try.func40 (by kernel_rfl) rfl #[.slice Ao41 x7_1.length co41, .int .i64 ((rd_T78 l0_4 x19_1).f2)] rfl (by (try simp only [List.map_toArray, List.map_cons, List.map_nil]); first | done | rfl | (simp only [List.length_drop, List.length_take]; rfl)) ?_; (with_reducible refine (nfa_some_put.calls (fun k_ => some k_ = (.slice Ao41 x7_1.length co41 : Value).ownBlock) (.slice Ao41 x7_1.length co41) x7_1 ((rd_T78 l0_4 x19_1).f2) t154 w _ ?side1 ?side2 A34.out).mono ?_); (case side1 => repeat (first | (with_reducible first | exact HB.out | apply below_alloc | apply pw_below_drewN | apply below_drew1 | refine below_set ?_ GE139.out | refine below_set ?_ GE150.out) | exact HB.out)); (case side2 => exact Kd.R_tight rfl HO_7.out); rintro e w42 ⟨rfl, hy0, hb, hkp⟩; refine ⟨_, rfl, ?_⟩; have n0_ := Aside0.mk (Kd.R_mono (ok' := fun k_ => some k_ ≠ (.slice Ao41 x7_1.length co41 : Value).ownBlock) (Kd.R_keptB (HO_2.out) hkp (fun k_ hk_ hs_ => (hk_) hs_)) (fun k_ hk_ => hk_.1)); have n1_ := Aside0.mk (Kd.R_reok rfl hy0 (fun k_ e_ => HO_7.out.1 k_ e_)); have n2_ := Aside0.mk (blk_kept (viK BK139.out) hkp (fun hs_ => (fun e_ => (Kd.R_ne HO_7.out BK139.out (by decide)) e_) hs_)); have n3_ := Aside0.mk (blk_kept (viK BK150.out) hkp (fun hs_ => (fun e_ => (Kd.R_ne HO_7.out BK150.out (by decide)) e_) hs_)); have n4_ := Aside0.mk (hb); clear HO_2; clear HO_7; clear BK139; clear BK150; clear HB; have HO_2 := n0_; have HO_7 := n1_; have BK139 := n2_; have BK150 := n3_; have HB := n4_; clear n0_ n1_ n2_ n3_ n4_; (try clear hb); (try clear hkp); (try clear hy0)))
                  go_roundg k1
                  case measure => have := HK1.out; omega
                  case rel => exact ⟨(t154), (wrap64 (x19_1 + 1)), (by first | rfl | (simp; done) | (simp [*]; done)), H', ⟨by have := HK1.out; omega⟩, ⟨viR HO_2.out⟩, ⟨viR HO_7.out⟩, ⟨viK BK139.out⟩, ⟨viB⟩⟩
                · replace c33 := Bool.eq_false_iff.mpr c33
                  subst c33
                  have H1 : (nfa_step.l0 k1 a1 t140 x7_1 l0_4 (l0_4.length : Int) (wrap64 (x19_1 + 1)) a0_0 a0_1 a0_2 a0_3 l0_4) = some r := by rw [if_neg (show ¬ (false = true) by decide)] at H; exact H
                  clear H
                  have H := H1
                  clear H1
                  have H' := Aside0.mk H
                  clear H
                  have p149 : 0 ≤ (x19_1 : Int) := viA
                  have q149 : x19_1 < (l0_4.length : Int) := viA
                  obtain ⟨ad149, e149, hx149_0, hx149_1, hx149_2⟩ := at_T78 HR0_4.out x19_1 p149 q149
                  cases e149
                  replace hx149_0 := (HB.out.cell (World.block_lt_of_cell? w _ hx149_0)).trans hx149_0
                  replace hx149_1 := (HB.out.cell (World.block_lt_of_cell? w _ hx149_1)).trans hx149_1
                  replace hx149_2 := (HB.out.cell (World.block_lt_of_cell? w _ hx149_2)).trans hx149_2
                  replace p149 := eq_true p149
                  replace q149 := eq_true q149
                  go_wp2_with (first | ((with_reducible refine gate_dst (N := 9) rfl ?_); refine box_event ?hg (N := 9) ?hd (cs := #[.int .i64 0, .int .i64 0, .int .i64 0]) (t := 78) ?hr ?_; (case hd => rfl); (case hg => rfl); (case hr => first | (go_simp; done) | (go_simp; rfl)); intro gb150 hg w43 hbox hb; have n0_ := Aside0.mk (Kd.R_below (viR HO_2.out) hb); have n1_ := Aside0.mk (Kd.R_below (viR HO_7.out) hb); have n2_ := Aside0.mk (blk_below (g := gb139) (o := .cells #[.int .i64 a0_0, .int .i64 a0_1, .int .i64 a0_2, .int .i64 a0_3, .slice (some ad149) l0_4.length c0_4] 31 (0, 0)) (viK BK139.out) hb); have n3_ := Aside0.mk (below_step viB hb); have n4_ := Aside0.mk (hbox); have n5_ := Aside0.mk ((by rw [hg]; exact (below_size viB) : w.heap.size ≤ gb150)); have n6_ := Aside0.mk ((by rw [hg]; exact (below_size viB) : w.heap.size ≤ gb150)); have n7_ := Aside0.mk ((by rw [hg]; exact Nat.ne_of_lt (blk_lt (g := gb139) (o := .cells #[.int .i64 a0_0, .int .i64 a0_1, .int .i64 a0_2, .int .i64 a0_3, .slice (some ad149) l0_4.length c0_4] 31 (0, 0)) (viK BK139.out)) : gb139 ≠ gb150)); have n8_ := Aside0.mk ((by rw [hg]; exact Nat.ne_of_gt (blk_lt (g := gb139) (o := .cells #[.int .i64 a0_0, .int .i64 a0_1, .int .i64 a0_2, .int .i64 a0_3, .slice (some ad149) l0_4.length c0_4] 31 (0, 0)) (viK BK139.out)) : gb150 ≠ gb139)); clear HO_2; clear HO_7; clear BK139; clear HB; have HO_2 := n0_; have HO_7 := n1_; have BK139 := n2_; have HB := n3_; have BK150 := n4_; have GW150 := n5_; have GE150 := n6_; have NB139_150 := n7_; have NB150_139 := n8_; clear n0_ n1_ n2_ n3_ n4_ n5_ n6_ n7_ n8_; clear hb hbox hg; have hnb44 := NB150_139.out; have hnc44 := NB139_150.out; have hcz45_0 : w43.cell? ⟨gb150, 0, none⟩ = some (.int .i64 0) := (blk_cell BK150.out 0).trans rfl; have hcz45_1 : w43.cell? ⟨gb150, 1, none⟩ = some (.int .i64 0) := (blk_cell BK150.out 1).trans rfl; have hcz45_2 : w43.cell? ⟨gb150, 2, none⟩ = some (.int .i64 0) := (blk_cell BK150.out 2).trans rfl; have hfz45_0 := blk_frozen BK150.out 0; have hfz45_1 := blk_frozen BK150.out 1; have hfz45_2 := blk_frozen BK150.out 2; obtain ⟨Ao46, co46, eo46⟩ := Kd.R_slice HO_2.out; subst eo46) | (go_at_call 43; (with_reducible refine (nfa_some_has.calls _ _ t140 ((rd_T78 l0_4 x19_1).f0) false _ ?side1 ?side2 A32.out).mono ?_); (case side1 => refine (Kd.R_reads' (e := 115) (base := w.heap.size) (ok := fun k_ => some k_ ≠ (v144 : Value).ownBlock) (n := t140.length) (c := co46) ?_).2.2; exact (by refine viR ?_; exact (Kd.R_mono (Kd.R_far (p := ⟨gb150, 2, none⟩) (Kd.R_far (p := ⟨gb150, 1, none⟩) (Kd.R_far (p := ⟨gb150, 0, none⟩) (Kd.R_types HO_2.out BK150.out (by decide)) (fun _ hk => hk.2) (.int .i64 ((rd_T78 l0_4 x19_1).f0))) (fun _ hk => hk.2) (.int .i64 ((rd_T78 l0_4 x19_1).f1))) (fun _ hk => hk.2) (.int .i64 ((rd_T78 l0_4 x19_1).f2))) (fun _ h_ => h_.1)))); (case side2 => exact (Kd.R_reads' HO_2.out).2.1); rintro e w' ⟨rfl, ⟨nd, rfl⟩⟩))
                  go_roundg k1
                  case measure => have := HK1.out; omega
                  case rel => exact ⟨(x7_1), (wrap64 (x19_1 + 1)), (by first | rfl | (simp; done) | (simp [*]; done)), H', ⟨by have := HK1.out; omega⟩, ⟨by refine viR ?_; exact Kd.R_mono (Kd.R_far (p := ⟨gb150, 2, none⟩) (Kd.R_far (p := ⟨gb150, 1, none⟩) (Kd.R_far (p := ⟨gb150, 0, none⟩) (Kd.R_types HO_2.out BK150.out (by decide)) (fun _ hk => hk.2) (.int .i64 ((rd_T78 l0_4 x19_1).f0))) (fun _ hk => hk.2) (.int .i64 ((rd_T78 l0_4 x19_1).f1))) (fun _ hk => hk.2) (.int .i64 ((rd_T78 l0_4 x19_1).f2))) (fun _ hk => hk.1)⟩, ⟨by refine viR ?_; exact Kd.R_mono (Kd.R_far (p := ⟨gb150, 2, none⟩) (Kd.R_far (p := ⟨gb150, 1, none⟩) (Kd.R_far (p := ⟨gb150, 0, none⟩) (Kd.R_types HO_7.out BK150.out (by decide)) (fun _ hk => hk.2) (.int .i64 ((rd_T78 l0_4 x19_1).f0))) (fun _ hk => hk.2) (.int .i64 ((rd_T78 l0_4 x19_1).f1))) (fun _ hk => hk.2) (.int .i64 ((rd_T78 l0_4 x19_1).f2))) (fun _ hk => hk.1)⟩, ⟨by refine viK ?_; refine blk_far ?_ NB139_150.out _; refine viK ?_; refine blk_far ?_ NB139_150.out _; refine viK ?_; refine blk_far ?_ NB139_150.out _; refine viK ?_; exact BK139.out⟩, ⟨viB⟩⟩
              · rw [if_neg c31] at H
                have c31b0 : (((rd_T78 l0_4 x19_1).f1) == (-2)) = false := beq_eq_false_iff_ne.mpr c31
                have c31b1 : (((rd_T78 l0_4 x19_1).f1) != (-2)) = true := bne_iff_ne.mpr c31
                have H' := Aside0.mk H
                clear H
                have p149 : 0 ≤ (x19_1 : Int) := viA
                have q149 : x19_1 < (l0_4.length : Int) := viA
                obtain ⟨ad149, e149, hx149_0, hx149_1, hx149_2⟩ := at_T78 HR0_4.out x19_1 p149 q149
                cases e149
                replace hx149_0 := (HB.out.cell (World.block_lt_of_cell? w _ hx149_0)).trans hx149_0
                replace hx149_1 := (HB.out.cell (World.block_lt_of_cell? w _ hx149_1)).trans hx149_1
                replace hx149_2 := (HB.out.cell (World.block_lt_of_cell? w _ hx149_2)).trans hx149_2
                replace p149 := eq_true p149
                replace q149 := eq_true q149
                go_wp2_with (first | ((with_reducible refine gate_dst (N := 9) rfl ?_); refine box_event ?hg (N := 9) ?hd (cs := #[.int .i64 0, .int .i64 0, .int .i64 0]) (t := 78) ?hr ?_; (case hd => rfl); (case hg => rfl); (case hr => first | (go_simp; done) | (go_simp; rfl)); intro gb150 hg w47 hbox hb; have n0_ := Aside0.mk (Kd.R_below (viR HO_2.out) hb); have n1_ := Aside0.mk (Kd.R_below (viR HO_7.out) hb); have n2_ := Aside0.mk (blk_below (g := gb139) (o := .cells #[.int .i64 a0_0, .int .i64 a0_1, .int .i64 a0_2, .int .i64 a0_3, .slice (some ad149) l0_4.length c0_4] 31 (0, 0)) (viK BK139.out) hb); have n3_ := Aside0.mk (below_step viB hb); have n4_ := Aside0.mk (hbox); have n5_ := Aside0.mk ((by rw [hg]; exact (below_size viB) : w.heap.size ≤ gb150)); have n6_ := Aside0.mk ((by rw [hg]; exact (below_size viB) : w.heap.size ≤ gb150)); have n7_ := Aside0.mk ((by rw [hg]; exact Nat.ne_of_lt (blk_lt (g := gb139) (o := .cells #[.int .i64 a0_0, .int .i64 a0_1, .int .i64 a0_2, .int .i64 a0_3, .slice (some ad149) l0_4.length c0_4] 31 (0, 0)) (viK BK139.out)) : gb139 ≠ gb150)); have n8_ := Aside0.mk ((by rw [hg]; exact Nat.ne_of_gt (blk_lt (g := gb139) (o := .cells #[.int .i64 a0_0, .int .i64 a0_1, .int .i64 a0_2, .int .i64 a0_3, .slice (some ad149) l0_4.length c0_4] 31 (0, 0)) (viK BK139.out)) : gb150 ≠ gb139)); clear HO_2; clear HO_7; clear BK139; clear HB; have HO_2 := n0_; have HO_7 := n1_; have BK139 := n2_; have HB := n3_; have BK150 := n4_; have GW150 := n5_; have GE150 := n6_; have NB139_150 := n7_; have NB150_139 := n8_; clear n0_ n1_ n2_ n3_ n4_ n5_ n6_ n7_ n8_; clear hb hbox hg; have hnb48 := NB150_139.out; have hnc48 := NB139_150.out; have hcz49_0 : w47.cell? ⟨gb150, 0, none⟩ = some (.int .i64 0) := (blk_cell BK150.out 0).trans rfl; have hcz49_1 : w47.cell? ⟨gb150, 1, none⟩ = some (.int .i64 0) := (blk_cell BK150.out 1).trans rfl; have hcz49_2 : w47.cell? ⟨gb150, 2, none⟩ = some (.int .i64 0) := (blk_cell BK150.out 2).trans rfl; have hfz49_0 := blk_frozen BK150.out 0; have hfz49_1 := blk_frozen BK150.out 1; have hfz49_2 := blk_frozen BK150.out 2))
                go_roundg k1
                case measure => have := HK1.out; omega
                case rel => exact ⟨(x7_1), (wrap64 (x19_1 + 1)), (by first | rfl | (simp; done) | (simp [*]; done)), H', ⟨by have := HK1.out; omega⟩, ⟨by refine viR ?_; exact Kd.R_mono (Kd.R_far (p := ⟨gb150, 2, none⟩) (Kd.R_far (p := ⟨gb150, 1, none⟩) (Kd.R_far (p := ⟨gb150, 0, none⟩) (Kd.R_types HO_2.out BK150.out (by decide)) (fun _ hk => hk.2) (.int .i64 ((rd_T78 l0_4 x19_1).f0))) (fun _ hk => hk.2) (.int .i64 ((rd_T78 l0_4 x19_1).f1))) (fun _ hk => hk.2) (.int .i64 ((rd_T78 l0_4 x19_1).f2))) (fun _ hk => hk.1)⟩, ⟨by refine viR ?_; exact Kd.R_mono (Kd.R_far (p := ⟨gb150, 2, none⟩) (Kd.R_far (p := ⟨gb150, 1, none⟩) (Kd.R_far (p := ⟨gb150, 0, none⟩) (Kd.R_types HO_7.out BK150.out (by decide)) (fun _ hk => hk.2) (.int .i64 ((rd_T78 l0_4 x19_1).f0))) (fun _ hk => hk.2) (.int .i64 ((rd_T78 l0_4 x19_1).f1))) (fun _ hk => hk.2) (.int .i64 ((rd_T78 l0_4 x19_1).f2))) (fun _ hk => hk.1)⟩, ⟨by refine viK ?_; refine blk_far ?_ NB139_150.out _; refine viK ?_; refine blk_far ?_ NB139_150.out _; refine viK ?_; refine blk_far ?_ NB139_150.out _; refine viK ?_; exact BK139.out⟩, ⟨viB⟩⟩
          · rw [if_neg c14] at H
            exact absurd H (by simp)
        · rw [if_neg c13] at H
          exact absurd H (by simp)
      · rw [if_neg c12] at H
        have c12b0 : decide (x19_1 < (l0_4.length : Int)) = false := decide_eq_false c12
        clear c12
        replace H := Option.bind_eq_some_iff.mp H
        obtain ⟨t146, A500, H⟩ := H
        replace H : (some t146) = some r := H
        have A50 := Aside0.mk A500
        clear A500
        obtain rfl := Option.some.inj H
        have hcz51_0 : wr.cell? ⟨gb139, 0, none⟩ = some (.int .i64 a0_0) := (blk_cell BK139.out 0).trans rfl
        have hcz51_1 : wr.cell? ⟨gb139, 1, none⟩ = some (.int .i64 a0_1) := (blk_cell BK139.out 1).trans rfl
        have hcz51_2 : wr.cell? ⟨gb139, 2, none⟩ = some (.int .i64 a0_2) := (blk_cell BK139.out 2).trans rfl
        have hcz51_3 : wr.cell? ⟨gb139, 3, none⟩ = some (.int .i64 a0_3) := (blk_cell BK139.out 3).trans rfl
        have hcz51_4 : wr.cell? ⟨gb139, 4, none⟩ = some (.slice A0_4 l0_4.length c0_4) := (blk_cell BK139.out 4).trans rfl
        have hfz51_0 := blk_frozen BK139.out 0
        have hfz51_1 := blk_frozen BK139.out 1
        have hfz51_2 := blk_frozen BK139.out 2
        have hfz51_3 := blk_frozen BK139.out 3
        have hfz51_4 := blk_frozen BK139.out 4
        obtain ⟨Ao52, co52, eo52⟩ := Kd.R_slice HO_7.out
        subst eo52
        go_wp2_with (first | ((with_reducible refine gate_callee (f := 41) rfl ?_); refine goesL_ (some 45) rfl rfl Try.func41 (by kernel_rfl) rfl #[.agg #[.int .i64 a0_0, .int .i64 a0_1, .int .i64 a0_2, .int .i64 a0_3, .slice A0_4 l0_4.length c0_4], .slice Ao52 x7_1.length co52] rfl (by (try simp only [List.map_toArray, List.map_cons, List.map_nil]); first | done | rfl | (simp only [List.length_drop, List.length_take]; rfl)) ?_; (with_reducible refine (nfa_closed.calls k1 a0_0 a0_1 a0_2 a0_3 _ _ l0_4 _ _ x7_1 t146 _ ?side1 ?side2 ?side3 ?side4 A50.out).mono ?_); (case side1 => repeat (first | exact (Kd.C_below HR0_4.out HB.out) | (with_reducible refine Kd.C_alloc ?_ _) | (with_reducible refine Kd.C_drewN ?_ _) | (with_reducible refine Kd.C_drew ?_))); (case side2 => exact HC0_4.out); (case side3 => repeat (first | exact (Kd.R_reads' HO_7.out).2.2 | (with_reducible refine Kd.C_alloc ?_ _) | (with_reducible refine Kd.C_drewN ?_ _) | (with_reducible refine Kd.C_drew ?_))); (case side4 => exact (Kd.R_reads' HO_7.out).2.1); rintro e w53 ⟨v147, rfl, ho0, hb⟩; refine ⟨_, rfl, ?_⟩; have n0_ := Aside0.mk (Kd.R_elder' (viR HO_2.out) (Kd.R_base ho0) hb); have n1_ := Aside0.mk (Kd.R_elder' (viR HO_7.out) (Kd.R_base ho0) hb); have n2_ := Aside0.mk (Kd.R_lower (Kd.R_new' (Kd.R_new' ho0 (Kd.R_lt (viR HO_2.out))) (Kd.R_lt (viR HO_7.out))) (below_size viB)); have n3_ := Aside0.mk (blk_below (g := gb139) (o := .cells #[.int .i64 a0_0, .int .i64 a0_1, .int .i64 a0_2, .int .i64 a0_3, .slice A0_4 l0_4.length c0_4] 31 (0, 0)) (viK BK139.out) hb); have n4_ := Aside0.mk (below_step viB hb); clear HO_2; clear HO_7; clear BK139; clear HB; have HO_2 := n0_; have HO_7 := n1_; have HO148 := n2_; have BK139 := n3_; have HB := n4_; clear n0_ n1_ n2_ n3_ n4_; (try clear hb); (try clear hb2); (try clear hk); (try clear hi); (try clear ho0)))
        go_ret
        exact ⟨_, by first | rfl | (simp [errW_none, errW_some] <;> rfl) | (simp [*, errW_none, errW_some] <;> rfl), by refine viR ?_; exact Kd.R_mono HO148.out (fun _ hk => trivial), viB⟩
end Go.Proofs.Ytapinbmkjkbkkaa.Lb
