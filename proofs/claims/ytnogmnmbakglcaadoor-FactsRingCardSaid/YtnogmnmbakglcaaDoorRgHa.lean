import Derived.Test.YtnogmnmbakglcaaDoorProg
import Derived.Test.YtnogmnmbakglcaaDoorRgWLast
import Derived.Test.YtnogmnmbakglcaaDoorRgWMore
import Derived.Deep.LoopGhost
import Derived.Deep.QuietTactic
import Derived.BigQuiet
import Derived.Outline
import Derived.Lib.Hide
namespace Go.Proofs.YtnogmnmbakglcaaDoor
open Go.RowKit Go.Proofs.YtnogmnmbakglcaaDoorW.PrintWords Go.Proofs.YtnogmnmbakglcaaDoorW.PrintLast Go.Proofs.YtnogmnmbakglcaaDoorW.PrintMore
def badB (all r : Int) : Bool := Go.bits .andNot .u64 r all != 0
def badFrom (all : Int) (l : List Int) (k : Nat) : Bool := (l.drop k).any (badB all)
theorem badFrom_step {all : Int} {l : List Int} {k : Nat} (h : k < l.length) : badFrom all l k = (badB all (rd l k) || badFrom all l (k + 1)) := by
  unfold badFrom rd
  rw [List.drop_eq_getElem_cons h, List.any_cons]
  simp [List.getElem?_eq_getElem h]
theorem badFrom_end {all : Int} {l : List Int} {k : Nat} (h : l.length ≤ k) : badFrom all l k = false := by
  unfold badFrom; rw [List.drop_eq_nil_of_le h]; rfl
set_option maxHeartbeats 400000 in
theorem shaped1_calls (all r : Int) (B : Nat) (w : World) (hc : w.cell? ⟨B, 0, none⟩ = some (.int .u64 all)) :
    Calls Tryd.prog 47 #[.int .u64 r, .pointer (some ⟨B, 0, none⟩)] w fun e w' => e = .returned (.bool (badB all r)) ∧ w = w' := by
  go_enter Tryd.func47, Tryd.ntmps47
  go_wp2
  go_ret
  exact ⟨rfl, rfl⟩
set_option maxHeartbeats 400000 in
theorem indexFunc_calls (all : Int) (l : List Int) (A : Option Addr) (c B : Nat) (w : World) (hr : Kd.C (Kd.int .u64) w A l.length l)
    (hc : w.cell? ⟨B, 0, none⟩ = some (.int .u64 all)) (hl : l.length ≤ 9223372036854775807) :
    Calls Tryd.prog 50 #[.slice A l.length c, .func (.func 47) #[] #[.pointer (some ⟨B, 0, none⟩)]] w fun e w' => ∃ i : Int, e = .returned (.int .i64 i) ∧ decide (0 ≤ i) = badFrom all l 0 ∧ w = w' := by
  have HR := Aside0.mk hr
  clear hr
  go_enter Tryd.func50, Tryd.ntmps50
  go_wp2
  go_loop [5, 8] (fun _ i => ∃ k : Nat, k ≤ l.length ∧ i = .int .i64 k ∧ Aside0 (badFrom all l 0 = badFrom all l k)) (fun _ i => l.length - (intOf i).toNat)
  case atStart => exact ⟨0, Nat.zero_le _, rfl, ⟨rfl⟩⟩
  case round =>
    obtain ⟨k, hk, rfl, hbad⟩ := hrel
    by_cases hlt : k < l.length
    · obtain ⟨ad, rfl, hx⟩ := Kd.at_int HR.out (k : Int) (by omega) (by omega)
      rw [Int.toNat_natCast] at hx
      cases hb : badB all (rd l k) with
      | true =>
        have HB := Lib.hid hb
        clear hb
        go_wp2_with (go_at_call 47; refine (shaped1_calls all (rd l k) B _ hc).mono ?_; rintro e w' ⟨rfl, rfl⟩; rw [HB.out])
        go_ret
        exact ⟨_, rfl, by rw [hbad.out, badFrom_step hlt, HB.out]; simp, rfl⟩
      | false =>
        have HB := Lib.hid hb
        clear hb
        go_wp2_with (go_at_call 47; refine (shaped1_calls all (rd l k) B _ hc).mono ?_; rintro e w' ⟨rfl, rfl⟩; rw [HB.out])
        go_round
        case rel => exact ⟨k + 1, by omega, by go_num, ⟨by rw [hbad.out, badFrom_step hlt, HB.out]; simp⟩⟩
        case measure => simp [intOf]; omega
    · have hge : l.length ≤ k := by omega
      go_wp2
      go_ret
      exact ⟨_, rfl, by rw [hbad.out, badFrom_end hge]; rfl, rfl⟩
set_option maxHeartbeats 400000 in
theorem containsFunc_calls (all : Int) (l : List Int) (A : Option Addr) (c B : Nat) (w : World) (hr : Kd.C (Kd.int .u64) w A l.length l)
    (hc : w.cell? ⟨B, 0, none⟩ = some (.int .u64 all)) (hl : l.length ≤ 9223372036854775807) :
    Calls Tryd.prog 46 #[.slice A l.length c, .func (.func 47) #[] #[.pointer (some ⟨B, 0, none⟩)]] w fun e w' => e = .returned (.bool (badFrom all l 0)) ∧ w = w' := by
  go_enter Tryd.func46, Tryd.ntmps46
  go_wp2_with (go_at_call 50; refine (indexFunc_calls all l A c B _ hr hc hl).mono ?_; rintro e w' ⟨i, rfl, hi, rfl⟩)
  go_ret
  exact ⟨rfl, rfl⟩
def fullI (n : Int) : Int := 18446744073709551615 / 2 ^ (64 - n).toNat
set_option maxHeartbeats 400000 in
theorem full_out (n : Int) (w : World) (h : n < 0 ∨ 64 < n) : Calls Tryd.prog 37 #[.int .i64 n] w fun e w' => e = .returned (.tuple #[.int .u64 0, .int .i64 10]) ∧ w = w' := by
  rcases h with h | h
  · go_enter Tryd.func37, Tryd.ntmps37
    go_wp2
    go_ret2
    exact ⟨rfl, rfl⟩
  · have h' : ¬ n < 0 := by omega
    go_enter Tryd.func37, Tryd.ntmps37
    go_wp2
    go_ret2
    exact ⟨rfl, rfl⟩
set_option maxHeartbeats 400000 in
theorem full_in (n : Int) (w : World) (h0 : 0 ≤ n) (h1 : n ≤ 64) : Calls Tryd.prog 37 #[.int .i64 n] w fun e w' => e = .returned (.tuple #[.int .u64 (fullI n), .int .i64 0]) ∧ w = w' := by
  go_enter Tryd.func37, Tryd.ntmps37
  go_wp2
  go_ret2
  exact ⟨rfl, rfl⟩
def facts_shaped.f (n g : Int) (l : List Int) : Option Int :=
  some (if n < 0 ∨ 64 < n then 31 else if (l.length : Int) ≠ n ∨ Go.bits .andNot .u64 g (fullI n) ≠ 0 ∨ badFrom (fullI n) l 0 = true then 30 else 0)
set_option maxHeartbeats 400000 in
theorem facts_shaped.calls (n g : Int) (A : Option Addr) (c : Nat) (l : List Int) (r : Int) (w : World) (hr : Kd.C (Kd.int .u64) w A l.length l) (_hc : l.length ≤ c) (h : facts_shaped.f n g l = some r) :
    Calls Tryd.prog 32 #[.int .i64 n, .agg #[.int .u64 g, .slice A l.length c]] w fun e w' => e = .returned (.int .i64 r) ∧ Below w.heap.size w w' := by
  have hl : l.length ≤ 9223372036854775807 := hr.2.1
  have HR := Aside0.mk hr
  clear hr
  have h := Option.some.inj h
  by_cases h1 : n < 0 ∨ 64 < n
  · rw [if_pos h1] at h
    subst h
    go_enter Tryd.func32, Tryd.ntmps32
    go_wp2_with (go_at_call 37; refine (full_out n _ h1).mono ?_; rintro e w' ⟨rfl, rfl⟩)
    go_ret
    exact ⟨rfl, by repeat (first | exact Below.refl _ _ | apply below_alloc)⟩
  · rw [if_neg h1] at h
    have h10 : 0 ≤ n := by omega
    have h11 : n ≤ 64 := by omega
    clear h1
    obtain ⟨all, hall⟩ : ∃ a, fullI n = a := ⟨_, rfl⟩
    have HF : ∀ w, Calls Tryd.prog 37 #[.int .i64 n] w fun e w' => e = .returned (.tuple #[.int .u64 all, .int .i64 0]) ∧ w = w' := fun w => by rw [← hall]; exact full_in n w h10 h11
    rw [hall] at h
    clear hall
    by_cases h2 : (l.length : Int) = n
    · have b2 : ((l.length : Int) != n) = false := bne_eq_false_iff_eq.mpr h2
      by_cases h3 : Go.bits .andNot .u64 g all = 0
      · have b3 : (Go.bits .andNot .u64 g all != 0) = false := bne_eq_false_iff_eq.mpr h3
        cases h4 : badFrom all l 0 with
        | true =>
          rw [if_pos (.inr (.inr h4))] at h
          subst h
          have H4 := Lib.hid h4
          clear h2 h3 h4
          go_enter Tryd.func32, Tryd.ntmps32
          go_wp2_with (first
            | (go_at_call 37; refine (HF _).mono ?_; rintro e w' ⟨rfl, rfl⟩)
            | (go_at_call 46; refine (containsFunc_calls all l A c _ _ ?hr ?hc hl).mono ?_; (case hr => exact Kd.C_alloc (Kd.C_alloc HR.out _) _); (case hc => go_simp); rintro e w' ⟨rfl, rfl⟩; rw [H4.out]))
          go_ret
          exact ⟨rfl, by repeat (first | exact Below.refl _ _ | apply below_alloc)⟩
        | false =>
          rw [if_neg (fun h => h.elim (fun h => h h2) (fun h => h.elim (fun h => h h3) (fun h => by rw [h4] at h; cases h)))] at h
          subst h
          have H4 := Lib.hid h4
          clear h2 h3 h4
          go_enter Tryd.func32, Tryd.ntmps32
          go_wp2_with (first
            | (go_at_call 37; refine (HF _).mono ?_; rintro e w' ⟨rfl, rfl⟩)
            | (go_at_call 46; refine (containsFunc_calls all l A c _ _ ?hr ?hc hl).mono ?_; (case hr => exact Kd.C_alloc (Kd.C_alloc HR.out _) _); (case hc => go_simp); rintro e w' ⟨rfl, rfl⟩; rw [H4.out]))
          go_ret
          exact ⟨rfl, by repeat (first | exact Below.refl _ _ | apply below_alloc)⟩
      · have b3 : (Go.bits .andNot .u64 g all != 0) = true := bne_iff_ne.mpr h3
        rw [if_pos (.inr (.inl h3))] at h
        subst h
        clear h2 h3
        go_enter Tryd.func32, Tryd.ntmps32
        go_wp2_with (go_at_call 37; refine (HF _).mono ?_; rintro e w' ⟨rfl, rfl⟩)
        go_ret
        exact ⟨rfl, by repeat (first | exact Below.refl _ _ | apply below_alloc)⟩
    · have b2 : ((l.length : Int) != n) = true := bne_iff_ne.mpr h2
      rw [if_pos (.inl h2)] at h
      subst h
      clear h2
      go_enter Tryd.func32, Tryd.ntmps32
      go_wp2_with (go_at_call 37; refine (HF _).mono ?_; rintro e w' ⟨rfl, rfl⟩)
      go_ret
      exact ⟨rfl, by repeat (first | exact Below.refl _ _ | apply below_alloc)⟩
end Go.Proofs.YtnogmnmbakglcaaDoor
