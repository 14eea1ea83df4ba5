import Derived.Test.YtapinbmkjkbkkaaTuLbx2
import Derived.WalkLawsBesides
import Derived.Outline
import Derived.Lib.Hide
namespace Go.Proofs.Ytapinbmkjkbkkaa.Mk
open Go.RowKit Go.Proofs.YtapinbmkjkbkkaaW.PrintWords Go.Proofs.YtapinbmkjkbkkaaW.PrintLast Go.Proofs.YtapinbmkjkbkkaaW.PrintMore Lb
def nameB (s : ByteArray) : Bool := (regex_name.f 100 s).getD false
theorem letter_some (c : Int) : ∃ b, regex_letter.f c = some b := by
  unfold regex_letter.f
  repeat' split
  all_goals exact ⟨_, rfl⟩
theorem digit_some (c : Int) : ∃ b, regex_digit.f c = some b := by
  unfold regex_digit.f
  repeat' split
  all_goals exact ⟨_, rfl⟩
theorem name_l0 (s : ByteArray) (hs : s.size ≤ 64) : ∀ (d k : Nat) (i : Int), 0 ≤ i → i ≤ s.size → (s.size : Int) - i = d → d < k → ∃ b, regex_name.l0 k s (s.size : Int) i = some b := by
  intro d
  induction d with
  | zero =>
    intro k i h0 h1 hd hk
    obtain ⟨k, rfl⟩ : ∃ m, k = m + 1 := ⟨k - 1, by omega⟩
    exact ⟨true, by simp only [regex_name.l0]; rw [if_neg (by omega)]⟩
  | succ d ih =>
    intro k i h0 h1 hd hk
    obtain ⟨k, rfl⟩ : ∃ m, k = m + 1 := ⟨k - 1, by omega⟩
    obtain ⟨r, hr⟩ := ih k (i + 1) (by omega) (by omega) (by omega) (by omega)
    have hw : wrap64 (i + 1) = i + 1 := by unfold wrap64; omega
    obtain ⟨b, hb⟩ := letter_some (bt s i)
    obtain ⟨c, hc⟩ := digit_some (bt s i)
    simp only [regex_name.l0]
    rw [if_pos (by omega), if_pos h0, if_pos (by omega), hb, hc, hw, hr]
    cases b <;> cases c <;> simp
theorem name_some (s : ByteArray) : regex_name.f 100 s = some (nameB s) := by
  have : ∃ b, regex_name.f 100 s = some b := by
    unfold regex_name.f
    have hj : ∀ t, s.size ≤ 64 → ∃ b, regex_name.j0 100 s t = some b := by
      intro t hs
      rw [show (100 : Nat) = 99 + 1 from rfl]
      simp only [regex_name.j0]
      split
      · exact ⟨_, rfl⟩
      · exact name_l0 s hs s.size 99 0 (by omega) (by omega) (by omega) (by omega)
    have hj' : ∃ b, regex_name.j0 100 s true = some b := ⟨false, by rw [show (100 : Nat) = 99 + 1 from rfl]; simp only [regex_name.j0]; rfl⟩
    split
    · exact hj'
    · split
      · exact hj'
      · rename_i h1 h2
        have hpos : 0 < s.size := by
          rcases Nat.eq_zero_or_pos s.size with h | h
          · exfalso
            apply h1
            have h3 : s.data.size = 0 := h
            have h4 : s.data = #[] := Array.eq_empty_of_size_eq_zero h3
            show s.toList = []
            unfold ByteArray.toList ByteArray.toList.loop
            simp [h]
          · exact h
        rw [if_pos (by omega)]
        obtain ⟨b, hb⟩ := letter_some (bt s 0)
        rw [hb]
        exact hj _ (by omega)
  obtain ⟨b, hb⟩ := this
  unfold nameB
  rw [hb]
  rfl
mutual
def rightF : S25 → Bool
  | ⟨op, nm, ks⟩ =>
    if op = 1 then nameB nm && ks.isEmpty
    else if op = 2 ∨ op = 3 ∨ op = 4 then nm.toList.isEmpty && ks.isEmpty
    else if op = 7 ∨ op = 8 then nm.toList.isEmpty && ks.length == 1 && headF ks
    else if op = 5 ∨ op = 6 then nm.toList.isEmpty && decide (2 ≤ ks.length) && !badF op ks
    else false
def headF : List S25 → Bool
  | [] => false
  | k :: _ => rightF k
def badF (op : Int) : List S25 → Bool
  | [] => false
  | k :: ks => (k.f0 == op || !rightF k) || badF op ks
end
theorem rightF_eq (op : Int) (nm : ByteArray) (ks : List S25) : rightF ⟨op, nm, ks⟩ = (if op = 1 then nameB nm && ks.isEmpty
    else if op = 2 ∨ op = 3 ∨ op = 4 then nm.toList.isEmpty && ks.isEmpty
    else if op = 7 ∨ op = 8 then nm.toList.isEmpty && ks.length == 1 && headF ks
    else if op = 5 ∨ op = 6 then nm.toList.isEmpty && decide (2 ≤ ks.length) && !badF op ks
    else false) := by rw [rightF]
def RightOk (r : S25) : Prop := ∀ (w : World) (A : Option Addr) (c : Nat), Kd.C k25 w A r.f2.length r.f2 → r.f2.length ≤ c →
  Calls Try.prog 65 #[.agg #[.int .i64 r.f0, .string r.f1, .slice A r.f2.length c]] w fun e w' => e = .returned (.bool (rightF r)) ∧ Below w.heap.size w w'
set_option maxHeartbeats 800000 in
theorem right_name (nm : ByteArray) (ks : List S25) : RightOk ⟨1, nm, ks⟩ := by
  intro w A c hr hc
  rw [rightF_eq, if_pos rfl]
  show Calls Try.prog 65 #[.agg #[.int .i64 1, .string nm, .slice A ks.length c]] w _
  have hn := name_some nm
  cases hb : nameB nm with
  | false =>
    rw [hb] at hn
    have HN := Lib.hid hn
    clear hn hb hr
    go_enter Try.func65, Try.ntmps65
    go_wp2_with (go_at_call 80; refine (regex_name.calls 100 nm false _ HN.out).mono ?_; rintro e w' ⟨rfl, ⟨nd, rfl⟩⟩)
    go_ret
    exact ⟨rfl, by repeat (first | exact Below.refl _ _ | apply below_alloc | apply pw_below_drewN)⟩
  | true =>
    rw [hb] at hn
    have HN := Lib.hid hn
    clear hn hb hr
    have e0 : (((ks.length : Int)) == 0) = ks.isEmpty := by cases ks <;> simp <;> omega
    go_enter Try.func65, Try.ntmps65
    go_wp2_with (go_at_call 80; refine (regex_name.calls 100 nm true _ HN.out).mono ?_; rintro e w' ⟨rfl, ⟨nd, rfl⟩⟩)
    go_ret
    exact ⟨rfl, by repeat (first | exact Below.refl _ _ | apply below_alloc | apply pw_below_drewN)⟩
set_option maxHeartbeats 800000 in
theorem right_leaf (op : Int) (nm : ByteArray) (ks : List S25) (h : op = 2 ∨ op = 3 ∨ op = 4) : RightOk ⟨op, nm, ks⟩ := by
  intro w A c hr hc
  have h1 : ¬ op = 1 := by omega
  rw [rightF_eq, if_neg h1, if_pos h]
  show Calls Try.prog 65 #[.agg #[.int .i64 op, .string nm, .slice A ks.length c]] w _
  have e0 : (((ks.length : Int)) == 0) = ks.isEmpty := by cases ks <;> simp <;> omega
  clear hr h1
  rcases h with rfl | rfl | rfl
  all_goals
    cases hb : nm.toList with
    | nil =>
      go_enter Try.func65, Try.ntmps65
      go_wp2
      go_ret
      exact ⟨rfl, by repeat (first | exact Below.refl _ _ | apply below_alloc | apply pw_below_drewN)⟩
    | cons x xs =>
      go_enter Try.func65, Try.ntmps65
      go_wp2
      go_ret
      exact ⟨rfl, by repeat (first | exact Below.refl _ _ | apply below_alloc | apply pw_below_drewN)⟩
theorem right_other (op : Int) (nm : ByteArray) (ks : List S25) (h : ¬ (1 ≤ op ∧ op ≤ 8)) : RightOk ⟨op, nm, ks⟩ := by
  intro w A c hr hc
  rw [rightF_eq, if_neg (by omega), if_neg (by omega), if_neg (by omega), if_neg (by omega)]
  show Calls Try.prog 65 #[.agg #[.int .i64 op, .string nm, .slice A ks.length c]] w _
  have n1 : (op == 1) = false := by simp; omega
  have n2 : (op == 2) = false := by simp; omega
  have n3 : (op == 3) = false := by simp; omega
  have n4 : (op == 4) = false := by simp; omega
  have n5 : (op == 5) = false := by simp; omega
  have n6 : (op == 6) = false := by simp; omega
  have n7 : (op == 7) = false := by simp; omega
  have n8 : (op == 8) = false := by simp; omega
  clear hr h
  go_enter Try.func65, Try.ntmps65
  go_wp2
  go_ret
  exact ⟨rfl, by repeat (first | exact Below.refl _ _ | apply below_alloc | apply pw_below_drewN)⟩
set_option maxHeartbeats 800000 in
theorem right_one (op : Int) (nm : ByteArray) (ks : List S25) (h : op = 7 ∨ op = 8) (ih : ∀ k, k ∈ ks → RightOk k) : RightOk ⟨op, nm, ks⟩ := by
  intro w A c hr hc
  rw [rightF_eq, if_neg (by omega), if_neg (by omega), if_pos h]
  show Calls Try.prog 65 #[.agg #[.int .i64 op, .string nm, .slice A ks.length c]] w _
  have hr' : Kd.C k25 w A ks.length ks := hr
  clear hr
  cases hb : nm.toList with
  | cons x xs =>
    clear hr'
    rcases h with rfl | rfl
    all_goals
      go_enter Try.func65, Try.ntmps65
      go_wp2
      go_ret
      exact ⟨rfl, by repeat (first | exact Below.refl _ _ | apply below_alloc | apply pw_below_drewN)⟩
  | nil =>
    by_cases hl : ks.length = 1
    · obtain ⟨k, rfl⟩ : ∃ k, ks = [k] := List.length_eq_one_iff.mp hl
      have hk := ih k (by simp)
      obtain ⟨ad, A2, c2, rfl, hx0, hx1, hx2, hl2, hg2⟩ := at_T25 hr' 0 (by omega) (by simp)
      have hrd : rd_T25 [k] 0 = k := rfl
      rw [hrd] at hx0 hx1 hx2 hl2 hg2
      have HG := Aside0.mk hg2
      have HK := Aside0.mk hk
      have HL := Aside0.mk hl2
      have ha : ad.add 0 = ad := by unfold Addr.add; simp
      simp only [Int.toNat_zero, Nat.zero_mul, ha] at hx0 hx1 hx2
      have hy0 := pw_cell_below (below_alloc (Below.refl _ _) (.cells #[.int .i64 op, .string nm, .slice (some ad) 1 c] 25)) hx0
      have hy1 := pw_cell_below (below_alloc (Below.refl _ _) (.cells #[.int .i64 op, .string nm, .slice (some ad) 1 c] 25)) hx1
      have hy2 := pw_cell_below (below_alloc (Below.refl _ _) (.cells #[.int .i64 op, .string nm, .slice (some ad) 1 c] 25)) hx2
      clear hx0 hx1 hx2 ha hrd
      clear hr' hk hg2 ih hl hl2
      rcases h with rfl | rfl
      all_goals
        go_enter Try.func65, Try.ntmps65
        go_wp2_with (go_at_call 65; refine (HK.out _ A2 c2 (Kd.C_below HG.out (below_alloc (Below.refl _ _) _)) HL.out).mono ?_; rintro e w1 ⟨rfl, hb1⟩; have HB1 := Aside0.mk hb1; clear hb1)
        go_ret
        exact ⟨rfl, below_then (below_alloc (Below.refl _ _) _) (by simp) HB1.out⟩
    · have e0 : (((ks.length : Int)) == 1) = false := by simp; omega
      have e1 : (ks.length == 1) = false := by simp; omega
      clear hr' hl
      rcases h with rfl | rfl
      all_goals
        go_enter Try.func65, Try.ntmps65
        go_wp2
        go_ret
        exact ⟨rfl, by repeat (first | exact Below.refl _ _ | apply below_alloc | apply pw_below_drewN)⟩
set_option maxHeartbeats 800000 in
theorem bad_calls (k : S25) (op : Int) (B : Nat) (A2 : Option Addr) (c2 : Nat) (w : World) (hk : RightOk k) (hg : Kd.C k25 w A2 k.f2.length k.f2) (hl : k.f2.length ≤ c2) (hc : w.cell? ⟨B, 0, none⟩ = some (.int .i64 op)) :
    Calls Try.prog 82 #[.agg #[.int .i64 k.f0, .string k.f1, .slice A2 k.f2.length c2], .pointer (some ⟨B, 0, none⟩)] w fun e w' => e = .returned (.bool (k.f0 == op || !rightF k)) ∧ Below w.heap.size w w' := by
  have HG := Aside0.mk hg
  have HK := Aside0.mk hk
  have HL := Aside0.mk hl
  have hy0 := pw_cell_below (below_alloc (Below.refl _ _) (.cells #[.int .i64 k.f0, .string k.f1, .slice A2 k.f2.length c2] 25)) hc
  clear hk hg hl hc
  by_cases he : k.f0 = op
  · have e0 : (k.f0 == op) = true := by simp [he]
    clear he
    go_enter Try.func82, Try.ntmps82
    go_wp2
    go_ret
    exact ⟨by rw [e0]; rfl, by repeat (first | exact Below.refl _ _ | apply below_alloc | apply pw_below_drewN)⟩
  · have e0 : (k.f0 == op) = false := by simp [he]
    clear he
    go_enter Try.func82, Try.ntmps82
    go_wp2_with (go_at_call 65; refine (HK.out _ A2 c2 (Kd.C_below HG.out (below_alloc (Below.refl _ _) _)) HL.out).mono ?_; rintro e w1 ⟨rfl, hb1⟩; have HB1 := Aside0.mk hb1; clear hb1)
    go_ret
    exact ⟨by rw [e0]; rfl, below_then (below_alloc (Below.refl _ _) _) (by simp) HB1.out⟩
theorem badF_step (op : Int) (l : List S25) (k : Nat) (h : k < l.length) : badF op (l.drop k) = ((((rd_T25 l k).f0 == op) || !rightF (rd_T25 l k)) || badF op (l.drop (k + 1))) := by
  rw [List.drop_eq_getElem_cons h, badF]
  unfold rd_T25
  simp [List.getElem?_eq_getElem h]
theorem badF_end (op : Int) (l : List S25) (k : Nat) (h : l.length ≤ k) : badF op (l.drop k) = false := by
  rw [List.drop_eq_nil_of_le h, badF]
set_option maxHeartbeats 1600000 in
theorem badIndex_calls (op : Int) (l : List S25) (A : Option Addr) (c B : Nat) (w : World) (ih : ∀ k, k ∈ l → RightOk k) (hr : Kd.C k25 w A l.length l)
    (hc : w.cell? ⟨B, 0, none⟩ = some (.int .i64 op)) :
    Calls Try.prog 93 #[.slice A l.length c, .func (.func 82) #[] #[.pointer (some ⟨B, 0, none⟩)]] w fun e w' => ∃ i : Int, e = .returned (.int .i64 i) ∧ decide (0 ≤ i) = badF op l ∧ Below w.heap.size w w' := by
  have hl : l.length ≤ 9223372036854775807 := hr.2.1
  have HR := Aside0.mk hr
  have HC := Aside0.mk hc
  have HI := Aside0.mk ih
  clear hr hc ih
  go_enter Try.func93, Try.ntmps93
  go_wp2
  go_loopw [5, 8] (fun _ i wr => ∃ k : Nat, k ≤ l.length ∧ i = .int .i64 k ∧ Aside0 (badF op l = badF op (l.drop k)) ∧ Aside0 (Below w.heap.size w wr)) (fun _ i _ => l.length - (intOf i).toNat)
  case atStart => exact ⟨0, Nat.zero_le _, rfl, ⟨rfl⟩, ⟨Below.refl _ _⟩⟩
  case round =>
    obtain ⟨k, hk, rfl, hbad, HB⟩ := hrel
    by_cases hlt : k < l.length
    · obtain ⟨ad, A2, c2, rfl, hx0, hx1, hx2, hl2, hg2⟩ := at_T25 HR.out (k : Int) (by omega) (by omega)
      rw [Int.toNat_natCast] at hx0 hx1 hx2
      have hy0 := pw_cell_below HB.out hx0
      have hy1 := pw_cell_below HB.out hx1
      have hy2 := pw_cell_below HB.out hx2
      have HG := Aside0.mk (Kd.C_below hg2 HB.out)
      have HL := Aside0.mk hl2
      have HK := Aside0.mk (HI.out (rd_T25 l k) (by unfold rd_T25; simp [List.getElem?_eq_getElem hlt]))
      have HS := Aside0.mk (badF_step op l k hlt)
      have HC2 := Aside0.mk (pw_cell_below HB.out HC.out)
      clear hx0 hx1 hx2 hl2 hg2
      cases hb : (((rd_T25 l k).f0 == op) || !rightF (rd_T25 l k)) with
      | true =>
        have HBB := Lib.hid hb
        clear hb
        go_wp2_with (go_at_call 82; refine (bad_calls (rd_T25 l k) op B A2 c2 _ HK.out HG.out HL.out HC2.out).mono ?_; rintro e w1 ⟨rfl, hb1⟩; have HB1 := Aside0.mk hb1; clear hb1; rw [HBB.out])
        go_ret
        exact ⟨_, rfl, by rw [hbad.out, HS.out, HBB.out]; simp, below_then HB.out HB.out.size HB1.out⟩
      | false =>
        have HBB := Lib.hid hb
        clear hb
        go_wp2_with (go_at_call 82; refine (bad_calls (rd_T25 l k) op B A2 c2 _ HK.out HG.out HL.out HC2.out).mono ?_; rintro e w1 ⟨rfl, hb1⟩; have HB1 := Aside0.mk hb1; clear hb1; rw [HBB.out])
        go_roundw
        case rel => exact ⟨k + 1, by omega, by go_num, ⟨by rw [hbad.out, HS.out, HBB.out]; simp⟩, ⟨below_then HB.out HB.out.size HB1.out⟩⟩
        case measure => simp [intOf]; omega
    · have hge : l.length ≤ k := by omega
      have HE := Aside0.mk (badF_end op l k hge)
      go_wp2
      go_ret
      exact ⟨_, rfl, by rw [hbad.out, HE.out]; rfl, HB.out⟩
set_option maxHeartbeats 400000 in
theorem badContains_calls (op : Int) (l : List S25) (A : Option Addr) (c B : Nat) (w : World) (ih : ∀ k, k ∈ l → RightOk k) (hr : Kd.C k25 w A l.length l)
    (hc : w.cell? ⟨B, 0, none⟩ = some (.int .i64 op)) :
    Calls Try.prog 81 #[.slice A l.length c, .func (.func 82) #[] #[.pointer (some ⟨B, 0, none⟩)]] w fun e w' => e = .returned (.bool (badF op l)) ∧ Below w.heap.size w w' := by
  have HR := Aside0.mk hr
  have HC := Aside0.mk hc
  have HI := Aside0.mk ih
  clear hr hc ih
  go_enter Try.func81, Try.ntmps81
  go_wp2_with (go_at_call 93; refine (badIndex_calls op l A c B _ HI.out HR.out HC.out).mono ?_; rintro e w' ⟨i, rfl, hi, hb⟩; have HB := Aside0.mk hb; clear hb)
  go_ret
  exact ⟨rfl, HB.out⟩
set_option maxHeartbeats 1600000 in
theorem right_many (op : Int) (nm : ByteArray) (ks : List S25) (h : op = 5 ∨ op = 6) (ih : ∀ k, k ∈ ks → RightOk k) : RightOk ⟨op, nm, ks⟩ := by
  intro w A c hr hc
  rw [rightF_eq, if_neg (by omega), if_neg (by omega), if_neg (by omega), if_pos h]
  show Calls Try.prog 65 #[.agg #[.int .i64 op, .string nm, .slice A ks.length c]] w _
  have hmf : ∀ (fn : Fn) (first cap : Array Value) (w : World), (Instr.makeFunc fn first cap).run Try.prog w = .ok (.func fn first cap) w := fun _ _ _ _ => rfl
  have hr' : Kd.C k25 w A ks.length ks := hr
  have hm : ks.length ≤ 9223372036854775807 := hr'.2.1
  clear hr
  cases hb : nm.toList with
  | cons x xs =>
    clear hr' ih
    rcases h with rfl | rfl
    all_goals
      go_enter Try.func65, Try.ntmps65
      go_wp2
      go_ret
      exact ⟨rfl, by repeat (first | exact Below.refl _ _ | apply below_alloc | apply pw_below_drewN)⟩
  | nil =>
    by_cases hl : 2 ≤ ks.length
    · have e0 : decide ((2 : Int) ≤ (ks.length : Int)) = true := decide_eq_true (by omega)
      have e1 : decide (2 ≤ ks.length) = true := decide_eq_true hl
      have HX := Aside0.mk (badContains_calls op ks A c w.heap.size _ ih (Kd.C_below hr' (below_alloc (Below.refl _ _) (.cells #[.int .i64 op, .string nm, .slice A ks.length c] 25))) ((blk_cell (blk_new _ _) 0).trans rfl))
      clear hr' ih hl
      rcases h with rfl | rfl
      all_goals
        go_enter Try.func65, Try.ntmps65
        go_wp2_with (go_at_call 81; refine HX.out.mono ?_; rintro e w1 ⟨rfl, hb1⟩; have HB1 := Aside0.mk hb1; clear hb1)
        go_ret
        exact ⟨by first | rfl | (rw [e1]; rfl), below_then (below_alloc (Below.refl _ _) _) (by simp) HB1.out⟩
    · have e0 : decide ((2 : Int) ≤ (ks.length : Int)) = false := decide_eq_false (by omega)
      have e1 : decide (2 ≤ ks.length) = false := decide_eq_false hl
      clear hr' hl
      rcases h with rfl | rfl
      all_goals
        go_enter Try.func65, Try.ntmps65
        go_wp2
        go_ret
        exact ⟨by first | rfl | (rw [e1]; rfl), by repeat (first | exact Below.refl _ _ | apply below_alloc | apply pw_below_drewN)⟩
theorem right_ok : ∀ (n : Nat) (r : S25), SizeOf.sizeOf r ≤ n → RightOk r := by
  intro n
  induction n with
  | zero => intro r h; cases r; simp at h
  | succ n ih =>
    intro r h
    obtain ⟨op, nm, ks⟩ := r
    have hk : ∀ k, k ∈ ks → RightOk k := by
      intro k hk
      apply ih
      have := List.sizeOf_lt_of_mem hk
      simp at h
      omega
    by_cases h1 : op = 1
    · subst h1; exact right_name nm ks
    · by_cases h2 : op = 2 ∨ op = 3 ∨ op = 4
      · exact right_leaf op nm ks h2
      · by_cases h3 : op = 7 ∨ op = 8
        · exact right_one op nm ks h3 hk
        · by_cases h4 : op = 5 ∨ op = 6
          · exact right_many op nm ks h4 hk
          · exact right_other op nm ks (by omega)
def checkF (k : Nat) (op : Int) (nm : ByteArray) (ks : List S25) : Option Int :=
  (regex_measure.f k op nm ks 1).map fun m => if m.2 = true then (if rightF ⟨op, nm, ks⟩ = true then 0 else 70) else 71
set_option maxHeartbeats 800000 in
theorem check_calls (k : Nat) (op : Int) (nm : ByteArray) (ks : List S25) (A : Option Addr) (c : Nat) (r : Int) (w : World) (hr : Kd.C k25 w A ks.length ks) (hc : ks.length ≤ c) (h : checkF k op nm ks = some r) :
    Calls Try.prog 35 #[.agg #[.int .i64 op, .string nm, .slice A ks.length c]] w fun e w' => e = .returned (.int .i64 r) ∧ Below w.heap.size w w' := by
  have HR := Aside0.mk hr
  have HC := Aside0.mk hc
  unfold checkF at h
  obtain ⟨⟨m, ok⟩, hm, h⟩ := Option.map_eq_some_iff.mp h
  have HM := Aside0.mk hm
  have HO := Aside0.mk (right_ok _ ⟨op, nm, ks⟩ (Nat.le_refl _))
  clear hr hc hm
  cases ok with
  | false =>
    obtain rfl : 71 = r := h
    go_enter Try.func35, Try.ntmps35
    go_wp2_with (go_at_call 64; refine (regex_measure.calls k op nm A c ks 1 m false _ (Kd.C_below HR.out (below_alloc (Below.refl _ _) _)) HC.out HM.out).mono ?_; rintro e w1 ⟨rfl, hb1⟩; have HB1 := Aside0.mk (below_then (below_alloc (Below.refl _ _) _) (by simp) hb1); clear hb1)
    go_ret
    exact ⟨rfl, HB1.out⟩
  | true =>
    have H : (if rightF ⟨op, nm, ks⟩ = true then (0 : Int) else 70) = r := h
    clear h
    have HBX : ∀ j v, (#[.int .i64 op, .string nm, .slice A ks.length c] : Array Value)[j]? = some v → (w.alloc (.cells #[.int .i64 op, .string nm, .slice A ks.length c] 25)).cell? ⟨w.heap.size, j, none⟩ = some v := fun j v hj => (blk_cell (blk_new _ _) j).trans hj
    have HX := Aside0.mk HBX
    clear HBX
    cases hb : rightF ⟨op, nm, ks⟩ with
    | true =>
      have HBB := Lib.hid hb
      rw [hb] at H
      obtain rfl : (0 : Int) = r := H
      clear hb
      go_enter Try.func35, Try.ntmps35
      go_wp2_with (first | (go_at_call 64; refine (regex_measure.calls k op nm A c ks 1 m true _ (Kd.C_below HR.out (below_alloc (Below.refl _ _) _)) HC.out HM.out).mono ?_; rintro e w1 ⟨rfl, hb1⟩; have HB1 := Aside0.mk (below_then (below_alloc (Below.refl _ _) _) (by simp) hb1); have hc0 := pw_cell_below hb1 (HX.out 0 _ rfl); have hc1 := pw_cell_below hb1 (HX.out 1 _ rfl); have hc2 := pw_cell_below hb1 (HX.out 2 _ rfl); clear hb1) | (go_at_call 65; refine (HO.out _ A c (Kd.C_below HR.out HB1.out) HC.out).mono ?_; rintro e w2 ⟨rfl, hb2⟩; have HB2 := Aside0.mk (below_then HB1.out HB1.out.size hb2); clear hb2; rw [HBB.out]))
      go_ret
      exact ⟨rfl, HB2.out⟩
    | false =>
      have HBB := Lib.hid hb
      rw [hb] at H
      obtain rfl : (70 : Int) = r := H
      clear hb
      go_enter Try.func35, Try.ntmps35
      go_wp2_with (first | (go_at_call 64; refine (regex_measure.calls k op nm A c ks 1 m true _ (Kd.C_below HR.out (below_alloc (Below.refl _ _) _)) HC.out HM.out).mono ?_; rintro e w1 ⟨rfl, hb1⟩; have HB1 := Aside0.mk (below_then (below_alloc (Below.refl _ _) _) (by simp) hb1); have hc0 := pw_cell_below hb1 (HX.out 0 _ rfl); have hc1 := pw_cell_below hb1 (HX.out 1 _ rfl); have hc2 := pw_cell_below hb1 (HX.out 2 _ rfl); clear hb1) | (go_at_call 65; refine (HO.out _ A c (Kd.C_below HR.out HB1.out) HC.out).mono ?_; rintro e w2 ⟨rfl, hb2⟩; have HB2 := Aside0.mk (below_then HB1.out HB1.out.size hb2); clear hb2; rw [HBB.out]))
      go_ret
      exact ⟨rfl, HB2.out⟩
end Go.Proofs.Ytapinbmkjkbkkaa.Mk
