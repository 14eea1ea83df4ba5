import Derived.Test.YtapinbmkjkbkkaaTuMc
import Derived.Test.YtapinbmkjkbkkaaTuMd
import Derived.Test.YtapinbmkjkbkkaaTuRa
namespace Go.Proofs.Ytapinbmkjkbkkaa.Mk
open Go.RowKit Go.Proofs.YtapinbmkjkbkkaaW.PrintWords Go.Proofs.YtapinbmkjkbkkaaW.PrintLast Go.Proofs.YtapinbmkjkbkkaaW.PrintMore Lb
def FinB (W0 : World) (r1 r2 r3 r4 : Int) (r5 : List S78) (r6 : Int) (e : Ending) (W : World) : Prop :=
  ∃ v, e = .returned (.tuple #[.agg #[.int .i64 r1, .int .i64 r2, .int .i64 r3, .int .i64 r4, v], .int .i64 r6]) ∧ k78.R 78 W W0.heap.size (fun _ => True) v r5 ∧ Below W0.heap.size W0 W
def vars3 (W : World) (o2 : Obj) : World := ((W.alloc o2).alloc (.cells #[.int .i64 0, .int .i64 0, .int .i64 0, .int .i64 0, .slice none 0 0] 31)).alloc (.cells #[.int .i64 0] 32)
theorem vars3_2 (W : World) (o2 : Obj) : (vars3 W o2).heap[W.heap.size]? = some o2 := blk_alloc (blk_alloc (blk_new _ _) _) _
theorem vars3_4 (W : World) (o2 : Obj) : (vars3 W o2).heap[W.heap.size + 1]? = some (.cells #[.int .i64 0, .int .i64 0, .int .i64 0, .int .i64 0, .slice none 0 0] 31) := by
  have e := blk_new (W.alloc o2) (.cells #[.int .i64 0, .int .i64 0, .int .i64 0, .int .i64 0, .slice none 0 0] 31)
  exact blk_alloc (by simpa using e) _
theorem vars3_5 (W : World) (o2 : Obj) : (vars3 W o2).heap[W.heap.size + 1 + 1]? = some (.cells #[.int .i64 0] 32) := by
  have e := blk_new ((W.alloc o2).alloc (.cells #[.int .i64 0, .int .i64 0, .int .i64 0, .int .i64 0, .slice none 0 0] 31)) (.cells #[.int .i64 0] 32)
  simpa [vars3] using e
theorem vars3_below (W : World) (o2 : Obj) : Below W.heap.size W (vars3 W o2) := below_alloc (below_alloc (below_alloc (Below.refl _ _) _) _) _
theorem vars3_size (W : World) (o2 : Obj) : (vars3 W o2).heap.size = W.heap.size + 1 + 1 + 1 := by simp [vars3]
theorem results11_ (tmps : Array Value) (w : World) (g g' : Nat) (cs : Array Value) (x : Value) (hp : tmps.getD 4 undef = .pointer (some ⟨g, 0, none⟩)) (hg : w.heap[g]? = some (.cells cs 31 (0, 0))) (hs : cs.size = 5)
    (hp' : tmps.getD 5 undef = .pointer (some ⟨g', 0, none⟩)) (hc' : w.cell? ⟨g', 0, none⟩ = some x) : (results Try.f11 tmps).run Try.prog w = .ok (.tuple #[.agg cs, x]) w := by
  have h1 : tmps[4]?.getD undef = .pointer (some ⟨g, 0, none⟩) := by simpa using hp
  have h2 : tmps[5]?.getD undef = .pointer (some ⟨g', 0, none⟩) := by simpa using hp'
  have hi : (Try.prog.info? 31).map (·.size) = some 5 := by kernel_rfl
  have hrow := run_loadVar_row (P := Try.prog) w g 31 31 cs (0, 0) _ hg Try.underlying31 rfl (by rw [hi, hs])
  have hrow2 : (loadVar 32 ⟨g', 0, none⟩).run Try.prog w = .ok x w := by simp [go_sem, hc']
  simp [results, Try.results11, h1, h2, asAddr, hrow, hrow2]
theorem door_idle (tmps : Array Value) (w : World) (g g' : Nat) (cs : Array Value) (x : Value) (hp : tmps.getD 4 undef = .pointer (some ⟨g, 0, none⟩)) (hg : w.heap[g]? = some (.cells cs 31 (0, 0))) (hs : cs.size = 5)
    (hp' : tmps.getD 5 undef = .pointer (some ⟨g', 0, none⟩)) (hc' : w.cell? ⟨g', 0, none⟩ = some x) (R : Ending → World → Prop) (hK : R (.returned (.tuple #[.agg cs, x])) w) :
    bodyPostD Try.prog Try.f11 R Exit.ret { tmps := tmps, defers := [{ target := Target.fn (Fn.func 34) #[], args := #[.pointer (some ⟨g', 0, none⟩)] }] } w := by
  refine leaves_cons (f := 34) (args := #[.pointer (some ⟨g', 0, none⟩)]) (by simp) (by simp [go_sem]) ?_
  refine (caught_idle ⟨g', 0, none⟩ _).mono ?_
  rintro e u' w'' ⟨rfl, rfl, rfl⟩
  exact ⟨_, results11_ tmps _ g g' cs x hp hg hs hp' hc', hK⟩
theorem door_many (tmps : Array Value) (w : World) (g g' : Nat) (cs : Array Value) (x : Int) (hp : tmps.getD 4 undef = .pointer (some ⟨g, 0, none⟩)) (hg : w.heap[g]? = some (.cells cs 31 (0, 0))) (hs : cs.size = 5)
    (hp' : tmps.getD 5 undef = .pointer (some ⟨g', 0, none⟩)) (hc' : w.heap[g']? = some (.cells #[.int .i64 x] 32 (0, 0))) (R : Ending → World → Prop) (hK : R (.returned (.tuple #[.agg cs, .int .i64 3])) (w.setCell ⟨g', 0, none⟩ (.int .i64 3))) :
    bodyPostD Try.prog Try.f11 R (Exit.panic [{ v := .iface 32 (.int .i64 3), recovered := false }]) { tmps := tmps, defers := [{ target := Target.fn (Fn.func 34) #[], args := #[.pointer (some ⟨g', 0, none⟩)] }] } w := by
  refine leaves_cons (f := 34) (args := #[.pointer (some ⟨g', 0, none⟩)]) (by simp) (by simp [go_sem]) ?_
  refine (caught_many ⟨g', 0, none⟩ x [] _ ((blk_cell hc' 0).trans rfl) (blk_frozen hc' 0)).mono ?_
  rintro e u' w'' ⟨rfl, rfl, rfl⟩
  refine ⟨_, results11_ tmps _ g g' cs (.int .i64 3) hp ?_ hs hp' ?_, hK⟩
  · exact blk_far hg (blk_ne hg hc' (by decide)) _
  · exact (blk_cell (blk_set hc' 0 _) 0).trans rfl
def setA (w : World) (g : Nat) (x0 x1 x2 x3 x4 : Value) : World := ((((w.setCell ⟨g, 0, none⟩ x0).setCell ⟨g, 1, none⟩ x1).setCell ⟨g, 2, none⟩ x2).setCell ⟨g, 3, none⟩ x3).setCell ⟨g, 4, none⟩ x4
theorem setA_blk {w : World} {g : Nat} {a0 a1 a2 a3 a4 : Value} (h : w.heap[g]? = some (.cells #[a0, a1, a2, a3, a4] 31 (0, 0))) (x0 x1 x2 x3 x4 : Value) : (setA w g x0 x1 x2 x3 x4).heap[g]? = some (.cells #[x0, x1, x2, x3, x4] 31 (0, 0)) :=
  blk_put (blk_put (blk_put (blk_put (blk_put h 0 x0 rfl) 1 x1 rfl) 2 x2 rfl) 3 x3 rfl) 4 x4 rfl
theorem setA_far {w : World} {g g' : Nat} {cs : Array Value} {t : TypeId} (h : w.heap[g']? = some (.cells cs t (0, 0))) (hne : g' ≠ g) (x0 x1 x2 x3 x4 : Value) : (setA w g x0 x1 x2 x3 x4).heap[g']? = some (.cells cs t (0, 0)) :=
  blk_far (blk_far (blk_far (blk_far (blk_far h hne _) hne _) hne _) hne _) hne _
theorem setA_R {w : World} {g base : Nat} {cs : Array Value} {v : Value} {l : List S78} (hR : k78.R 78 w base (fun _ => True) v l) (h : w.heap[g]? = some (.cells cs 31 (0, 0))) (x0 x1 x2 x3 x4 : Value) : k78.R 78 (setA w g x0 x1 x2 x3 x4) base (fun _ => True) v l :=
  (r_set 4 x4 (r_set 3 x3 (r_set 2 x2 (r_set 1 x1 (r_set 0 x0 ⟨hR, _, h⟩))))).1
theorem setA_below {B g : Nat} {w W : World} (h : Below B W w) (hg : B ≤ g) (x0 x1 x2 x3 x4 : Value) : Below B W (setA w g x0 x1 x2 x3 x4) :=
  ((((h.setCell hg _).setCell hg _).setCell hg _).setCell hg _).setCell hg _
theorem name_check (s : ByteArray) : checkF 5 1 s [] = some (if nameB s = true then 0 else 70) := by
  have hm : regex_measure.f 5 1 s [] 1 = some (1, true) := by
    simp [regex_measure.f, regex_measure.l0]
  unfold checkF
  rw [hm, rightF_eq]
  simp
def namesOkF : List (List UInt8) → List ByteArray → Bool
  | _, [] => true
  | seen, s :: ss => !decide (nk s ∈ seen) && nameB s && namesOkF (seen ++ [nk s]) ss
theorem namesOk_step (names : List ByteArray) (k : Nat) (h : k < names.length) : namesOkF ((names.take k).map nk) (names.drop k) =
    (!decide (nk (rdOf ByteArray.empty names k) ∈ (names.take k).map nk) && nameB (rdOf ByteArray.empty names k) && namesOkF ((names.take (k + 1)).map nk) (names.drop (k + 1))) := by
  have e : rdOf ByteArray.empty names k = names[k] := by simp [rdOf, List.getElem?_eq_getElem h]
  rw [List.drop_eq_getElem_cons h, namesOkF, e, List.take_succ_eq_append_getElem h, List.map_append]
  rfl
theorem namesOk_end (names : List ByteArray) (k : Nat) (h : names.length ≤ k) : namesOkF ((names.take k).map nk) (names.drop k) = true := by
  rw [List.drop_eq_nil_of_le h, namesOkF]
set_option maxHeartbeats 6400000 in
theorem build_names (k : Nat) (r : S25) (A : Option Addr) (c : Nat) (names : List ByteArray) (An : Option Addr) (cn : Nat) (nn : St → Int → Int → St → Option St) (W : World) (hr : Kd.C k25 W A r.f2.length r.f2) (hc : r.f2.length ≤ c)
    (hn : Kd.C Kd.string W An names.length names) (hsz : ∀ i, (rdOf ByteArray.empty names i).size ≤ maxLen) (h : checkF k r.f0 r.f1 r.f2 = some 0) (hal : AloneOk (names.map nk) nn r)
    (R : Ending → World → Prop)
    (hbad : names.length > 4096 ∨ namesOkF [] names = false → ∀ e W', FinB W 0 0 0 0 [] 80 e W' → R e W')
    (hmany : names.length ≤ 4096 → namesOkF [] names = true → aloneF (names.map nk) nn r = none → ∀ e W', FinB W 0 0 0 0 [] 3 e W' → R e W')
    (hok : names.length ≤ 4096 → namesOkF [] names = true → ∀ s, aloneF (names.map nk) nn r = some s → ∀ e W', FinB W s.1 names.length 0 1 s.2 0 e W' → R e W') :
    Calls Try.prog 11 #[.agg #[.int .i64 r.f0, .string r.f1, .slice A r.f2.length c], .slice An names.length cn] W R := by
  have hmm := @run_makeMap Try.prog
  have HC := Aside0.mk hc
  have HR := Aside0.mk hr
  have HH := Aside0.mk h
  have HNM := Aside0.mk hn
  have HSZ := Aside0.mk hsz
  have HAL := Aside0.mk hal
  have HBAD := Aside0.mk hbad
  have HMANY := Aside0.mk hmany
  have HOK := Aside0.mk hok
  have hm : names.length ≤ 9223372036854775807 := hn.2.1
  have HV2 := Aside0.mk (vars3_2 W (.cells #[.int .i64 r.f0, .string r.f1, .slice A r.f2.length c] 25))
  have HV4 := Aside0.mk (vars3_4 W (.cells #[.int .i64 r.f0, .string r.f1, .slice A r.f2.length c] 25))
  have HV5 := Aside0.mk (vars3_5 W (.cells #[.int .i64 r.f0, .string r.f1, .slice A r.f2.length c] 25))
  have HVB := Aside0.mk (vars3_below W (.cells #[.int .i64 r.f0, .string r.f1, .slice A r.f2.length c] 25))
  clear hr hc h hn hsz hal hbad hmany hok
  go_enter_defers Try.func11, Try.ntmps11
  go_wp2_with (fail)
  go_at_call 35
  refine (check_calls k r.f0 r.f1 r.f2 A c 0 _ (Kd.C_below HR.out HVB.out) HC.out HH.out).mono ?_
  rintro e w1 ⟨rfl, hb1⟩
  have hb1' : Below (vars3 W (.cells #[.int .i64 r.f0, .string r.f1, .slice A r.f2.length c] 25)).heap.size (vars3 W (.cells #[.int .i64 r.f0, .string r.f1, .slice A r.f2.length c] 25)) w1 := hb1
  have B2 := Aside0.mk (blk_below HV2.out hb1')
  have B4 := Aside0.mk (blk_below HV4.out hb1')
  have B5 := Aside0.mk (blk_below HV5.out hb1')
  have HB1 := Aside0.mk (below_then HVB.out HVB.out.size hb1')
  have HSZ1 := Aside0.mk (Nat.le_trans (Nat.le_of_eq (vars3_size W (.cells #[.int .i64 r.f0, .string r.f1, .slice A r.f2.length c] 25)).symm) hb1'.size)
  clear hb1 hb1' HV2 HV4 HV5 HVB
  by_cases hmax : 4096 < names.length
  · have hd0 : decide ((4096 : Int) < (names.length : Int)) = true := decide_eq_true (by omega)
    have hd1 : decide (4096 < names.length) = true := decide_eq_true hmax
    have HBD := Aside0.mk (HBAD.out (.inl hmax))
    have C4 := Aside0.mk (blk_alloc (blk_alloc B4.out (.map #[] 0)) (.cells #[.int .i64 0, .int .i64 names.length, .int .i64 0, .int .i64 0, .slice none 0 0, .map (some w1.heap.size)] 71))
    have C5 := Aside0.mk (blk_alloc (blk_alloc B5.out (.map #[] 0)) (.cells #[.int .i64 0, .int .i64 names.length, .int .i64 0, .int .i64 0, .slice none 0 0, .map (some w1.heap.size)] 71))
    have hc40 := (blk_cell C4.out 0).trans rfl
    have hc41 := (blk_cell C4.out 1).trans rfl
    have hc42 := (blk_cell C4.out 2).trans rfl
    have hc43 := (blk_cell C4.out 3).trans rfl
    have hc44 := (blk_cell C4.out 4).trans rfl
    have hc50 := (blk_cell C5.out 0).trans rfl
    have hf0 := blk_frozen C4.out 0
    have hf1 := blk_frozen C4.out 1
    have hf2 := blk_frozen C4.out 2
    have hf3 := blk_frozen C4.out 3
    have hf4 := blk_frozen C4.out 4
    have hf5 := blk_frozen C5.out 0
    clear hmax
    go_wp2
    have hne : W.heap.size + 1 + 1 ≠ W.heap.size + 1 := by omega
    refine door_idle _ _ (W.heap.size + 1) (W.heap.size + 1 + 1) #[.int .i64 0, .int .i64 0, .int .i64 0, .int .i64 0, .slice none 0 0] (.int .i64 80) rfl ?_ rfl rfl ?_ _ ?_
    · exact blk_far (setA_blk C4.out _ _ _ _ _) hne.symm _
    · exact (blk_cell (blk_set (setA_far C5.out hne _ _ _ _ _) 0 _) 0).trans rfl
    · exact HBD.out _ _ ⟨.slice none 0 0, rfl, Kd.R_nil _ _ _ _ _, (setA_below (below_alloc (below_alloc HB1.out _) _) (by omega) _ _ _ _ _).setCell (by simp; omega) _⟩
  · have hd0 : decide ((4096 : Int) < (names.length : Int)) = false := decide_eq_false (by omega)
    have hd1 : decide (4096 < names.length) = false := decide_eq_false hmax
    have HMAX := Aside0.mk (Nat.le_of_not_lt hmax)
    have C2 := Aside0.mk (blk_alloc (blk_alloc B2.out (.map #[] 0)) (.cells #[.int .i64 0, .int .i64 names.length, .int .i64 0, .int .i64 0, .slice none 0 0, .map (some w1.heap.size)] 71))
    have C4 := Aside0.mk (blk_alloc (blk_alloc B4.out (.map #[] 0)) (.cells #[.int .i64 0, .int .i64 names.length, .int .i64 0, .int .i64 0, .slice none 0 0, .map (some w1.heap.size)] 71))
    have C5 := Aside0.mk (blk_alloc (blk_alloc B5.out (.map #[] 0)) (.cells #[.int .i64 0, .int .i64 names.length, .int .i64 0, .int .i64 0, .slice none 0 0, .map (some w1.heap.size)] 71))
    have CM : Aside0 (((w1.alloc (.map #[] 0)).alloc (.cells #[.int .i64 0, .int .i64 names.length, .int .i64 0, .int .i64 0, .slice none 0 0, .map (some w1.heap.size)] 71)).heap[w1.heap.size + 1]? = some (.cells #[.int .i64 0, .int .i64 names.length, .int .i64 0, .int .i64 0, .slice none 0 0, .map (some w1.heap.size)] 71 (0, 0))) := ⟨by have e := blk_new (w1.alloc (.map #[] 0)) (.cells #[.int .i64 0, .int .i64 names.length, .int .i64 0, .int .i64 0, .slice none 0 0, .map (some w1.heap.size)] 71); simpa using e⟩
    have CN : Aside0 (NamesAt ((w1.alloc (.map #[] 0)).alloc (.cells #[.int .i64 0, .int .i64 names.length, .int .i64 0, .int .i64 0, .slice none 0 0, .map (some w1.heap.size)] 71)) w1.heap.size []) := ⟨names_below (names_new w1) (below_alloc (Below.refl _ _) _)⟩
    have CB := Aside0.mk (below_alloc (below_alloc HB1.out (.map #[] 0)) (.cells #[.int .i64 0, .int .i64 names.length, .int .i64 0, .int .i64 0, .slice none 0 0, .map (some w1.heap.size)] 71))
    clear hmax B2 B4 B5 HB1
    go_wp2
    go_loopw [8, 9, 10, 11, 30] (fun _ _ _ _ i wr => ∃ j : Nat, j ≤ names.length ∧ i = .int .i64 j ∧ Aside0 (namesOkF [] names = namesOkF ((names.take j).map nk) (names.drop j)) ∧ Aside0 (NamesAt wr w1.heap.size ((names.take j).map nk)) ∧ Aside0 (wr.heap[w1.heap.size + 1]? = some (.cells #[.int .i64 0, .int .i64 names.length, .int .i64 0, .int .i64 0, .slice none 0 0, .map (some w1.heap.size)] 71 (0, 0))) ∧ Aside0 (wr.heap[W.heap.size]? = some (.cells #[.int .i64 r.f0, .string r.f1, .slice A r.f2.length c] 25 (0, 0))) ∧ Aside0 (wr.heap[W.heap.size + 1]? = some (.cells #[.int .i64 0, .int .i64 0, .int .i64 0, .int .i64 0, .slice none 0 0] 31 (0, 0))) ∧ Aside0 (wr.heap[W.heap.size + 1 + 1]? = some (.cells #[.int .i64 0] 32 (0, 0))) ∧ Aside0 (Below W.heap.size W wr)) (fun _ _ _ _ i _ => names.length - (intOf i).toNat)
    case atStart => exact ⟨0, Nat.zero_le _, rfl, ⟨rfl⟩, CN, CM, C2, C4, C5, CB⟩
    case round =>
      obtain ⟨j, hj, rfl, HNO, DN, DM, D2, D4, D5, DB⟩ := hrel
      clear C2 C4 C5 CM CN CB hd0 hd1
      by_cases hlt : j < names.length
      · obtain ⟨ad, rfl, hx0⟩ := Kd.at_string HNM.out (j : Int) (by omega) (by omega)
        rw [Int.toNat_natCast] at hx0
        have hy0 := pw_cell_below DB.out hx0
        have HST := Aside0.mk (namesOk_step names j hlt)
        have hm5 := (blk_cell DM.out 5).trans rfl
        have hlk := names_look DN.out (rdOf ByteArray.empty names j) (HSZ.out j)
        clear hx0
        by_cases hin : nk (rdOf ByteArray.empty names j) ∈ (names.take j).map nk
        · rw [decide_eq_true hin] at hlk
          have HBD := Aside0.mk (HBAD.out (.inr (by rw [HNO.out, HST.out, decide_eq_true hin]; rfl)))
          have hc40 := (blk_cell D4.out 0).trans rfl
          have hc41 := (blk_cell D4.out 1).trans rfl
          have hc42 := (blk_cell D4.out 2).trans rfl
          have hc43 := (blk_cell D4.out 3).trans rfl
          have hc44 := (blk_cell D4.out 4).trans rfl
          have hc50 := (blk_cell D5.out 0).trans rfl
          have hf0 := blk_frozen D4.out 0
          have hf1 := blk_frozen D4.out 1
          have hf2 := blk_frozen D4.out 2
          have hf3 := blk_frozen D4.out 3
          have hf4 := blk_frozen D4.out 4
          have hf5 := blk_frozen D5.out 0
          clear hin
          go_wp2
          have hne : W.heap.size + 1 + 1 ≠ W.heap.size + 1 := by omega
          refine door_idle _ _ (W.heap.size + 1) (W.heap.size + 1 + 1) #[.int .i64 0, .int .i64 0, .int .i64 0, .int .i64 0, .slice none 0 0] (.int .i64 80) rfl ?_ rfl rfl ?_ _ ?_
          · exact blk_far (setA_blk D4.out _ _ _ _ _) hne.symm _
          · exact (blk_cell (blk_set (setA_far D5.out hne _ _ _ _ _) 0 _) 0).trans rfl
          · exact HBD.out _ _ ⟨.slice none 0 0, rfl, Kd.R_nil _ _ _ _ _, (setA_below DB.out (by omega) _ _ _ _ _).setCell (by simp; omega) _⟩
        · rw [decide_eq_false hin] at hlk
          have HIN := Aside0.mk hin
          clear hin
          cases hb : nameB (rdOf ByteArray.empty names j) with
          | false =>
            have HBD := Aside0.mk (HBAD.out (.inr (by rw [HNO.out, HST.out, hb]; simp)))
            have HCK := Aside0.mk ((name_check (rdOf ByteArray.empty names j)).trans (by rw [hb]; rfl : _ = some (70 : Int)))
            clear hb
            go_wp2_with (fail)
            go_at_call 35
            refine (check_calls 5 1 (rdOf ByteArray.empty names j) [] none 0 70 _ (Kd.C_nil _ _) (Nat.le_refl _) HCK.out).mono ?_
            rintro e w2 ⟨rfl, hb2⟩
            have E4 := Aside0.mk (blk_below D4.out hb2)
            have E5 := Aside0.mk (blk_below D5.out hb2)
            have EB := Aside0.mk (below_then DB.out DB.out.size hb2)
            clear hb2 hlk hm5 hy0
            have hc40 := (blk_cell E4.out 0).trans rfl
            have hc41 := (blk_cell E4.out 1).trans rfl
            have hc42 := (blk_cell E4.out 2).trans rfl
            have hc43 := (blk_cell E4.out 3).trans rfl
            have hc44 := (blk_cell E4.out 4).trans rfl
            have hc50 := (blk_cell E5.out 0).trans rfl
            have hf0 := blk_frozen E4.out 0
            have hf1 := blk_frozen E4.out 1
            have hf2 := blk_frozen E4.out 2
            have hf3 := blk_frozen E4.out 3
            have hf4 := blk_frozen E4.out 4
            have hf5 := blk_frozen E5.out 0
            go_wp2
            have hne : W.heap.size + 1 + 1 ≠ W.heap.size + 1 := by omega
            refine door_idle _ _ (W.heap.size + 1) (W.heap.size + 1 + 1) #[.int .i64 0, .int .i64 0, .int .i64 0, .int .i64 0, .slice none 0 0] (.int .i64 80) rfl ?_ rfl rfl ?_ _ ?_
            · exact blk_far (setA_blk E4.out _ _ _ _ _) hne.symm _
            · exact (blk_cell (blk_set (setA_far E5.out hne _ _ _ _ _) 0 _) 0).trans rfl
            · exact HBD.out _ _ ⟨.slice none 0 0, rfl, Kd.R_nil _ _ _ _ _, (setA_below EB.out (by omega) _ _ _ _ _).setCell (by simp; omega) _⟩
          | true =>
            have HCK := Aside0.mk ((name_check (rdOf ByteArray.empty names j)).trans (by rw [hb]; rfl : _ = some (0 : Int)))
            have HNO2 : Aside0 (namesOkF [] names = namesOkF ((names.take (j + 1)).map nk) (names.drop (j + 1))) := ⟨by rw [HNO.out, HST.out, hb, decide_eq_false HIN.out]; simp⟩
            clear hb
            go_wp2_with (fail)
            go_at_call 35
            refine (check_calls 5 1 (rdOf ByteArray.empty names j) [] none 0 0 _ (Kd.C_nil _ _) (Nat.le_refl _) HCK.out).mono ?_
            rintro e w2 ⟨rfl, hb2⟩
            have E2 := Aside0.mk (blk_below D2.out hb2)
            have E4 := Aside0.mk (blk_below D4.out hb2)
            have E5 := Aside0.mk (blk_below D5.out hb2)
            have EM := Aside0.mk (blk_below DM.out hb2)
            have EB := Aside0.mk (below_then DB.out DB.out.size hb2)
            have hlen : ((names.take j).map nk).length = j := by simp; omega
            obtain ⟨w3, hrun, hn3, hg3⟩ := names_put (names_below DN.out hb2) (rdOf ByteArray.empty names j) (HSZ.out j) HIN.out (by have := HMAX.out; omega)
            rw [hlen] at hrun
            have hgs : ∀ g, g ≠ w1.heap.size → some g ≠ some w1.heap.size := fun g hg e => hg (Option.some.inj e)
            have G2 := Aside0.mk (blk_grown E2.out hg3 (hgs _ (by have := HSZ1.out; omega)))
            have G4 := Aside0.mk (blk_grown E4.out hg3 (hgs _ (by have := HSZ1.out; omega)))
            have G5 := Aside0.mk (blk_grown E5.out hg3 (hgs _ (by have := HSZ1.out; omega)))
            have GM := Aside0.mk (blk_grown EM.out hg3 (hgs _ (by omega)))
            have GB := Aside0.mk (pw_below_grown EB.out (some w1.heap.size) EB.out.size hg3 (by intro q hq; have := HSZ1.out; injection hq; omega))
            have GN : Aside0 (NamesAt w3 w1.heap.size ((names.take (j + 1)).map nk)) := ⟨by
              have e : rdOf ByteArray.empty names j = names[j] := by simp [rdOf, List.getElem?_eq_getElem hlt]
              rw [e] at hn3
              rw [List.take_succ_eq_append_getElem hlt, List.map_append]
              exact hn3⟩
            have hm52 := (blk_cell EM.out 5).trans rfl
            clear hb2 hlk hm5 hy0 hn3 hg3 hlen hgs
            go_wp2
            go_roundw
            case rel => exact ⟨j + 1, by omega, by go_num, HNO2, GN, GM, G2, G4, G5, GB⟩
            case measure => simp [intOf]; omega
      · obtain rfl : j = names.length := by omega
        have HT := Aside0.mk (HNO.out.trans (namesOk_end names names.length (Nat.le_refl _)))
        have hn := DN.out
        rw [List.take_length] at hn
        have DN2 := Aside0.mk hn
        have hz0 := (blk_cell D2.out 0).trans rfl
        have hz1 := (blk_cell D2.out 1).trans rfl
        have hz2 := (blk_cell D2.out 2).trans rfl
        clear hn
        go_wp2_with (fail)
        go_at_call 36
        refine (HAL.out (w1.heap.size + 1) w1.heap.size names.length _ A c DN2.out (Kd.C_below HR.out DB.out) HC.out ((blk_cell DM.out 1).trans rfl) ((blk_cell DM.out 5).trans rfl)).mono ?_
        rintro e w2 h2
        have HMY := Aside0.mk (HMANY.out HMAX.out HT.out)
        have HKK := Aside0.mk (HOK.out HMAX.out HT.out)
        clear hz0 hz1 hz2
        cases ha : aloneF (names.map nk) nn r with
        | none =>
          rw [ha] at h2
          obtain ⟨rfl, hb2⟩ := h2
          have E4 := Aside0.mk (blk_below D4.out hb2)
          have E5 := Aside0.mk (blk_below D5.out hb2)
          have EB := Aside0.mk (below_then DB.out DB.out.size hb2)
          have HMZ := Aside0.mk (HMY.out ha)
          clear hb2 ha
          go_wp2
          refine door_many _ _ (W.heap.size + 1) (W.heap.size + 1 + 1) #[.int .i64 0, .int .i64 0, .int .i64 0, .int .i64 0, .slice none 0 0] 0 rfl E4.out rfl rfl E5.out _ ?_
          exact HMZ.out _ _ ⟨.slice none 0 0, rfl, Kd.R_nil _ _ _ _ _, EB.out.setCell (by simp; omega) _⟩
        | some s =>
          rw [ha] at h2
          obtain ⟨v, rfl, hRv, hb2⟩ := h2
          have E4 := Aside0.mk (blk_below D4.out hb2)
          have E5 := Aside0.mk (blk_below D5.out hb2)
          have EB := Aside0.mk (below_then DB.out DB.out.size hb2)
          have HRV := Aside0.mk (Kd.R_lower hRv DB.out.size)
          have HKZ := Aside0.mk (HKK.out s ha)
          obtain ⟨A1, c1, rfl⟩ := Kd.R_slice hRv
          have hc40 := (blk_cell E4.out 0).trans rfl
          have hc41 := (blk_cell E4.out 1).trans rfl
          have hc42 := (blk_cell E4.out 2).trans rfl
          have hc43 := (blk_cell E4.out 3).trans rfl
          have hc44 := (blk_cell E4.out 4).trans rfl
          have hc50 := (blk_cell E5.out 0).trans rfl
          have hf0 := blk_frozen E4.out 0
          have hf1 := blk_frozen E4.out 1
          have hf2 := blk_frozen E4.out 2
          have hf3 := blk_frozen E4.out 3
          have hf4 := blk_frozen E4.out 4
          have hf5 := blk_frozen E5.out 0
          clear hb2 ha hRv
          go_wp2
          have hne : W.heap.size + 1 + 1 ≠ W.heap.size + 1 := by omega
          refine door_idle _ _ (W.heap.size + 1) (W.heap.size + 1 + 1) #[.int .i64 s.1, .int .i64 names.length, .int .i64 0, .int .i64 1, .slice A1 s.2.length c1] (.int .i64 0) rfl ?_ rfl rfl ?_ _ ?_
          · exact blk_far (setA_blk E4.out _ _ _ _ _) hne.symm _
          · exact (blk_cell (blk_set (setA_far E5.out hne _ _ _ _ _) 0 _) 0).trans rfl
          · refine HKZ.out _ _ ⟨.slice A1 s.2.length c1, rfl, ?_, (setA_below EB.out (by omega) _ _ _ _ _).setCell (by simp; omega) _⟩
            exact Kd.R_mono (Kd.R_far (Kd.R_types (setA_R HRV.out E4.out _ _ _ _ _) (setA_far E5.out hne _ _ _ _ _) (by decide)) (fun k hk => hk.2) _) (fun _ _ => trivial)
end Go.Proofs.Ytapinbmkjkbkkaa.Mk
