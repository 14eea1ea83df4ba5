import Derived.Test.YtapinbmkjkbkkaaTuMa
import Derived.Test.YtapinbmkjkbkkaaTuNa
namespace Go.Proofs.Ytapinbmkjkbkkaa.Mk
open Go.RowKit Go.Proofs.YtapinbmkjkbkkaaW.PrintWords Go.Proofs.YtapinbmkjkbkkaaW.PrintLast Go.Proofs.YtapinbmkjkbkkaaW.PrintMore Lb
abbrev St := Int × List S78
def stateF (s : St) : Option (Int × St) := if s.1 < 4096 then some (s.1, (s.1 + 1, s.2)) else none
def arcF (s : St) (fr y tt : Int) : Option St := if s.2.length < 65536 then some (s.1, s.2 ++ [⟨fr, y, tt⟩]) else none
mutual
def mkF (nm : List (List UInt8)) (nn : St → Int → Int → St → Option St) : S25 → Int → Int → St → Option St
  | ⟨op, name, ks⟩, fr, tt, s =>
    if op = 1 then (if nk name ∈ nm then arcF s fr (nameAt nm (nk name)) tt else some s)
    else if op = 2 then arcF s fr (-2) tt
    else if op = 3 then arcF s fr (-1) tt
    else if op = 5 then seqF nm nn ks fr tt s
    else if op = 6 then altF nm nn ks fr tt s
    else if op = 7 then starF nm nn ks fr tt s
    else if op = 8 then notF nm nn ks fr tt s
    else some s
def seqF (nm : List (List UInt8)) (nn : St → Int → Int → St → Option St) : List S25 → Int → Int → St → Option St
  | [], _, _, s => some s
  | k :: ks, fr, tt, s => if ks.isEmpty then mkF nm nn k fr tt s else (stateF s).bind fun p => (mkF nm nn k fr p.1 p.2).bind fun s => seqF nm nn ks p.1 tt s
def altF (nm : List (List UInt8)) (nn : St → Int → Int → St → Option St) : List S25 → Int → Int → St → Option St
  | [], _, _, s => some s
  | k :: ks, fr, tt, s => (stateF s).bind fun p => (stateF p.2).bind fun q => (arcF q.2 fr (-1) p.1).bind fun s => (mkF nm nn k p.1 q.1 s).bind fun s => (arcF s q.1 (-1) tt).bind fun s => altF nm nn ks fr tt s
def starF (nm : List (List UInt8)) (nn : St → Int → Int → St → Option St) : List S25 → Int → Int → St → Option St
  | [], _, _, s => some s
  | k :: _, fr, tt, s => (stateF s).bind fun p => (stateF p.2).bind fun q => (arcF q.2 fr (-1) p.1).bind fun s => (mkF nm nn k p.1 q.1 s).bind fun s => (arcF s q.1 (-1) p.1).bind fun s => arcF s p.1 (-1) tt
def notF (nm : List (List UInt8)) (nn : St → Int → Int → St → Option St) : List S25 → Int → Int → St → Option St
  | [], _, _, s => some s
  | k :: _, fr, tt, s => (mkF nm nn k 0 1 (2, [])).bind fun a => nn a fr tt s
end
def Fin (base M : Nat) (sy : Int) (mp : Value) (w0 W0 : World) (o : Option St) (e : Ending) (W : World) : Prop :=
  match o with
  | some s => e = .returned (.tuple #[]) ∧ Maker base M sy mp W s.1 s.2 ∧ Below base w0 W ∧ KeepT W0 W ∧ 0 ≤ s.1
  | none => e = tooMany ∧ Below base w0 W
def FinS (base M : Nat) (sy : Int) (mp : Value) (w0 W0 : World) (o : Option (Int × St)) (e : Ending) (W : World) : Prop :=
  match o with
  | some p => e = .returned (.int .i64 p.1) ∧ Maker base M sy mp W p.2.1 p.2.2 ∧ Below base w0 W ∧ KeepT W0 W ∧ 0 ≤ p.2.1
  | none => e = tooMany ∧ Below base w0 W
section
variable {base M : Nat} {sy : Int} {mp : Value} {s : St} {w0 W : World}
theorem state_fin (h0 : 0 ≤ s.1) (hM : base ≤ M) (h : Maker base M sy mp W s.1 s.2) (hb : Below base w0 W) :
    Calls Try.prog 84 #[.pointer (some ⟨M, 0, none⟩)] W (FinS base M sy mp w0 W (stateF s)) := by
  unfold stateF
  by_cases h1 : s.1 < 4096
  · rw [if_pos h1]
    exact (state_ok h0 h1 hM h hb).mono fun _ _ k => ⟨k.1, k.2.1, k.2.2.1, k.2.2.2, by show 0 ≤ s.1 + 1; omega⟩
  · rw [if_neg h1]
    exact (state_many (by omega) h hb).mono fun _ _ k => k
theorem arc_fin (fr y tt : Int) (h0 : 0 ≤ s.1) (hM : base ≤ M) (h : Maker base M sy mp W s.1 s.2) (hb : Below base w0 W) :
    Calls Try.prog 83 #[.pointer (some ⟨M, 0, none⟩), .int .i64 fr, .int .i64 y, .int .i64 tt] W (Fin base M sy mp w0 W (arcF s fr y tt)) := by
  unfold arcF
  by_cases h1 : s.2.length < 65536
  · rw [if_pos h1]
    exact (arc_ok fr y tt h1 hM h hb).mono fun _ _ k => ⟨k.1, k.2.1, k.2.2.1, k.2.2.2, h0⟩
  · rw [if_neg h1]
    exact (arc_many fr y tt (by omega) h hb).mono fun _ _ k => k
theorem maker_lt (h : Maker base M sy mp W s.1 s.2) : M < W.heap.size := by
  obtain ⟨v, hB, _⟩ := h
  exact blk_lt hB
theorem maker_alloc (h : Maker base M sy mp W s.1 s.2) (o : Obj) : Maker base M sy mp (W.alloc o) s.1 s.2 := by
  obtain ⟨v, hB, hR⟩ := h
  exact ⟨v, blk_alloc hB o, Kd.R_alloc hR o⟩
theorem maker_drewN (h : Maker base M sy mp W s.1 s.2) (n : Nat) : Maker base M sy mp (W.drewN n) s.1 s.2 := maker_draw h n
theorem below_al (hM : base ≤ M) (h : Maker base M sy mp W s.1 s.2) (hb : Below base w0 W) (o : Obj) : Below base w0 (W.alloc o) :=
  hb.alloc (Nat.le_trans hM (Nat.le_of_lt (maker_lt h))) o
end
def MakeOk (nm : List (List UInt8)) (nn : St → Int → Int → St → Option St) (r : S25) : Prop :=
  ∀ (base M mb : Nat) (sy : Int) (w0 W : World) (A : Option Addr) (c : Nat) (s : St) (fr tt : Int), base ≤ M → w0.heap.size ≤ base → NamesAt w0 mb nm → Kd.C k25 w0 A r.f2.length r.f2 → r.f2.length ≤ c →
    Maker base M sy (.map (some mb)) W s.1 s.2 → Below base w0 W → 0 ≤ s.1 →
    Calls Try.prog 66 #[.pointer (some ⟨M, 0, none⟩), .agg #[.int .i64 r.f0, .string r.f1, .slice A r.f2.length c], .int .i64 fr, .int .i64 tt] W (Fin base M sy (.map (some mb)) w0 W (mkF nm nn r fr tt s))
theorem mkF_eq (nm : List (List UInt8)) (nn : St → Int → Int → St → Option St) (op : Int) (name : ByteArray) (ks : List S25) (fr tt : Int) (s : St) : mkF nm nn ⟨op, name, ks⟩ fr tt s =
    (if op = 1 then (if nk name ∈ nm then arcF s fr (nameAt nm (nk name)) tt else some s)
    else if op = 2 then arcF s fr (-2) tt
    else if op = 3 then arcF s fr (-1) tt
    else if op = 5 then seqF nm nn ks fr tt s
    else if op = 6 then altF nm nn ks fr tt s
    else if op = 7 then starF nm nn ks fr tt s
    else if op = 8 then notF nm nn ks fr tt s
    else some s) := by rw [mkF]
variable {nm : List (List UInt8)} {nn : St → Int → Int → St → Option St}
set_option maxHeartbeats 800000 in
theorem make_arc (op : Int) (name : ByteArray) (ks : List S25) (hop : op = 2 ∨ op = 3) : MakeOk nm nn ⟨op, name, ks⟩ := by
  intro base M mb sy w0 W A c s fr tt hM hw hn hr hc hK hb h0
  have HK := Aside0.mk hK
  have HB := Aside0.mk hb
  have HM := Aside0.mk hM
  have H0 := Aside0.mk h0
  have e : mkF nm nn ⟨op, name, ks⟩ fr tt s = arcF s fr (if op = 2 then -2 else -1) tt := by
    rw [mkF_eq]
    rcases hop with rfl | rfl <;> simp
  rw [e]
  clear hr hc hK hb hw hn h0 hM e
  show Calls Try.prog 66 #[.pointer (some ⟨M, 0, none⟩), .agg #[.int .i64 op, .string name, .slice A ks.length c], .int .i64 fr, .int .i64 tt] W _
  obtain ⟨o, ho⟩ : ∃ o, arcF s fr (if op = 2 then -2 else -1) tt = o := ⟨_, rfl⟩
  rw [ho]
  have HO := Aside0.mk ho
  clear ho
  rcases hop with rfl | rfl
  all_goals
    go_enter Try.func66, Try.ntmps66
    go_wp2_with (fail)
    go_at_call 83
    refine (arc_fin _ _ _ H0.out HM.out (maker_alloc HK.out _) (below_al HM.out HK.out HB.out _)).mono ?_
    rintro e w1 h1
    simp only [if_true, if_false, show ((3 : Int) = 2) = False by simp] at HO
    rw [HO.out] at h1
    cases o with
    | none =>
      obtain ⟨rfl, hb1⟩ := h1
      have HB1 := Aside0.mk hb1
      clear hb1
      go_wp2
      exact ⟨rfl, rfl, HB1.out⟩
    | some s1 =>
      obtain ⟨rfl, hk1, hb1, ht1, hp1⟩ := h1
      have HP1 := Aside0.mk hp1
      have HK1 := Aside0.mk hk1
      have HB1 := Aside0.mk hb1
      have HT1 := Aside0.mk ht1
      clear hb1 hk1 ht1 hp1
      go_wp2
      go_end0
      exact ⟨rfl, HK1.out, HB1.out, keepT_trans (keepT_alloc _ _) HT1.out, HP1.out⟩
set_option maxHeartbeats 1600000 in
theorem make_name (name : ByteArray) (ks : List S25) (hsz : name.size ≤ 64) : MakeOk nm nn ⟨1, name, ks⟩ := by
  intro base M mb sy w0 W A c s fr tt hM hw hn hr hc hK hb h0
  have HK := Aside0.mk hK
  have HB := Aside0.mk hb
  have HM := Aside0.mk hM
  have H0 := Aside0.mk h0
  rw [mkF_eq, if_pos rfl]
  obtain ⟨v, hBk, hR⟩ := hK
  have hbw : ∀ o n, Below w0.heap.size w0 ((W.alloc o).drewN n) := fun o n => pw_below_drewN (hb.mono hw |>.alloc (Nat.le_trans hw (Nat.le_trans hM (Nat.le_of_lt (blk_lt hBk)))) o) n
  have hlk : ∀ o n, (Instr.lookup 69 (.map (some mb)) (.string name) true).run Try.prog ((W.alloc o).drewN n) = .ok (.tuple #[.int .i64 (nameAt nm (nk name)), .bool (decide (nk name ∈ nm))]) ((W.alloc o).drewN n) :=
    fun o n => names_look (names_below hn (hbw o n)) name (by unfold maxLen; omega)
  have hc5 : ∀ o, (W.alloc o).cell? ⟨M, 5, none⟩ = some (.map (some mb)) := fun o => (blk_cell (blk_alloc hBk o) 5).trans rfl
  clear hr hc hb hw hn h0 hM hR hBk hbw
  show Calls Try.prog 66 #[.pointer (some ⟨M, 0, none⟩), .agg #[.int .i64 1, .string name, .slice A ks.length c], .int .i64 fr, .int .i64 tt] W _
  by_cases hin : nk name ∈ nm
  · rw [if_pos hin]
    rw [decide_eq_true hin] at hlk
    obtain ⟨o, ho⟩ : ∃ o, arcF s fr (nameAt nm (nk name)) tt = o := ⟨_, rfl⟩
    rw [ho]
    have HO := Aside0.mk ho
    clear ho hin
    go_enter Try.func66, Try.ntmps66
    go_wp2_with (fail)
    go_quiet (fail)
    go_wp2_with (fail)
    go_at_call 83
    refine (arc_fin _ _ _ H0.out HM.out (maker_drewN (maker_alloc HK.out _) _) (pw_below_drewN (below_al HM.out HK.out HB.out _) _)).mono ?_
    rintro e w1 h1
    rw [HO.out] at h1
    cases o with
    | none =>
      obtain ⟨rfl, hb1⟩ := h1
      have HB1 := Aside0.mk hb1
      clear hb1
      go_wp2
      exact ⟨rfl, rfl, HB1.out⟩
    | some s1 =>
      obtain ⟨rfl, hk1, hb1, ht1, hp1⟩ := h1
      have HP1 := Aside0.mk hp1
      have HK1 := Aside0.mk hk1
      have HB1 := Aside0.mk hb1
      have HT1 := Aside0.mk ht1
      clear hb1 hk1 ht1 hp1
      go_wp2
      go_end0
      exact ⟨rfl, HK1.out, HB1.out, keepT_trans (keepT_trans (keepT_alloc _ _) (keepT_drewN _ _)) HT1.out, HP1.out⟩
  · rw [if_neg hin]
    rw [decide_eq_false hin] at hlk
    clear hin
    go_enter Try.func66, Try.ntmps66
    go_wp2_with (fail)
    go_quiet (fail)
    go_wp2
    go_end0
    exact ⟨rfl, maker_drewN (maker_alloc HK.out _) _, pw_below_drewN (below_al HM.out HK.out HB.out _) _, keepT_trans (keepT_alloc _ _) (keepT_drewN _ _), H0.out⟩
theorem altF_cons (k : S25) (ks : List S25) (fr tt : Int) (s : St) : altF nm nn (k :: ks) fr tt s = ((stateF s).bind fun p => (stateF p.2).bind fun q => (arcF q.2 fr (-1) p.1).bind fun s => (mkF nm nn k p.1 q.1 s).bind fun s => (arcF s q.1 (-1) tt).bind fun s => altF nm nn ks fr tt s) := by rw [altF]
theorem seqF_cons (k : S25) (ks : List S25) (fr tt : Int) (s : St) : seqF nm nn (k :: ks) fr tt s = (if ks.isEmpty = true then mkF nm nn k fr tt s else (stateF s).bind fun p => (mkF nm nn k fr p.1 p.2).bind fun s => seqF nm nn ks p.1 tt s) := by rw [seqF]
theorem rd_drop (l : List S25) (k : Nat) (h : k < l.length) : l.drop k = rd_T25 l k :: l.drop (k + 1) := by
  rw [List.drop_eq_getElem_cons h]
  unfold rd_T25
  simp [List.getElem?_eq_getElem h]
set_option maxHeartbeats 6400000 in
theorem make_alt (name : ByteArray) (ks : List S25) (ih : ∀ k, k ∈ ks → MakeOk nm nn k) : MakeOk nm nn ⟨6, name, ks⟩ := by
  intro base M mb sy w0 W A c s fr tt hM hw hn hr hc hK hb h0
  have hr' : Kd.C k25 w0 A ks.length ks := hr
  have hm : ks.length ≤ 9223372036854775807 := hr'.2.1
  have HC := Aside0.mk hc
  have HR := Aside0.mk hr'
  have HIH := Aside0.mk ih
  have HN := Aside0.mk hn
  have HK0 := Aside0.mk (maker_alloc hK (.cells #[.int .i64 6, .string name, .slice A ks.length c] 25))
  have HB0 := Aside0.mk (below_al hM hK hb (.cells #[.int .i64 6, .string name, .slice A ks.length c] 25))
  have HT0 := Aside0.mk (keepT_alloc W (.cells #[.int .i64 6, .string name, .slice A ks.length c] 25))
  have HM := Aside0.mk hM
  have H0 := Aside0.mk h0
  have HW := Aside0.mk hw
  have BX0 : Aside0 ((W.alloc (.cells #[.int .i64 6, .string name, .slice A ks.length c] 25)).heap[W.heap.size]? = some (.cells #[.int .i64 6, .string name, .slice A ks.length c] 25 (0, 0))) := ⟨blk_new _ _⟩
  show Calls Try.prog 66 #[.pointer (some ⟨M, 0, none⟩), .agg #[.int .i64 6, .string name, .slice A ks.length c], .int .i64 fr, .int .i64 tt] W (Fin base M sy (.map (some mb)) w0 W (mkF nm nn ⟨6, name, ks⟩ fr tt s))
  obtain ⟨o, ho⟩ : ∃ o, mkF nm nn ⟨6, name, ks⟩ fr tt s = o := ⟨_, rfl⟩
  rw [ho]
  rw [mkF_eq, if_neg (by omega), if_neg (by omega), if_neg (by omega), if_neg (by omega), if_pos rfl] at ho
  have HO := Aside0.mk ho
  clear hr hc hK hb hw hn h0 hM ho hr' ih
  go_enter Try.func66, Try.ntmps66
  go_wp2
  go_loopw [14, 15, 16, 82] (fun _ _ _ i wr => ∃ (k : Nat) (sr : St), k ≤ ks.length ∧ i = .int .i64 k ∧ Aside0 (altF nm nn (ks.drop k) fr tt sr = o) ∧ Aside0 (Maker base M sy (.map (some mb)) wr sr.1 sr.2) ∧ Aside0 (Below base w0 wr) ∧ Aside0 (KeepT W wr) ∧ Aside0 (0 ≤ sr.1) ∧ Aside0 (wr.heap[W.heap.size]? = some (.cells #[.int .i64 6, .string name, .slice A ks.length c] 25 (0, 0)))) (fun _ _ _ i _ => ks.length - (intOf i).toNat)
  case atStart => exact ⟨0, s, Nat.zero_le _, rfl, HO, HK0, HB0, HT0, H0, BX0⟩
  case round =>
    obtain ⟨k, sr, hk, rfl, HO2, HKr, HBr, HTr, HPr, BXr⟩ := hrel
    clear HK0 HB0 HT0 BX0 H0 HO
    have HO := HO2
    clear HO2
    by_cases hlt : k < ks.length
    · obtain ⟨ad, A2, c2, rfl, hx0, hx1, hx2, hl2, hg2⟩ := at_T25 HR.out (k : Int) (by omega) (by omega)
      rw [Int.toNat_natCast] at hx0 hx1 hx2
      have HG := Aside0.mk hg2
      have HL := Aside0.mk hl2
      have HIK := Aside0.mk (HIH.out (rd_T25 ks k) (by unfold rd_T25; simp [List.getElem?_eq_getElem hlt]))
      have hy0 := pw_cell_below (HBr.out.mono HW.out) hx0
      have hy1 := pw_cell_below (HBr.out.mono HW.out) hx1
      have hy2 := pw_cell_below (HBr.out.mono HW.out) hx2
      clear hx0 hx1 hx2 hl2 hg2
      have BY0 := Aside0.mk (blk_new wr (.cells #[.int .i64 (rd_T25 ks k).f0, .string (rd_T25 ks k).f1, .slice A2 (rd_T25 ks k).f2.length c2] 25))
      have BX0 := Aside0.mk (blk_alloc BXr.out (.cells #[.int .i64 (rd_T25 ks k).f0, .string (rd_T25 ks k).f1, .slice A2 (rd_T25 ks k).f2.length c2] 25))
      have HK0 := Aside0.mk (maker_alloc HKr.out (.cells #[.int .i64 (rd_T25 ks k).f0, .string (rd_T25 ks k).f1, .slice A2 (rd_T25 ks k).f2.length c2] 25))
      have HB0 := Aside0.mk (below_al HM.out HKr.out HBr.out (.cells #[.int .i64 (rd_T25 ks k).f0, .string (rd_T25 ks k).f1, .slice A2 (rd_T25 ks k).f2.length c2] 25))
      have HT0 := Aside0.mk (keepT_trans HTr.out (keepT_alloc wr (.cells #[.int .i64 (rd_T25 ks k).f0, .string (rd_T25 ks k).f1, .slice A2 (rd_T25 ks k).f2.length c2] 25)))
      have HO := Aside0.mk (show _ = o from (congrArg (fun l => altF nm nn l fr tt sr) (rd_drop ks k hlt)).symm.trans HO.out)
      have HO := Aside0.mk ((altF_cons (nn := nn) _ _ fr tt sr).symm.trans HO.out)
      go_wp2_with (fail)
      go_at_call 84
      refine (state_fin HPr.out HM.out HK0.out HB0.out).mono ?_
      rintro e w1 h1
      cases hs1 : stateF sr with
      | none =>
        rw [hs1] at h1
        obtain ⟨rfl, hb1⟩ := h1
        have HB1 := Aside0.mk hb1
        have ho := HO.out
        rw [hs1] at ho
        obtain rfl : none = o := ho
        clear hb1 hs1 HO
        go_wp2
        exact ⟨rfl, rfl, HB1.out⟩
      | some p1 =>
        rw [hs1] at h1
        obtain ⟨rfl, hk1, hb1, ht1, hp1⟩ := h1
        have HK1 := Aside0.mk hk1
        have HB1 := Aside0.mk hb1
        have HT1 := Aside0.mk (keepT_trans HT0.out ht1)
        have HP1 := Aside0.mk hp1
        have BX1 := Aside0.mk (ht1.2 _ _ _ _ (by decide) (by decide) BX0.out)
        have BY1 := Aside0.mk (ht1.2 _ _ _ _ (by decide) (by decide) BY0.out)
        clear BY0
        have ho := HO.out
        rw [hs1, Option.bind_some] at ho
        clear HO
        have HO := Aside0.mk ho
        clear hk1 hb1 ht1 hp1 ho hs1 HT0 BX0
        clear hy0 hy1 hy2
        go_wp2_with (fail)
        go_at_call 84
        refine (state_fin HP1.out HM.out HK1.out HB1.out).mono ?_
        rintro e w2 h1
        cases hs1 : stateF p1.2 with
        | none =>
          rw [hs1] at h1
          obtain ⟨rfl, hb1⟩ := h1
          have HB2 := Aside0.mk hb1
          have ho := HO.out
          rw [hs1] at ho
          obtain rfl : none = o := ho
          clear hb1 hs1 HO
          go_wp2
          exact ⟨rfl, rfl, HB2.out⟩
        | some p2 =>
          rw [hs1] at h1
          obtain ⟨rfl, hk1, hb1, ht1, hp1⟩ := h1
          have HK2 := Aside0.mk hk1
          have HB2 := Aside0.mk hb1
          have HT2 := Aside0.mk (keepT_trans HT1.out ht1)
          have HP2 := Aside0.mk hp1
          have BX2 := Aside0.mk (ht1.2 _ _ _ _ (by decide) (by decide) BX1.out)
          have BY2 := Aside0.mk (ht1.2 _ _ _ _ (by decide) (by decide) BY1.out)
          clear BY1
          have ho := HO.out
          rw [hs1, Option.bind_some] at ho
          clear HO
          have HO := Aside0.mk ho
          clear hk1 hb1 ht1 hp1 ho hs1 HT1 BX1
          go_wp2_with (fail)
          go_at_call 83
          refine (arc_fin _ _ _ HP2.out HM.out HK2.out HB2.out).mono ?_
          rintro e w3 h1
          cases hs1 : arcF p2.2 fr (-1) p1.1 with
          | none =>
            rw [hs1] at h1
            obtain ⟨rfl, hb1⟩ := h1
            have HB3 := Aside0.mk hb1
            have ho := HO.out
            rw [hs1] at ho
            obtain rfl : none = o := ho
            clear hb1 hs1 HO
            go_wp2
            exact ⟨rfl, rfl, HB3.out⟩
          | some p3 =>
            rw [hs1] at h1
            obtain ⟨rfl, hk1, hb1, ht1, hp1⟩ := h1
            have HK3 := Aside0.mk hk1
            have HB3 := Aside0.mk hb1
            have HT3 := Aside0.mk (keepT_trans HT2.out ht1)
            have HP3 := Aside0.mk hp1
            have BX3 := Aside0.mk (ht1.2 _ _ _ _ (by decide) (by decide) BX2.out)
            have BY3 := Aside0.mk (ht1.2 _ _ _ _ (by decide) (by decide) BY2.out)
            clear BY2
            have ho := HO.out
            rw [hs1, Option.bind_some] at ho
            clear HO
            have HO := Aside0.mk ho
            clear hk1 hb1 ht1 hp1 ho hs1 HT2 BX2
            have hz0 := (blk_cell BY3.out 0)
            have hz1 := (blk_cell BY3.out 1)
            have hz2 := (blk_cell BY3.out 2)
            go_wp2_with (fail)
            go_at_call 66
            refine (HIK.out base M mb sy w0 _ A2 c2 p3 _ _ HM.out HW.out HN.out HG.out HL.out HK3.out HB3.out HP3.out).mono ?_
            rintro e w4 h1
            clear hz0 hz1 hz2
            cases hs1 : mkF nm nn (rd_T25 ks k) p1.1 p2.1 p3 with
            | none =>
              rw [hs1] at h1
              obtain ⟨rfl, hb1⟩ := h1
              have HB4 := Aside0.mk hb1
              have ho := HO.out
              rw [hs1] at ho
              obtain rfl : none = o := ho
              clear hb1 hs1 HO
              go_wp2
              exact ⟨rfl, rfl, HB4.out⟩
            | some p4 =>
              rw [hs1] at h1
              obtain ⟨rfl, hk1, hb1, ht1, hp1⟩ := h1
              have HK4 := Aside0.mk hk1
              have HB4 := Aside0.mk hb1
              have HT4 := Aside0.mk (keepT_trans HT3.out ht1)
              have HP4 := Aside0.mk hp1
              have BX4 := Aside0.mk (ht1.2 _ _ _ _ (by decide) (by decide) BX3.out)
              have BY4 := Aside0.mk (ht1.2 _ _ _ _ (by decide) (by decide) BY3.out)
              clear BY3
              have ho := HO.out
              rw [hs1, Option.bind_some] at ho
              clear HO
              have HO := Aside0.mk ho
              clear hk1 hb1 ht1 hp1 ho hs1 HT3 BX3
              go_wp2_with (fail)
              go_at_call 83
              refine (arc_fin _ _ _ HP4.out HM.out HK4.out HB4.out).mono ?_
              rintro e w5 h1
              cases hs1 : arcF p4 p2.1 (-1) tt with
              | none =>
                rw [hs1] at h1
                obtain ⟨rfl, hb1⟩ := h1
                have HB5 := Aside0.mk hb1
                have ho := HO.out
                rw [hs1] at ho
                obtain rfl : none = o := ho
                clear hb1 hs1 HO
                go_wp2
                exact ⟨rfl, rfl, HB5.out⟩
              | some p5 =>
                rw [hs1] at h1
                obtain ⟨rfl, hk1, hb1, ht1, hp1⟩ := h1
                have HK5 := Aside0.mk hk1
                have HB5 := Aside0.mk hb1
                have HT5 := Aside0.mk (keepT_trans HT4.out ht1)
                have HP5 := Aside0.mk hp1
                have BX5 := Aside0.mk (ht1.2 _ _ _ _ (by decide) (by decide) BX4.out)
                have BY5 := Aside0.mk (ht1.2 _ _ _ _ (by decide) (by decide) BY4.out)
                clear BY4
                have ho := HO.out
                rw [hs1, Option.bind_some] at ho
                clear HO
                have HO := Aside0.mk ho
                clear hk1 hb1 ht1 hp1 ho hs1 HT4 BX4
                go_wp2
                go_roundw
                case rel => exact ⟨k + 1, p5, by omega, by go_num, HO, HK5, HB5, HT5, HP5, BX5⟩
                case measure => simp [intOf]; omega
    · have he : ks.drop k = [] := List.drop_eq_nil_of_le (by omega)
      have ho := HO.out
      rw [he, altF] at ho
      obtain rfl : some sr = o := ho
      clear HO he
      go_wp2
      go_end0
      exact ⟨rfl, HKr.out, HBr.out, HTr.out, HPr.out⟩
set_option maxHeartbeats 6400000 in
theorem make_seq (name : ByteArray) (ks : List S25) (ih : ∀ k, k ∈ ks → MakeOk nm nn k) : MakeOk nm nn ⟨5, name, ks⟩ := by
  intro base M mb sy w0 W A c s fr tt hM hw hn hr hc hK hb h0
  have hr' : Kd.C k25 w0 A ks.length ks := hr
  have hm : ks.length ≤ 9223372036854775807 := hr'.2.1
  have HC := Aside0.mk hc
  have HR := Aside0.mk hr'
  have HIH := Aside0.mk ih
  have HN := Aside0.mk hn
  have HK0 := Aside0.mk (maker_alloc hK (.cells #[.int .i64 5, .string name, .slice A ks.length c] 25))
  have HB0 := Aside0.mk (below_al hM hK hb (.cells #[.int .i64 5, .string name, .slice A ks.length c] 25))
  have HT0 := Aside0.mk (keepT_alloc W (.cells #[.int .i64 5, .string name, .slice A ks.length c] 25))
  have HM := Aside0.mk hM
  have H0 := Aside0.mk h0
  have HW := Aside0.mk hw
  have BX0 : Aside0 ((W.alloc (.cells #[.int .i64 5, .string name, .slice A ks.length c] 25)).heap[W.heap.size]? = some (.cells #[.int .i64 5, .string name, .slice A ks.length c] 25 (0, 0))) := ⟨blk_new _ _⟩
  show Calls Try.prog 66 #[.pointer (some ⟨M, 0, none⟩), .agg #[.int .i64 5, .string name, .slice A ks.length c], .int .i64 fr, .int .i64 tt] W (Fin base M sy (.map (some mb)) w0 W (mkF nm nn ⟨5, name, ks⟩ fr tt s))
  obtain ⟨o, ho⟩ : ∃ o, mkF nm nn ⟨5, name, ks⟩ fr tt s = o := ⟨_, rfl⟩
  rw [ho]
  rw [mkF_eq, if_neg (by omega), if_neg (by omega), if_neg (by omega), if_pos rfl] at ho
  have HO := Aside0.mk ho
  clear hr hc hK hb hw hn h0 hM ho hr' ih
  go_enter Try.func66, Try.ntmps66
  go_wp2
  go_loopw [2, 10, 11, 12, 56] (fun f _ _ _ i wr => ∃ (k : Nat) (fr' : Int) (sr : St), k ≤ ks.length ∧ i = .int .i64 k ∧ f = .int .i64 fr' ∧ Aside0 (seqF nm nn (ks.drop k) fr' tt sr = o) ∧ Aside0 (Maker base M sy (.map (some mb)) wr sr.1 sr.2) ∧ Aside0 (Below base w0 wr) ∧ Aside0 (KeepT W wr) ∧ Aside0 (0 ≤ sr.1) ∧ Aside0 (wr.heap[W.heap.size]? = some (.cells #[.int .i64 5, .string name, .slice A ks.length c] 25 (0, 0)))) (fun _ _ _ _ i _ => ks.length - (intOf i).toNat)
  case atStart => exact ⟨0, fr, s, Nat.zero_le _, rfl, rfl, HO, HK0, HB0, HT0, H0, BX0⟩
  case round =>
    obtain ⟨k, fr', sr, hk, rfl, rfl, HO2, HKr, HBr, HTr, HPr, BXr⟩ := hrel
    clear HK0 HB0 HT0 BX0 H0 HO
    have HO := HO2
    clear HO2
    by_cases hlt : k < ks.length
    · obtain ⟨ad, A2, c2, rfl, hx0, hx1, hx2, hl2, hg2⟩ := at_T25 HR.out (k : Int) (by omega) (by omega)
      rw [Int.toNat_natCast] at hx0 hx1 hx2
      have HG := Aside0.mk hg2
      have HL := Aside0.mk hl2
      have HIK := Aside0.mk (HIH.out (rd_T25 ks k) (by unfold rd_T25; simp [List.getElem?_eq_getElem hlt]))
      have hy0 := pw_cell_below (HBr.out.mono HW.out) hx0
      have hy1 := pw_cell_below (HBr.out.mono HW.out) hx1
      have hy2 := pw_cell_below (HBr.out.mono HW.out) hx2
      clear hx0 hx1 hx2 hl2 hg2
      have BY0 := Aside0.mk (blk_new wr (.cells #[.int .i64 (rd_T25 ks k).f0, .string (rd_T25 ks k).f1, .slice A2 (rd_T25 ks k).f2.length c2] 25))
      have BX0 := Aside0.mk (blk_alloc BXr.out (.cells #[.int .i64 (rd_T25 ks k).f0, .string (rd_T25 ks k).f1, .slice A2 (rd_T25 ks k).f2.length c2] 25))
      have HK0 := Aside0.mk (maker_alloc HKr.out (.cells #[.int .i64 (rd_T25 ks k).f0, .string (rd_T25 ks k).f1, .slice A2 (rd_T25 ks k).f2.length c2] 25))
      have HB0 := Aside0.mk (below_al HM.out HKr.out HBr.out (.cells #[.int .i64 (rd_T25 ks k).f0, .string (rd_T25 ks k).f1, .slice A2 (rd_T25 ks k).f2.length c2] 25))
      have HT0 := Aside0.mk (keepT_trans HTr.out (keepT_alloc wr (.cells #[.int .i64 (rd_T25 ks k).f0, .string (rd_T25 ks k).f1, .slice A2 (rd_T25 ks k).f2.length c2] 25)))
      have HO := Aside0.mk (show _ = o from (congrArg (fun l => seqF nm nn l fr' tt sr) (rd_drop ks k hlt)).symm.trans HO.out)
      have HO := Aside0.mk ((seqF_cons (nn := nn) _ _ fr' tt sr).symm.trans HO.out)
      have hbx : ∀ o : Obj, (wr.alloc o).cell? ⟨W.heap.size, 2, none⟩ = some (.slice (some ad) ks.length c) := fun o => (blk_cell (blk_alloc BXr.out o) 2).trans rfl
      by_cases hl : k + 1 < ks.length
      · have hne : (ks.drop (k + 1)).isEmpty = false := by rw [List.isEmpty_eq_false_iff]; intro e; have := List.drop_eq_nil_iff.mp e; omega
        have hd0 : decide ((k : Int) < (ks.length : Int) - 1) = true := decide_eq_true (by omega)
        have HO := Aside0.mk ((show _ = o from HO.out))
        have ho := HO.out
        rw [hne] at ho
        simp only [Bool.false_eq_true, if_false] at ho
        clear HO hne
        have HO := Aside0.mk ho
        clear ho
        go_wp2_with (fail)
        go_at_call 84
        refine (state_fin HPr.out HM.out HK0.out HB0.out).mono ?_
        rintro e w1 h1
        cases hs1 : stateF sr with
        | none =>
          rw [hs1] at h1
          obtain ⟨rfl, hb1⟩ := h1
          have HB1 := Aside0.mk hb1
          have ho := HO.out
          rw [hs1] at ho
          obtain rfl : none = o := ho
          clear hb1 hs1 HO
          go_wp2
          exact ⟨rfl, rfl, HB1.out⟩
        | some p1 =>
          rw [hs1] at h1
          obtain ⟨rfl, hk1, hb1, ht1, hp1⟩ := h1
          have HK1 := Aside0.mk hk1
          have HB1 := Aside0.mk hb1
          have HT1 := Aside0.mk (keepT_trans HT0.out ht1)
          have HP1 := Aside0.mk hp1
          have BX1 := Aside0.mk (ht1.2 _ _ _ _ (by decide) (by decide) BX0.out)
          have BY1 := Aside0.mk (ht1.2 _ _ _ _ (by decide) (by decide) BY0.out)
          clear BY0
          have ho := HO.out
          rw [hs1, Option.bind_some] at ho
          clear HO
          have HO := Aside0.mk ho
          clear hk1 hb1 ht1 hp1 ho hs1 HT0 BX0
          clear hy0 hy1 hy2 hbx hd0
          have hz0 := (blk_cell BY1.out 0)
          have hz1 := (blk_cell BY1.out 1)
          have hz2 := (blk_cell BY1.out 2)
          go_wp2_with (fail)
          go_at_call 66
          refine (HIK.out base M mb sy w0 _ A2 c2 p1.2 _ _ HM.out HW.out HN.out HG.out HL.out HK1.out HB1.out HP1.out).mono ?_
          rintro e w2 h1
          clear hz0 hz1 hz2
          cases hs1 : mkF nm nn (rd_T25 ks k) fr' p1.1 p1.2 with
          | none =>
            rw [hs1] at h1
            obtain ⟨rfl, hb1⟩ := h1
            have HB2 := Aside0.mk hb1
            have ho := HO.out
            rw [hs1] at ho
            obtain rfl : none = o := ho
            clear hb1 hs1 HO
            go_wp2
            exact ⟨rfl, rfl, HB2.out⟩
          | some p2 =>
            rw [hs1] at h1
            obtain ⟨rfl, hk1, hb1, ht1, hp1⟩ := h1
            have HK2 := Aside0.mk hk1
            have HB2 := Aside0.mk hb1
            have HT2 := Aside0.mk (keepT_trans HT1.out ht1)
            have HP2 := Aside0.mk hp1
            have BX2 := Aside0.mk (ht1.2 _ _ _ _ (by decide) (by decide) BX1.out)
            have BY2 := Aside0.mk (ht1.2 _ _ _ _ (by decide) (by decide) BY1.out)
            clear BY1
            have ho := HO.out
            rw [hs1, Option.bind_some] at ho
            clear HO
            have HO := Aside0.mk ho
            clear hk1 hb1 ht1 hp1 ho hs1 HT1 BX1
            go_wp2
            go_roundw
            case rel => exact ⟨k + 1, p1.1, p2, by omega, by go_num, rfl, HO, HK2, HB2, HT2, HP2, BX2⟩
            case measure => simp [intOf]; omega
      · have hne : ks.drop (k + 1) = [] := List.drop_eq_nil_of_le (by omega)
        have hd0 : decide ((k : Int) < (ks.length : Int) - 1) = false := decide_eq_false (by omega)
        have ho := HO.out
        rw [hne] at ho
        simp only [List.isEmpty_nil, if_true] at ho
        clear HO
        have HO := Aside0.mk ho
        have HNE := Aside0.mk hne
        clear ho hne
        go_wp2_with (fail)
        go_at_call 66
        refine (HIK.out base M mb sy w0 _ A2 c2 sr _ _ HM.out HW.out HN.out HG.out HL.out HK0.out HB0.out HPr.out).mono ?_
        rintro e w1 h1
        cases hs1 : mkF nm nn (rd_T25 ks k) fr' tt sr with
        | none =>
          rw [hs1] at h1
          obtain ⟨rfl, hb1⟩ := h1
          have HB1 := Aside0.mk hb1
          have ho := HO.out
          rw [hs1] at ho
          obtain rfl : none = o := ho
          clear hb1 hs1 HO
          go_wp2
          exact ⟨rfl, rfl, HB1.out⟩
        | some p1 =>
          rw [hs1] at h1
          obtain ⟨rfl, hk1, hb1, ht1, hp1⟩ := h1
          have HK1 := Aside0.mk hk1
          have HB1 := Aside0.mk hb1
          have HT1 := Aside0.mk (keepT_trans HT0.out ht1)
          have HP1 := Aside0.mk hp1
          have BX1 := Aside0.mk (ht1.2 _ _ _ _ (by decide) (by decide) BX0.out)
          have BY1 := Aside0.mk (ht1.2 _ _ _ _ (by decide) (by decide) BY0.out)
          clear BY0
          have ho := HO.out
          rw [hs1] at ho
          clear HO
          have HO := Aside0.mk ho
          clear hk1 hb1 ht1 hp1 ho hs1 HT0 BX0
          have HO3 := Aside0.mk (show seqF nm nn (ks.drop (k + 1)) tt tt p1 = o by rw [HNE.out, seqF]; exact HO.out)
          clear HO HNE hy0 hy1 hy2 hbx hd0
          go_wp2
          go_roundw
          case rel => exact ⟨k + 1, tt, p1, by omega, by go_num, rfl, HO3, HK1, HB1, HT1, HP1, BX1⟩
          case measure => simp [intOf]; omega
    · have he : ks.drop k = [] := List.drop_eq_nil_of_le (by omega)
      have ho := HO.out
      rw [he, seqF] at ho
      obtain rfl : some sr = o := ho
      clear HO he
      go_wp2
      go_end0
      exact ⟨rfl, HKr.out, HBr.out, HTr.out, HPr.out⟩
end Go.Proofs.Ytapinbmkjkbkkaa.Mk
