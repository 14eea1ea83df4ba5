import Derived.Test.YtapinbmkjkbkkaaLeP8
namespace Go.Proofs.Ytapinbmkjkbkkaa.Pu
open Go.RowKit Go.Proofs.YtapinbmkjkbkkaaW.PrintWords Go.Proofs.YtapinbmkjkbkkaaW.PrintLast Go.Proofs.YtapinbmkjkbkkaaW.PrintMore Lb Mk Ls
section
variable {m ns s e : Nat} {l : List S78}
theorem way_eps {i j n : Nat} (h : Eps l i j) (hw : Way l ns e j n) : Way l ns e i n := by
  induction h with
  | refl => exact hw
  | step _ hx hs ih => exact ih (.eps hx hs hw)
theorem eps_front {x : S78} {j : Nat} (hx : x ∈ l) (h1 : x.f1 = -1) (h : Eps l x.f2.toNat j) : Eps l x.f0.toNat j :=
  (Eps.step (.refl _) hx h1).trans h
theorem way_zero {i n : Nat} (h : Way l ns e i n) : n = 0 → Eps l i e := by
  induction h with
  | done => exact fun _ => .refl _
  | eps hx h1 _ ih => exact fun h0 => eps_front hx h1 (ih h0)
  | sym => exact fun h0 => absurd h0 (by omega)
theorem way_sym {i n : Nat} (h : Way l ns e i n) : ∀ n', n = n' + 1 → ∃ x ∈ l, Eps l i x.f0.toNat ∧ x.f1 ≠ -1 ∧ ¬ (x.f1 = -2 ∧ (ns : Int) = 0) ∧ Way l ns e x.f2.toNat n' := by
  induction h with
  | done => exact fun _ h0 => absurd h0 (by omega)
  | eps hx h1 _ ih =>
    intro n' h0
    obtain ⟨y, hy, he, h2, h3, h4⟩ := ih n' h0
    exact ⟨y, hy, eps_front hx h1 he, h2, h3, h4⟩
  | @sym x n hx h1 h2 w _ =>
    intro n' h0
    obtain rfl : n = n' := by omega
    exact ⟨x, hx, .refl _, h1, h2, w⟩
theorem walk_way {b b' : List Bool} {w : List Int} (h : Walk m l b w b') (hw : okS ns w = true) {i n : Nat} (hi : In b' i) (hn : Way l ns e i n) : ∃ j, In b j ∧ Way l ns e j (w.length + n) := by
  induction h with
  | nil b => exact ⟨i, hi, by rw [List.length_nil, Nat.zero_add]; exact hn⟩
  | @cons x w b b1 b2 hb _ _ ih =>
    have hx := okS_mem hw (List.mem_cons_self)
    obtain ⟨q, hq, hq2⟩ := ih (okS_of fun y hy => okS_mem hw (List.mem_cons_of_mem _ hy)) hi
    obtain ⟨y, hy, ⟨hm, hf⟩, hE⟩ := (by_in hb q).mp hq
    refine ⟨_, hf, ?_⟩
    have := Way.sym hy (by omega) (by omega) (way_eps hE hq2)
    rw [List.length_cons, show w.length + 1 + n = w.length + n + 1 by omega]
    exact this
theorem any_near {N : List Int} {L : Int} {b : List Bool} : nearAny N L (listB b) = true ↔ ∃ q, In b q ∧ rd N (q : Int) = L := by
  unfold nearAny
  rw [List.any_eq_true]
  constructor
  · rintro ⟨x, hx, h⟩
    obtain ⟨q, rfl, hq⟩ := (mem_listB b x).mp hx
    exact ⟨q, hq, eq_of_beq h⟩
  · rintro ⟨q, hq, h⟩
    exact ⟨q, (mem_listB b _).mpr ⟨q, rfl, hq⟩, by rw [h]; exact beq_self_eq_true _⟩
theorem nearest_l0 {N : List Int} {L : Int} {b : List Bool} (hl : b.length = N.length) (hm : b.length ≤ 4096) : ∀ (d i : Nat), b.length - i = d → i ≤ b.length → ∃ r, (∀ k, d < k → stackyardref08_nearest.l0 k b N L (i : Int) = some r) ∧ (r = true ↔ ∃ q, i ≤ q ∧ In b q ∧ rd N (q : Int) = L) := by
  intro d
  induction d with
  | zero =>
    intro i hd hi
    refine ⟨false, fun k hk => ?_, ?_⟩
    · obtain ⟨k, rfl⟩ : ∃ q, k = q + 1 := ⟨k - 1, by omega⟩
      simp only [stackyardref08_nearest.l0]
      rw [if_neg (by omega)]
    · constructor
      · intro h; cases h
      · rintro ⟨q, h1, h2, _⟩
        have := in_lt h2
        omega
  | succ d ih =>
    intro i hd hi
    have hlt : i < b.length := by omega
    have hwr := wrap1 (i := i) (by omega)
    have e1 : rdOf false b (i : Int) = b.getD i false := by simp [rdOf]
    obtain ⟨r, hr, hr2⟩ := ih (i + 1) (by omega) (by omega)
    by_cases h1 : b.getD i false = true
    · by_cases h2 : rd N (i : Int) = L
      · refine ⟨true, fun k hk => ?_, ?_⟩
        · obtain ⟨k, rfl⟩ : ∃ q, k = q + 1 := ⟨k - 1, by omega⟩
          simp only [stackyardref08_nearest.l0]
          rw [if_pos (by omega), if_pos (by omega), e1, if_pos h1, if_pos (by omega), if_pos h2]
        · exact ⟨fun _ => ⟨i, Nat.le_refl _, h1, h2⟩, fun _ => rfl⟩
      · refine ⟨r, fun k hk => ?_, ?_⟩
        · obtain ⟨k, rfl⟩ : ∃ q, k = q + 1 := ⟨k - 1, by omega⟩
          simp only [stackyardref08_nearest.l0]
          rw [if_pos (by omega), if_pos (by omega), e1, if_pos h1, if_pos (by omega), if_neg h2, hwr]
          exact hr k (by omega)
        · rw [hr2]
          constructor
          · rintro ⟨q, a, b, c⟩; exact ⟨q, by omega, b, c⟩
          · rintro ⟨q, a, b, c⟩
            refine ⟨q, ?_, b, c⟩
            rcases Nat.eq_or_lt_of_le a with rfl | a
            · exact absurd c h2
            · exact a
    · refine ⟨r, fun k hk => ?_, ?_⟩
      · obtain ⟨k, rfl⟩ : ∃ q, k = q + 1 := ⟨k - 1, by omega⟩
        simp only [stackyardref08_nearest.l0]
        rw [if_pos (by omega), if_pos (by omega), e1, if_neg h1, hwr]
        exact hr k (by omega)
      · rw [hr2]
        constructor
        · rintro ⟨q, a, b, c⟩; exact ⟨q, by omega, b, c⟩
        · rintro ⟨q, a, b, c⟩
          refine ⟨q, ?_, b, c⟩
          rcases Nat.eq_or_lt_of_le a with rfl | a
          · exact absurd b h1
          · exact a
theorem nearest_f {N : List Int} {L : Int} {b : List Bool} (hl : b.length = N.length) (hm : b.length ≤ 4096) : ∀ k, b.length < k → stackyardref08_nearest.f k b N L = some (nearAny N L (listB b)) := by
  obtain ⟨r, h1, h2⟩ := nearest_l0 (L := L) hl hm b.length 0 rfl (Nat.zero_le _)
  intro k hk
  unfold stackyardref08_nearest.f
  have := h1 k hk
  rw [show (0 : Int) = ((0 : Nat) : Int) from rfl, this]
  congr 1
  rw [Bool.eq_iff_iff, h2, any_near]
  exact ⟨fun ⟨q, _, h⟩ => ⟨q, h⟩, fun ⟨q, h⟩ => ⟨q, Nat.zero_le _, h⟩⟩
def Hit (l : List S78) (N : List Int) (L : Int) (b : List Bool) (c : Nat) : Prop := ∃ x ∈ l, Moves (c : Int) b x ∧ rd N x.f2 = L
theorem hit_any (A : Arcs m l) {N : List Int} {L : Int} {b b' : List Bool} {c : Nat} (h : Hit l N L b c) (hb : By m l c b b') : nearAny N L (listB b') = true := by
  obtain ⟨x, hx, hm, hr⟩ := h
  obtain ⟨_, ⟨p2, _⟩⟩ := A.st x hx
  exact any_near.mpr ⟨x.f2.toNat, (by_in hb _).mpr ⟨x, hx, hm, .refl _⟩, by rw [Int.toNat_of_nonneg p2]; exact hr⟩
theorem hit_some (A : Arcs m l) (hsy : ∀ x ∈ l, -2 ≤ x.f1 ∧ x.f1 < ns) {N : List Int} (hN : Near m l ns e N) (hF : ∀ x ∈ l, Fix ns N x) {b : List Bool} (hH : Hand l b b) (hb : b.length = m) {n i : Nat} (hi : In b i) (hr : rd N (i : Int) = (n + 1 : Nat)) :
    ∃ c, c < ns ∧ Hit l N (n : Int) b c := by
  have him : i < m := by have := in_lt hi; omega
  have hw := hN.way i him (by omega)
  obtain ⟨x, hx, hE, h1, h2, hw2⟩ := way_sym hw n (by omega)
  have hin := shut_eps hH.shut hi hE
  obtain ⟨⟨p0, p1⟩, ⟨p2, p3⟩⟩ := A.st x hx
  obtain ⟨v, hv⟩ := Int.eq_ofNat_of_zero_le p2
  have hvt : x.f2.toNat = v := by rw [hv]; rfl
  rw [hvt] at hw2
  have hle := near_le A hN hF hw2
  have hw3 := hN.way v (by omega) hle.1
  rw [← hvt] at hw3
  have hw4 := way_eps hE (Way.sym hx h1 h2 hw3)
  have hle2 := near_le A hN hF hw4
  rw [hvt] at hle2
  have hfin : rd N x.f2 = (n : Int) := by rw [hv]; omega
  have hb2 := hsy x hx
  by_cases h3 : x.f1 = -2
  · exact ⟨0, by omega, x, hx, ⟨.inr h3, hin⟩, hfin⟩
  · exact ⟨x.f1.toNat, by omega, x, hx, ⟨.inl (by omega), hin⟩, hfin⟩
theorem sym_find (A : Arcs m l) (hns : ns ≤ 4096) {N : List Int} (hN : N.length = m) {n : Nat} (hn : n < 4096) {S : List Int} {b : List Bool} (hR : Rep m S b) (hH : Hand l b b) : ∀ (d j : Nat), ns - j = d → j ≤ ns → (∃ c, j ≤ c ∧ c < ns ∧ Hit l N (n : Int) b c) →
    ∃ K j' t b', j' < ns ∧ Rep m t b' ∧ By m l j' b b' ∧ (∃ q, In b' q ∧ rd N (q : Int) = n) ∧ (∀ k, K ≤ k → symF k m ns s e l N n S d j = some (some (j', t))) ∧
      ∀ (w : List Int) r, w.length < 17592186044416 → (∃ k, stackyardref08_Least.l0 k N (w ++ [(j' : Int)]) b' n m ns s e l = some r) → ∃ k, stackyardref08_Least.l1 k N w b ((n : Int) + 1) (j : Int) m ns s e l = some r := by
  intro d
  have hm := A.m1
  have hwn : wrap64 ((n : Int) + 1 - 1) = n := by unfold wrap64; omega
  induction d with
  | zero =>
    rintro j hd hj ⟨c, h1, h2, _⟩
    omega
  | succ d ih =>
    rintro j hd hj ⟨c, hc1, hc2, hc⟩
    have hwr := wrap1 (i := j) (by omega)
    obtain ⟨K, B', b', h1, hR', hBy⟩ := step_f (sy := ns) (s := s) (e := e) A (sym := (j : Int)) hR hH hR.lb
    obtain ⟨K2, h2⟩ := list_f hR' A.m1
    have hnr := nearest_f (N := N) (L := (n : Int)) (b := b') (by rw [hR'.lb, hN]) (by rw [hR'.lb]; exact hm)
    have hall : ((listB b').all fun i => decide (0 ≤ i) && decide (i < (N.length : Int))) = true := by
      have := okS_list hR'.lb
      rw [hN]
      exact this
    by_cases ha : nearAny N (n : Int) (listB b') = true
    · refine ⟨K + K2, j, B', b', by omega, hR', hBy, any_near.mp ha, fun k hk => ?_, fun w r hw ⟨k, hk⟩ => ?_⟩
      · simp only [symF]
        rw [(h1 k (by omega)).1, Option.bind_some, h2 k (by omega), Option.bind_some, if_pos hall, if_pos ha]
      · refine ⟨K + k + b'.length + 1 + 1, ?_⟩
        simp only [stackyardref08_Least.l1]
        rw [if_pos (by omega), (h1 _ (by omega)).2, Option.bind_some, hwn, hnr _ (by omega), Option.bind_some, if_pos ha, if_pos hw]
        exact at_rounds (fun k => (stackyardref08_Least.mono_l k).1 _ _ _ _ _ _ _ _ _) (by omega) hk
    · have hne : j ≠ c := fun e => ha (hit_any A (e ▸ hc) hBy)
      obtain ⟨K3, j', t, b2, g1, g2, g3, g4, g5, g6⟩ := ih (j + 1) (by omega) (by omega) ⟨c, by omega, hc2, hc⟩
      refine ⟨K + K2 + K3, j', t, b2, g1, g2, g3, g4, fun k hk => ?_, fun w r hw hr => ?_⟩
      · simp only [symF]
        rw [(h1 k (by omega)).1, Option.bind_some, h2 k (by omega), Option.bind_some, if_pos hall, if_neg ha]
        exact g5 k (by omega)
      · obtain ⟨k, hk⟩ := g6 w r hw hr
        obtain ⟨q, hq⟩ : ∃ q, q = K + k + b'.length + 1 := ⟨_, rfl⟩
        refine ⟨q + 1, ?_⟩
        simp only [stackyardref08_Least.l1]
        rw [if_pos (by omega), (h1 _ (by omega)).2, Option.bind_some, hwn, hnr _ (by omega), Option.bind_some, if_neg ha, hwr]
        exact at_rounds (fun k => (stackyardref08_Least.mono_l k).2 _ _ _ _ _ _ _ _ _ _) (show k ≤ q by omega) hk
theorem least_word (A : Arcs m l) (hns : ns ≤ 4096) (hsy : ∀ x ∈ l, -2 ≤ x.f1 ∧ x.f1 < ns) {N : List Int} (hN : Near m l ns e N) (hF : ∀ x ∈ l, Fix ns N x) : ∀ (n : Nat) (w S : List Int) (b : List Bool), n ≤ 4096 → w.length ≤ 8192 - n → Rep m S b → Hand l b b → (∃ i, In b i ∧ rd N (i : Int) = n) →
    ∃ ws b', ws.length = n ∧ okS ns ws = true ∧ Walk m l b ws b' ∧ b'.length = m ∧ In b' e ∧ (∃ K, ∀ k, K ≤ k → ∀ J, n < J → leastL k m ns s e l N J ((n : Int) - 1) w S = some (w ++ ws)) ∧ ∃ k, stackyardref08_Least.l0 k N w b (n : Int) m ns s e l = some (w ++ ws, true, 0) := by
  intro n
  induction n with
  | zero =>
    rintro w S b _ _ hR hH ⟨i, hi, hr⟩
    have him : i < m := by have := in_lt hi; have := hR.lb; omega
    have hw := hN.way i him (by omega)
    refine ⟨[], b, rfl, rfl, .nil b, hR.lb, shut_eps hH.shut hi (way_zero hw (by omega)), ⟨0, fun k _ J hJ => ?_⟩, 1, ?_⟩
    · obtain ⟨J, rfl⟩ : ∃ q, J = q + 1 := ⟨J - 1, by omega⟩
      simp only [leastL]
      rw [if_neg (by omega), List.append_nil]
    · simp only [stackyardref08_Least.l0]
      rw [if_neg (by omega), List.append_nil]
  | succ n ih =>
    rintro w S b hn hwl hR hH ⟨i, hi, hr⟩
    obtain ⟨c, hc, hit⟩ := hit_some A hsy hN hF hH hR.lb hi hr
    obtain ⟨K, j, t, b1, hj, hR1, hBy, hq, hs1, hs2⟩ := sym_find (s := s) (e := e) A hns hN.len (by omega) hR hH ns 0 rfl (Nat.zero_le _) ⟨c, Nat.zero_le _, hc, hit⟩
    obtain ⟨ws, b', g1, g2, g3, g4, g5, ⟨K2, g6⟩, g7⟩ := ih (w ++ [(j : Int)]) t b1 (by omega) (by simp; omega) hR1 (by_shut hBy) hq
    refine ⟨(j : Int) :: ws, b', by simp [g1], ?_, .cons hBy hR1.lb g3, g4, g5, ⟨K + K2, fun k hk J hJ => ?_⟩, ?_⟩
    · refine okS_of fun x hx => ?_
      rcases List.mem_cons.mp hx with rfl | hx
      · omega
      · exact okS_mem g2 hx
    · obtain ⟨J, rfl⟩ : ∃ q, J = q + 1 := ⟨J - 1, by omega⟩
      have hl1 : (((n + 1 : Nat) : Int) - 1) = (n : Int) := by omega
      have hw1 : wrap64 ((n : Int) - 1) = (n : Int) - 1 := by unfold wrap64; omega
      simp only [leastL]
      rw [hl1, if_pos (by omega), Int.toNat_natCast, hs1 k (by omega), Option.bind_some]
      simp only []
      rw [if_pos (by omega), hw1, g6 k (by omega) J (by omega)]
      simp
    · rw [show w ++ (j : Int) :: ws = w ++ [(j : Int)] ++ ws by simp]
      obtain ⟨k, hk⟩ := hs2 w _ (by omega) g7
      refine ⟨k + 1, ?_⟩
      simp only [stackyardref08_Least.l0]
      rw [if_pos (by omega)]
      exact hk
theorem in_one {s : Nat} (hs : s < m) : In (setB (none0 m) [(s : Int)]) s := (in_setB s _ _ (fun x hx => by
  have : x = s := by simpa using hx
  simp only [none0, List.length_replicate]
  omega)).mpr (.inr (by simp))
theorem one_in {s i : Nat} (hs : s < m) (h : In (setB (none0 m) [(s : Int)]) i) : i = s := by
  rcases (in_setB i _ _ (fun x hx => by
    have : x = s := by simpa using hx
    simp only [none0, List.length_replicate]
    omega)).mp h with h | h
  · exact absurd h (in_none m i)
  · have : (i : Int) = s := by simpa using h
    omega
theorem least_good (A : Arcs m l) (hns : ns ≤ 4096) (hsy : ∀ x ∈ l, -2 ≤ x.f1 ∧ x.f1 < ns) (hs : s < m) (he : e < m) (hck : ckA m ns s e l = 0) :
    ∃ K v ok, v.length ≤ 4096 ∧ (∀ k, K ≤ k → nfa_Least.f k m ns s e l = some (v, ok, 0) ∧ stackyardref08_Least.f k m ns s e l = some (v, ok, 0)) ∧
      (ok = true ∧ okS ns v = true ∧ (∀ n, Way l ns e s n → v.length ≤ n) ∧ (∃ b0 b', b0.length = m ∧ Hand l (setB (none0 m) [(s : Int)]) b0 ∧ b'.length = m ∧ Walk m l b0 v b' ∧ In b' e) ∨ ok = false ∧ v = [] ∧ ∀ n, ¬ Way l ns e s n) := by
  have hm := A.m1
  obtain ⟨K1, N, hN, hF, h1⟩ := near_f (s := s) (ns := ns) A he
  obtain ⟨K2, h2⟩ := rcheck_f (a0_0 := m) (a0_1 := ns) (a0_2 := s) (a0_3 := e) (l := l)
  have hlen := hN.len
  rcases Int.lt_or_le (rd N (s : Int)) 0 with hneg | hpos
  · refine ⟨K1 + K2, [], false, by simp, fun k hk => ⟨?_, ?_⟩, .inr ⟨rfl, rfl, fun n hw => ?_⟩⟩
    · unfold nfa_Least.f
      rw [check_f, hck, Option.bind_some, if_pos rfl, Int.toNat_natCast, (h1 k (by omega)).1, Option.bind_some, if_pos hneg]
    · unfold stackyardref08_Least.f
      rw [h2 k (by omega), hck, Option.bind_some, if_pos rfl, (h1 k (by omega)).2, Option.bind_some, if_pos (by omega), if_pos (by omega), if_pos hneg]
    · have := near_le A hN hF hw
      omega
  · obtain ⟨n, hn⟩ := Int.eq_ofNat_of_zero_le hpos
    have hn4 := near_small hN A s hs
    obtain ⟨E, hE, hRE⟩ := empty_f (m := m) A.m1
    obtain ⟨B1, hp, hR1⟩ := put_f hRE A.m1 s hs
    have hR1 : Rep m B1 (setB (none0 m) [(s : Int)]) := hR1
    obtain ⟨K3, B', b0, h3, hR, hH⟩ := closed_f (sy := ns) (s := s) (e := e) A hR1
    obtain ⟨K6, h6⟩ := marks_f (ls := [(s : Int)]) (by simp) A.m1 (okS_one hs) (fun k hk => (h3 k hk).2)
    obtain ⟨ws, b', g1, g2, g3, g4, g5, ⟨K4, g6⟩, ⟨K5, g7⟩⟩ := least_word (s := s) A hns hsy hN hF n [] B' b0 (by omega) (by simp) hR (hand_self hH) ⟨s, hH.sub _ (in_one hs), hn⟩
    rw [List.nil_append] at g6 g7
    have hw1 : wrap64 (rd N (s : Int) - 1) = (n : Int) - 1 := by rw [hn]; unfold wrap64; omega
    refine ⟨K1 + K2 + K3 + K4 + K5 + K6 + n + 1, ws, true, by omega, fun k hk => ⟨?_, ?_⟩, .inl ⟨rfl, g2, fun q hq => ?_, b0, b', hR.lb, hH, g4, g3, g5⟩⟩
    · unfold nfa_Least.f
      rw [check_f, hck, Option.bind_some, if_pos rfl, Int.toNat_natCast, (h1 k (by omega)).1, Option.bind_some, if_neg (by omega), hE, Option.bind_some, hp, Option.bind_some, (h3 k (by omega)).1, Option.bind_some, hw1, g6 k (by omega) k (by omega)]
      rfl
    · unfold stackyardref08_Least.f
      rw [h2 k (by omega), hck, Option.bind_some, if_pos rfl, (h1 k (by omega)).2, Option.bind_some, if_pos (by omega), if_pos (by omega), if_neg (by omega), h6 k (by omega), Option.bind_some, hn]
      exact at_rounds (fun k => (stackyardref08_Least.mono_l k).1 _ _ _ _ _ _ _ _ _) (by omega) g7
    · have := near_le A hN hF hq
      omega
end
theorem least_no {a0_0 a0_1 a0_2 a0_3 : Int} {l : List S78} (hck : ckA a0_0 a0_1 a0_2 a0_3 l ≠ 0) :
    ∃ K, ∀ k, K ≤ k → nfa_Least.f k a0_0 a0_1 a0_2 a0_3 l = some ([], false, ckA a0_0 a0_1 a0_2 a0_3 l) ∧ stackyardref08_Least.f k a0_0 a0_1 a0_2 a0_3 l = some ([], false, ckA a0_0 a0_1 a0_2 a0_3 l) := by
  obtain ⟨K, h⟩ := rcheck_f (a0_0 := a0_0) (a0_1 := a0_1) (a0_2 := a0_2) (a0_3 := a0_3) (l := l)
  refine ⟨K, fun k hk => ⟨?_, ?_⟩⟩
  · unfold nfa_Least.f
    rw [check_f, Option.bind_some, if_neg hck]
  · unfold stackyardref08_Least.f
    rw [h k hk, Option.bind_some, if_neg hck]
section
variable {a0_0 a0_1 a0_2 a0_3 : Int} {l : List S78}
theorem nfaLeast_pure {ws : List Int} (hw : ws.length < 4611686018427387904) : ∃ k, stackyardlaw08_NfaLeast.f k a0_0 a0_1 a0_2 a0_3 l ws = some true := by
  by_cases hck : ckA a0_0 a0_1 a0_2 a0_3 l = 0
  · obtain ⟨m, ns, s, e, rfl, rfl, rfl, rfl, hns, hs, he, A, hsy⟩ := ck_ok hck
    obtain ⟨K1, v, ok, hv, h1, hcase⟩ := least_good A hns hsy hs he hck
    have hj : ∀ K, ∃ k, K ≤ k ∧ stackyardlaw08_NfaLeast.j0 k v ok false m ns s e l = some true := by
      intro K
      rcases hcase with ⟨rfl, hok, _, b0, b', hb0, hH, hb', hW, hin⟩ | ⟨rfl, rfl, _⟩
      · obtain ⟨K2, c0, c', hc0, hHc, hc', hWc, h2⟩ := run_good A hs he (ws := v) (by omega) hck hok
        obtain rfl : c0 = b0 := hand_unique (by rw [hc0, hb0]) hHc hH
        have hwu : ∀ {b w c d}, Walk m l b w c → Walk m l b w d → c = d := by
          intro b w c d h
          induction h with
          | nil b => intro h2; cases h2; rfl
          | cons hb hl _ ih =>
            intro h2
            cases h2 with
            | cons hb2 hl2 h3 =>
              obtain rfl := by_unique (by rw [hl, hl2]) hb hb2
              exact ih h3
        obtain rfl := hwu hWc hW
        refine ⟨K + K2 + 1, by omega, ?_⟩
        simp only [stackyardlaw08_NfaLeast.j0]
        rw [if_neg (by simp), if_pos trivial, (h2 _ (by omega)).1, Option.bind_some]
        show (if (0 : Int) = 0 then some (c'.getD e false) else _) = _
        rw [if_pos rfl]
        exact congrArg some hin
      · refine ⟨K + 1, by omega, ?_⟩
        simp [stackyardlaw08_NfaLeast.j0]
    by_cases has : okS ns ws = true
    · obtain ⟨K2, b0, b', hb0, hH, hb', hW, h2⟩ := run_good A hs he hw hck has
      obtain ⟨k, hk, hj⟩ := hj (K1 + K2)
      refine ⟨k, ?_⟩
      unfold stackyardlaw08_NfaLeast.f
      rw [show stackyardlaw08_awake.f = some true from rfl, Option.bind_some, if_pos rfl, (h1 k (by omega)).1, Option.bind_some, (h2 k (by omega)).1, Option.bind_some]
      show (if (0 : Int) = 0 then (if (0 : Int) = 0 then (if b'.getD e false = true then (if ok = true then stackyardlaw08_NfaLeast.j0 k v ok (decide ((ws.length : Int) < (v.length : Int))) m ns s e l else stackyardlaw08_NfaLeast.j0 k v ok true m ns s e l) else _) else _) else _) = _
      rw [if_pos rfl, if_pos rfl]
      by_cases ht : b'.getD e false = true
      · rw [if_pos ht]
        obtain ⟨j, hj1, hj2⟩ := walk_way (ns := ns) (e := e) hW has (i := e) (n := 0) ht .done
        obtain ⟨i0, hi0, hE⟩ := hH.from_ j hj1
        obtain rfl := one_in hs hi0
        have hway := way_eps hE hj2
        rcases hcase with ⟨rfl, _, hmin, _⟩ | ⟨rfl, _, hno⟩
        · have := hmin _ hway
          rw [if_pos rfl, decide_eq_false (by omega)]
          exact hj
        · exact absurd hway (hno _)
      · rw [if_neg ht]
        exact hj
    · obtain ⟨K2, h2⟩ := run_bad (s := s) (e := e) A hw hck has
      obtain ⟨k, hk, hj⟩ := hj (K1 + K2)
      refine ⟨k, ?_⟩
      unfold stackyardlaw08_NfaLeast.f
      rw [show stackyardlaw08_awake.f = some true from rfl, Option.bind_some, if_pos rfl, (h1 k (by omega)).1, Option.bind_some, (h2 k (by omega)).1, Option.bind_some]
      exact hj
  · obtain ⟨K1, h1⟩ := least_no hck
    refine ⟨K1, ?_⟩
    unfold stackyardlaw08_NfaLeast.f
    rw [show stackyardlaw08_awake.f = some true from rfl, Option.bind_some, if_pos rfl, (h1 K1 (by omega)).1, Option.bind_some]
    show (if ckA a0_0 a0_1 a0_2 a0_3 l = 0 then _ else _) = _
    rw [if_neg hck]
    rfl
end
end Go.Proofs.Ytapinbmkjkbkkaa.Pu
