import Derived.Test.YtapinbmkjkbkkaaTuP7
import Derived.Test.YtapinbmkjkbkkaaTuLbx17
namespace Go.Proofs.Ytapinbmkjkbkkaa.Pu
open Go.RowKit Go.Proofs.YtapinbmkjkbkkaaW.PrintWords Go.Proofs.YtapinbmkjkbkkaaW.PrintLast Go.Proofs.YtapinbmkjkbkkaaW.PrintMore Lb Mk Ls
inductive Path (l : List S78) : Nat → List Int → Nat → Prop
  | nil (i : Nat) : Path l i [] i
  | eps {x : S78} {w : List Int} {j : Nat} (hx : x ∈ l) (h : x.f1 = -1) (p : Path l x.f2.toNat w j) : Path l x.f0.toNat w j
  | sym {x : S78} {c : Int} {w : List Int} {j : Nat} (hx : x ∈ l) (h : x.f1 = c ∨ x.f1 = -2) (p : Path l x.f2.toNat w j) : Path l x.f0.toNat (c :: w) j
theorem path_trans {l : List S78} {i j q : Nat} {w v : List Int} (h : Path l i w j) (k : Path l j v q) : Path l i (w ++ v) q := by
  induction h with
  | nil => exact k
  | eps hx h _ ih => exact .eps hx h (ih k)
  | sym hx h _ ih => exact .sym hx h (ih k)
theorem path_eps {l : List S78} {i j q : Nat} {w : List Int} (h : Eps l i j) (k : Path l j w q) : Path l i w q := by
  induction h with
  | refl => exact k
  | step _ hx hs ih => exact ih (.eps hx hs k)
theorem path_nil {l : List S78} {i j : Nat} {w : List Int} (h : Path l i w j) : w = [] → Eps l i j := by
  induction h with
  | nil => exact fun _ => .refl _
  | eps hx h _ ih => exact fun e => (Eps.step (.refl _) hx h).trans (ih e)
  | sym => exact fun e => by cases e
theorem path_cons {l : List S78} {i j : Nat} {w : List Int} (h : Path l i w j) : ∀ c v, w = c :: v → ∃ y ∈ l, Eps l i y.f0.toNat ∧ (y.f1 = c ∨ y.f1 = -2) ∧ Path l y.f2.toNat v j := by
  induction h with
  | nil => exact fun _ _ e => by cases e
  | eps hx h _ ih =>
    intro c v e
    obtain ⟨y, hy, hE, hc, hp⟩ := ih c v e
    exact ⟨y, hy, (Eps.step (.refl _) hx h).trans hE, hc, hp⟩
  | @sym x c w j hx h p _ =>
    intro c' v e
    obtain ⟨rfl, rfl⟩ : c = c' ∧ w = v := by simpa using e
    exact ⟨x, hx, .refl _, h, p⟩
theorem path_back {l : List S78} {i j : Nat} {w : List Int} (h : Path l i w j) : Path (l.map swapA) j w.reverse i := by
  induction h with
  | nil => exact .nil _
  | @eps x w j hx h _ ih =>
    have := path_trans ih (Path.eps (l := l.map swapA) (x := swapA x) (List.mem_map_of_mem hx) h (.nil _))
    rw [List.append_nil] at this
    exact this
  | @sym x c w j hx h _ ih =>
    rw [List.reverse_cons]
    exact path_trans ih (Path.sym (l := l.map swapA) (x := swapA x) (List.mem_map_of_mem hx) h (.nil _))
theorem swap_swap (l : List S78) : (l.map swapA).map swapA = l := by
  rw [List.map_map]
  exact List.map_id'' (fun _ => rfl) l
theorem path_rev {l : List S78} {i j : Nat} {w : List Int} : Path (l.map swapA) j w.reverse i ↔ Path l i w j := by
  constructor
  · intro h
    have := path_back h
    rw [swap_swap, List.reverse_reverse] at this
    exact this
  · exact path_back
theorem walk_path {m : Nat} {l : List S78} {b b' : List Bool} {w : List Int} (h : Walk m l b w b') (hH : Hand l b b) (j : Nat) : In b' j ↔ ∃ i, In b i ∧ Path l i w j := by
  induction h with
  | nil b =>
    constructor
    · exact fun h => ⟨j, h, .nil _⟩
    · rintro ⟨i, hi, hp⟩
      exact shut_eps hH.shut hi (path_nil hp rfl)
  | @cons x w b b1 b2 hb _ _ ih =>
    rw [ih (by_shut hb)]
    constructor
    · rintro ⟨q, hq, hp⟩
      obtain ⟨y, hy, ⟨hm, hf⟩, hE⟩ := (by_in hb q).mp hq
      exact ⟨_, hf, .sym hy hm (path_eps hE hp)⟩
    · rintro ⟨i, hi, hp⟩
      obtain ⟨y, hy, hE, hc, hp2⟩ := path_cons hp x w rfl
      exact ⟨y.f2.toNat, (by_in hb _).mpr ⟨y, hy, ⟨hc, shut_eps hH.shut hi hE⟩, .refl _⟩, hp2⟩
theorem in_one' {m s : Nat} (hs : s < m) (i : Nat) : In (setB (none0 m) [(s : Int)]) i ↔ i = s := by
  rw [in_setB i _ _ (fun x hx => by
    have : x = s := by simpa using hx
    simp only [none0, List.length_replicate]
    omega)]
  constructor
  · rintro (h | h)
    · exact absurd h (in_none m i)
    · have : (i : Int) = s := by simpa using h
      omega
  · rintro rfl
    exact .inr (by simp)
theorem run_path {m s : Nat} {l : List S78} {b0 b' : List Bool} {w : List Int} (hs : s < m) (hH : Hand l (setB (none0 m) [(s : Int)]) b0) (hW : Walk m l b0 w b') (j : Nat) : In b' j ↔ Path l s w j := by
  rw [walk_path hW (hand_self hH)]
  constructor
  · rintro ⟨i, hi, hp⟩
    obtain ⟨q, hq, hE⟩ := hH.from_ i hi
    obtain rfl := (in_one' hs q).mp hq
    exact path_eps hE hp
  · exact fun hp => ⟨s, hH.sub _ ((in_one' hs s).mpr rfl), hp⟩
theorem same_l0 {a0 a1 a2 a3 b0 b1 b2 b3 : Int} {l : List S78} (hl : l.length ≤ 65536) : ∀ (d i : Nat), l.length - i = d → i ≤ l.length → ∀ k, d < k → stackyardref08_Same.l0 k (i : Int) a0 a1 a2 a3 l b0 b1 b2 b3 l = some true := by
  intro d
  induction d with
  | zero =>
    intro i hd hi k hk
    obtain ⟨k, rfl⟩ : ∃ q, k = q + 1 := ⟨k - 1, by omega⟩
    simp only [stackyardref08_Same.l0]
    rw [if_neg (by omega)]
  | succ d ih =>
    intro i hd hi k hk
    obtain ⟨k, rfl⟩ : ∃ q, k = q + 1 := ⟨k - 1, by omega⟩
    simp only [stackyardref08_Same.l0]
    rw [if_pos (by omega), if_pos (by omega), if_pos (by omega), if_neg (by simp), wrap1 (by omega)]
    exact ih (i + 1) (by omega) (by omega) k (by omega)
theorem same_f {a0 a1 a2 a3 : Int} {l : List S78} (hl : l.length ≤ 65536) : ∃ K, ∀ k, K ≤ k → stackyardref08_Same.f k a0 a1 a2 a3 l a0 a1 a2 a3 l = some true := by
  refine ⟨l.length + 2, fun k hk => ?_⟩
  obtain ⟨k, rfl⟩ : ∃ q, k = q + 1 := ⟨k - 1, by omega⟩
  unfold stackyardref08_Same.f
  rw [if_pos rfl, if_pos rfl, if_pos rfl, if_pos rfl]
  simp only [stackyardref08_Same.j0]
  rw [if_neg (by simp)]
  exact same_l0 hl l.length 0 rfl (Nat.zero_le _) k (by omega)
theorem ck_len {a0_0 a0_1 a0_2 a0_3 : Int} {l : List S78} (h : ckA a0_0 a0_1 a0_2 a0_3 l = 0) : l.length ≤ 65536 := by
  unfold ckA at h
  by_cases q : 65536 < l.length
  · rw [if_pos q] at h; exact absurd h (by decide)
  · omega
theorem ck_back {a0_0 a0_1 a0_2 a0_3 : Int} {l : List S78} (h : ckA a0_0 a0_1 a0_2 a0_3 l = 0) : ckA a0_0 a0_1 a0_3 a0_2 (l.map swapA) = 0 := by
  have hl := ck_len h
  unfold ckA at h ⊢
  rw [if_neg (by omega)] at h
  rw [if_neg (by rw [List.length_map]; omega)]
  by_cases h2 : nfa_headOk a0_0 a0_1 a0_2 a0_3 = true
  · rw [if_pos h2] at h
    have h2' : nfa_headOk a0_0 a0_1 a0_3 a0_2 = true := by
      obtain ⟨c1, c2, c3, c4, c5, c6⟩ := of_decide_eq_true h2
      exact decide_eq_true ⟨c1, c2, c3, c4, c6, c5⟩
    rw [if_pos h2']
    by_cases h3 : l.all (nfa_arcOk a0_0 a0_1) = true
    · have h3' : (l.map swapA).all (nfa_arcOk a0_0 a0_1) = true := by
        refine List.all_eq_true.mpr fun x hx => ?_
        obtain ⟨y, hy, rfl⟩ := List.mem_map.mp hx
        obtain ⟨c1, c2, c3⟩ := of_decide_eq_true (List.all_eq_true.mp h3 y hy)
        exact decide_eq_true ⟨c2, c1, c3⟩
      rw [if_pos h3']
    · rw [if_neg h3] at h; exact absurd h (by decide)
  · rw [if_neg h2] at h; exact absurd h (by decide)
theorem turn_ok {a0_0 a0_1 a0_2 a0_3 : Int} {l : List S78} (h : ckA a0_0 a0_1 a0_2 a0_3 l = 0) : nfa_Turn.f a0_0 a0_1 a0_2 a0_3 l = some (a0_0, a0_1, a0_3, a0_2, l.map swapA, 0) := by
  unfold nfa_Turn.f
  rw [check_f, h, Option.bind_some, if_pos rfl]
theorem turn_no {a0_0 a0_1 a0_2 a0_3 : Int} {l : List S78} (h : ckA a0_0 a0_1 a0_2 a0_3 l ≠ 0) : nfa_Turn.f a0_0 a0_1 a0_2 a0_3 l = some (0, 0, 0, 0, [], ckA a0_0 a0_1 a0_2 a0_3 l) := by
  unfold nfa_Turn.f
  rw [check_f, Option.bind_some, if_neg h]
theorem rturn_ok {a0_0 a0_1 a0_2 a0_3 : Int} {l : List S78} (h : ckA a0_0 a0_1 a0_2 a0_3 l = 0) : ∃ K, ∀ k, K ≤ k → stackyardref08_Turn.f k a0_0 a0_1 a0_2 a0_3 l = some (a0_0, a0_1, a0_3, a0_2, l.map swapA, 0) := by
  obtain ⟨K, hK⟩ := rcheck_f (a0_0 := a0_0) (a0_1 := a0_1) (a0_2 := a0_2) (a0_3 := a0_3) (l := l)
  refine ⟨K, fun k hk => ?_⟩
  unfold stackyardref08_Turn.f
  rw [hK k hk, h, Option.bind_some, if_pos rfl, if_pos (ck_len h)]
theorem rturn_no {a0_0 a0_1 a0_2 a0_3 : Int} {l : List S78} (h : ckA a0_0 a0_1 a0_2 a0_3 l ≠ 0) : ∃ K, ∀ k, K ≤ k → stackyardref08_Turn.f k a0_0 a0_1 a0_2 a0_3 l = some (0, 0, 0, 0, [], ckA a0_0 a0_1 a0_2 a0_3 l) := by
  obtain ⟨K, hK⟩ := rcheck_f (a0_0 := a0_0) (a0_1 := a0_1) (a0_2 := a0_2) (a0_3 := a0_3) (l := l)
  refine ⟨K, fun k hk => ?_⟩
  unfold stackyardref08_Turn.f
  rw [hK k hk, Option.bind_some, if_neg h]
theorem okS_rev {n : Int} {ws : List Int} : okS n ws.reverse = okS n ws := by unfold okS; exact List.all_reverse
section
variable {a0_0 a0_1 a0_2 a0_3 : Int} {l : List S78}
theorem runs_back {ws : List Int} (hck : ckA a0_0 a0_1 a0_2 a0_3 l = 0) (hw : ws.length < 4611686018427387904) :
    ∃ K t c, ∀ k, K ≤ k → nfa_Run.f k a0_0 a0_1 a0_2 a0_3 l ws = some (t, c) ∧ nfa_Run.f k a0_0 a0_1 a0_3 a0_2 (l.map swapA) ws.reverse = some (t, c) := by
  have hck2 := ck_back hck
  obtain ⟨m, ns, s, e, rfl, rfl, rfl, rfl, _, hs, he, A, _⟩ := ck_ok hck
  have A2 : Arcs m (l.map swapA) := ⟨A.m0, A.m1, by rw [List.length_map]; exact A.len, fun x hx => by
    obtain ⟨y, hy, rfl⟩ := List.mem_map.mp hx
    obtain ⟨c1, c2⟩ := A.st y hy
    exact ⟨c2, c1⟩⟩
  by_cases has : okS ns ws = true
  · obtain ⟨K1, b0, b', hb0, hH, hb', hW, h1⟩ := run_good A hs he hw hck has
    obtain ⟨K2, c0, c', hc0, hG, hc', hV, h2⟩ := run_good (ws := ws.reverse) A2 he hs (by rw [List.length_reverse]; exact hw) hck2 (by rw [okS_rev]; exact has)
    have heq : b'.getD e false = c'.getD s false := by
      rw [Bool.eq_iff_iff]
      exact (run_path hs hH hW e).trans (path_rev.symm.trans (run_path he hG hV s).symm)
    refine ⟨K1 + K2, _, _, fun k hk => ⟨(h1 k (by omega)).1, ?_⟩⟩
    rw [heq]
    exact (h2 k (by omega)).1
  · obtain ⟨K1, h1⟩ := run_bad (s := s) (e := e) A hw hck has
    obtain ⟨K2, h2⟩ := run_bad (ws := ws.reverse) A2 (by rw [List.length_reverse]; exact hw) hck2 (by rw [okS_rev]; exact has)
    exact ⟨K1 + K2, _, _, fun k hk => ⟨(h1 k (by omega)).1, (h2 k (by omega)).1⟩⟩
theorem turns_l0 {ws : List Int} (hw : ws.length < 17592186044416) (hck : ckA a0_0 a0_1 a0_2 a0_3 l = 0) : ∀ i : Nat, i ≤ ws.length → ∃ k, stackyardlaw08_NfaTurns.l0 k ws (ws.drop i).reverse ((i : Int) - 1) a0_0 a0_1 a0_2 a0_3 l a0_0 a0_1 a0_3 a0_2 (l.map swapA) = some true := by
  intro i
  induction i with
  | zero =>
    intro _
    obtain ⟨K1, t, c, h1⟩ := runs_back hck (ws := ws) (by omega)
    obtain ⟨K2, h2⟩ := same_f (a0 := a0_0) (a1 := a0_1) (a2 := a0_2) (a3 := a0_3) (ck_len hck)
    refine ⟨K1 + K2 + 1, ?_⟩
    simp only [stackyardlaw08_NfaTurns.l0]
    rw [if_neg (by omega), List.drop_zero, (h1 _ (by omega)).1, Option.bind_some, (h1 _ (by omega)).2, Option.bind_some, turn_ok (ck_back hck), swap_swap, Option.bind_some, if_pos (by simp), if_pos rfl]
    show (if (0 : Int) = 0 then _ else _) = _
    rw [if_pos rfl, h2 _ (by omega)]
    rfl
  | succ i ih =>
    intro hi
    obtain ⟨k, hk⟩ := ih (by omega)
    have hlt : i < ws.length := by omega
    refine ⟨k + 1, ?_⟩
    simp only [stackyardlaw08_NfaTurns.l0]
    have e1 : ((i + 1 : Nat) : Int) - 1 = (i : Int) := by omega
    have e2 : wrap64 ((i : Int) - 1) = (i : Int) - 1 := by unfold wrap64; omega
    rw [e1, e2, if_pos (by omega), if_pos (by omega), if_pos (by omega), if_pos (by rw [List.length_reverse, List.length_drop]; omega), rd_get hlt]
    rw [List.drop_eq_getElem_cons hlt, List.reverse_cons] at hk
    exact hk
theorem nfaTurns_pure {ws : List Int} (hw : ws.length < 17592186044416) : ∃ k, stackyardlaw08_NfaTurns.f k a0_0 a0_1 a0_2 a0_3 l ws = some true := by
  by_cases hck : ckA a0_0 a0_1 a0_2 a0_3 l = 0
  · obtain ⟨K1, h1⟩ := rturn_ok hck
    obtain ⟨K2, h2⟩ := same_f (a0 := a0_0) (a1 := a0_1) (a2 := a0_3) (a3 := a0_2) (l := l.map swapA) (by rw [List.length_map]; exact ck_len hck)
    obtain ⟨k3, h3⟩ := turns_l0 hw hck ws.length (Nat.le_refl _)
    rw [List.drop_length, List.reverse_nil] at h3
    obtain ⟨q, hq⟩ : ∃ q, q = K1 + K2 + k3 := ⟨_, rfl⟩
    refine ⟨q + 1, ?_⟩
    unfold stackyardlaw08_NfaTurns.f
    rw [show stackyardlaw08_awake.f = some true from rfl, Option.bind_some, if_pos rfl, turn_ok hck, Option.bind_some, h1 _ (by omega), Option.bind_some]
    show (if (0 : Int) = 0 then _ else _) = _
    rw [if_pos rfl, h2 _ (by omega), Option.bind_some]
    simp only [stackyardlaw08_NfaTurns.j0]
    rw [if_neg (by simp), if_pos trivial, show wrap64 ((ws.length : Int) - 1) = (ws.length : Int) - 1 by unfold wrap64; omega]
    exact at_rounds (fun k => (stackyardlaw08_NfaTurns.mono_l k).2 _ _ _ _ _ _ _ _ _ _ _ _ _) (show k3 ≤ q by omega) h3
  · obtain ⟨K1, h1⟩ := rturn_no hck
    obtain ⟨K2, h2⟩ := same_f (a0 := 0) (a1 := 0) (a2 := 0) (a3 := 0) (l := []) (by simp)
    obtain ⟨q, hq⟩ : ∃ q, q = K1 + K2 := ⟨_, rfl⟩
    refine ⟨q + 1, ?_⟩
    unfold stackyardlaw08_NfaTurns.f
    rw [show stackyardlaw08_awake.f = some true from rfl, Option.bind_some, if_pos rfl, turn_no hck, Option.bind_some, h1 _ (by omega), Option.bind_some]
    show (if ckA a0_0 a0_1 a0_2 a0_3 l = ckA a0_0 a0_1 a0_2 a0_3 l then _ else _) = _
    rw [if_pos rfl, h2 _ (by omega), Option.bind_some]
    simp only [stackyardlaw08_NfaTurns.j0]
    rw [if_neg (by simp), if_neg hck]
end
end Go.Proofs.Ytapinbmkjkbkkaa.Pu
