import Derived.Test.YtapinbmkjkbkkaaDfDu
import Derived.Test.YtapinbmkjkbkkaaDfLbe
import Derived.Test.YtapinbmkjkbkkaaDfLbx21
namespace Go.Proofs.Ytapinbmkjkbkkaa.Pu
open Go.RowKit Go.Proofs.YtapinbmkjkbkkaaW.PrintWords Go.Proofs.YtapinbmkjkbkkaaW.PrintLast Go.Proofs.YtapinbmkjkbkkaaW.PrintMore Lb Mk
theorem nfaDfas_pure {a0_0 a0_1 a0_2 a0_3 : Int} {l : List S78} {ws : List Int} (hw : ws.length < 4611686018427387904) : ∃ k, stackyardlaw08_NfaDfas.f k a0_0 a0_1 a0_2 a0_3 l ws = some true := by
  have none_same : ∀ k, 7000 < k → stackyardlaw08_same.f k 0 [] [] 0 [] [] = some true := same_dfa rfl (by simp) (fun q hq => absurd hq (by simp))
  by_cases hck : ckA a0_0 a0_1 a0_2 a0_3 l = 0
  · obtain ⟨m, ns, s, e, rfl, rfl, rfl, rfl, hns, hs, he, A, hsy⟩ := ck_ok hck
    have hrun : ∃ K t c, (∀ k, K ≤ k → nfa_Run.f k m ns s e l ws = some (t, c)) ∧ (c = 0 → okS ns ws = true ∧ ∃ b0 b', b0.length = m ∧ Hand l (setB (none0 m) [(s : Int)]) b0 ∧ Walk m l b0 ws b' ∧ t = b'.getD e false) := by
      by_cases has : okS ns ws = true
      · obtain ⟨K, b0, b', h1, h2, h3, h4, h5⟩ := run_good A hs he hw hck has
        exact ⟨K, _, _, fun k hk => (h5 k hk).1, fun _ => ⟨has, b0, b', h1, h2, h4, rfl⟩⟩
      · obtain ⟨K, h5⟩ := run_bad A (s := s) (e := e) hw hck has
        exact ⟨K, _, _, fun k hk => (h5 k hk).1, fun h => absurd h (by decide)⟩
    obtain ⟨K2, t, c, hr, hc⟩ := hrun
    rcases dfa_good A hns hs he hck with ⟨K1, h1⟩ | ⟨K1, n, a, b0, ys, h1, hb0, hH, hlen, ha, hn, hrows⟩
    · refine ⟨K1 + K2 + 7002, ?_⟩
      obtain ⟨q, hq⟩ : ∃ q, K1 + K2 + 7002 = q + 1 := ⟨K1 + K2 + 7001, by omega⟩
      unfold stackyardlaw08_NfaDfas.f
      rw [show stackyardlaw08_awake.f = some true from rfl, Option.bind_some, if_pos rfl, (h1 _ (by omega)).1, (h1 _ (by omega)).2, Option.bind_some, Option.bind_some]
      show (if (3 : Int) = 3 then _ else _) = _
      rw [if_pos rfl, none_same _ (by omega), Option.bind_some, hq]
      simp only [stackyardlaw08_NfaDfas.j0]
      rw [if_neg (by simp), hr _ (by omega), Option.bind_some, if_neg (by decide)]
    · have hsame := same_dfa (x := (ns : Int)) ha hn (rows_len hrows hns)
      refine ⟨K1 + K2 + ws.length + 7003, ?_⟩
      obtain ⟨q, hq⟩ : ∃ q, K1 + K2 + ws.length + 7003 = q + 1 := ⟨K1 + K2 + ws.length + 7002, by omega⟩
      unfold stackyardlaw08_NfaDfas.f
      rw [show stackyardlaw08_awake.f = some true from rfl, Option.bind_some, if_pos rfl, (h1 _ (by omega)).1, (h1 _ (by omega)).2, Option.bind_some, Option.bind_some]
      show (if (0 : Int) = 0 then _ else _) = _
      rw [if_pos rfl, hsame _ (by omega), Option.bind_some, hq]
      simp only [stackyardlaw08_NfaDfas.j0]
      rw [if_neg (by simp), hr _ (by omega), Option.bind_some, if_pos trivial]
      show (if c = 0 then _ else _) = _
      by_cases hc0 : c = 0
      · obtain ⟨has, c0, b', e1, e2, e3, rfl⟩ := hc hc0
        obtain rfl : c0 = b0 := hand_unique (by rw [e1, hb0]) e2 hH
        have hR := runs_l0 (x := (ns : Int)) hrows (by rw [hlen]; rfl) ha hw has ws.length 0 0 c0 b' rfl (Nat.zero_le _) rfl (by rw [List.drop_zero]; exact e3) q (by omega)
        have hf : stackyardlaw08_runs.f q ns n a ws = some (b'.getD e false) := by
          unfold stackyardlaw08_runs.f
          exact hR
        rw [if_pos hc0, hf, Option.bind_some]
        simp
      · rw [if_neg hc0]
  · obtain ⟨K1, h1⟩ := dfa_no hck
    obtain ⟨K2, h2⟩ := run_no (ws := ws) hck
    refine ⟨K1 + K2 + 7002, ?_⟩
    obtain ⟨q, hq⟩ : ∃ q, K1 + K2 + 7002 = q + 1 := ⟨K1 + K2 + 7001, by omega⟩
    unfold stackyardlaw08_NfaDfas.f
    rw [show stackyardlaw08_awake.f = some true from rfl, Option.bind_some, if_pos rfl, (h1 _ (by omega)).1, (h1 _ (by omega)).2, Option.bind_some, Option.bind_some]
    show (if ckA a0_0 a0_1 a0_2 a0_3 l = ckA a0_0 a0_1 a0_2 a0_3 l then _ else _) = _
    rw [if_pos rfl, none_same _ (by omega), Option.bind_some, hq]
    simp only [stackyardlaw08_NfaDfas.j0]
    rw [if_neg (by simp), (h2 _ (by omega)).1, Option.bind_some, if_neg hck]
end Go.Proofs.Ytapinbmkjkbkkaa.Pu
