import Derived.Test.YtnogmnmbakglcaaDoorRgPl
namespace Go.Proofs.YtnogmnmbakglcaaDoor.Pr
open Go.RowKit Go.Proofs.YtnogmnmbakglcaaDoorW.PrintWords Go.Proofs.YtnogmnmbakglcaaDoorW.PrintLast Go.Proofs.YtnogmnmbakglcaaDoorW.PrintMore
theorem okSh_gen {n g : Int} {l : List Int} (h : okSh n g l = true) : Go.bits .andNot .u64 g (fullI n) = 0 := by
  unfold okSh at h; simp at h; exact h.1.2
theorem badFrom_false {all : Int} {l : List Int} (h : badFrom all l 0 = false) {i : Nat} (hi : i < l.length) : Go.bits .andNot .u64 (rd l (i : Int)) all = 0 := by
  unfold badFrom at h
  rw [List.drop_zero, List.any_eq_false] at h
  have := h (l[i]) (List.getElem_mem hi)
  rw [rd_at hi]
  unfold badB at this
  simpa using this
theorem okSh_row {n g : Int} {l : List Int} (h : okSh n g l = true) {i : Nat} (hi : i < l.length) : Go.bits .andNot .u64 (rd l (i : Int)) (fullI n) = 0 := by
  unfold okSh at h; simp at h
  exact badFrom_false h.2 hi
theorem rd_U {l : List Int} (h : UL l) {i : Nat} (hi : i < l.length) : U (rd l (i : Int)) := by rw [rd_at hi]; exact h _ (List.getElem_mem hi)
def exL (g : Int) (l m : List Int) : List Int := m.map fun x => madeI g l (bitsFrom x.toNat 0)
theorem exL_drop {g : Int} {l m : List Int} {i : Nat} (hm : i < m.length) : exL g l (m.drop i) = madeI g l (bitsFrom (rd m (i : Int)).toNat 0) :: exL g l (m.drop (i + 1)) := by
  rw [List.drop_eq_getElem_cons hm, rd_at hm]; rfl
def exE (n g1 : Int) (l1 : List Int) (g2 : Int) (l2 : List Int) : Int × List Int × Int :=
  if ck2 n g1 l1 g2 l2 = 0 then (madeI g2 l2 (bitsFrom g1.toNat 0), cn (madeI g2 l2 (bitsFrom g1.toNat 0)) (exL g2 l2 l1), 0) else (0, [], ck2 n g1 l1 g2 l2)
theorem extend_l0 {n : Nat} {g1 g2 g : Int} {l1 l2 : List Int} (hn : n ≤ 64) (h1 : l1.length = n) (h2 : l2.length = n) (hu : UL l1) (hrow : ∀ i, i < l1.length → Go.bits .andNot .u64 (rd l1 (i : Int)) (fullI n) = 0) :
    ∀ (d i k : Nat) (out : List Int), n - i = d → i ≤ n → out.length = n → d + 1200 < k →
    facts_Extend.l0 k (n : Int) (i : Int) g1 l1 g2 l2 g out = some (g, cn g (out.take i ++ exL g2 l2 (l1.drop i)), 0) := by
  intro d
  induction d with
  | zero =>
    intro i k out hd hi ho hk
    obtain ⟨k, rfl⟩ : ∃ m, k = m + 1 := ⟨k - 1, by omega⟩
    simp only [facts_Extend.l0]
    rw [if_neg (by omega), canon_f (by omega) (by omega), List.drop_eq_nil_of_le (by omega), List.take_of_length_le (by omega)]
    simp [exL]
  | succ d ih =>
    intro i k out hd hi ho hk
    obtain ⟨k, rfl⟩ : ∃ m, k = m + 1 := ⟨k - 1, by omega⟩
    simp only [facts_Extend.l0]
    have hr := rd_U hu (i := i) (by omega)
    rw [if_pos (by omega), if_pos (by omega), if_pos (by omega), makes_f hr (in_rows (n := (n : Int)) (by omega) (by omega) (by omega) hr (hrow i (by omega)))]
    simp only [Option.bind_some]
    rw [if_pos (by omega), w_step (by omega) (by omega), show ((i : Int) + 1) = ((i + 1 : Nat) : Int) by omega,
      ih (i + 1) k _ (by omega) (by omega) (by simpa using ho) (by omega), Int.toNat_natCast, exL_drop (m := l1) (i := i) (by omega), take_set _ _ _ (by omega), List.append_assoc]; rfl
theorem extend_f {n g1 g2 : Int} {l1 l2 : List Int} {k : Nat} (h1 : l1.length ≤ 1000) (h2 : l2.length ≤ 1000) (hg : U g1) (hu : UL l1) (hk : 1500 ≤ k) : facts_Extend.f k n g1 l1 g2 l2 = some (exE n g1 l1 g2 l2) := by
  unfold facts_Extend.f exE
  rw [checked_f h1 h2 (by omega)]
  simp only [Option.bind_some]
  by_cases hc : ck2 n g1 l1 g2 l2 = 0
  · obtain ⟨c1, c2⟩ := ck2_ok hc
    obtain ⟨d1, s1, _⟩ := ckE_ok c1
    obtain ⟨_, s2, _⟩ := ckE_ok c2
    have e1 := okSh_len s1
    have e2 := okSh_len s2
    unfold outD at d1
    obtain ⟨m, rfl⟩ := Int.eq_ofNat_of_zero_le (show 0 ≤ n by omega)
    simp only [hc, if_true]
    rw [makes_f hg (in_rows (by omega) (by omega) e2 hg (okSh_gen s1))]
    simp only [Option.bind_some]
    rw [if_pos (by omega), if_pos (by omega)]
    simp only [Int.toNat_natCast, List.length_replicate]
    have := extend_l0 (g1 := g1) (g2 := g2) (g := madeI g2 l2 (bitsFrom g1.toNat 0)) (n := m) (by omega) (by omega : l1.length = m) (by omega : l2.length = m) hu (fun i hi => okSh_row s1 hi) m 0 k (List.replicate m 0) (by omega) (by omega) (by simp) (by omega)
    simpa using this
  · simp [hc]
theorem alive_f {k : Nat} (hk : 1500 ≤ k) : stackyardlaw03_alive.f k = some true :=
  at_rounds (g := fun k => stackyardlaw03_alive.f k) (fun k => stackyardlaw03_alive.mono k) (show 200 ≤ k by omega) (by kernel_rfl)
end Go.Proofs.YtnogmnmbakglcaaDoor.Pr
