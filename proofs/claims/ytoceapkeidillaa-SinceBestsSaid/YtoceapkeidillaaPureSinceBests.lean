/- The greatest unit of a span that the program tells is the document's: SinceBests, for every int64. -/
import Derived.Test.YtoceapkeidillaaPSinceBestsx1
namespace Go.Proofs.Ytoceapkeidillaa.Pure
open Go.RowKit Go.Proofs.Ytoceapkeidillaa.PSinceBests Go.Proofs.YtoceapkeidillaaW.PrintWords Go.Proofs.YtoceapkeidillaaW.PrintLast

theorem tdiv_split (s L : Int) : (0 ≤ s ∧ s.tdiv L = s / L) ∨ (s < 0 ∧ s.tdiv L = -((-s) / L)) := by
  rcases Int.lt_or_le s 0 with h | h
  · right
    refine ⟨h, ?_⟩
    have h1 : (-s).tdiv L = (-s) / L := Int.tdiv_eq_ediv_of_nonneg (by omega)
    rw [Int.neg_tdiv] at h1
    omega
  · exact Or.inl ⟨h, Int.tdiv_eq_ediv_of_nonneg h⟩

theorem div_lo (a L : Int) (ha : 0 ≤ a) (hL : 0 < L) : 0 ≤ a / L ∧ a / L ≤ a ∧ (a / L = 0 ↔ a < L) := by
  refine ⟨Int.ediv_nonneg ha (by omega), Int.ediv_le_self _ ha, ?_⟩
  constructor
  · intro h
    rcases Int.lt_or_le a L with h1 | h1
    · exact h1
    · have : 1 ≤ a / L := (Int.le_ediv_iff_mul_le hL).2 (by omega)
      omega
  · intro h; exact Int.ediv_eq_zero_of_lt ha h

theorem tdiv_zero_iff (s L : Int) (hL : 0 < L) : s.tdiv L = 0 ↔ (-L < s ∧ s < L) := by
  rcases tdiv_split s L with ⟨h, e⟩ | ⟨h, e⟩
  · rw [e]; have := div_lo s L h hL; omega
  · rw [e]; have := div_lo (-s) L (by omega) hL; omega

theorem tdiv_wrap (s L : Int) (hL : 0 < L) (hL1 : 1 < L) (h0 : -9223372036854775808 ≤ s) (h1 : s ≤ 9223372036854775807) : wrap64 (s.tdiv L) = s.tdiv L := by
  unfold wrap64
  rcases tdiv_split s L with ⟨h, e⟩ | ⟨h, e⟩
  · rw [e]; have := div_lo s L h hL; omega
  · rw [e]; have := div_lo (-s) L (by omega) hL
    have h2 : (-s) / L ≤ 9223372036854775807 := by
      have : (-s) / L < -s := Int.ediv_lt_self_of_pos_of_ne_one (by omega) (by omega)
      omega
    omega

/-- How long the units are, from number 2 on. -/
def lg (u : Int) : Int := if u = 2 then 60 else if u = 3 then 3600 else if u = 4 then 86400 else if u = 5 then 604800 else if u = 6 then 2629746 else 31556952

theorem both_step (k : Nat) (s u : Int) (r : Int × Int) (hu : 2 ≤ u) (hu7 : u ≤ 7) (h0 : -9223372036854775808 ≤ s) (h1 : s ≤ 9223372036854775807)
    (ih : ¬ (s ≥ lg u ∨ s ≤ -lg u) → since_Best.l0 k s (u - 1) = some r ∧ idiomref17_Best.l0 k s (u - 1) = some r)
    (hr : (s ≥ lg u ∨ s ≤ -lg u) → r = (u, s.tdiv (lg u))) :
    since_Best.l0 (k + 1) s u = some r ∧ idiomref17_Best.l0 (k + 1) s u = some r := by
  have hl : since_long.f u = some (lg u) := by
    unfold since_long.f lg
    repeat' split
    all_goals first | rfl | omega
  have hg : idiomref17_Long.f u = some (lg u) := by
    obtain h | h | h | h | h | h : u = 2 ∨ u = 3 ∨ u = 4 ∨ u = 5 ∨ u = 6 ∨ u = 7 := by omega
    all_goals subst h; decide
  have hp : 60 ≤ lg u ∧ lg u ≤ 31556952 := by unfold lg; repeat' split
                                              all_goals omega
  have hw : wrap64 (u - 1) = u - 1 := by unfold wrap64; omega
  have hn : wrap64 (-lg u) = -lg u := by unfold wrap64; omega
  have hz := tdiv_zero_iff s (lg u) (by omega)
  have hd := tdiv_wrap s (lg u) (by omega) (by omega) h0 h1
  simp only [since_Best.l0, idiomref17_Best.l0]
  rw [if_pos (by omega), if_pos (by omega), hl, hg]
  simp only [Option.bind_some]
  rw [if_neg (by omega), hd, hw, hn]
  by_cases hc : s ≥ lg u ∨ s ≤ -lg u
  · rw [if_neg (by omega)]
    have := hr hc
    subst this
    refine ⟨rfl, ?_⟩
    rcases Int.lt_or_le s (lg u) with h | h
    · rw [if_neg (by omega), if_pos (by omega), if_neg (by omega)]
    · rw [if_pos (by omega), if_neg (by omega)]
  · rw [if_pos (by omega), if_neg (by omega), if_neg (by omega)]
    exact ih hc

theorem both_best (s : Int) (h0 : -9223372036854775808 ≤ s) (h1 : s ≤ 9223372036854775807) (d : Nat) :
    ∀ k u, u = (d : Int) + 1 → u ≤ 7 → d < k → ∃ r, since_Best.l0 k s u = some r ∧ idiomref17_Best.l0 k s u = some r := by
  induction d with
  | zero =>
    intro k u hu _ hk
    obtain ⟨k, rfl⟩ : ∃ m, k = m + 1 := ⟨k - 1, by omega⟩
    refine ⟨(1, s), ?_, ?_⟩
    · simp only [since_Best.l0]; rw [if_neg (by omega)]
    · simp only [idiomref17_Best.l0]; rw [if_neg (by omega)]
  | succ d ih =>
    intro k u hu h7 hk
    obtain ⟨k, rfl⟩ : ∃ m, k = m + 1 := ⟨k - 1, by omega⟩
    obtain ⟨r, hr1, hr2⟩ := ih k (u - 1) (by omega) (by omega) (by omega)
    by_cases hc : s ≥ lg u ∨ s ≤ -lg u
    · exact ⟨(u, s.tdiv (lg u)), both_step k s u _ (by omega) h7 h0 h1 (fun h => absurd hc h) (fun _ => rfl)⟩
    · exact ⟨r, both_step k s u _ (by omega) h7 h0 h1 (fun _ => ⟨hr1, hr2⟩) (fun h => absurd h hc)⟩

theorem awake_true : idiomlaw17_awake.f 9 = some true := by decide +kernel

theorem SinceBests : idiomlaw17_SinceBests.Pure := by
  intro s hs
  have hb : -9223372036854775808 ≤ s ∧ s ≤ 9223372036854775807 := by
    simp [Lit.wf, IntKind.min, IntKind.max, IntKind.signed, IntKind.bits] at hs
    omega
  obtain ⟨r, h1, h2⟩ := both_best s hb.1 hb.2 6 9 7 (by omega) (by omega) (by omega)
  refine ⟨9, ?_⟩
  unfold idiomlaw17_SinceBests.f
  rw [show since_Best.f 9 s = some r from h1, show idiomref17_Best.f 9 s = some r from h2]
  simp only [Option.bind_some]
  simp [awake_true]

end Go.Proofs.Ytoceapkeidillaa.Pure
