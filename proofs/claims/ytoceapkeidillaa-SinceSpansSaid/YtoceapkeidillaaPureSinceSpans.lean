/- The unit and the number that the program tells of a span leave less than one unit over, on the span's side, and no greater unit would do: SinceSpans, for every int64. -/
import Derived.Test.YtoceapkeidillaaPSinceSpansx1
namespace Go.Proofs.Ytoceapkeidillaa.Pure
open Go.RowKit Go.Proofs.Ytoceapkeidillaa.PSinceSpans Go.Proofs.YtoceapkeidillaaW.PrintWords Go.Proofs.YtoceapkeidillaaW.PrintLast

theorem tdiv_split (s L : Int) : (0 ≤ s ∧ s.tdiv L = s / L) ∨ (s < 0 ∧ s.tdiv L = -((-s) / L)) := by
  rcases Int.lt_or_le s 0 with h | h
  · right
    refine ⟨h, ?_⟩
    have h1 : (-s).tdiv L = (-s) / L := Int.tdiv_eq_ediv_of_nonneg (by omega)
    rw [Int.neg_tdiv] at h1
    omega
  · exact Or.inl ⟨h, Int.tdiv_eq_ediv_of_nonneg h⟩

theorem div_lo (a L : Int) (ha : 0 ≤ a) (hL : 0 < L) : 0 ≤ a / L ∧ a / L ≤ a ∧ (a / L = 0 ↔ a < L) := by
  refine ⟨Int.ediv_nonneg ha (by omega), Int.ediv_le_self _ ha, ?_⟩
  constructor
  · intro h
    rcases Int.lt_or_le a L with h1 | h1
    · exact h1
    · have : 1 ≤ a / L := (Int.le_ediv_iff_mul_le hL).2 (by omega)
      omega
  · intro h; exact Int.ediv_eq_zero_of_lt ha h

theorem tdiv_zero_iff (s L : Int) (hL : 0 < L) : s.tdiv L = 0 ↔ (-L < s ∧ s < L) := by
  rcases tdiv_split s L with ⟨h, e⟩ | ⟨h, e⟩
  · rw [e]; have := div_lo s L h hL; omega
  · rw [e]; have := div_lo (-s) L (by omega) hL; omega

theorem tdiv_wrap (s L : Int) (hL : 0 < L) (hL1 : 1 < L) (h0 : -9223372036854775808 ≤ s) (h1 : s ≤ 9223372036854775807) : wrap64 (s.tdiv L) = s.tdiv L := by
  unfold wrap64
  rcases tdiv_split s L with ⟨h, e⟩ | ⟨h, e⟩
  · rw [e]; have := div_lo s L h hL; omega
  · rw [e]; have := div_lo (-s) L (by omega) hL
    have h2 : (-s) / L ≤ 9223372036854775807 := by
      have : (-s) / L < -s := Int.ediv_lt_self_of_pos_of_ne_one (by omega) (by omega)
      omega
    omega

/-- How long the units are, from number 2 on. -/
def lg (u : Int) : Int := if u = 2 then 60 else if u = 3 then 3600 else if u = 4 then 86400 else if u = 5 then 604800 else if u = 6 then 2629746 else 31556952

/-- The units' lengths, from number 1 on. -/
def lgg (u : Int) : Int := if u = 1 then 1 else lg u

theorem long_is (u : Int) (h2 : 2 ≤ u) (h7 : u ≤ 7) : since_long.f u = some (lg u) := by
  unfold since_long.f lg
  repeat' split
  all_goals first | rfl | omega

theorem Long_is (u : Int) (h2 : 1 ≤ u) (h7 : u ≤ 7) : idiomref17_Long.f u = some (lgg u) := by
  obtain h | h | h | h | h | h | h : u = 1 ∨ u = 2 ∨ u = 3 ∨ u = 4 ∨ u = 5 ∨ u = 6 ∨ u = 7 := by omega
  all_goals subst h; decide

theorem lg_pos (u : Int) : 60 ≤ lg u ∧ lg u ≤ 31556952 := by
  unfold lg
  repeat' split
  all_goals omega

/-- What is asked of a unit and a number. -/
def Fit (s : Int) (r : Int × Int) : Prop :=
  1 ≤ r.1 ∧ r.1 ≤ 7 ∧ (r.1 = 1 → r.2 = s) ∧ (2 ≤ r.1 → r.2 = s.tdiv (lg r.1) ∧ (s ≥ lg r.1 ∨ s ≤ -lg r.1))

theorem best_fits (s : Int) (h0 : -9223372036854775808 ≤ s) (h1 : s ≤ 9223372036854775807) (d : Nat) :
    ∀ k u, u = (d : Int) + 1 → u ≤ 7 → d < k → (u < 7 → -lg (u + 1) < s ∧ s < lg (u + 1)) →
      ∃ r, since_Best.l0 k s u = some r ∧ Fit s r ∧ (r.1 < 7 → -lg (r.1 + 1) < s ∧ s < lg (r.1 + 1)) := by
  induction d with
  | zero =>
    intro k u hu _ hk hb
    obtain ⟨k, rfl⟩ : ∃ m, k = m + 1 := ⟨k - 1, by omega⟩
    obtain rfl : u = 1 := by omega
    refine ⟨(1, s), ?_, ⟨by simp, by simp, fun _ => rfl, fun h => absurd h (by simp)⟩, fun _ => hb (by omega)⟩
    simp only [since_Best.l0]; rw [if_neg (by omega)]
  | succ d ih =>
    intro k u hu h7 hk hb
    obtain ⟨k, rfl⟩ : ∃ m, k = m + 1 := ⟨k - 1, by omega⟩
    have hp := lg_pos u
    have hw : wrap64 (u - 1) = u - 1 := by unfold wrap64; omega
    have hz := tdiv_zero_iff s (lg u) (by omega)
    have hd := tdiv_wrap s (lg u) (by omega) (by omega) h0 h1
    simp only [since_Best.l0]
    rw [if_pos (by omega), long_is u (by omega) h7]
    simp only [Option.bind_some]
    rw [if_neg (by omega), hd, hw]
    by_cases hc : s ≥ lg u ∨ s ≤ -lg u
    · rw [if_neg (by omega)]
      exact ⟨_, rfl, ⟨by show 1 ≤ u; omega, h7, fun h => absurd h (by show ¬ u = 1; omega), fun _ => ⟨rfl, hc⟩⟩, hb⟩
    · rw [if_pos (by omega)]
      refine ih k (u - 1) (by omega) (by omega) (by omega) (fun _ => ?_)
      rw [show u - 1 + 1 = u from by omega]
      omega

theorem awake_true : idiomlaw17_awake.f 9 = some true := by decide +kernel

theorem rest_facts (s L : Int) (hL : 0 < L) : ∃ m, s.tdiv L * L = m ∧ (0 ≤ s → 0 ≤ m ∧ m ≤ s ∧ s - m < L) ∧ (s ≤ 0 → m ≤ 0 ∧ s ≤ m ∧ -L < s - m) ∧
    (0 ≤ s → 0 ≤ s.tdiv L) ∧ (s ≤ 0 → s.tdiv L ≤ 0) := by
  refine ⟨_, rfl, ?_, ?_, ?_, ?_⟩
  · intro h
    rw [Int.tdiv_eq_ediv_of_nonneg h]
    have h1 := Int.ediv_mul_le s (b := L) (by omega)
    have h2 := Int.lt_ediv_add_one_mul_self s hL
    have h3 : 0 ≤ s / L * L := Int.mul_nonneg (Int.ediv_nonneg h (by omega)) (by omega)
    rw [Int.add_mul] at h2
    omega
  · intro h
    have e : s.tdiv L = -((-s) / L) := by
      have h1 : (-s).tdiv L = (-s) / L := Int.tdiv_eq_ediv_of_nonneg (by omega)
      rw [Int.neg_tdiv] at h1
      omega
    rw [e, Int.neg_mul]
    have h1 := Int.ediv_mul_le (-s) (b := L) (by omega)
    have h2 := Int.lt_ediv_add_one_mul_self (-s) hL
    have h3 : 0 ≤ (-s) / L * L := Int.mul_nonneg (Int.ediv_nonneg (by omega) (by omega)) (by omega)
    rw [Int.add_mul] at h2
    omega
  · intro h; rw [Int.tdiv_eq_ediv_of_nonneg h]; exact Int.ediv_nonneg h (by omega)
  · intro h
    have h1 : (-s).tdiv L = (-s) / L := Int.tdiv_eq_ediv_of_nonneg (by omega)
    rw [Int.neg_tdiv] at h1
    have := Int.ediv_nonneg (a := -s) (b := L) (by omega) (by omega)
    omega

theorem SinceSpans : idiomlaw17_SinceSpans.Pure := by
  intro s hs
  have hb : -9223372036854775808 ≤ s ∧ s ≤ 9223372036854775807 := by
    simp [Lit.wf, IntKind.min, IntKind.max, IntKind.signed, IntKind.bits] at hs
    omega
  obtain ⟨⟨u, n⟩, hr, ⟨f1, f2, f3, f4⟩, f5⟩ := best_fits s hb.1 hb.2 6 11 7 (by omega) (by omega) (by omega) (by omega)
  simp only at f1 f2 f3 f4 f5
  have hl1 := Long_is u f1 f2
  have hp : 1 ≤ lgg u ∧ lgg u ≤ 31556952 := by
    have := lg_pos u
    unfold lgg
    split <;> omega
  have hn : n = s.tdiv (lgg u) ∧ (s ≠ 0 → n ≠ 0) := by
    unfold lgg
    by_cases h : u = 1
    · rw [if_pos h, Int.tdiv_one]; have := f3 h; exact ⟨this, fun h => by omega⟩
    · rw [if_neg h]
      have h4 := f4 (by omega)
      refine ⟨h4.1, fun _ => ?_⟩
      have hz := tdiv_zero_iff s (lg u) (by have := lg_pos u; omega)
      have := lg_pos u
      omega
  obtain ⟨hn, hnz⟩ := hn
  obtain ⟨m, hm, g1, g2, g3, g4⟩ := rest_facts s (lgg u) (by omega)
  rw [← hn] at hm g3 g4
  have hw1 : wrap64 (n * lgg u) = m := by rw [hm]; unfold wrap64; omega
  have hw2 : wrap64 (s - m) = s - m := by unfold wrap64; omega
  have hw3 : wrap64 (-lgg u) = -lgg u := by unfold wrap64; omega
  refine ⟨11, ?_⟩
  unfold idiomlaw17_SinceSpans.f
  rw [show since_Best.f 11 s = some (u, n) from hr]
  simp only [Option.bind_some]
  rw [if_neg (by omega), show decide (u > 7) = false from decide_eq_false (by omega)]
  have hj1 : idiomlaw17_SinceSpans.j1 10 s u false = some true := by
    rw [show (10 : Nat) = 9 + 1 from rfl]
    simp only [idiomlaw17_SinceSpans.j1, awake_true]
    by_cases h : u < 7
    · have hu1 : wrap64 (u + 1) = u + 1 := by unfold wrap64; omega
      rw [if_neg (by simp), if_pos h, hu1, Long_is (u + 1) (by omega) (by omega)]
      simp only [Option.bind_some]
      have hlg : lgg (u + 1) = lg (u + 1) := by unfold lgg; rw [if_neg (by omega)]
      have hp2 := lg_pos (u + 1)
      have := f5 h
      rw [hlg, show wrap64 (-lg (u + 1)) = -lg (u + 1) from by unfold wrap64; omega, if_pos (by omega), if_pos (by omega)]
    · rw [if_neg (by simp), if_neg h]; rfl
  rw [show (11 : Nat) = 10 + 1 from rfl]
  simp only [idiomlaw17_SinceSpans.j0, hl1, Option.bind_some, hw1, hw2, hw3]
  rw [if_neg (by simp), if_neg (by omega), if_neg (by omega)]
  rcases Int.lt_trichotomy s 0 with h | h | h
  · rw [if_neg (by omega), if_pos (by omega), if_neg (by omega), if_neg (by omega), if_neg (by omega), show (n == 0) = false from beq_eq_false_iff_ne.2 (hnz (by omega))]
    exact hj1
  · rw [if_pos (by omega), if_neg (by omega), if_neg (by omega), if_pos (by omega), if_neg (by omega), if_neg (by omega), if_pos h]
    exact hj1
  · rw [if_pos (by omega), if_neg (by omega), if_neg (by omega), if_neg (by omega), if_neg (by omega), show (n == 0) = false from beq_eq_false_iff_ne.2 (hnz (by omega))]
    exact hj1

end Go.Proofs.Ytoceapkeidillaa.Pure
