/- A part of the proof. Part 5 of 6; its texts were written by programs, some out of the kit's print. -/
import Derived.Test.YtahlkcnecgihbaaDoorZCk3
import Derived.Lib.Bytes
import Derived.Sort.Walk0
set_option linter.unusedVariables false
set_option linter.unusedSimpArgs false
namespace Go.Proofs.YtahlkcnecgihbaaDoor.Q
open Go.RowKit Go.Proofs.YtahlkcnecgihbaaDoorW.PrintWords
theorem wrap64_id {x : Int} (h0 : -9223372036854775808 ≤ x) (h1 : x ≤ 9223372036854775807) : wrap64 x = x := by
  unfold wrap64; omega
end Go.Proofs.YtahlkcnecgihbaaDoor.Q
set_option linter.unusedVariables false
set_option linter.unusedSimpArgs false
namespace Go.Proofs.YtahlkcnecgihbaaDoorW.PrintWords
theorem Ev.pos {α : Type} {c : Prop} [Decidable c] {A B : Nat → Option α} {r : α} (h : c) (e : Ev A r) : Ev (fun k => if c then A k else B k) r :=
  Ev.congr (fun k => if_pos h) e
theorem Ev.neg {α : Type} {c : Prop} [Decidable c] {A B : Nat → Option α} {r : α} (h : ¬ c) (e : Ev B r) : Ev (fun k => if c then A k else B k) r :=
  Ev.congr (fun k => if_neg h) e
theorem Ev.split {α : Type} {c : Prop} [Decidable c] {A B : Nat → Option α} {r : α} (h : c → Ev A r) (h' : ¬ c → Ev B r) : Ev (fun k => if c then A k else B k) r := by
  by_cases hc : c
  · exact Ev.pos hc (h hc)
  · exact Ev.neg hc (h' hc)
theorem Ev.val {α : Type} {a r : α} (h : a = r) : Ev (fun _ => some a) r := by rw [h]; exact Ev.now r
theorem Ev.bindV {α β : Type} {g : Option α} {a : α} {F : Nat → α → Option β} {r : β} (hg : g = some a) (h : Ev (fun k => F k a) r) : Ev (fun k => g.bind (F k)) r := by
  rw [hg]; exact h
theorem Ev.tail {α : Type} {g : Nat → Option α} {a : α} (h : Ev g a) : Ev (fun k => (g k).bind fun t => some t) a := Ev.bind h (Ev.now a)
theorem Ev.eq {α : Type} {g : Nat → Option α} {a b : α} (h : Ev g a) (e : a = b) : Ev g b := e ▸ h
theorem Ev.up {α : Type} {g : Nat → Option α} {r : α} (k : Ev (fun n => g (n + 1)) r) : Ev g r := Ev.step (fun _ => rfl) k
end Go.Proofs.YtahlkcnecgihbaaDoorW.PrintWords
set_option linter.unusedVariables false
set_option linter.unusedSimpArgs false
namespace Go.Proofs.YtahlkcnecgihbaaDoor.Q
open Go.RowKit Go.Proofs.YtahlkcnecgihbaaDoorW.PrintWords Go.Proofs.YtahlkcnecgihbaaDoor.P
def rowOk (l : List S27) (i : Int) : Prop :=
  (1 ≤ (rd_T27 l i).f0 ∧ (rd_T27 l i).f0 ≤ 36 ∧ 0 ≤ (rd_T27 l i).f1 ∧ (rd_T27 l i).f1 ≤ 5 ∧ 1 ≤ (rd_T27 l i).f2 ∧ (rd_T27 l i).f2 ≤ (rd_T27 l i).f0 + 1) ∧
  ((i = 0 ∧ (rd_T27 l i).f1 = 0) ∨ (i ≠ 0 ∧ (((rd_T27 l (i - 1)).f0 < (rd_T27 l i).f0 ∧ (rd_T27 l i).f1 = 0) ∨
    ((rd_T27 l (i - 1)).f0 = (rd_T27 l i).f0 ∧ (rd_T27 l (i - 1)).f1 < (rd_T27 l i).f1 ∧ (rd_T27 l (i - 1)).f2 = (rd_T27 l i).f2))))
instance (l : List S27) (i : Int) : Decidable (rowOk l i) := by unfold rowOk; infer_instance
def allOk (l : List S27) : Nat → Int → Prop
  | 0, _ => True
  | m + 1, i => rowOk l i ∧ allOk l m (i + 1)
instance allOk_dec (l : List S27) : ∀ (m : Nat) (i : Int), Decidable (allOk l m i)
  | 0, _ => isTrue trivial
  | m + 1, i => by unfold allOk; exact @instDecidableAnd _ _ _ (allOk_dec l m (i + 1))
def tot (l : List S27) : Nat → Int → Int
  | 0, _ => 0
  | m + 1, i => ((rd_T27 l i).f3.size : Int) + ((rd_T27 l i).f4.size : Int) + tot l m (i + 1)
theorem tot_nat (l : List S27) : ∀ (m : Nat) (i : Int), 0 ≤ tot l m i
  | 0, _ => Int.le_refl _
  | m + 1, i => by have := tot_nat l m (i + 1); unfold tot; omega
theorem name_is (c : Int) : ∃ s, choose_Name.f c = some (if 0 ≤ c ∧ c ≤ 5 then (s, 0) else (s, 61)) := by
  unfold choose_Name.f choose_category.f
  by_cases h0 : c ≥ 0
  · rw [if_pos h0]
    by_cases h1 : c ≤ 5
    · refine ⟨agets [⟨#[111, 116, 104, 101, 114]⟩, ⟨#[122, 101, 114, 111]⟩, ⟨#[111, 110, 101]⟩, ⟨#[116, 119, 111]⟩, ⟨#[102, 101, 119]⟩, ⟨#[109, 97, 110, 121]⟩] c, ?_⟩
      simp only [Option.bind_some, decide_eq_true h1, if_true, choose_words.f, if_pos (show (0 : Int) ≤ c from h0), if_pos (show c < 6 by omega), if_pos (show 0 ≤ c ∧ c ≤ 5 from ⟨h0, h1⟩)]
    · refine ⟨⟨#[]⟩, ?_⟩
      rw [if_neg (show ¬ (0 ≤ c ∧ c ≤ 5) by omega)]
      simp [h1]
  · refine ⟨⟨#[]⟩, ?_⟩
    rw [if_neg h0, if_neg (show ¬ (0 ≤ c ∧ c ≤ 5) by omega)]
    simp
theorem iff_b {p : Prop} [Decidable p] {b : Bool} (h : b = true ↔ p) : b = decide p := by
  by_cases hp : p
  · rw [decide_eq_true hp]; exact h.2 hp
  · rw [decide_eq_false hp]
    cases b with
    | true => exact absurd (h.1 rfl) hp
    | false => rfl
theorem checkRow_is (l : List S27) (i : Int) (h0 : 0 ≤ i) (hi : i < l.length) (hl : l.length ≤ 256) : Ev (fun k => compact_checkRow.f k l i) (decide (rowOk l i)) := by
  obtain ⟨s, hs⟩ := name_is (rd_T27 l i).f1
  have jt : ∀ u : Bool, u = true → ¬ rowOk l i → Ev (fun k => compact_checkRow.j0 k l i u (rd_T27 l i).f0 (rd_T27 l i).f1 (rd_T27 l i).f2 (rd_T27 l i).f3 (rd_T27 l i).f4) (decide (rowOk l i)) :=
    fun u hu h => Ev.up (Ev.pos hu (Ev.val (decide_eq_false h).symm))
  refine Ev.pos h0 (Ev.pos hi (Ev.bindV hs ?_))
  by_cases hc : 0 ≤ (rd_T27 l i).f1 ∧ (rd_T27 l i).f1 ≤ 5
  case neg =>
    rw [if_neg hc]
    exact Ev.neg (show ¬ (61 : Int) = 0 by decide) (jt _ rfl (by unfold rowOk; omega))
  rw [if_pos hc]
  refine Ev.pos rfl (Ev.split (fun h => jt _ rfl (by unfold rowOk; omega)) fun c0 => Ev.split (fun h => jt _ rfl (by unfold rowOk; omega)) fun c1 => Ev.split (fun h => jt _ rfl (by unfold rowOk; omega)) fun c2 => ?_)
  have hw : wrap64 ((rd_T27 l i).f0 + 1) = (rd_T27 l i).f0 + 1 := wrap64_id (by omega) (by omega)
  by_cases c3 : (rd_T27 l i).f2 > (rd_T27 l i).f0 + 1
  · exact jt _ (by rw [hw]; exact decide_eq_true c3) (by unfold rowOk; omega)
  have hd : decide ((rd_T27 l i).f2 > wrap64 ((rd_T27 l i).f0 + 1)) = false := by rw [hw]; exact decide_eq_false c3
  refine Ev.up (Ev.neg (by rw [hd]; exact Bool.false_ne_true) ?_)
  refine Ev.split (fun h => Ev.val (iff_b (by rw [beq_iff_eq]; unfold rowOk; omega))) fun h => ?_
  have hw1 : wrap64 (i - 1) = i - 1 := wrap64_id (by omega) (by omega)
  rw [hw1]
  refine Ev.pos (by omega) (Ev.pos (by omega) (Ev.split (fun a => Ev.val (iff_b (by rw [beq_iff_eq]; unfold rowOk; omega))) fun a => Ev.split (fun b => Ev.split (fun c => Ev.val (iff_b (by rw [beq_iff_eq]; unfold rowOk; omega)))
    fun c => Ev.val (decide_eq_false (by unfold rowOk; omega)).symm) fun b => Ev.val (decide_eq_false (by unfold rowOk; omega)).symm))
section
variable {l : List S27} {i : Int} {r : Int} {n : Int}
theorem prog_l2 {left : Int} {long : Bool} {p q : ByteArray} (h : Ev (fun k => compact_Check.l0 k l left long l n (wrap64 (i + 1))) r) : Ev (fun k => compact_Check.l1 k l left long l n i 2 p q) r :=
  Ev.up (Ev.neg (by decide) h)
theorem prog_l1 {left : Int} {long : Bool} {p q : ByteArray} (h0 : 0 ≤ left) (h1 : left ≤ 65536) (h : (q.size : Int) > left → Ev (fun k => compact_Check.l0 k l left true l n (wrap64 (i + 1))) r)
    (h' : ¬ (q.size : Int) > left → Ev (fun k => compact_Check.l0 k l (left - (q.size : Int)) long l n (wrap64 (i + 1))) r) : Ev (fun k => compact_Check.l1 k l left long l n i 1 p q) r := by
  have w2 : wrap64 (1 + 1) = 2 := wrap64_id (by decide) (by decide)
  refine Ev.up (Ev.pos (by decide) (Ev.pos (by decide) (Ev.split (fun c => ?_) fun c => ?_)))
  · rw [w2]; exact prog_l2 (h c)
  · have c' : ¬ (q.size : Int) > left := c
    have hw : wrap64 (left - ((agets [p, q] 1).size : Int)) = left - (q.size : Int) := wrap64_id (by show _ ≤ left - (q.size : Int); omega) (by show left - (q.size : Int) ≤ _; omega)
    rw [w2, hw]; exact prog_l2 (h' c)
theorem prog_lz {left : Int} {long : Bool} {p q : ByteArray} (h0 : 0 ≤ left) (h1 : left ≤ 65536) (h : (p.size : Int) > left → Ev (fun k => compact_Check.l1 k l left true l n i 1 p q) r)
    (h' : ¬ (p.size : Int) > left → Ev (fun k => compact_Check.l1 k l (left - (p.size : Int)) long l n i 1 p q) r) : Ev (fun k => compact_Check.l1 k l left long l n i 0 p q) r := by
  have w2 : wrap64 (0 + 1) = 1 := wrap64_id (by decide) (by decide)
  refine Ev.up (Ev.pos (by decide) (Ev.pos (by decide) (Ev.split (fun c => ?_) fun c => ?_)))
  · rw [w2]; exact h c
  · have c' : ¬ (p.size : Int) > left := c
    have hw : wrap64 (left - ((agets [p, q] 0).size : Int)) = left - (p.size : Int) := wrap64_id (by show _ ≤ left - (p.size : Int); omega) (by show left - (p.size : Int) ≤ _; omega)
    rw [w2, hw]; exact h' c
end
theorem prog_l0 (l : List S27) (hl : l.length ≤ 256) : ∀ (m : Nat) (i left : Int) (long : Bool), 0 ≤ i → i + m = l.length → 0 ≤ left → left ≤ 65536 →
    Ev (fun k => compact_Check.l0 k l left long l (l.length : Int) i) (if allOk l m i then (if long = true ∨ tot l m i > left then 2 else 0) else 110)
  | 0, i, left, long, h0, hm, a0, a1 => by
    refine Ev.up (Ev.neg (by omega) ?_)
    rw [if_pos (show allOk l 0 i from trivial)]
    cases long with
    | true => exact Ev.pos rfl (Ev.val (by simp))
    | false => exact Ev.neg (by decide) (Ev.val (by rw [if_neg]; unfold tot; simp; omega))
  | m + 1, i, left, long, h0, hm, a0, a1 => by
    have hw : wrap64 (i + 1) = i + 1 := wrap64_id (by omega) (by omega)
    have T := tot_nat l m (i + 1)
    refine Ev.up (Ev.pos (by omega) (Ev.pos h0 (Ev.pos (by omega) (Ev.bind (checkRow_is l i h0 (by omega) hl) ?_))))
    by_cases hr : rowOk l i
    case neg =>
      rw [if_neg (show ¬ allOk l (m + 1) i from fun h => hr h.1)]
      exact Ev.neg (by rw [decide_eq_false hr]; exact Bool.false_ne_true) (Ev.val rfl)
    refine Ev.pos (decide_eq_true hr) ?_
    have go : ∀ (left' : Int) (long' : Bool), 0 ≤ left' → left' ≤ 65536 → ((long' = true ∨ tot l m (i + 1) > left') ↔ (long = true ∨ tot l (m + 1) i > left)) →
        Ev (fun k => compact_Check.l0 k l left' long' l (l.length : Int) (wrap64 (i + 1))) (if allOk l (m + 1) i then (if long = true ∨ tot l (m + 1) i > left then 2 else 0) else 110) := by
      intro left' long' b0 b1 hb
      rw [hw]
      refine (prog_l0 l hl m (i + 1) left' long' (by omega) (by omega) b0 b1).eq ?_
      have e : allOk l (m + 1) i ↔ allOk l m (i + 1) := ⟨fun h => h.2, fun h => ⟨hr, h⟩⟩
      by_cases hA : allOk l m (i + 1)
      · rw [if_pos hA, if_pos (e.2 hA)]
        by_cases hB : long' = true ∨ tot l m (i + 1) > left'
        · rw [if_pos hB, if_pos (hb.1 hB)]
        · rw [if_neg hB, if_neg (fun h => hB (hb.2 h))]
      · rw [if_neg hA, if_neg (fun h => hA (e.1 h))]
    have t1 : tot l (m + 1) i = ((rd_T27 l i).f3.size : Int) + ((rd_T27 l i).f4.size : Int) + tot l m (i + 1) := rfl
    refine prog_lz a0 a1 (fun c => prog_l1 a0 a1 (fun d => go _ _ a0 a1 ?_) (fun d => go _ _ (by omega) (by omega) ?_)) (fun c => prog_l1 (by omega) (by omega) (fun d => go _ _ (by omega) (by omega) ?_) (fun d => go _ _ (by omega) (by omega) ?_))
    · exact ⟨fun _ => .inr (by omega), fun _ => .inl rfl⟩
    · exact ⟨fun _ => .inr (by omega), fun _ => .inl rfl⟩
    · exact ⟨fun _ => .inr (by omega), fun _ => .inl rfl⟩
    · constructor <;> rintro (h | h) <;> first | exact .inl h | exact .inr (by omega)
def told (l : List S27) : Int := if (l.length : Int) > 256 then 5 else if allOk l l.length 0 then (if tot l l.length 0 > 65536 then 2 else 0) else 110
theorem Check_is (l : List S27) : Ev (fun k => compact_Check.f k l) (told l) := by
  unfold told
  by_cases h : (l.length : Int) > 256
  · rw [if_pos h]; exact Ev.pos h (Ev.val rfl)
  · rw [if_neg h]
    refine Ev.neg h ((prog_l0 l (by omega) l.length 0 65536 false (by omega) (by omega) (by omega) (by omega)).eq ?_)
    simp
theorem ref_l1 (l : List S27) (hl : l.length ≤ 256) : ∀ (m : Nat) (i n : Int), 0 ≤ i → i + m = l.length → 0 ≤ n → n ≤ 65536 → Ev (fun k => idiomref11_Check.l1 k l n i) (if n + tot l m i > 65536 then 2 else 0)
  | 0, i, n, h0, hm, a0, a1 => by
    refine Ev.up (Ev.neg (by omega) (Ev.val ?_))
    rw [if_neg]; unfold tot; omega
  | m + 1, i, n, h0, hm, a0, a1 => by
    have hw : wrap64 (i + 1) = i + 1 := wrap64_id (by omega) (by omega)
    have T := tot_nat l m (i + 1)
    have t1 : tot l (m + 1) i = ((rd_T27 l i).f3.size : Int) + ((rd_T27 l i).f4.size : Int) + tot l m (i + 1) := rfl
    have bad : ∀ u : Bool, u = true → n + tot l (m + 1) i > 65536 → Ev (fun k => idiomref11_Check.j4 k l n i u) (if n + tot l (m + 1) i > 65536 then 2 else 0) := fun u hu h => by
      rw [if_pos h]; exact Ev.up (Ev.pos hu (Ev.val rfl))
    refine Ev.up (Ev.pos (by omega) (Ev.pos h0 (Ev.split (fun c => bad _ rfl (by omega)) fun c => ?_)))
    by_cases c4 : ((rd_T27 l i).f4.size : Int) > 65536
    · exact bad _ (decide_eq_true c4) (by omega)
    have w1 : wrap64 (n + ((rd_T27 l i).f3.size : Int)) = n + ((rd_T27 l i).f3.size : Int) := wrap64_id (by omega) (by omega)
    have w2 : wrap64 (wrap64 (n + ((rd_T27 l i).f3.size : Int)) + ((rd_T27 l i).f4.size : Int)) = n + ((rd_T27 l i).f3.size : Int) + ((rd_T27 l i).f4.size : Int) := by rw [w1]; exact wrap64_id (by omega) (by omega)
    refine Ev.up (Ev.neg (by rw [decide_eq_false c4]; exact Bool.false_ne_true) (Ev.pos h0 (Ev.pos (by omega) ?_)))
    rw [w2]
    refine Ev.split (fun d => Ev.val (by rw [if_pos (by omega)])) fun d => ?_
    rw [hw]
    refine (ref_l1 l hl m (i + 1) (n + ((rd_T27 l i).f3.size : Int) + ((rd_T27 l i).f4.size : Int)) (by omega) (by omega) (by omega) (by omega)).eq ?_
    rw [t1]
    congr 1
    apply propext
    constructor <;> intro h <;> omega
theorem ref_row (l : List S27) (i : Int) (h0 : 0 ≤ i) (hi : i < l.length) (hl : l.length ≤ 256) {R : Int} (bad : ¬ rowOk l i → R = 110) (next : rowOk l i → Ev (fun k => idiomref11_Check.l0 k l (wrap64 (i + 1))) R) :
    Ev (fun k => idiomref11_Check.l0 k l i) R := by
  have hw : wrap64 ((rd_T27 l i).f0 + 1) = wrap64 ((rd_T27 l i).f0 + 1) := rfl
  have hw1 : wrap64 (i - 1) = i - 1 := wrap64_id (by omega) (by omega)
  have jt : ∀ u : Bool, u = true → ¬ rowOk l i → Ev (fun k => idiomref11_Check.j1 k l i u (rd_T27 l i).f0 (rd_T27 l i).f1 (rd_T27 l i).f2 (rd_T27 l i).f3 (rd_T27 l i).f4) R :=
    fun u hu h => Ev.up (Ev.pos hu (Ev.val (bad h).symm))
  refine Ev.up (Ev.pos hi (Ev.pos h0 (Ev.split (fun h => jt _ rfl (by unfold rowOk; omega)) fun c0 => Ev.split (fun h => jt _ rfl (by unfold rowOk; omega)) fun c1 => Ev.split (fun h => jt _ rfl (by unfold rowOk; omega)) fun c2 =>
    Ev.split (fun h => jt _ rfl (by unfold rowOk; omega)) fun c3 => Ev.split (fun h => jt _ rfl (by unfold rowOk; omega)) fun c4 => ?_)))
  have hw : wrap64 ((rd_T27 l i).f0 + 1) = (rd_T27 l i).f0 + 1 := wrap64_id (by omega) (by omega)
  by_cases c5 : (rd_T27 l i).f2 > (rd_T27 l i).f0 + 1
  · exact jt _ (by rw [hw]; exact decide_eq_true c5) (by unfold rowOk; omega)
  have hd : decide ((rd_T27 l i).f2 > wrap64 ((rd_T27 l i).f0 + 1)) = false := by rw [hw]; exact decide_eq_false c5
  have j2t : ∀ u : Bool, u = true → (i = 0 ∨ (rd_T27 l (i - 1)).f0 ≠ (rd_T27 l i).f0) → Ev (fun k => idiomref11_Check.j2 k l i u (rd_T27 l i).f0 (rd_T27 l i).f1 (rd_T27 l i).f2 (rd_T27 l i).f3 (rd_T27 l i).f4) R := by
    intro u hu hj
    refine Ev.up (Ev.pos hu (Ev.split (fun d => Ev.split (fun e => ?_) fun e => next (by unfold rowOk; omega)) fun d => Ev.val (bad (by unfold rowOk; omega)).symm))
    rw [hw1]
    exact Ev.pos (by omega) (Ev.pos (by omega) (Ev.split (fun g => Ev.val (bad (by unfold rowOk; omega)).symm) fun g => next (by unfold rowOk; omega)))
  refine Ev.up (Ev.neg (by rw [hd]; exact Bool.false_ne_true) (Ev.split (fun d => j2t _ rfl (.inl d)) fun d => ?_))
  rw [hw1]
  refine Ev.pos (by omega) (Ev.pos (by omega) ?_)
  by_cases e : (rd_T27 l (i - 1)).f0 = (rd_T27 l i).f0
  case neg => exact j2t _ (bne_iff_ne.2 e) (.inr e)
  have he : ((rd_T27 l (i - 1)).f0 != (rd_T27 l i).f0) = false := by rw [bne_eq_false_iff_eq]; exact e
  refine Ev.up (Ev.neg (by rw [he]; exact Bool.false_ne_true) ?_)
  rw [hw1]
  exact Ev.pos (by omega) (Ev.pos (by omega) (Ev.split (fun g => Ev.val (bad (by unfold rowOk; omega)).symm) fun g => Ev.split (fun a => next (by unfold rowOk; omega)) fun a => Ev.val (bad (by unfold rowOk; omega)).symm))
theorem ref_l0 (l : List S27) (hl : l.length ≤ 256) : ∀ (m : Nat) (i : Int), 0 ≤ i → i + m = l.length → Ev (fun k => idiomref11_Check.l0 k l i) (if allOk l m i then (if tot l l.length 0 > 65536 then 2 else 0) else 110)
  | 0, i, h0, hm => by
    refine Ev.up (Ev.neg (by omega) ((ref_l1 l hl l.length 0 0 (by omega) (by omega) (by omega) (by omega)).eq ?_))
    rw [if_pos (show allOk l 0 i from trivial)]
    simp
  | m + 1, i, h0, hm => by
    have hw : wrap64 (i + 1) = i + 1 := wrap64_id (by omega) (by omega)
    refine ref_row l i h0 (by omega) hl (fun h => if_neg fun h' => h h'.1) fun hr => ?_
    rw [hw]
    refine (ref_l0 l hl m (i + 1) (by omega) (by omega)).eq ?_
    have e : allOk l (m + 1) i ↔ allOk l m (i + 1) := ⟨fun h => h.2, fun h => ⟨hr, h⟩⟩
    by_cases hA : allOk l m (i + 1)
    · rw [if_pos hA, if_pos (e.2 hA)]
    · rw [if_neg hA, if_neg (fun h => hA (e.1 h))]
theorem refCheck_is (l : List S27) : Ev (fun k => idiomref11_Check.f k l) (told l) := by
  unfold told
  by_cases h : (l.length : Int) > 256
  · rw [if_pos h]; exact Ev.pos h (Ev.val rfl)
  · rw [if_neg h]
    exact Ev.neg h (ref_l0 l (by omega) l.length 0 (by omega) (by omega))
theorem awake_is : Ev (fun k => idiomlaw11_awake.f k) true := Ev.of (fun k => idiomlaw11_awake.mono k) (k := 60) (by decide +kernel)
theorem law_l0 (l : List S27) (hl : l.length < 2513169434916) : ∀ (m : Nat) (i : Int), 0 ≤ i → i + m = l.length → Ev (fun k => idiomlaw11_CompactChecks.l0 k l l (told l) i) true
  | 0, i, h0, hm => Ev.up (Ev.neg (by omega) (Ev.bind (refCheck_is l) (Ev.pos rfl awake_is.tail)))
  | m + 1, i, h0, hm => by
    have hw : wrap64 (i + 1) = i + 1 := wrap64_id (by omega) (by omega)
    refine Ev.up (Ev.pos (by omega) (Ev.pos h0 (Ev.pos (by omega) (Ev.neg (by simp) ?_))))
    rw [hw]
    exact law_l0 l hl m (i + 1) (by omega) (by omega)
theorem checks_law (l : List S27) (hl : l.length < 2513169434916) : ∃ k, idiomlaw11_CompactChecks.f k l = some true := by
  have cp : idiomlaw11_copied.f l = some l := by
    unfold idiomlaw11_copied.f
    rw [Option.bind_some, if_pos (by simpa using hl)]
    rfl
  exact Ev.rounds (Ev.bindV cp (Ev.bind (Check_is l) (law_l0 l hl l.length 0 (by omega) (by omega))))
end Go.Proofs.YtahlkcnecgihbaaDoor.Q
