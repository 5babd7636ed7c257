/- A part of the proof. Part 5 of 6; its texts were written by programs, some out of the kit's print. -/
import Derived.Test.YtapbdblpdkoacaaDoorZBa3
import Derived.Lib.Bytes
import Derived.Sort.Walk0
set_option linter.unusedVariables false
set_option linter.unusedSimpArgs false
namespace Go.Proofs.YtapbdblpdkoacaaDoor.Q
open Go.RowKit Go.Proofs.YtapbdblpdkoacaaDoorW.PrintWords
def S (s : ByteArray) : List Int := s.data.toList.map fun b => (b.toNat : Int)
theorem S_len (s : ByteArray) : (S s).length = s.size := by
  rw [S, List.length_map, Array.length_toList]; rfl
theorem S_byte (s : ByteArray) : ∀ d ∈ S s, 0 ≤ d ∧ d ≤ 255 := by
  intro d hd
  obtain ⟨b, _, rfl⟩ := List.mem_map.1 hd
  have := b.toNat_lt
  omega
theorem bt_S (s : ByteArray) (i : Int) : bt s i = rd (S s) i := by
  unfold bt rd S
  by_cases h : i.toNat < s.size
  · have h' : i.toNat < s.data.size := h
    rw [dif_pos h, List.getD_eq_getElem?_getD, List.getElem?_map, List.getElem?_eq_getElem (by simpa using h')]
    simp
    rfl
  · have h' : ¬ i.toNat < s.data.size := h
    rw [dif_neg h, List.getD_eq_getElem?_getD, List.getElem?_eq_none (by simpa using h')]
    rfl
theorem S_append (s t : ByteArray) : S (s ++ t) = S s ++ S t := by
  simp [S]
theorem S_extract (s : ByteArray) (a b : Nat) : S (s.extract a b) = ((S s).drop a).take (b - a) := by
  simp only [S, ByteArray.data_extract, Array.toList_extract, List.extract_eq_take_drop, List.map_take, List.map_drop]
theorem S_drop (s : ByteArray) (a : Nat) : S (s.extract a s.size) = (S s).drop a := by
  rw [S_extract]
  apply List.take_of_length_le
  rw [List.length_drop, S_len]
  omega
theorem S_take (s : ByteArray) (b : Nat) : S (s.extract 0 b) = (S s).take b := by
  rw [S_extract]; simp
theorem u8_ofNat (b : UInt8) : UInt8.ofNat ((b.toNat : Int).toNat) = b := by simp
theorem S_back (s : ByteArray) : strOfNums (S s) = s := by
  cases s with
  | mk d =>
    simp only [strOfNums, S, List.map_map, ByteArray.mk.injEq]
    have : (fun n : Int => UInt8.ofNat n.toNat) ∘ (fun b : UInt8 => (b.toNat : Int)) = id := by
      funext b; exact u8_ofNat b
    rw [this]; simp
theorem S_inj {s t : ByteArray} (h : S s = S t) : s = t := by rw [← S_back s, ← S_back t, h]
theorem S_str {l : List Int} (h : ∀ d ∈ l, 0 ≤ d ∧ d ≤ 255) : S (strOfNums l) = l := by
  simp only [S, strOfNums, List.map_map]
  conv => rhs; rw [← List.map_id l]
  apply List.map_congr_left
  intro d hd
  have := h d hd
  simp [UInt8.toNat_ofNat']
  omega
theorem toList_S (s t : ByteArray) : s.toList = t.toList ↔ S s = S t := by
  constructor
  · intro h
    rw [ByteArray.toList_eq, ByteArray.toList_eq] at h
    rw [S, S, h]
  · intro h; rw [S_inj h]
theorem toList_lit (s : ByteArray) (l : List UInt8) : s.toList = l ↔ S s = l.map (fun b => (b.toNat : Int)) := by
  have := toList_S s ⟨l.toArray⟩
  rw [ByteArray.toList_mk l] at this
  rw [this]; simp [S]
theorem toList_nil (s : ByteArray) : s.toList = ([] : List UInt8) ↔ S s = [] := toList_lit s []
theorem beq_S (s t : ByteArray) : (s.toList == t.toList) = decide (S s = S t) := by
  rw [Bool.eq_iff_iff]; simp [toList_S]
theorem beq_lit (s : ByteArray) (l : List UInt8) : (s.toList == l) = decide (S s = l.map (fun b => (b.toNat : Int))) := by
  rw [Bool.eq_iff_iff]; simp [toList_lit]
theorem rd_nat (l : List Int) (i : Nat) : rd l (i : Int) = l.getD i 0 := by simp [rd]
theorem getD_append_mid (l : List Int) (d : Int) (m : List Int) : (l ++ d :: m).getD l.length 0 = d := by
  simp [List.getD_eq_getElem?_getD]
theorem wrap64_id {x : Int} (h0 : -9223372036854775808 ≤ x) (h1 : x ≤ 9223372036854775807) : wrap64 x = x := by
  unfold wrap64; omega
end Go.Proofs.YtapbdblpdkoacaaDoor.Q
set_option linter.unusedVariables false
set_option linter.unusedSimpArgs false
namespace Go.Proofs.YtapbdblpdkoacaaDoorW.PrintWords
theorem Ev.pos {α : Type} {c : Prop} [Decidable c] {A B : Nat → Option α} {r : α} (h : c) (e : Ev A r) : Ev (fun k => if c then A k else B k) r :=
  Ev.congr (fun k => if_pos h) e
theorem Ev.neg {α : Type} {c : Prop} [Decidable c] {A B : Nat → Option α} {r : α} (h : ¬ c) (e : Ev B r) : Ev (fun k => if c then A k else B k) r :=
  Ev.congr (fun k => if_neg h) e
theorem Ev.split {α : Type} {c : Prop} [Decidable c] {A B : Nat → Option α} {r : α} (h : c → Ev A r) (h' : ¬ c → Ev B r) : Ev (fun k => if c then A k else B k) r := by
  by_cases hc : c
  · exact Ev.pos hc (h hc)
  · exact Ev.neg hc (h' hc)
theorem Ev.val {α : Type} {a r : α} (h : a = r) : Ev (fun _ => some a) r := by rw [h]; exact Ev.now r
theorem Ev.bindV {α β : Type} {g : Option α} {a : α} {F : Nat → α → Option β} {r : β} (hg : g = some a) (h : Ev (fun k => F k a) r) : Ev (fun k => g.bind (F k)) r := by
  rw [hg]; exact h
theorem Ev.tail {α : Type} {g : Nat → Option α} {a : α} (h : Ev g a) : Ev (fun k => (g k).bind fun t => some t) a := Ev.bind h (Ev.now a)
theorem Ev.eq {α : Type} {g : Nat → Option α} {a b : α} (h : Ev g a) (e : a = b) : Ev g b := e ▸ h
theorem Ev.up {α : Type} {g : Nat → Option α} {r : α} (k : Ev (fun n => g (n + 1)) r) : Ev g r := Ev.step (fun _ => rfl) k
end Go.Proofs.YtapbdblpdkoacaaDoorW.PrintWords
set_option linter.unusedVariables false
set_option linter.unusedSimpArgs false
namespace Go.Proofs.YtapbdblpdkoacaaDoor.Q
open Go.RowKit Go.Proofs.YtapbdblpdkoacaaDoorW.PrintWords Go.Proofs.YtapbdblpdkoacaaDoor.P
def isD (d : Int) : Bool := decide (48 ≤ d) && decide (d ≤ 57)
def allD (l : List Int) : Bool := l.all isD
def all0 (l : List Int) : Bool := l.all (· == 48)
def fm (neg : Bool) (a b : List Int) : Bool := !a.isEmpty && allD a && allD b && !(decide (1 < a.length) && rd a 0 == 48) && !(neg && (all0 a && all0 b))
def okD (neg : Bool) (a b : List Int) : Bool := decide (a.length + b.length ≤ 40) && fm neg a b
def chk (neg : Bool) (a b : List Int) : Int := if okD neg a b = true then 0 else 20
def Fit (s : ByteArray) : Prop := s.size ≤ 1000000000000000000
theorem all_loop (s : ByteArray) (hs : Fit s) : ∀ rest pre : List Int, S s = pre ++ rest → Ev (fun k => decimal_all.l0 k s (s.size : Int) (pre.length : Int)) (allD rest) := by
  unfold Fit at hs
  intro rest
  induction rest with
  | nil =>
    intro pre h
    have hl : s.size = pre.length := by rw [← S_len, h]; simp
    refine Ev.up (Ev.neg (by omega) (Ev.val rfl))
  | cons d rest ih =>
    intro pre h
    have hl : s.size = pre.length + (rest.length + 1) := by rw [← S_len, h]; simp
    have hb : bt s (pre.length : Int) = d := by rw [bt_S, h, rd_nat, getD_append_mid]
    refine Ev.up (Ev.pos (by omega) (Ev.pos (by omega) (Ev.pos (by omega) ?_)))
    rw [hb]
    refine Ev.split (fun h1 => Ev.val ?_) (fun h1 => Ev.split (fun h2 => Ev.val ?_) (fun h2 => ?_))
    · simp [allD, isD]; omega
    · simp [allD, isD]; omega
    · have h3 := ih (pre ++ [d]) (by rw [h]; simp)
      have h4 : wrap64 ((pre.length : Int) + 1) = ((pre ++ [d]).length : Int) := by rw [wrap64_id (by omega) (by omega)]; simp
      rw [h4]
      refine h3.eq ?_
      have : isD d = true := by simp [isD]; omega
      simp [allD, this]
theorem all_is (s : ByteArray) (hs : Fit s) : Ev (fun k => decimal_all.f k s) (allD (S s)) := all_loop s hs (S s) [] rfl
theorem digits_loop (s : ByteArray) (hs : Fit s) : ∀ rest pre : List Int, S s = pre ++ rest → Ev (fun k => idiomref02_Digits.l0 k s (pre.length : Int)) (allD rest) := by
  unfold Fit at hs
  intro rest
  induction rest with
  | nil =>
    intro pre h
    have hl : s.size = pre.length := by rw [← S_len, h]; simp
    refine Ev.up (Ev.neg (by omega) (Ev.val rfl))
  | cons d rest ih =>
    intro pre h
    have hl : s.size = pre.length + (rest.length + 1) := by rw [← S_len, h]; simp
    have hb : bt s (pre.length : Int) = d := by rw [bt_S, h, rd_nat, getD_append_mid]
    refine Ev.up (Ev.pos (by omega) (Ev.pos (by omega) ?_))
    rw [hb]
    refine Ev.bindV (a := isD d) ?_ ?_
    · unfold idiomref02_Digit.f isD
      by_cases h1 : d ≥ 48
      · simp [h1]
      · have : ¬ 48 ≤ d := h1
        simp [h1, this]
    refine Ev.split (fun h1 => ?_) (fun h1 => Ev.val ?_)
    · have h3 := ih (pre ++ [d]) (by rw [h]; simp)
      have h4 : wrap64 ((pre.length : Int) + 1) = ((pre ++ [d]).length : Int) := by rw [wrap64_id (by omega) (by omega)]; simp
      rw [h4]
      refine h3.eq ?_
      simp [allD, h1]
    · simp [allD, h1]
theorem digits_is (s : ByteArray) (hs : Fit s) : Ev (fun k => idiomref02_Digits.f k s) (allD (S s)) := digits_loop s hs (S s) [] rfl
theorem noughts_loop (s : ByteArray) (hs : Fit s) : ∀ rest pre : List Int, S s = pre ++ rest → Ev (fun k => idiomref02_noughts.l0 k s (pre.length : Int)) (all0 rest) := by
  unfold Fit at hs
  intro rest
  induction rest with
  | nil =>
    intro pre h
    have hl : s.size = pre.length := by rw [← S_len, h]; simp
    refine Ev.up (Ev.neg (by omega) (Ev.val rfl))
  | cons d rest ih =>
    intro pre h
    have hl : s.size = pre.length + (rest.length + 1) := by rw [← S_len, h]; simp
    have hb : bt s (pre.length : Int) = d := by rw [bt_S, h, rd_nat, getD_append_mid]
    refine Ev.up (Ev.pos (by omega) (Ev.pos (by omega) ?_))
    rw [hb]
    refine Ev.split (fun h1 => ?_) (fun h1 => Ev.val ?_)
    · have h3 := ih (pre ++ [d]) (by rw [h]; simp)
      have h4 : wrap64 ((pre.length : Int) + 1) = ((pre ++ [d]).length : Int) := by rw [wrap64_id (by omega) (by omega)]; simp
      rw [h4]
      refine h3.eq ?_
      simp [all0, h1]
    · simp [all0, h1]
theorem noughts_is (s : ByteArray) (hs : Fit s) : Ev (fun k => idiomref02_noughts.f k s) (all0 (S s)) := noughts_loop s hs (S s) [] rfl
theorem nought_is (n : Bool) (a b : ByteArray) (ha : Fit a) (hb : Fit b) : Ev (fun k => idiomref02_Nought.f k n a b) (all0 (S a) && all0 (S b)) := by
  refine Ev.bind (noughts_is a ha) (Ev.split (fun h => ?_) (fun h => Ev.val ?_))
  · rw [h]; exact (noughts_is b hb).tail
  · simp at h; simp [h]
def ltrim (l : List Int) : List Int := l.dropWhile (· == 48)
def rtrim (l : List Int) : List Int := (l.reverse.dropWhile (· == 48)).reverse
theorem ltrim_len (l : List Int) : (ltrim l).length ≤ l.length := by
  rw [ltrim, ← List.length_reverse]
  have := (List.dropWhile_suffix (l := l) (fun d : Int => d == 48)).length_le
  simpa using this
theorem ltrim_nil (l : List Int) : ltrim l = [] ↔ all0 l = true := by
  unfold ltrim all0
  induction l with
  | nil => simp
  | cons d l ih =>
    rw [List.dropWhile_cons]
    by_cases h : d = 48
    · simpa [h] using ih
    · simp [h]
theorem rtrim_snoc (l : List Int) (d : Int) : rtrim (l ++ [d]) = if d = 48 then rtrim l else l ++ [d] := by
  simp only [rtrim, List.reverse_append, List.reverse_cons, List.reverse_nil, List.nil_append, List.cons_append, List.dropWhile_cons]
  by_cases h : d = 48
  · simp [h]
  · simp [h]
theorem all0_ltrim (l : List Int) : all0 (ltrim l) = all0 l := by
  induction l with
  | nil => rfl
  | cons d l ih =>
    simp only [ltrim, List.dropWhile_cons]
    by_cases h : d = 48
    · simpa [h, all0, ltrim] using ih
    · simp [h]
theorem all0_rtrim (l : List Int) : all0 (rtrim l) = all0 l := by
  have h1 : all0 (rtrim l) = all0 (ltrim l.reverse) := by simp [all0, rtrim, ltrim]
  rw [h1, all0_ltrim]; simp [all0]
theorem trimLeft_is : ∀ (n : Nat) (s : ByteArray), s.size = n → Fit s → ∃ t, Ev (fun k => strings_trimLeftByte.f k s 48) t ∧ S t = ltrim (S s) := by
  intro n
  induction n with
  | zero =>
    intro s h _
    have h0 : S s = [] := List.eq_nil_of_length_eq_zero (by rw [S_len]; exact h)
    exact ⟨s, Ev.up (Ev.neg (by omega) (Ev.val rfl)), by rw [h0]; rfl⟩
  | succ n ih =>
    intro s h hf
    obtain ⟨d, m, e⟩ : ∃ d m, S s = d :: m := by
      cases he : S s with
      | nil => have := S_len s; rw [he] at this; simp at this; omega
      | cons d m => exact ⟨d, m, rfl⟩
    have hb : bt s 0 = d := by rw [bt_S, e]; rfl
    by_cases h1 : d = 48
    · have h2 : S (s.extract 1 s.size) = m := by rw [S_drop, e]; rfl
      have h3 : (s.extract 1 s.size).size = n := by rw [← S_len, h2]; have := S_len s; rw [e] at this; simp at this; omega
      obtain ⟨t, ht, hs⟩ := ih _ h3 (by unfold Fit at *; omega)
      refine ⟨t, Ev.up (Ev.pos (by omega) (Ev.pos (by omega) (Ev.pos (by rw [hb]; exact h1) (Ev.pos (by omega) ht)))), ?_⟩
      rw [hs, h2, e, ltrim, ltrim, List.dropWhile_cons]; simp [h1]
    · refine ⟨s, Ev.up (Ev.pos (by omega) (Ev.pos (by omega) (Ev.neg (by rw [hb]; exact h1) (Ev.val rfl)))), ?_⟩
      rw [e, ltrim, List.dropWhile_cons]; simp [h1]
theorem trimRight_is : ∀ (n : Nat) (s : ByteArray), s.size = n → Fit s → ∃ t, Ev (fun k => strings_trimRightByte.f k s 48) t ∧ S t = rtrim (S s) := by
  intro n
  induction n with
  | zero =>
    intro s h _
    have h0 : S s = [] := List.eq_nil_of_length_eq_zero (by rw [S_len]; exact h)
    exact ⟨s, Ev.up (Ev.neg (by omega) (Ev.val rfl)), by rw [h0]; rfl⟩
  | succ n ih =>
    intro s h hf
    have hl := S_len s
    obtain ⟨m, d, e⟩ : ∃ m d, S s = m ++ [d] := by
      have : S s ≠ [] := by intro he; rw [he] at hl; simp at hl; omega
      exact ⟨(S s).dropLast, (S s).getLast this, (List.dropLast_concat_getLast this).symm⟩
    have hm : m.length = n := by rw [e] at hl; simp at hl; omega
    have hf' := hf
    unfold Fit at hf'
    have hw : wrap64 ((s.size : Int) - 1) = (m.length : Int) := by rw [wrap64_id (by omega) (by omega)]; omega
    have hb : bt s (m.length : Int) = d := by rw [bt_S, e, rd_nat, getD_append_mid]
    by_cases h1 : d = 48
    · have h2 : S (s.extract 0 (m.length : Int).toNat) = m := by rw [S_take, e]; simp
      have h3 : (s.extract 0 (m.length : Int).toNat).size = n := by rw [← S_len, h2]; omega
      obtain ⟨t, ht, hs⟩ := ih _ h3 (by unfold Fit; omega)
      refine ⟨t, Ev.up (Ev.pos (by omega) ?_), by rw [hs, h2, e, rtrim_snoc, if_pos h1]⟩
      rw [hw, hb]
      exact Ev.pos (by omega) (Ev.pos (by omega) (Ev.pos h1 (Ev.pos (by omega) ht)))
    · refine ⟨s, Ev.up (Ev.pos (by omega) ?_), by rw [e, rtrim_snoc, if_neg h1]⟩
      rw [hw, hb]
      exact Ev.pos (by omega) (Ev.pos (by omega) (Ev.neg h1 (Ev.val rfl)))
theorem trim_nil_bytes (s : ByteArray) (h : s.toList = ([] : List UInt8)) : S s = [] := (toList_nil s).1 h
theorem size48 : (((⟨#[48]⟩ : ByteArray).size : Nat) : Int) = 1 := by decide
theorem bt48 : bt (⟨#[48]⟩ : ByteArray) 0 = 48 := by decide
theorem ne48 : ((⟨#[48]⟩ : ByteArray).toList == ([] : List UInt8)) = false := by rw [beq_lit]; rfl
theorem Fit.of_len {t : ByteArray} {n : Nat} (h : (S t).length ≤ n) (hn : n ≤ 1000000000000000000) : Fit t := by
  unfold Fit; rw [← S_len]; omega
theorem rtrim_len (l : List Int) : (rtrim l).length ≤ l.length := by
  have := ltrim_len l.reverse
  simp [rtrim, ltrim] at *
  exact this
theorem Trim_go (s z : ByteArray) (hz : (z.size : Int) = 1) (hb : bt z 0 = 48) (hn : (z.toList == ([] : List UInt8)) = false) (h : ¬ s.toList = ([] : List UInt8))
    {t u : ByteArray} (ht : Ev (fun k => strings_trimRightByte.f k s 48) t) (hu : Ev (fun k => strings_trimLeftByte.f k t 48) u) : Ev (fun k => strings_Trim.f k s z) u := by
  have j1 : ∀ x : Bool, x = true → Ev (fun k => strings_Trim.j1 k s z x) u := by
    intro x hx
    refine Ev.up (Ev.pos hx (Ev.pos (by omega) ?_))
    rw [hb]
    exact Ev.bind ht (hu.tail)
  have j0 : ∀ x : Bool, x = false → Ev (fun k => strings_Trim.j0 k s z x) u := by
    intro x hx
    exact Ev.up (Ev.neg (by rw [hx]; exact Bool.false_ne_true) (Ev.pos hz (Ev.pos (by omega) (j1 _ (by rw [hb]; rfl)))))
  exact Ev.neg h (j0 _ hn)
theorem Trim_none (s z : ByteArray) (h : s.toList = ([] : List UInt8)) : Ev (fun k => strings_Trim.f k s z) s := by
  have j0 : ∀ x : Bool, x = true → Ev (fun k => strings_Trim.j0 k s z x) s := fun x hx => Ev.up (Ev.pos hx (Ev.val rfl))
  exact Ev.pos h (j0 _ rfl)
theorem Trim_is (s : ByteArray) (hs : Fit s) : ∃ t, Ev (fun k => strings_Trim.f k s (⟨#[48]⟩ : ByteArray)) t ∧ S t = ltrim (rtrim (S s)) := by
  obtain ⟨t, ht, e⟩ := trimRight_is _ s rfl hs
  obtain ⟨u, hu, e'⟩ := trimLeft_is _ t rfl (Fit.of_len (n := s.size) (by rw [e]; exact Nat.le_trans (rtrim_len _) (by rw [S_len]; omega)) hs)
  by_cases h : s.toList = ([] : List UInt8)
  · exact ⟨s, Trim_none s _ h, by rw [trim_nil_bytes s h]; rfl⟩
  · exact ⟨u, Trim_go s _ size48 bt48 ne48 h ht hu, by rw [e', e]⟩
theorem trim_nil (l : List Int) : ltrim (rtrim l) = [] ↔ all0 l = true := by rw [ltrim_nil, all0_rtrim]
theorem isEmpty_false {l : List Int} (h : l ≠ []) : l.isEmpty = false := by cases l with
  | nil => exact absurd rfl h
  | cons => rfl
theorem form_is (n : Bool) (a b : ByteArray) (ha : Fit a) (hb : Fit b) : Ev (fun k => decimal_form.f k n a b) (fm n (S a) (S b)) := by
  have hl := S_len a
  have key : ∀ x : Bool, (x = false → (!(S a).isEmpty && allD (S a) && allD (S b) && !(decide (1 < (S a).length) && rd (S a) 0 == 48)) = true) →
      (x = true → (!(S a).isEmpty && allD (S a) && allD (S b) && !(decide (1 < (S a).length) && rd (S a) 0 == 48)) = false) →
      Ev (fun k => decimal_form.j0 k x n a b) (fm n (S a) (S b)) := by
    intro x h0 h1
    unfold fm
    refine Ev.up (Ev.split (fun hx => Ev.val ?_) (fun hx => ?_))
    · rw [h1 hx]; rfl
    · rw [h0 (by simpa using hx), Bool.true_and]
      refine Ev.split (fun hn => ?_) (fun hn => Ev.val ?_)
      · obtain ⟨t, ht, et⟩ := Trim_is a ha
        obtain ⟨u, hu, eu⟩ := Trim_is b hb
        refine Ev.bind ht (Ev.split (fun h => ?_) (fun h => Ev.val ?_))
        · rw [toList_nil, et, trim_nil] at h
          refine Ev.bind hu (Ev.val ?_)
          rw [hn, h, Bool.eq_iff_iff]
          simp [toList_nil, eu, trim_nil]
        · rw [toList_nil, et, trim_nil] at h
          simp at h; simp [h]
      · simp at hn; simp [hn]
  refine Ev.split (fun h => key true (by simp) (fun _ => ?_)) (fun h => ?_)
  · rw [toList_nil] at h; simp [h]
  · rw [toList_nil] at h
    have hne : (S a).isEmpty = false := isEmpty_false h
    have hp : 0 < (S a).length := List.length_pos_iff.2 h
    refine Ev.bind (all_is a ha) (Ev.split (fun h1 => ?_) (fun h1 => key true (by simp) (fun _ => by simp at h1; simp [h1])))
    refine Ev.bind (all_is b hb) (Ev.split (fun h2 => ?_) (fun h2 => key true (by simp) (fun _ => by simp at h2; simp [h2])))
    refine Ev.split (fun h3 => Ev.pos (by omega) (key _ ?_ ?_)) (fun h3 => key _ ?_ ?_)
    · intro h4
      rw [bt_S] at h4
      simp [hne, h1, h2, h4]
    · intro h4
      rw [bt_S] at h4
      have : 1 < (S a).length := by omega
      simp [h4, this]
    · intro _
      have : ¬ 1 < (S a).length := by omega
      simp [hne, h1, h2, this]
    · simp
theorem Check_is (n : Bool) (a b : ByteArray) (ha : Fit a) (hb : Fit b) : Ev (fun k => decimal_Check.f k n a b) (chk n (S a) (S b)) := by
  have hl := S_len a
  have hl' := S_len b
  unfold chk okD Fit at *
  refine Ev.split (fun h => Ev.val ?_) (fun h => ?_)
  · have : ¬ (S a).length + (S b).length ≤ 40 := by omega
    simp [this]
  · have hw : wrap64 (40 - (a.size : Int)) = 40 - (a.size : Int) := wrap64_id (by omega) (by omega)
    rw [hw]
    refine Ev.split (fun h1 => Ev.val ?_) (fun h1 => ?_)
    · have : ¬ (S a).length + (S b).length ≤ 40 := by omega
      simp [this]
    · have : (S a).length + (S b).length ≤ 40 := by omega
      refine Ev.bind (form_is n a b ha hb) (Ev.split (fun h2 => Ev.val ?_) (fun h2 => Ev.val ?_))
      · simp [this, h2]
      · simp [h2]
theorem refCheck_is (n : Bool) (a b : ByteArray) (ha : Fit a) (hb : Fit b) : Ev (fun k => idiomref02_Check.f k n a b) (chk n (S a) (S b)) := by
  have hl := S_len a
  have hl' := S_len b
  have ha' := ha
  have hb' := hb
  unfold Fit at ha' hb'
  have bad : ∀ x : Bool, x = true → chk n (S a) (S b) = 20 → Ev (fun k => idiomref02_Check.j0 k x n a b) (chk n (S a) (S b)) := by
    intro x hx h
    rw [h]
    exact Ev.up (Ev.pos hx (Ev.val rfl))
  have big : ¬ (S a).length + (S b).length ≤ 40 → chk n (S a) (S b) = 20 := by
    intro h; simp [chk, okD, h]
  refine Ev.split (fun h => bad _ rfl ?_) (fun h => Ev.split (fun h1 => bad _ rfl (big (by omega))) (fun h1 => Ev.split (fun h2 => bad _ rfl (big (by omega))) (fun h2 => ?_)))
  · have : S a = [] := List.eq_nil_of_length_eq_zero (by omega)
    simp [chk, okD, fm, this]
  · have hw : wrap64 ((a.size : Int) + (b.size : Int)) = (a.size : Int) + (b.size : Int) := wrap64_id (by omega) (by omega)
    rw [hw]
    by_cases h3 : (a.size : Int) + (b.size : Int) > 40
    · exact bad _ (by simpa using h3) (big (by omega))
    have h3' : (S a).length + (S b).length ≤ 40 := by omega
    have hne : (S a).isEmpty = false := by
      cases he : S a with
      | nil => rw [he] at hl; simp at hl; omega
      | cons => rfl
    refine Ev.up (Ev.neg (by simpa using h3) ?_)
    refine Ev.bind (digits_is a ha) (Ev.split (fun h4 => ?_) (fun h4 => Ev.val ?_))
    · refine Ev.bind (digits_is b hb) (Ev.split (fun h5 => ?_) (fun h5 => Ev.val ?_))
      · have tl : (¬ (decide (1 < (S a).length) && rd (S a) 0 == 48) = true) → Ev (fun k => if n = true then (idiomref02_Nought.f k n a b).bind fun t => if t = true then some 20 else some 0 else some 0) (chk n (S a) (S b)) := by
          intro h6
          simp only [Bool.not_eq_true] at h6
          refine Ev.split (fun h7 => Ev.bind (nought_is n a b ha hb) (Ev.split (fun h8 => Ev.val ?_) (fun h8 => Ev.val ?_))) (fun h7 => Ev.val ?_)
          · simp only [chk, okD, fm, h7, h8]; simp
          · simp only [Bool.not_eq_true] at h8
            simp only [chk, okD, fm, h7, h8, h4, h5, h6, hne, h3']; simp
          · simp only [Bool.not_eq_true] at h7
            simp only [chk, okD, fm, h7, h4, h5, h6, hne, h3']; simp
        refine Ev.pos (by omega) ?_
        rw [bt_S]
        refine Ev.split (fun h6 => Ev.split (fun h7 => Ev.val ?_) (fun h7 => tl ?_)) (fun h6 => tl ?_)
        · have h8 : 1 < (S a).length := by omega
          simp [chk, okD, fm, h6, h8]
        · have h8 : ¬ 1 < (S a).length := by omega
          simp [h8]
        · simp [h6]
      · simp only [Bool.not_eq_true] at h5
        simp [chk, okD, fm, h5]
    · simp only [Bool.not_eq_true] at h4
      simp [chk, okD, fm, h4]
end Go.Proofs.YtapbdblpdkoacaaDoor.Q
set_option linter.unusedVariables false
set_option linter.unusedSimpArgs false
namespace Go.Proofs.YtapbdblpdkoacaaDoor.Q
open Go.RowKit Go.Proofs.YtapbdblpdkoacaaDoorW.PrintWords Go.Proofs.YtapbdblpdkoacaaDoor.P
theorem awake_is : Ev (fun k => idiomlaw02_awake.f k) true := Ev.of (fun k => idiomlaw02_awake.mono k) (k := 60) (by decide +kernel)
def txt (n : Bool) (a b : List Int) : List Int := (if n = true then [45] else []) ++ (a ++ (if b = [] then [] else 46 :: b))
def prt (n : Bool) (a b : List Int) : List Int := if chk n a b = 0 then txt n a b else []
theorem chk_len {n : Bool} {a b : List Int} (h : chk n a b = 0) : a.length + b.length ≤ 40 := by
  unfold chk okD at h
  by_cases h1 : a.length + b.length ≤ 40
  · exact h1
  · simp [h1] at h
theorem S45 : S (⟨#[45]⟩ : ByteArray) = [45] := rfl
theorem S46 : S (⟨#[46]⟩ : ByteArray) = [46] := rfl
theorem S_none : S (⟨#[]⟩ : ByteArray) = [] := rfl
theorem sz45 : (⟨#[45]⟩ : ByteArray).size = 1 := rfl
theorem sz46 : (⟨#[46]⟩ : ByteArray).size = 1 := rfl
theorem Print_is (n : Bool) (a b : ByteArray) (ha : Fit a) (hb : Fit b) : ∃ t, Ev (fun k => decimal_Print.f k n a b) (t, chk n (S a) (S b)) ∧ S t = prt n (S a) (S b) := by
  by_cases hc : chk n (S a) (S b) = 0
  · have hl := chk_len hc
    rw [S_len, S_len] at hl
    have tl : ∀ t : ByteArray, S t = txt n (S a) (S b) → Ev (fun k => if b.toList = ([] : List UInt8) then (if n = true then (if 1 + a.size ≤ 9223372036854775807 then some ((⟨#[45]⟩ : ByteArray) ++ a, (0 : Int)) else none) else some (a, 0)) else (if 1 + b.size ≤ 9223372036854775807 then (if a.size + ((⟨#[46]⟩ : ByteArray) ++ b).size ≤ 9223372036854775807 then (if n = true then (if 1 + (a ++ ((⟨#[46]⟩ : ByteArray) ++ b)).size ≤ 9223372036854775807 then some ((⟨#[45]⟩ : ByteArray) ++ (a ++ ((⟨#[46]⟩ : ByteArray) ++ b)), 0) else none) else some (a ++ ((⟨#[46]⟩ : ByteArray) ++ b), 0)) else none) else none)) (t, (0 : Int)) := by
      intro t ht
      refine Ev.split (fun h => Ev.split (fun hn => Ev.pos (by omega) (Ev.val ?_)) (fun hn => Ev.val ?_)) (fun h => Ev.pos (by omega) (Ev.pos (by rw [ByteArray.size_append, sz46]; omega) (Ev.split (fun hn => Ev.pos (by rw [ByteArray.size_append, ByteArray.size_append, sz46]; omega) (Ev.val ?_)) (fun hn => Ev.val ?_))))
      · rw [toList_nil] at h
        exact congrArg (·, _) (S_inj (by rw [ht, S_append, S45, txt, if_pos hn, h, if_pos rfl, List.append_nil]))
      · rw [toList_nil] at h
        exact congrArg (·, _) (S_inj (by rw [ht, txt, if_neg hn, h, if_pos rfl, List.append_nil, List.nil_append]))
      · rw [toList_nil] at h
        exact congrArg (·, _) (S_inj (by rw [ht, S_append, S_append, S_append, S45, S46, txt, if_pos hn, if_neg h]; rfl))
      · rw [toList_nil] at h
        exact congrArg (·, _) (S_inj (by rw [ht, S_append, S_append, S46, txt, if_neg hn, if_neg h]; rfl))
    refine ⟨strOfNums (txt n (S a) (S b)), ?_, ?_⟩
    · refine Ev.bind (Check_is n a b ha hb) (Ev.pos hc ?_)
      rw [hc]
      exact tl _ (S_str (txt_byte n a b))
    · rw [S_str (txt_byte n a b), prt, if_pos hc]
  · refine ⟨⟨#[]⟩, Ev.bind (Check_is n a b ha hb) (Ev.neg hc (Ev.val rfl)), ?_⟩
    rw [prt, if_neg hc]; rfl
where
  txt_byte (n : Bool) (a b : ByteArray) : ∀ d ∈ txt n (S a) (S b), 0 ≤ d ∧ d ≤ 255 := by
    intro d hd
    unfold txt at hd
    rcases List.mem_append.1 hd with h | h
    · by_cases hn : n = true
      · rw [if_pos hn] at h; simp at h; omega
      · rw [if_neg hn] at h; simp at h
    · rcases List.mem_append.1 h with h | h
      · exact S_byte a d h
      · by_cases hb : S b = []
        · rw [if_pos hb] at h; simp at h
        · rw [if_neg hb] at h
          rcases List.mem_cons.1 h with h | h
          · omega
          · exact S_byte b d h
end Go.Proofs.YtapbdblpdkoacaaDoor.Q
set_option linter.unusedVariables false
set_option linter.unusedSimpArgs false
namespace Go.Proofs.YtapbdblpdkoacaaDoor.Q
open Go.RowKit Go.Proofs.YtapbdblpdkoacaaDoorW.PrintWords Go.Proofs.YtapbdblpdkoacaaDoor.P
theorem ix_none : ∀ {l : List UInt8}, (46 : Int) ∉ l.map (fun b => (b.toNat : Int)) → Lib.indexByte l (46 : Int).toNat.toUInt8 = -1
  | [], _ => rfl
  | b :: l, h => by
    rw [List.map_cons, List.mem_cons] at h
    have h1 : ¬ (b.toNat : Int) = 46 := fun e => h (.inl e.symm)
    have hb : (b == (46 : Int).toNat.toUInt8) = false := by
      rw [beq_eq_false_iff_ne]; intro e; rw [e] at h1; exact h1 rfl
    have := ix_none (l := l) (fun e => h (.inr e))
    rw [Lib.indexByte, hb, this]; rfl
theorem ix_some : ∀ {l : List UInt8} {pre tl : List Int}, (46 : Int) ∉ pre → l.map (fun b => (b.toNat : Int)) = pre ++ 46 :: tl → Lib.indexByte l (46 : Int).toNat.toUInt8 = pre.length
  | [], pre, tl, _, e => by simp at e
  | b :: l, [], tl, _, e => by
    simp only [List.map_cons, List.nil_append, List.cons.injEq] at e
    have hb : (b == (46 : Int).toNat.toUInt8) = true := by
      rw [beq_iff_eq]; apply UInt8.toNat_inj.1; have := e.1; show b.toNat = 46; omega
    rw [Lib.indexByte, hb]; simp
  | b :: l, d :: pre, tl, h, e => by
    simp only [List.map_cons, List.cons_append, List.cons.injEq] at e
    have h1 : ¬ (b.toNat : Int) = 46 := fun e' => h (by rw [← e', e.1]; exact List.mem_cons_self)
    have hb : (b == (46 : Int).toNat.toUInt8) = false := by
      rw [beq_eq_false_iff_ne]; intro e; rw [e] at h1; exact h1 rfl
    have := ix_some (l := l) (fun e' => h (List.mem_cons_of_mem _ e')) e.2
    have hn : ((pre.length : Int) == -1) = false := by rw [beq_eq_false_iff_ne]; omega
    rw [Lib.indexByte, hb, this, hn, if_neg Bool.false_ne_true, if_neg Bool.false_ne_true, List.length_cons]; omega
theorem Cut_none (s : ByteArray) (hs : Fit s) (h : (46 : Int) ∉ S s) : Ev (fun k => strings_Cut.f k s (⟨#[46]⟩ : ByteArray)) (s, (⟨#[]⟩ : ByteArray), false) := by
  have hi : stringslite_IndexByte.f s 46 = some (-1) := congrArg some (ix_none h)
  have gen : ∀ (z : ByteArray) (x : Bool), z.size = 1 → bt z 0 = 46 → x = false → Ev (fun k => stringslite_Index.j0 k s z (z.size : Int) x) (-1) := by
    intro z x hz hb hx
    refine Ev.up (Ev.neg (by rw [hx]; exact Bool.false_ne_true) (Ev.pos (by omega) (Ev.pos (by omega) ?_)))
    rw [hb]
    exact Ev.bindV hi (Ev.val rfl)
  have hx : ((⟨#[46]⟩ : ByteArray).toList == s.toList) = false := by
    rw [beq_S, S46]
    rw [decide_eq_false_iff_not]; intro e; rw [← e] at h; exact h (List.mem_singleton.2 rfl)
  have hI : Ev (fun k => stringslite_Index.f k s (⟨#[46]⟩ : ByteArray)) (-1) := Ev.neg (by rw [sz46]; omega) (gen _ _ sz46 rfl hx)
  exact Ev.bind (Ev.bind hI (Ev.neg (by omega) (Ev.val rfl))) (Ev.val rfl)
theorem Cut_some (s : ByteArray) (hs : Fit s) {pre tl : List Int} (h : (46 : Int) ∉ pre) (e : S s = pre ++ 46 :: tl) :
    ∃ a b, Ev (fun k => strings_Cut.f k s (⟨#[46]⟩ : ByteArray)) (a, b, true) ∧ S a = pre ∧ S b = tl := by
  have hs' := hs
  unfold Fit at hs'
  have hl : s.size = pre.length + (tl.length + 1) := by rw [← S_len, e]; simp
  have hi : stringslite_IndexByte.f s 46 = some (pre.length : Int) := congrArg some (ix_some h e)
  have gen : ∀ (z : ByteArray) (x : Bool), z.size = 1 → bt z 0 = 46 → (x = true → pre.length = 0) → Ev (fun k => stringslite_Index.j0 k s z (z.size : Int) x) (pre.length : Int) := by
    intro z x hz hb hx
    refine Ev.up (Ev.split (fun h1 => Ev.val (by rw [hx h1]; rfl)) (fun h1 => Ev.pos (by omega) (Ev.pos (by omega) ?_)))
    rw [hb]
    exact Ev.bindV hi (Ev.val rfl)
  have hx : ((⟨#[46]⟩ : ByteArray).toList == s.toList) = true → pre.length = 0 := by
    rw [beq_S, S46, decide_eq_true_eq, e]
    intro e'
    have := congrArg List.length e'
    simp at this
    omega
  have hI : Ev (fun k => stringslite_Index.f k s (⟨#[46]⟩ : ByteArray)) (pre.length : Int) := Ev.neg (by rw [sz46]; omega) (gen _ _ sz46 rfl hx)
  have hw : wrap64 ((pre.length : Int) + (((⟨#[46]⟩ : ByteArray).size : Nat) : Int)) = ((pre.length + 1 : Nat) : Int) := by
    rw [sz46, wrap64_id (by omega) (by omega)]; omega
  refine ⟨_, _, Ev.bind (Ev.bind hI (Ev.pos (by omega) (Ev.pos (by omega) (Ev.pos (by omega) (Ev.pos (by rw [hw]; omega) (Ev.pos (by rw [hw]; omega) (Ev.val rfl))))))) (Ev.val rfl), ?_, ?_⟩
  · rw [S_take, e]; simp
  · rw [hw, S_drop, e]
    show List.drop (pre.length + 1) (pre ++ 46 :: tl) = tl
    rw [List.drop_append]; simp
theorem Prefix_no (s : ByteArray) (h : ∀ m, S s ≠ 45 :: m) : strings_CutPrefix.f s (⟨#[45]⟩ : ByteArray) = some (s, false) := by
  have hp : stringslite_HasPrefix.f s (⟨#[45]⟩ : ByteArray) = some false := by
    unfold stringslite_HasPrefix.f
    rw [sz45]
    by_cases h1 : (s.size : Int) ≥ ((1 : Nat) : Int)
    · rw [if_pos h1, if_pos (by omega), if_pos h1]
      congr 1
      rw [beq_S, S45, S_take, decide_eq_false_iff_not]
      intro e
      cases hS : S s with
      | nil => rw [hS] at e; simp at e
      | cons d m => rw [hS] at e; simp at e; exact h m (by rw [hS, e])
    · rw [if_neg h1]
  unfold strings_CutPrefix.f stringslite_CutPrefix.f
  rw [hp]; rfl
theorem Prefix_yes (s : ByteArray) {m : List Int} (h : S s = 45 :: m) : ∃ t, strings_CutPrefix.f s (⟨#[45]⟩ : ByteArray) = some (t, true) ∧ S t = m := by
  have hl : 1 ≤ s.size := by rw [← S_len, h]; simp
  have hp : stringslite_HasPrefix.f s (⟨#[45]⟩ : ByteArray) = some true := by
    unfold stringslite_HasPrefix.f
    rw [sz45, if_pos (by omega), if_pos (by omega), if_pos (by omega)]
    congr 1
    rw [beq_S, S45, S_take, h, decide_eq_true_eq]; rfl
  refine ⟨s.extract 1 s.size, ?_, by rw [S_drop, h]; rfl⟩
  unfold strings_CutPrefix.f stringslite_CutPrefix.f
  rw [hp, sz45]
  show ((if (true = true) then (if 0 ≤ ((1 : Nat) : Int) then (if ((1 : Nat) : Int) ≤ (s.size : Int) then some (s.extract ((1 : Nat) : Int).toNat s.size, true) else none) else none) else some (s, false)) : Option (ByteArray × Bool)).bind _ = _
  rw [if_pos rfl, if_pos (by omega), if_pos (by omega)]
  rfl
structure Ans where
  neg : Bool
  a : List Int
  b : List Int
  err : Int
def bad (e : Int) : Ans := ⟨false, [], [], e⟩
def fin (neg : Bool) (a b : List Int) : Ans := if fm neg a b = true then (if 40 < a.length + b.length then bad 3 else ⟨neg, a, b, 0⟩) else bad 20
def rest (neg : Bool) (a : List Int) : List Int → Ans
  | [] => fin neg a []
  | x :: tl => if x = 46 ∧ tl ≠ [] then fin neg a tl else bad 20
def rdr (neg : Bool) (m : List Int) : Ans := rest neg (m.takeWhile isD) (m.dropWhile isD)
def sgn : List Int → Ans
  | [] => rdr false []
  | d :: m => if d = 45 then rdr true m else rdr false (d :: m)
def psr (l : List Int) : Ans := if 65536 < l.length then bad 2 else sgn l
def Tells (r : Bool × ByteArray × ByteArray × Int) (x : Ans) : Prop := r.1 = x.neg ∧ S r.2.1 = x.a ∧ S r.2.2.1 = x.b ∧ r.2.2.2 = x.err
theorem Tells.bad (e : Int) : Tells (false, (⟨#[]⟩ : ByteArray), (⟨#[]⟩ : ByteArray), e) (bad e) := ⟨rfl, rfl, rfl, rfl⟩
theorem take_drop (m : List Int) : m.takeWhile isD ++ m.dropWhile isD = m := List.takeWhile_append_dropWhile
theorem allD_take (m : List Int) : allD (m.takeWhile isD) = true := by
  induction m with
  | nil => rfl
  | cons d m ih =>
    rw [List.takeWhile_cons]
    by_cases h : isD d = true
    · rw [if_pos h, allD, List.all_cons, h, ← allD, ih]; rfl
    · rw [if_neg h]; rfl
theorem take_self {m : List Int} (h : allD m = true) : m.takeWhile isD = m := by
  induction m with
  | nil => rfl
  | cons d m ih =>
    simp only [allD, List.all_cons, Bool.and_eq_true] at h
    rw [List.takeWhile_cons, if_pos h.1, ih h.2]
theorem first46 : ∀ {m : List Int}, (46 : Int) ∈ m → ∃ pre tl, m = pre ++ 46 :: tl ∧ (46 : Int) ∉ pre
  | d :: m, h => by
    by_cases hd : d = 46
    · exact ⟨[], m, by rw [hd]; rfl, by simp⟩
    · rcases List.mem_cons.1 h with h | h
      · exact absurd h.symm hd
      · obtain ⟨pre, tl, e, hp⟩ := first46 h
        refine ⟨d :: pre, tl, by rw [e]; rfl, fun h' => ?_⟩
        rcases List.mem_cons.1 h' with h' | h'
        · exact hd h'.symm
        · exact hp h'
theorem no46 {l : List Int} (h : allD l = true) : (46 : Int) ∉ l := by
  intro hm
  have := List.all_eq_true.1 h 46 hm
  simp [isD] at this
theorem Parse_j (a b : ByteArray) (n x : Bool) (ha : Fit a) (hb : Fit b) (hx : x = !fm n (S a) (S b)) :
    ∃ r, Ev (fun k => decimal_Parse.j0 k a b x n a b) r ∧ Tells r (fin n (S a) (S b)) := by
  have hl := S_len a
  have hl' := S_len b
  unfold Fit at ha hb
  by_cases h : fm n (S a) (S b) = true
  · rw [h] at hx
    unfold fin
    rw [if_pos h]
    have hw : wrap64 ((a.size : Int) + (b.size : Int)) = (a.size : Int) + (b.size : Int) := wrap64_id (by omega) (by omega)
    by_cases h1 : 40 < (S a).length + (S b).length
    · rw [if_pos h1]
      exact ⟨_, Ev.up (Ev.neg (by rw [hx]; simp) (Ev.pos (by rw [hw]; omega) (Ev.val rfl))), Tells.bad 3⟩
    · rw [if_neg h1]
      exact ⟨_, Ev.up (Ev.neg (by rw [hx]; simp) (Ev.neg (by rw [hw]; omega) (Ev.val rfl))), rfl, rfl, rfl, rfl⟩
  · unfold fin
    rw [if_neg h]
    exact ⟨_, Ev.up (Ev.pos (by rw [hx]; simpa using h) (Ev.val rfl)), Tells.bad 20⟩
theorem fm_allD {n : Bool} {a b : List Int} (h : allD a = false) : fm n a b = false := by simp [fm, h]
theorem Parse_core (n : Bool) (t : ByteArray) (ht : Fit t) :
    ∃ r, Ev (fun k => (strings_Cut.f k t (⟨#[46]⟩ : ByteArray)).bind fun bt154 => (if bt154.2.2 = true then (if bt154.2.1.toList = ([] : List UInt8) then (decimal_Parse.j0 k bt154.1 bt154.2.1 true n bt154.1 bt154.2.1) else ((decimal_form.f k n bt154.1 bt154.2.1).bind fun t158 => (decimal_Parse.j0 k bt154.1 bt154.2.1 (!t158) n bt154.1 bt154.2.1))) else ((decimal_form.f k n bt154.1 bt154.2.1).bind fun t159 => (decimal_Parse.j0 k bt154.1 bt154.2.1 (!t159) n bt154.1 bt154.2.1)))) r ∧ Tells r (rdr n (S t)) := by
  have hl := S_len t
  unfold Fit at ht
  have fitp : ∀ {u : ByteArray} {l : List Int}, S u = l → l.length ≤ t.size → Fit u := by
    intro u l e h; unfold Fit; rw [← S_len, e]; omega
  by_cases h46 : (46 : Int) ∈ S t
  · obtain ⟨pre, tl, e, hp⟩ : ∃ pre tl, S t = pre ++ 46 :: tl ∧ (46 : Int) ∉ pre := first46 h46
    obtain ⟨a, b, hc, ea, eb⟩ := Cut_some t ht hp e
    have hlen : t.size = pre.length + (tl.length + 1) := by rw [← hl, e]; simp
    have fa : Fit a := fitp ea (by omega)
    have fb : Fit b := fitp eb (by omega)
    have tells : ∀ x, x = (if tl = [] then bad 20 else fin n pre tl) → rdr n (S t) = x := by
      intro x hx
      rw [hx, rdr]
      by_cases hd : allD pre = true
      · have h1 : (S t).takeWhile isD = pre := by
          rw [e, List.takeWhile_append_of_pos (fun d hd' => List.all_eq_true.1 hd d hd')]; simp [isD]
        have h2 : (S t).dropWhile isD = 46 :: tl := by
          rw [e, List.dropWhile_append_of_pos (fun d hd' => List.all_eq_true.1 hd d hd')]; simp [isD]
        rw [h1, h2, rest]
        by_cases h3 : tl = []
        · simp [h3]
        · simp [h3]
      · simp only [Bool.not_eq_true] at hd
        have h3 : fin n pre tl = bad 20 := by rw [fin, fm_allD hd]; rfl
        rw [h3, ite_self]
        cases hr : (S t).dropWhile isD with
        | nil =>
          have := take_drop (S t)
          rw [hr, List.append_nil] at this
          have h4 := allD_take (S t)
          rw [this, e, allD, List.all_append] at h4
          rw [allD] at hd
          simp [hd] at h4
        | cons x tl' =>
          rw [rest, if_neg]
          rintro ⟨hx', -⟩
          subst hx'
          have h6 := first_unique hp (no46 (allD_take (S t))) (e.symm.trans (by rw [← hr]; exact (take_drop (S t)).symm))
          have := allD_take (S t)
          rw [← h6, hd] at this
          cases this
    have jb : ∀ x : Bool, x = true → Ev (fun k => decimal_Parse.j0 k a b x n a b) (false, (⟨#[]⟩ : ByteArray), (⟨#[]⟩ : ByteArray), 20) := fun x hx => Ev.up (Ev.pos hx (Ev.val rfl))
    by_cases hb : tl = []
    · rw [tells _ rfl, if_pos hb]
      have hb0 : S b = [] := eb.trans hb
      have hb' : b.toList = ([] : List UInt8) := (toList_nil b).2 hb0
      exact ⟨_, Ev.bind hc (Ev.pos rfl (Ev.pos hb' (jb _ rfl))), Tells.bad 20⟩
    · rw [tells _ rfl, if_neg hb, ← ea, ← eb]
      have hb0 : ¬ S b = [] := by rw [eb]; exact hb
      have hb' : ¬ b.toList = ([] : List UInt8) := fun h => hb0 ((toList_nil b).1 h)
      obtain ⟨r, hr, ht'⟩ := Parse_j a b n _ fa fb rfl
      exact ⟨r, Ev.bind hc (Ev.pos rfl (Ev.neg hb' (Ev.bind (form_is n a b fa fb) hr))), ht'⟩
  · have hc := Cut_none t ht h46
    have fe : Fit (⟨#[]⟩ : ByteArray) := by unfold Fit; decide
    obtain ⟨r, hr, ht'⟩ := Parse_j t (⟨#[]⟩ : ByteArray) n _ ht fe rfl
    refine ⟨r, Ev.bind hc (Ev.neg (by simp) (Ev.bind (form_is n t _ ht fe) hr)), ?_⟩
    have : rdr n (S t) = fin n (S t) (S (⟨#[]⟩ : ByteArray)) := by
      rw [rdr, S_none]
      by_cases hd : allD (S t) = true
      · have h1 : (S t).takeWhile isD = S t := take_self hd
        have h2 : (S t).dropWhile isD = [] := by
          have := take_drop (S t)
          rw [h1] at this
          simpa using this
        rw [h1, h2]; rfl
      · simp only [Bool.not_eq_true] at hd
        have h3 : fin n (S t) [] = bad 20 := by rw [fin, fm_allD hd]; rfl
        rw [h3]
        cases hr : (S t).dropWhile isD with
        | nil =>
          have := take_drop (S t)
          rw [hr, List.append_nil] at this
          have h4 := allD_take (S t)
          rw [this, hd] at h4
          cases h4
        | cons x tl' =>
          rw [rest, if_neg]
          rintro ⟨hx', -⟩
          subst hx'
          have := take_drop (S t)
          rw [hr] at this
          exact h46 (by rw [← this]; simp)
    rw [this]; exact ht'
where
  first_unique {p q t u : List Int} (hp : (46 : Int) ∉ p) (hq : (46 : Int) ∉ q) (h : p ++ 46 :: t = q ++ 46 :: u) : p = q := by
    induction p generalizing q with
    | nil =>
      cases q with
      | nil => rfl
      | cons d q => simp at h; exact absurd (by rw [← h.1]; exact List.mem_cons_self) hq
    | cons c p ih =>
      cases q with
      | nil => simp at h; exact absurd (by rw [h.1]; exact List.mem_cons_self) hp
      | cons d q =>
        simp only [List.cons_append, List.cons.injEq] at h
        rw [h.1, ih (fun e => hp (List.mem_cons_of_mem _ e)) (fun e => hq (List.mem_cons_of_mem _ e)) h.2]
theorem Parse_is (s : ByteArray) (hs : Fit s) : ∃ r, Ev (fun k => decimal_Parse.f k s) r ∧ Tells r (psr (S s)) := by
  have hl := S_len s
  by_cases h : (s.size : Int) > 65536
  · refine ⟨_, Ev.pos h (Ev.val rfl), ?_⟩
    rw [psr, if_pos (by omega)]
    exact Tells.bad 2
  · rw [psr, if_neg (by omega)]
    cases hS : S s with
    | nil =>
      obtain ⟨r, hr, ht⟩ := Parse_core false s hs
      rw [hS] at ht
      exact ⟨r, Ev.neg h (Ev.bindV (Prefix_no s (by rw [hS]; simp)) hr), ht⟩
    | cons d m =>
      by_cases hd : d = 45
      · subst hd
        obtain ⟨t, ht0, et⟩ := Prefix_yes s hS
        obtain ⟨r, hr, ht⟩ := Parse_core true t (Fit.of_len (n := s.size) (by rw [et]; rw [hS] at hl; simp at hl; omega) (by unfold Fit at hs; exact hs))
        rw [et] at ht
        exact ⟨r, Ev.neg h (Ev.bindV ht0 hr), by rw [sgn, if_pos rfl]; exact ht⟩
      · obtain ⟨r, hr, ht⟩ := Parse_core false s hs
        rw [hS] at ht
        refine ⟨r, Ev.neg h (Ev.bindV (Prefix_no s (fun m' e => hd (by rw [hS] at e; exact (List.cons.inj e).1))) hr), ?_⟩
        rw [sgn, if_neg hd]; exact ht
end Go.Proofs.YtapbdblpdkoacaaDoor.Q
set_option linter.unusedVariables false
set_option linter.unusedSimpArgs false
namespace Go.Proofs.YtapbdblpdkoacaaDoor.Q
open Go.RowKit Go.Proofs.YtapbdblpdkoacaaDoorW.PrintWords Go.Proofs.YtapbdblpdkoacaaDoor.P
theorem chk_fm {n : Bool} {a b : List Int} (h : chk n a b = 0) : fm n a b = true := by
  unfold chk okD at h
  by_cases h1 : fm n a b = true
  · exact h1
  · simp [h1] at h
theorem chk_of {n : Bool} {a b : List Int} (h : fm n a b = true) (hl : a.length + b.length ≤ 40) : chk n a b = 0 := by
  simp [chk, okD, h, hl]
theorem fm_parts {n : Bool} {a b : List Int} (h : fm n a b = true) : a ≠ [] ∧ allD a = true ∧ allD b = true := by
  simp only [fm, Bool.and_eq_true] at h
  refine ⟨?_, h.1.1.1.2, h.1.1.2⟩
  intro e
  rw [e] at h
  simp at h
theorem takeD_append {a l : List Int} (h : allD a = true) (hl : ∀ x tl, l = x :: tl → isD x = false) : (a ++ l).takeWhile isD = a ∧ (a ++ l).dropWhile isD = l := by
  induction a with
  | nil =>
    cases l with
    | nil => exact ⟨rfl, rfl⟩
    | cons x tl =>
      have := hl x tl rfl
      constructor
      · rw [List.nil_append, List.takeWhile_cons, if_neg (by rw [this]; exact Bool.false_ne_true)]
      · rw [List.nil_append, List.dropWhile_cons, if_neg (by rw [this]; exact Bool.false_ne_true)]
  | cons d a ih =>
    simp only [allD, List.all_cons, Bool.and_eq_true] at h
    obtain ⟨h1, h2⟩ := ih h.2
    constructor
    · rw [List.cons_append, List.takeWhile_cons, if_pos h.1, h1]
    · rw [List.cons_append, List.dropWhile_cons, if_pos h.1, h2]
theorem rdr_txt {n : Bool} {a b : List Int} (h : chk n a b = 0) : rdr n (a ++ (if b = [] then [] else 46 :: b)) = ⟨n, a, b, 0⟩ := by
  have hf := chk_fm h
  have hl := chk_len h
  obtain ⟨h1, h2, h3⟩ := fm_parts hf
  have hfin : fin n a b = ⟨n, a, b, 0⟩ := by rw [fin, if_pos hf, if_neg (by omega)]
  obtain ⟨e1, e2⟩ := takeD_append (l := if b = [] then [] else 46 :: b) h2 (by
    intro x tl e
    by_cases hb : b = []
    · rw [if_pos hb] at e; cases e
    · rw [if_neg hb] at e; rw [← (List.cons.inj e).1]; rfl)
  rw [rdr, e1, e2]
  by_cases hb : b = []
  · rw [if_pos hb]
    rw [hb] at hfin ⊢
    exact hfin
  · rw [if_neg hb, rest, if_pos ⟨rfl, hb⟩]; exact hfin
theorem psr_txt {n : Bool} {a b : List Int} (h : chk n a b = 0) : psr (txt n a b) = ⟨n, a, b, 0⟩ := by
  have hl := chk_len h
  obtain ⟨h1, h2, h3⟩ := fm_parts (chk_fm h)
  have hr := rdr_txt h
  rw [psr, if_neg]
  · unfold txt
    by_cases hn : n = true
    · rw [if_pos hn]
      subst hn
      show sgn (45 :: (a ++ _)) = _
      rw [sgn, if_pos rfl]; exact hr
    · rw [if_neg hn, List.nil_append]
      simp only [Bool.not_eq_true] at hn
      subst hn
      cases a with
      | nil => exact absurd rfl h1
      | cons d a =>
        simp only [allD, List.all_cons, Bool.and_eq_true] at h2
        have hd : d ≠ 45 := by intro e; rw [e] at h2; simp [isD] at h2
        rw [List.cons_append, sgn, if_neg hd]; exact hr
  · unfold txt
    have e1 : (if n = true then [45] else [] : List Int).length ≤ 1 := by split <;> simp
    have e2 : (if b = [] then [] else 46 :: b : List Int).length ≤ 41 := by split <;> simp; omega
    rw [List.length_append, List.length_append]
    omega
theorem txt_rdr {n : Bool} {m : List Int} (h : (rdr n m).err = 0) : chk (rdr n m).neg (rdr n m).a (rdr n m).b = 0 ∧ (rdr n m).neg = n ∧ (rdr n m).a ++ (if (rdr n m).b = [] then [] else 46 :: (rdr n m).b) = m := by
  have hfin : ∀ a b, (fin n a b).err = 0 → fin n a b = ⟨n, a, b, 0⟩ ∧ chk n a b = 0 := by
    intro a b h
    unfold fin at h ⊢
    by_cases h1 : fm n a b = true
    · rw [if_pos h1] at h ⊢
      by_cases h2 : 40 < a.length + b.length
      · rw [if_pos h2] at h; cases h
      · rw [if_neg h2]; exact ⟨rfl, chk_of h1 (by omega)⟩
    · rw [if_neg h1] at h; cases h
  have htd := take_drop m
  unfold rdr at h ⊢
  cases hd : m.dropWhile isD with
  | nil =>
    rw [hd, rest] at h
    rw [hd, List.append_nil] at htd
    obtain ⟨e, hc⟩ := hfin _ _ h
    rw [rest, e]
    exact ⟨hc, rfl, by simpa using htd⟩
  | cons x tl =>
    rw [hd] at h htd
    rw [rest] at h ⊢
    by_cases hx : x = 46 ∧ tl ≠ []
    · rw [if_pos hx] at h ⊢
      obtain ⟨e, hc⟩ := hfin _ _ h
      rw [e]
      refine ⟨hc, rfl, ?_⟩
      show _ ++ (if tl = [] then [] else 46 :: tl) = m
      rw [if_neg hx.2, ← hx.1]; exact htd
    · rw [if_neg hx] at h; cases h
theorem txt_psr {l : List Int} (h : (psr l).err = 0) : chk (psr l).neg (psr l).a (psr l).b = 0 ∧ txt (psr l).neg (psr l).a (psr l).b = l := by
  unfold psr at h ⊢
  by_cases h1 : 65536 < l.length
  · rw [if_pos h1] at h; cases h
  · rw [if_neg h1] at h ⊢
    cases l with
    | nil =>
      obtain ⟨hc, hn, ht⟩ := txt_rdr (n := false) (m := []) h
      exact ⟨hc, by rw [txt, sgn, hn]; exact ht⟩
    | cons d m =>
      rw [sgn] at h ⊢
      by_cases hd : d = 45
      · rw [if_pos hd] at h ⊢
        obtain ⟨hc, hn, ht⟩ := txt_rdr h
        exact ⟨hc, by rw [txt, hn, if_pos rfl, ht, hd]; rfl⟩
      · rw [if_neg hd] at h ⊢
        obtain ⟨hc, hn, ht⟩ := txt_rdr h
        exact ⟨hc, by rw [txt, hn, if_neg Bool.false_ne_true, ht]; rfl⟩
theorem back_law (n : Bool) (a b s : ByteArray) (ha : Fit a) (hb : Fit b) (hs : Fit s) : ∃ k, idiomlaw02_DecimalBack.f k n a b s = some true := by
  obtain ⟨t, ht, et⟩ := Print_is n a b ha hb
  have fit_prt : Fit t := by
    refine Fit.of_len (n := 42) ?_ (by omega)
    rw [et, prt]
    by_cases h : chk n (S a) (S b) = 0
    · have hl := chk_len h
      rw [if_pos h, txt, List.length_append, List.length_append]
      have e1 : (if n = true then [45] else [] : List Int).length ≤ 1 := by split <;> simp
      have e2 : (if S b = [] then [] else 46 :: S b : List Int).length ≤ (S b).length + 1 := by split <;> simp
      omega
    · rw [if_neg h]; simp
  have j0 : Ev (fun k => idiomlaw02_DecimalBack.j0 k s) true := by
    obtain ⟨r, hr, hT⟩ := Parse_is s hs
    obtain ⟨r1, r2, r3, r4⟩ := r
    obtain ⟨t1, t2, t3, t4⟩ := hT
    simp only at t1 t2 t3 t4
    refine Ev.up (Ev.bind hr (Ev.split (fun h => ?_) (fun h => Ev.val rfl)))
    have h0 : (psr (S s)).err = 0 := t4.symm.trans h
    obtain ⟨hc, hx⟩ := txt_psr h0
    rw [← t1, ← t2, ← t3] at hc hx
    have hl := chk_len hc
    obtain ⟨u, hu, eu⟩ := Print_is r1 r2 r3 (Fit.of_len (n := 40) (by omega) (by omega)) (Fit.of_len (n := 40) (by omega) (by omega))
    rw [hc] at hu
    rw [prt, if_pos hc, hx] at eu
    exact Ev.bind hu (Ev.pos rfl (Ev.val (by rw [beq_S, eu]; simp)))
  refine Ev.rounds (Ev.bind awake_is (Ev.pos rfl (Ev.bind ht (Ev.bind (refCheck_is n a b ha hb) (Ev.neg (by simp) ?_)))))
  refine Ev.split (fun h => ?_) (fun h => j0)
  obtain ⟨r, hr, hT⟩ := Parse_is t fit_prt
  rw [et, prt, if_pos h, psr_txt h] at hT
  obtain ⟨r1, r2, r3, r4⟩ := r
  obtain ⟨t1, t2, t3, t4⟩ := hT
  simp only at t1 t2 t3 t4
  refine Ev.bind hr (Ev.pos t4 (Ev.neg ?_ j0))
  simp only [beq_S, t1, t2, t3]
  simp
end Go.Proofs.YtapbdblpdkoacaaDoor.Q
