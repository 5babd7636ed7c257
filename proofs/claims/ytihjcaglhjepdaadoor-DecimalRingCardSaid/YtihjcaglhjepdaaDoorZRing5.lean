/- A part of the proof. Part 6 of 7; its texts were written by programs, some out of the kit's print. -/
import Derived.Test.YtihjcaglhjepdaaDoorZRing4
import Derived.Lib.Bytes
import Derived.Sort.Walk0
set_option linter.unusedVariables false
set_option linter.unusedSimpArgs false
namespace Go.Proofs.YtihjcaglhjepdaaDoor.Q
open Go.RowKit Go.Proofs.YtihjcaglhjepdaaDoorW.PrintWords
def val (l : List Int) : Nat := l.foldl (fun n d => n * 10 + d.toNat) 0
def Dig (l : List Int) : Prop := ∀ d ∈ l, 0 ≤ d ∧ d ≤ 9
theorem foldl_val (l : List Int) : ∀ n : Nat, l.foldl (fun n d => n * 10 + d.toNat) n = n * 10 ^ l.length + val l := by
  induction l with
  | nil => intro n; simp [val]
  | cons d l ih =>
    intro n
    simp only [List.foldl_cons, val]
    rw [ih, ih (0 * 10 + d.toNat), List.length_cons, Nat.pow_succ, Nat.add_mul, Nat.zero_mul, Nat.zero_add, Nat.mul_assoc, Nat.mul_comm 10]
    omega
theorem val_nil : val [] = 0 := rfl
theorem val_append (l m : List Int) : val (l ++ m) = val l * 10 ^ m.length + val m := by
  rw [val, List.foldl_append, foldl_val]; rfl
theorem val_snoc (l : List Int) (d : Int) : val (l ++ [d]) = val l * 10 + d.toNat := by
  rw [val_append]; simp [val]
theorem val_cons (d : Int) (l : List Int) : val (d :: l) = d.toNat * 10 ^ l.length + val l := by
  rw [show d :: l = [d] ++ l from rfl, val_append]; simp [val]
theorem val_zeros (n : Nat) : val (List.replicate n 0) = 0 := by
  induction n with
  | zero => rfl
  | succ n ih => rw [List.replicate_succ, val_cons, ih]; simp
theorem Dig.nil : Dig [] := fun d h => by cases h
theorem Dig.append {l m : List Int} (h : Dig l) (k : Dig m) : Dig (l ++ m) := fun d hd => by
  rcases List.mem_append.1 hd with h1 | h1
  · exact h d h1
  · exact k d h1
theorem Dig.left {l m : List Int} (h : Dig (l ++ m)) : Dig l := fun d hd => h d (List.mem_append_left _ hd)
theorem Dig.right {l m : List Int} (h : Dig (l ++ m)) : Dig m := fun d hd => h d (List.mem_append_right _ hd)
theorem Dig.one {d : Int} (h0 : 0 ≤ d) (h1 : d ≤ 9) : Dig [d] := fun x hx => by rw [List.mem_singleton.1 hx]; exact ⟨h0, h1⟩
theorem Dig.head {d : Int} {l : List Int} (h : Dig (d :: l)) : 0 ≤ d ∧ d ≤ 9 := h d (List.mem_cons_self)
theorem Dig.tail {d : Int} {l : List Int} (h : Dig (d :: l)) : Dig l := fun x hx => h x (List.mem_cons_of_mem _ hx)
theorem Dig.cons {d : Int} {l : List Int} (h0 : 0 ≤ d) (h1 : d ≤ 9) (h : Dig l) : Dig (d :: l) := fun x hx => by
  rcases List.mem_cons.1 hx with rfl | hx
  · exact ⟨h0, h1⟩
  · exact h x hx
theorem Dig.zeros (n : Nat) : Dig (List.replicate n 0) := fun d hd => by rw [(List.mem_replicate.1 hd).2]; omega
theorem Dig.take {l : List Int} (h : Dig l) (n : Nat) : Dig (l.take n) := fun d hd => h d (List.mem_of_mem_take hd)
theorem Dig.drop {l : List Int} (h : Dig l) (n : Nat) : Dig (l.drop n) := fun d hd => h d (List.mem_of_mem_drop hd)
theorem val_lt {l : List Int} (h : Dig l) : val l < 10 ^ l.length := by
  induction l with
  | nil => simp [val]
  | cons d l ih =>
    have h1 := ih h.tail
    have h2 := h.head
    rw [val_cons, List.length_cons, Nat.pow_succ]
    have h3 : d.toNat * 10 ^ l.length ≤ 9 * 10 ^ l.length := Nat.mul_le_mul_right _ (by omega)
    omega
def dg (n : Nat) : List Int := if h : n = 0 then [] else dg (n / 10) ++ [((n % 10 : Nat) : Int)]
termination_by n
decreasing_by omega
theorem dg_zero : dg 0 = [] := by rw [dg]; simp
theorem dg_pos {n : Nat} (h : n ≠ 0) : dg n = dg (n / 10) ++ [((n % 10 : Nat) : Int)] := by rw [dg]; simp [h]
theorem val_dg (n : Nat) : val (dg n) = n := by
  induction n using Nat.strongRecOn with
  | _ n ih =>
    by_cases h : n = 0
    · subst h; rw [dg_zero]; rfl
    · rw [dg_pos h, val_snoc, ih (n / 10) (by omega)]; omega
theorem Dig_dg (n : Nat) : Dig (dg n) := by
  induction n using Nat.strongRecOn with
  | _ n ih =>
    by_cases h : n = 0
    · subst h; rw [dg_zero]; exact Dig.nil
    · rw [dg_pos h]; exact (ih (n / 10) (by omega)).append (Dig.one (by omega) (by omega))
theorem dg_eq_nil {n : Nat} : dg n = [] ↔ n = 0 := by
  constructor
  · intro h
    have := val_dg n
    rw [h] at this
    exact this.symm
  · rintro rfl; exact dg_zero
theorem dg_head {n : Nat} {d : Int} {l : List Int} (h : dg n = d :: l) : d ≠ 0 := by
  induction n using Nat.strongRecOn generalizing d l with
  | _ n ih =>
    by_cases h0 : n = 0
    · subst h0; rw [dg_zero] at h; cases h
    · rw [dg_pos h0] at h
      cases hx : dg (n / 10) with
      | nil =>
        rw [hx] at h
        have h1 := dg_eq_nil.1 hx
        simp only [List.nil_append, List.cons.injEq] at h
        omega
      | cons x m =>
        rw [hx] at h
        simp only [List.cons_append, List.cons.injEq] at h
        rw [← h.1]
        exact ih (n / 10) (by omega) hx
theorem dg_snoc {n : Nat} {d : Int} (h0 : 0 ≤ d) (h1 : d ≤ 9) (hn : n ≠ 0 ∨ d ≠ 0) : dg (n * 10 + d.toNat) = dg n ++ [d] := by
  rw [dg_pos (by omega), show (n * 10 + d.toNat) / 10 = n by omega, show (n * 10 + d.toNat) % 10 = d.toNat by omega]
  congr 2
  omega
theorem dg_val {l : List Int} (h : Dig l) (hh : ∀ d m, l = d :: m → d ≠ 0) : dg (val l) = l := by
  induction hn : l.length generalizing l with
  | zero => rw [List.eq_nil_of_length_eq_zero hn]; exact dg_zero
  | succ n ih =>
    have hne : l ≠ [] := by intro e; rw [e] at hn; simp at hn
    obtain ⟨m, d, rfl⟩ : ∃ m d, l = m ++ [d] := ⟨l.dropLast, l.getLast hne, (List.dropLast_concat_getLast hne).symm⟩
    have hd := h.right d (List.mem_singleton_self d)
    have hm : dg (val m) = m := ih h.left (fun x t e => hh x (t ++ [d]) (by rw [e]; rfl)) (by simpa using hn)
    rw [val_snoc, dg_snoc hd.1 hd.2, hm]
    cases m with
    | nil => right; exact hh d [] rfl
    | cons x t =>
      left
      intro e
      rw [e, dg_zero] at hm
      cases hm
theorem dg_lead {l : List Int} (h : Dig l) : dg (val l) = l.dropWhile (· == 0) := by
  induction l with
  | nil => exact dg_zero
  | cons d l ih =>
    by_cases hd : d = 0
    · subst hd
      rw [val_cons]
      simpa using ih h.tail
    · rw [List.dropWhile_cons_of_neg (by simpa using hd)]
      exact dg_val h (fun x m e => by injection e with e _; rw [← e]; exact hd)
theorem length_dg_le {n k : Nat} (h : n < 10 ^ k) : (dg n).length ≤ k := by
  induction k generalizing n with
  | zero => have : n = 0 := by simpa using h
            rw [this, dg_zero]; simp
  | succ k ih =>
    by_cases h0 : n = 0
    · rw [h0, dg_zero]; simp
    · rw [dg_pos h0, List.length_append, List.length_singleton]
      have := ih (n := n / 10) (by rw [Nat.pow_succ] at h; omega)
      omega
theorem lt_of_length_dg (n : Nat) : n < 10 ^ (dg n).length := by
  have := val_lt (Dig_dg n)
  rwa [val_dg] at this
theorem length_dg_iff (n k : Nat) : (dg n).length ≤ k ↔ n < 10 ^ k :=
  ⟨fun h => Nat.lt_of_lt_of_le (lt_of_length_dg n) (Nat.pow_le_pow_right (by omega) h), length_dg_le⟩
theorem dg_mul_pow (n k : Nat) : dg (n * 10 ^ k) = if n = 0 then [] else dg n ++ List.replicate k 0 := by
  by_cases h : n = 0
  · subst h; rw [Nat.zero_mul, dg_zero]; rfl
  · rw [if_neg h]
    induction k with
    | zero => simp
    | succ k ih =>
      have hp : 0 < 10 ^ k := Nat.pow_pos (by omega)
      have h1 : n * 10 ^ k ≠ 0 := by
        have := Nat.mul_pos (Nat.pos_of_ne_zero h) hp
        omega
      have h2 : n * 10 ^ (k + 1) = (n * 10 ^ k) * 10 + (0 : Int).toNat := by rw [Nat.pow_succ, ← Nat.mul_assoc]; rfl
      rw [h2, dg_snoc (by omega) (by omega) (.inl h1), ih, List.append_assoc, List.replicate_succ']
end Go.Proofs.YtihjcaglhjepdaaDoor.Q
set_option linter.unusedVariables false
set_option linter.unusedSimpArgs false
namespace Go.Proofs.YtihjcaglhjepdaaDoor.Q
open Go.RowKit Go.Proofs.YtihjcaglhjepdaaDoorW.PrintWords
def S (s : ByteArray) : List Int := s.data.toList.map fun b => (b.toNat : Int)
theorem S_len (s : ByteArray) : (S s).length = s.size := by
  rw [S, List.length_map, Array.length_toList]; rfl
theorem bt_S (s : ByteArray) (i : Int) : bt s i = rd (S s) i := by
  unfold bt rd S
  by_cases h : i.toNat < s.size
  · have h' : i.toNat < s.data.size := h
    rw [dif_pos h, List.getD_eq_getElem?_getD, List.getElem?_map, List.getElem?_eq_getElem (by simpa using h')]
    simp
    rfl
  · have h' : ¬ i.toNat < s.data.size := h
    rw [dif_neg h, List.getD_eq_getElem?_getD, List.getElem?_eq_none (by simpa using h')]
    rfl
theorem S_append (s t : ByteArray) : S (s ++ t) = S s ++ S t := by
  simp [S]
theorem S_extract (s : ByteArray) (a b : Nat) : S (s.extract a b) = ((S s).drop a).take (b - a) := by
  simp only [S, ByteArray.data_extract, Array.toList_extract, List.extract_eq_take_drop, List.map_take, List.map_drop]
theorem S_drop (s : ByteArray) (a : Nat) : S (s.extract a s.size) = (S s).drop a := by
  rw [S_extract]
  apply List.take_of_length_le
  rw [List.length_drop, S_len]
  omega
theorem u8_ofNat (b : UInt8) : UInt8.ofNat ((b.toNat : Int).toNat) = b := by simp
theorem S_back (s : ByteArray) : strOfNums (S s) = s := by
  cases s with
  | mk d =>
    simp only [strOfNums, S, List.map_map, ByteArray.mk.injEq]
    have : (fun n : Int => UInt8.ofNat n.toNat) ∘ (fun b : UInt8 => (b.toNat : Int)) = id := by
      funext b; exact u8_ofNat b
    rw [this]; simp
theorem S_inj {s t : ByteArray} (h : S s = S t) : s = t := by rw [← S_back s, ← S_back t, h]
theorem S_str {l : List Int} (h : ∀ d ∈ l, 0 ≤ d ∧ d ≤ 255) : S (strOfNums l) = l := by
  simp only [S, strOfNums, List.map_map]
  conv => rhs; rw [← List.map_id l]
  apply List.map_congr_left
  intro d hd
  have := h d hd
  simp [UInt8.toNat_ofNat']
  omega
theorem toList_S (s t : ByteArray) : s.toList = t.toList ↔ S s = S t := by
  constructor
  · intro h
    rw [ByteArray.toList_eq, ByteArray.toList_eq] at h
    rw [S, S, h]
  · intro h; rw [S_inj h]
theorem toList_lit (s : ByteArray) (l : List UInt8) : s.toList = l ↔ S s = l.map (fun b => (b.toNat : Int)) := by
  have := toList_S s ⟨l.toArray⟩
  rw [ByteArray.toList_mk l] at this
  rw [this]; simp [S]
theorem toList_nil (s : ByteArray) : s.toList = ([] : List UInt8) ↔ S s = [] := toList_lit s []
theorem beq_lit (s : ByteArray) (l : List UInt8) : (s.toList == l) = decide (S s = l.map (fun b => (b.toNat : Int))) := by
  rw [Bool.eq_iff_iff]; simp [toList_lit]
theorem rd_nat (l : List Int) (i : Nat) : rd l (i : Int) = l.getD i 0 := by simp [rd]
theorem getD_append_left (l m : List Int) (i : Nat) (h : i < l.length) : (l ++ m).getD i 0 = l.getD i 0 := by
  simp [List.getD_eq_getElem?_getD, List.getElem?_append_left h]
theorem getD_append_mid (l : List Int) (d : Int) (m : List Int) : (l ++ d :: m).getD l.length 0 = d := by
  simp [List.getD_eq_getElem?_getD]
theorem set_append_mid (l : List Int) (d e : Int) (m : List Int) : (l ++ d :: m).set l.length e = l ++ e :: m := by
  simp [List.set_append]
theorem wrap64_id {x : Int} (h0 : -9223372036854775808 ≤ x) (h1 : x ≤ 9223372036854775807) : wrap64 x = x := by
  unfold wrap64; omega
def up48 (l : List Int) : List Int := l.map (· + 48)
theorem up48_len (l : List Int) : (up48 l).length = l.length := by simp [up48]
def dn48 (l : List Int) : List Int := l.map (· - 48)
theorem dn48_len (l : List Int) : (dn48 l).length = l.length := by simp [dn48]
theorem dn_up (l : List Int) : dn48 (up48 l) = l := by
  rw [up48, dn48, List.map_map]; conv => rhs; rw [← List.map_id l]
  apply List.map_congr_left; intro d _; show d + 48 - 48 = d; omega
end Go.Proofs.YtihjcaglhjepdaaDoor.Q
set_option linter.unusedVariables false
set_option linter.unusedSimpArgs false
namespace Go.Proofs.YtihjcaglhjepdaaDoorW.PrintWords
theorem Ev.pos {α : Type} {c : Prop} [Decidable c] {A B : Nat → Option α} {r : α} (h : c) (e : Ev A r) : Ev (fun k => if c then A k else B k) r :=
  Ev.congr (fun k => if_pos h) e
theorem Ev.neg {α : Type} {c : Prop} [Decidable c] {A B : Nat → Option α} {r : α} (h : ¬ c) (e : Ev B r) : Ev (fun k => if c then A k else B k) r :=
  Ev.congr (fun k => if_neg h) e
theorem Ev.split {α : Type} {c : Prop} [Decidable c] {A B : Nat → Option α} {r : α} (h : c → Ev A r) (h' : ¬ c → Ev B r) : Ev (fun k => if c then A k else B k) r := by
  by_cases hc : c
  · exact Ev.pos hc (h hc)
  · exact Ev.neg hc (h' hc)
theorem Ev.val {α : Type} {a r : α} (h : a = r) : Ev (fun _ => some a) r := by rw [h]; exact Ev.now r
theorem Ev.bindS {α β : Type} {a : α} {F : Nat → α → Option β} {r : β} (h : Ev (fun k => F k a) r) : Ev (fun k => (some a).bind (F k)) r := h
theorem Ev.bindV {α β : Type} {g : Option α} {a : α} {F : Nat → α → Option β} {r : β} (hg : g = some a) (h : Ev (fun k => F k a) r) : Ev (fun k => g.bind (F k)) r := by
  rw [hg]; exact h
theorem Ev.tail {α : Type} {g : Nat → Option α} {a : α} (h : Ev g a) : Ev (fun k => (g k).bind fun t => some t) a := Ev.bind h (Ev.now a)
theorem Ev.eq {α : Type} {g : Nat → Option α} {a b : α} (h : Ev g a) (e : a = b) : Ev g b := e ▸ h
theorem Ev.up {α : Type} {g : Nat → Option α} {r : α} (k : Ev (fun n => g (n + 1)) r) : Ev g r := Ev.step (fun _ => rfl) k
end Go.Proofs.YtihjcaglhjepdaaDoorW.PrintWords
set_option linter.unusedVariables false
set_option linter.unusedSimpArgs false
namespace Go.Proofs.YtihjcaglhjepdaaDoor.Q
open Go.RowKit Go.Proofs.YtihjcaglhjepdaaDoorW.PrintWords Go.Proofs.YtihjcaglhjepdaaDoor.P
def isD (d : Int) : Bool := decide (48 ≤ d) && decide (d ≤ 57)
def allD (l : List Int) : Bool := l.all isD
def all0 (l : List Int) : Bool := l.all (· == 48)
def fm (neg : Bool) (a b : List Int) : Bool := !a.isEmpty && allD a && allD b && !(decide (1 < a.length) && rd a 0 == 48) && !(neg && (all0 a && all0 b))
def okD (neg : Bool) (a b : List Int) : Bool := decide (a.length + b.length ≤ 40) && fm neg a b
def chk (neg : Bool) (a b : List Int) : Int := if okD neg a b = true then 0 else 20
def Fit (s : ByteArray) : Prop := s.size ≤ 1000000000000000000
theorem all_loop (s : ByteArray) (hs : Fit s) : ∀ rest pre : List Int, S s = pre ++ rest → Ev (fun k => decimal_all.l0 k s (s.size : Int) (pre.length : Int)) (allD rest) := by
  unfold Fit at hs
  intro rest
  induction rest with
  | nil =>
    intro pre h
    have hl : s.size = pre.length := by rw [← S_len, h]; simp
    refine Ev.up (Ev.neg (by omega) (Ev.val rfl))
  | cons d rest ih =>
    intro pre h
    have hl : s.size = pre.length + (rest.length + 1) := by rw [← S_len, h]; simp
    have hb : bt s (pre.length : Int) = d := by rw [bt_S, h, rd_nat, getD_append_mid]
    refine Ev.up (Ev.pos (by omega) (Ev.pos (by omega) (Ev.pos (by omega) ?_)))
    rw [hb]
    refine Ev.split (fun h1 => Ev.val ?_) (fun h1 => Ev.split (fun h2 => Ev.val ?_) (fun h2 => ?_))
    · simp [allD, isD]; omega
    · simp [allD, isD]; omega
    · have h3 := ih (pre ++ [d]) (by rw [h]; simp)
      have h4 : wrap64 ((pre.length : Int) + 1) = ((pre ++ [d]).length : Int) := by rw [wrap64_id (by omega) (by omega)]; simp
      rw [h4]
      refine h3.eq ?_
      have : isD d = true := by simp [isD]; omega
      simp [allD, this]
theorem all_is (s : ByteArray) (hs : Fit s) : Ev (fun k => decimal_all.f k s) (allD (S s)) := all_loop s hs (S s) [] rfl
theorem digits_loop (s : ByteArray) (hs : Fit s) : ∀ rest pre : List Int, S s = pre ++ rest → Ev (fun k => idiomref02_Digits.l0 k s (pre.length : Int)) (allD rest) := by
  unfold Fit at hs
  intro rest
  induction rest with
  | nil =>
    intro pre h
    have hl : s.size = pre.length := by rw [← S_len, h]; simp
    refine Ev.up (Ev.neg (by omega) (Ev.val rfl))
  | cons d rest ih =>
    intro pre h
    have hl : s.size = pre.length + (rest.length + 1) := by rw [← S_len, h]; simp
    have hb : bt s (pre.length : Int) = d := by rw [bt_S, h, rd_nat, getD_append_mid]
    refine Ev.up (Ev.pos (by omega) (Ev.pos (by omega) ?_))
    rw [hb]
    refine Ev.bindV (a := isD d) ?_ ?_
    · unfold idiomref02_Digit.f isD
      by_cases h1 : d ≥ 48
      · simp [h1]
      · have : ¬ 48 ≤ d := h1
        simp [h1, this]
    refine Ev.split (fun h1 => ?_) (fun h1 => Ev.val ?_)
    · have h3 := ih (pre ++ [d]) (by rw [h]; simp)
      have h4 : wrap64 ((pre.length : Int) + 1) = ((pre ++ [d]).length : Int) := by rw [wrap64_id (by omega) (by omega)]; simp
      rw [h4]
      refine h3.eq ?_
      simp [allD, h1]
    · simp [allD, h1]
theorem digits_is (s : ByteArray) (hs : Fit s) : Ev (fun k => idiomref02_Digits.f k s) (allD (S s)) := digits_loop s hs (S s) [] rfl
theorem noughts_loop (s : ByteArray) (hs : Fit s) : ∀ rest pre : List Int, S s = pre ++ rest → Ev (fun k => idiomref02_noughts.l0 k s (pre.length : Int)) (all0 rest) := by
  unfold Fit at hs
  intro rest
  induction rest with
  | nil =>
    intro pre h
    have hl : s.size = pre.length := by rw [← S_len, h]; simp
    refine Ev.up (Ev.neg (by omega) (Ev.val rfl))
  | cons d rest ih =>
    intro pre h
    have hl : s.size = pre.length + (rest.length + 1) := by rw [← S_len, h]; simp
    have hb : bt s (pre.length : Int) = d := by rw [bt_S, h, rd_nat, getD_append_mid]
    refine Ev.up (Ev.pos (by omega) (Ev.pos (by omega) ?_))
    rw [hb]
    refine Ev.split (fun h1 => ?_) (fun h1 => Ev.val ?_)
    · have h3 := ih (pre ++ [d]) (by rw [h]; simp)
      have h4 : wrap64 ((pre.length : Int) + 1) = ((pre ++ [d]).length : Int) := by rw [wrap64_id (by omega) (by omega)]; simp
      rw [h4]
      refine h3.eq ?_
      simp [all0, h1]
    · simp [all0, h1]
theorem noughts_is (s : ByteArray) (hs : Fit s) : Ev (fun k => idiomref02_noughts.f k s) (all0 (S s)) := noughts_loop s hs (S s) [] rfl
theorem nought_is (n : Bool) (a b : ByteArray) (ha : Fit a) (hb : Fit b) : Ev (fun k => idiomref02_Nought.f k n a b) (all0 (S a) && all0 (S b)) := by
  refine Ev.bind (noughts_is a ha) (Ev.split (fun h => ?_) (fun h => Ev.val ?_))
  · rw [h]; exact (noughts_is b hb).tail
  · simp at h; simp [h]
def ltrim (l : List Int) : List Int := l.dropWhile (· == 48)
def rtrim (l : List Int) : List Int := (l.reverse.dropWhile (· == 48)).reverse
theorem ltrim_len (l : List Int) : (ltrim l).length ≤ l.length := by
  rw [ltrim, ← List.length_reverse]
  have := (List.dropWhile_suffix (l := l) (fun d : Int => d == 48)).length_le
  simpa using this
theorem ltrim_nil (l : List Int) : ltrim l = [] ↔ all0 l = true := by
  unfold ltrim all0
  induction l with
  | nil => simp
  | cons d l ih =>
    rw [List.dropWhile_cons]
    by_cases h : d = 48
    · simpa [h] using ih
    · simp [h]
theorem all0_ltrim (l : List Int) : all0 (ltrim l) = all0 l := by
  induction l with
  | nil => rfl
  | cons d l ih =>
    simp only [ltrim, List.dropWhile_cons]
    by_cases h : d = 48
    · simpa [h, all0, ltrim] using ih
    · simp [h]
theorem all0_rtrim (l : List Int) : all0 (rtrim l) = all0 l := by
  have h1 : all0 (rtrim l) = all0 (ltrim l.reverse) := by simp [all0, rtrim, ltrim]
  rw [h1, all0_ltrim]; simp [all0]
theorem trimLeft_is : ∀ (n : Nat) (s : ByteArray), s.size = n → Fit s → ∃ t, Ev (fun k => strings_trimLeftByte.f k s 48) t ∧ S t = ltrim (S s) := by
  intro n
  induction n with
  | zero =>
    intro s h _
    have h0 : S s = [] := List.eq_nil_of_length_eq_zero (by rw [S_len]; exact h)
    exact ⟨s, Ev.up (Ev.neg (by omega) (Ev.val rfl)), by rw [h0]; rfl⟩
  | succ n ih =>
    intro s h hf
    obtain ⟨d, m, e⟩ : ∃ d m, S s = d :: m := by
      cases he : S s with
      | nil => have := S_len s; rw [he] at this; simp at this; omega
      | cons d m => exact ⟨d, m, rfl⟩
    have hb : bt s 0 = d := by rw [bt_S, e]; rfl
    by_cases h1 : d = 48
    · have h2 : S (s.extract 1 s.size) = m := by rw [S_drop, e]; rfl
      have h3 : (s.extract 1 s.size).size = n := by rw [← S_len, h2]; have := S_len s; rw [e] at this; simp at this; omega
      obtain ⟨t, ht, hs⟩ := ih _ h3 (by unfold Fit at *; omega)
      refine ⟨t, Ev.up (Ev.pos (by omega) (Ev.pos (by omega) (Ev.pos (by rw [hb]; exact h1) (Ev.pos (by omega) ht)))), ?_⟩
      rw [hs, h2, e, ltrim, ltrim, List.dropWhile_cons]; simp [h1]
    · refine ⟨s, Ev.up (Ev.pos (by omega) (Ev.pos (by omega) (Ev.neg (by rw [hb]; exact h1) (Ev.val rfl)))), ?_⟩
      rw [e, ltrim, List.dropWhile_cons]; simp [h1]
theorem trim_nil_bytes (s : ByteArray) (h : s.toList = ([] : List UInt8)) : S s = [] := (toList_nil s).1 h
theorem size48 : (((⟨#[48]⟩ : ByteArray).size : Nat) : Int) = 1 := by decide
theorem bt48 : bt (⟨#[48]⟩ : ByteArray) 0 = 48 := by decide
theorem ne48 : ((⟨#[48]⟩ : ByteArray).toList == ([] : List UInt8)) = false := by rw [beq_lit]; rfl
theorem TrimLeft_go (s z : ByteArray) (hz : (z.size : Int) = 1) (hb : bt z 0 = 48) (hn : (z.toList == ([] : List UInt8)) = false) (h : ¬ s.toList = ([] : List UInt8))
    {t : ByteArray} (ht : Ev (fun k => strings_trimLeftByte.f k s 48) t) : Ev (fun k => strings_TrimLeft.f k s z) t := by
  have j1 : ∀ x : Bool, x = true → Ev (fun k => strings_TrimLeft.j1 k s z x) t := by
    intro x hx
    refine Ev.up (Ev.pos hx (Ev.pos (by omega) ?_))
    rw [hb]
    exact ht.tail
  have j0 : ∀ x : Bool, x = false → Ev (fun k => strings_TrimLeft.j0 k s z x) t := by
    intro x hx
    exact Ev.up (Ev.neg (by rw [hx]; exact Bool.false_ne_true) (Ev.pos hz (Ev.pos (by omega) (j1 _ (by rw [hb]; rfl)))))
  exact Ev.neg h (j0 _ hn)
theorem TrimLeft_none (s z : ByteArray) (h : s.toList = ([] : List UInt8)) : Ev (fun k => strings_TrimLeft.f k s z) s := by
  have j0 : ∀ x : Bool, x = true → Ev (fun k => strings_TrimLeft.j0 k s z x) s := fun x hx => Ev.up (Ev.pos hx (Ev.val rfl))
  exact Ev.pos h (j0 _ rfl)
theorem TrimLeft_is (s : ByteArray) (hs : Fit s) : ∃ t, Ev (fun k => strings_TrimLeft.f k s (⟨#[48]⟩ : ByteArray)) t ∧ S t = ltrim (S s) := by
  obtain ⟨t, ht, e⟩ := trimLeft_is _ s rfl hs
  by_cases h : s.toList = ([] : List UInt8)
  · exact ⟨s, TrimLeft_none s _ h, by rw [trim_nil_bytes s h]; rfl⟩
  · exact ⟨t, TrimLeft_go s _ size48 bt48 ne48 h ht, e⟩
theorem any48 (b : UInt8) : ([(48 : UInt8)].contains b) = ((b.toNat : Int) == 48) := by
  rw [Lib.contains_one, Bool.eq_iff_iff, beq_iff_eq, beq_iff_eq]
  constructor
  · rintro rfl; rfl
  · intro h
    have h1 : b.toNat = 48 := by omega
    exact UInt8.toNat_inj.1 h1
theorem map_dropW (l : List UInt8) : (l.dropWhile ([(48 : UInt8)].contains ·)).map (fun b => (b.toNat : Int)) = (l.map (fun b => (b.toNat : Int))).dropWhile (· == 48) := by
  induction l with
  | nil => rfl
  | cons b l ih =>
    rw [List.dropWhile_cons, List.map_cons, List.dropWhile_cons, any48]
    by_cases h : ((b.toNat : Int) == 48) = true
    · rw [if_pos h, if_pos h, ih]
    · rw [if_neg h, if_neg h, List.map_cons]
theorem Trim_is (s : ByteArray) (hs : Fit s) : ∃ t, strings_Trim.f s (⟨#[48]⟩ : ByteArray) = some t ∧ S t = ltrim (rtrim (S s)) := by
  unfold Fit at hs
  unfold strings_Trim.f
  rw [if_pos ⟨by omega, by decide, by decide⟩]
  refine ⟨_, rfl, ?_⟩
  show (Lib.trimS s.data.toList [(48 : UInt8)]).map (fun b => (b.toNat : Int)) = _
  unfold Lib.trimS Lib.trimLeftS Lib.trimRightS ltrim rtrim S
  rw [map_dropW, List.map_reverse, map_dropW, List.map_reverse]
theorem trim_nil (l : List Int) : ltrim (rtrim l) = [] ↔ all0 l = true := by rw [ltrim_nil, all0_rtrim]
theorem isEmpty_false {l : List Int} (h : l ≠ []) : l.isEmpty = false := by cases l with
  | nil => exact absurd rfl h
  | cons => rfl
theorem form_is (n : Bool) (a b : ByteArray) (ha : Fit a) (hb : Fit b) : Ev (fun k => decimal_form.f k n a b) (fm n (S a) (S b)) := by
  have hl := S_len a
  have key : ∀ x : Bool, (x = false → (!(S a).isEmpty && allD (S a) && allD (S b) && !(decide (1 < (S a).length) && rd (S a) 0 == 48)) = true) →
      (x = true → (!(S a).isEmpty && allD (S a) && allD (S b) && !(decide (1 < (S a).length) && rd (S a) 0 == 48)) = false) →
      Ev (fun k => decimal_form.j0 k x n a b) (fm n (S a) (S b)) := by
    intro x h0 h1
    unfold fm
    refine Ev.up (Ev.split (fun hx => Ev.val ?_) (fun hx => ?_))
    · rw [h1 hx]; rfl
    · rw [h0 (by simpa using hx), Bool.true_and]
      refine Ev.split (fun hn => ?_) (fun hn => Ev.val ?_)
      · obtain ⟨t, ht, et⟩ := Trim_is a ha
        obtain ⟨u, hu, eu⟩ := Trim_is b hb
        refine Ev.bindV ht (Ev.split (fun h => ?_) (fun h => Ev.val ?_))
        · rw [toList_nil, et, trim_nil] at h
          refine Ev.bindV hu (Ev.val ?_)
          rw [hn, h, Bool.eq_iff_iff]
          simp [toList_nil, eu, trim_nil]
        · rw [toList_nil, et, trim_nil] at h
          simp at h; simp [h]
      · simp at hn; simp [hn]
  refine Ev.split (fun h => key true (by simp) (fun _ => ?_)) (fun h => ?_)
  · rw [toList_nil] at h; simp [h]
  · rw [toList_nil] at h
    have hne : (S a).isEmpty = false := isEmpty_false h
    have hp : 0 < (S a).length := List.length_pos_iff.2 h
    refine Ev.bind (all_is a ha) (Ev.split (fun h1 => ?_) (fun h1 => key true (by simp) (fun _ => by simp at h1; simp [h1])))
    refine Ev.bind (all_is b hb) (Ev.split (fun h2 => ?_) (fun h2 => key true (by simp) (fun _ => by simp at h2; simp [h2])))
    refine Ev.split (fun h3 => Ev.pos (by omega) (key _ ?_ ?_)) (fun h3 => key _ ?_ ?_)
    · intro h4
      rw [bt_S] at h4
      simp [hne, h1, h2, h4]
    · intro h4
      rw [bt_S] at h4
      have : 1 < (S a).length := by omega
      simp [h4, this]
    · intro _
      have : ¬ 1 < (S a).length := by omega
      simp [hne, h1, h2, this]
    · simp
theorem Check_is (n : Bool) (a b : ByteArray) (ha : Fit a) (hb : Fit b) : Ev (fun k => decimal_Check.f k n a b) (chk n (S a) (S b)) := by
  have hl := S_len a
  have hl' := S_len b
  unfold chk okD Fit at *
  refine Ev.split (fun h => Ev.val ?_) (fun h => ?_)
  · have : ¬ (S a).length + (S b).length ≤ 40 := by omega
    simp [this]
  · have hw : wrap64 (40 - (a.size : Int)) = 40 - (a.size : Int) := wrap64_id (by omega) (by omega)
    rw [hw]
    refine Ev.split (fun h1 => Ev.val ?_) (fun h1 => ?_)
    · have : ¬ (S a).length + (S b).length ≤ 40 := by omega
      simp [this]
    · have : (S a).length + (S b).length ≤ 40 := by omega
      refine Ev.bind (form_is n a b ha hb) (Ev.split (fun h2 => Ev.val ?_) (fun h2 => Ev.val ?_))
      · simp [this, h2]
      · simp [h2]
theorem refCheck_is (n : Bool) (a b : ByteArray) (ha : Fit a) (hb : Fit b) : Ev (fun k => idiomref02_Check.f k n a b) (chk n (S a) (S b)) := by
  have hl := S_len a
  have hl' := S_len b
  have ha' := ha
  have hb' := hb
  unfold Fit at ha' hb'
  have bad : ∀ x : Bool, x = true → chk n (S a) (S b) = 20 → Ev (fun k => idiomref02_Check.j0 k x n a b) (chk n (S a) (S b)) := by
    intro x hx h
    rw [h]
    exact Ev.up (Ev.pos hx (Ev.val rfl))
  have big : ¬ (S a).length + (S b).length ≤ 40 → chk n (S a) (S b) = 20 := by
    intro h; simp [chk, okD, h]
  refine Ev.split (fun h => bad _ rfl ?_) (fun h => Ev.split (fun h1 => bad _ rfl (big (by omega))) (fun h1 => Ev.split (fun h2 => bad _ rfl (big (by omega))) (fun h2 => ?_)))
  · have : S a = [] := List.eq_nil_of_length_eq_zero (by omega)
    simp [chk, okD, fm, this]
  · have hw : wrap64 ((a.size : Int) + (b.size : Int)) = (a.size : Int) + (b.size : Int) := wrap64_id (by omega) (by omega)
    rw [hw]
    by_cases h3 : (a.size : Int) + (b.size : Int) > 40
    · exact bad _ (by simpa using h3) (big (by omega))
    have h3' : (S a).length + (S b).length ≤ 40 := by omega
    have hne : (S a).isEmpty = false := by
      cases he : S a with
      | nil => rw [he] at hl; simp at hl; omega
      | cons => rfl
    refine Ev.up (Ev.neg (by simpa using h3) ?_)
    refine Ev.bind (digits_is a ha) (Ev.split (fun h4 => ?_) (fun h4 => Ev.val ?_))
    · refine Ev.bind (digits_is b hb) (Ev.split (fun h5 => ?_) (fun h5 => Ev.val ?_))
      · have tl : (¬ (decide (1 < (S a).length) && rd (S a) 0 == 48) = true) → Ev (fun k => if n = true then (idiomref02_Nought.f k n a b).bind fun t => if t = true then some 20 else some 0 else some 0) (chk n (S a) (S b)) := by
          intro h6
          simp only [Bool.not_eq_true] at h6
          refine Ev.split (fun h7 => Ev.bind (nought_is n a b ha hb) (Ev.split (fun h8 => Ev.val ?_) (fun h8 => Ev.val ?_))) (fun h7 => Ev.val ?_)
          · simp only [chk, okD, fm, h7, h8]; simp
          · simp only [Bool.not_eq_true] at h8
            simp only [chk, okD, fm, h7, h8, h4, h5, h6, hne, h3']; simp
          · simp only [Bool.not_eq_true] at h7
            simp only [chk, okD, fm, h7, h4, h5, h6, hne, h3']; simp
        refine Ev.pos (by omega) ?_
        rw [bt_S]
        refine Ev.split (fun h6 => Ev.split (fun h7 => Ev.val ?_) (fun h7 => tl ?_)) (fun h6 => tl ?_)
        · have h8 : 1 < (S a).length := by omega
          simp [chk, okD, fm, h6, h8]
        · have h8 : ¬ 1 < (S a).length := by omega
          simp [h8]
        · simp [h6]
      · simp only [Bool.not_eq_true] at h5
        simp [chk, okD, fm, h5]
    · simp only [Bool.not_eq_true] at h4
      simp [chk, okD, fm, h4]
end Go.Proofs.YtihjcaglhjepdaaDoor.Q
set_option linter.unusedVariables false
set_option linter.unusedSimpArgs false
namespace Go.Proofs.YtihjcaglhjepdaaDoor.Q
open Go.RowKit Go.Proofs.YtihjcaglhjepdaaDoorW.PrintWords Go.Proofs.YtihjcaglhjepdaaDoor.P
theorem lead_is : ∀ (l : List Int), Dig l → l.length ≤ 1000000000000000000 → Ev (fun k => decimal_digits_lead.f k l) (dg (val l)) := by
  intro l
  induction l with
  | nil =>
    intro _ _
    exact Ev.up (Ev.val (by rw [val_nil, dg_zero]))
  | cons d l ih =>
    intro h hl
    simp only [List.length_cons] at hl
    have hr : rd (d :: l) 0 = d := rfl
    by_cases hd : d = 0
    · have h2 := ih h.tail (by omega)
      have e : val (d :: l) = val l := by rw [val_cons, hd]; simp
      rw [e]
      exact Ev.up (Ev.pos (by simp) (Ev.pos (by simp) (Ev.pos (by rw [hr]; exact hd) (Ev.pos (by simp; omega) h2))))
    · refine Ev.up (Ev.pos (by simp) (Ev.pos (by simp) (Ev.neg (by rw [hr]; exact hd) (Ev.val ?_))))
      rw [dg_lead h, List.dropWhile_cons, if_neg (by simpa using hd)]
theorem dn48_ltrim (l : List Int) : dn48 (ltrim l) = (dn48 l).dropWhile (· == 0) := by
  induction l with
  | nil => rfl
  | cons d l ih =>
    unfold ltrim at *
    rw [List.dropWhile_cons]
    by_cases h : d = 48
    · rw [if_pos (by simpa using h), ih]
      show _ = List.dropWhile (· == 0) ((d - 48) :: dn48 l)
      rw [List.dropWhile_cons, if_pos (by simp; omega)]
    · rw [if_neg (by simpa using h)]
      show _ = List.dropWhile (· == 0) ((d - 48) :: dn48 l)
      rw [List.dropWhile_cons, if_neg (by simp; omega)]
      rfl
theorem allD_dig {l : List Int} (h : allD l = true) : Dig (dn48 l) := by
  intro d hd
  obtain ⟨x, hx, rfl⟩ := List.mem_map.1 hd
  have := List.all_eq_true.1 h x hx
  simp [isD] at this
  omega
theorem allD_ltrim {l : List Int} (h : allD l = true) : allD (ltrim l) = true := by
  rw [allD, List.all_eq_true] at *
  intro d hd
  exact h d ((List.dropWhile_suffix _).subset hd)
theorem set_mid_zero (l : List Int) (v : Int) (n : Nat) : (l ++ List.replicate (n + 1) 0).set l.length v = (l ++ [v]) ++ List.replicate n 0 := by
  rw [List.replicate_succ, set_append_mid]; simp
theorem of_loop (s : ByteArray) (hs : Fit s) (hd : allD (S s) = true) : ∀ rest pre : List Int, S s = pre ++ rest →
    Ev (fun k => decimal_of.l0 k s (dn48 pre ++ List.replicate rest.length 0) (s.size : Int) (pre.length : Int)) (dn48 (S s)) := by
  unfold Fit at hs
  intro rest
  induction rest with
  | nil =>
    intro pre h
    have hl : s.size = pre.length := by rw [← S_len, h]; simp
    exact Ev.up (Ev.neg (by omega) (Ev.val (by rw [h]; simp)))
  | cons d rest ih =>
    intro pre h
    have hl : s.size = pre.length + (rest.length + 1) := by rw [← S_len, h]; simp
    have hb : bt s (pre.length : Int) = d := by rw [bt_S, h, rd_nat, getD_append_mid]
    have h3 := ih (pre ++ [d]) (by rw [h]; simp)
    have h4 : wrap64 ((pre.length : Int) + 1) = ((pre ++ [d]).length : Int) := by rw [wrap64_id (by omega) (by omega)]; simp
    have hdd : 48 ≤ d ∧ d ≤ 57 := by
      have := List.all_eq_true.1 hd d (by rw [h]; simp)
      simpa [isD] using this
    refine Ev.up (Ev.pos (by omega) (Ev.pos (by omega) (Ev.pos (by omega) (Ev.pos (by simp [dn48]; omega) ?_))))
    rw [hb, h4]
    have e : (dn48 pre ++ List.replicate (d :: rest).length 0).set (pre.length : Int).toNat ((d - 48) % 256) = dn48 (pre ++ [d]) ++ List.replicate rest.length 0 := by
      have : (pre.length : Int).toNat = (dn48 pre).length := by simp [dn48]
      rw [this, List.length_cons, set_mid_zero]
      have : (d - 48) % 256 = d - 48 := by omega
      rw [this]; simp [dn48]
    rw [e]
    exact h3
theorem of_is (s : ByteArray) (hs : s.size ≤ 100000) (hd : allD (S s) = true) : Ev (fun k => decimal_of.f k s) (dg (val (dn48 (S s)))) := by
  obtain ⟨t, ht, et⟩ := TrimLeft_is s (by unfold Fit; omega)
  have hl : t.size ≤ s.size := by rw [← S_len, ← S_len, et]; exact ltrim_len _
  have h1 : allD (S t) = true := by rw [et]; exact allD_ltrim hd
  have h2 := of_loop t (by unfold Fit; omega) h1 (S t) [] rfl
  have e : dn48 (S t) = dg (val (dn48 (S s))) := by rw [et, dn48_ltrim, dg_lead (allD_dig hd)]
  rw [← e]
  refine Ev.bind ht (Ev.pos (by omega) (Ev.pos (by omega) ?_))
  have e2 : ((t.size : Int)).toNat = (S t).length := by rw [S_len]; simp
  rw [e2]
  exact h2
theorem up_is (n c : Nat) (hn : (dg n).length ≤ 100000) (hc : c ≤ 100000) : decimal_digits_up.f (dg n) (c : Int) = some (dg (n * 10 ^ c)) := by
  unfold decimal_digits_up.f
  by_cases h : n = 0
  · subst h; simp [dg_zero]
  · have hl : (dg n).length ≠ 0 := by
      intro e; exact h (dg_eq_nil.1 (List.eq_nil_of_length_eq_zero e))
    have hw : wrap64 (((dg n).length : Int) + (c : Int)) = (((dg n).length + c : Nat) : Int) := by rw [wrap64_id (by omega) (by omega)]; omega
    rw [if_neg (by omega), hw, if_pos (by omega), if_pos (by omega), dg_mul_pow, if_neg h]
    have : (((dg n).length + c : Nat) : Int).toNat = (dg n).length + c := by omega
    rw [this]
    congr 1
    unfold copyAt
    rw [List.take_zero, List.nil_append, List.length_replicate]
    have h1 : min (dg n).length ((dg n).length + c - 0) = (dg n).length := by omega
    rw [h1, List.take_of_length_le (by omega), Nat.zero_add, List.drop_replicate]
    have : (dg n).length + c - (dg n).length = c := by omega
    rw [this]
def sgnc (m n : Nat) : Int := if m < n then -1 else if m = n then 0 else 1
theorem cmp_loop : ∀ (x y p : List Int) , Dig x → Dig y → x.length = y.length → p.length + x.length ≤ 100000 →
    Ev (fun k => decimal_digits_cmp.l0 k (p ++ x) (p ++ y) ((p ++ x).length : Int) (p.length : Int)) (sgnc (val x) (val y)) := by
  intro x
  induction x with
  | nil =>
    intro y p _ _ h _
    have : y = [] := List.eq_nil_of_length_eq_zero h.symm
    subst this
    exact Ev.up (Ev.neg (by simp) (Ev.val (by simp [sgnc])))
  | cons a x ih =>
    intro y p hx hy h hl
    cases y with
    | nil => simp at h
    | cons b y =>
      have h' : x.length = y.length := by simpa using h
      simp only [List.length_cons] at hl
      have ha : rd (p ++ a :: x) (p.length : Int) = a := by rw [rd_nat, getD_append_mid]
      have hb : rd (p ++ b :: y) (p.length : Int) = b := by rw [rd_nat, getD_append_mid]
      have vx := val_lt hx.tail
      have vy := val_lt hy.tail
      have a9 := hx.head
      have b9 := hy.head
      rw [h'] at vx
      refine Ev.up (Ev.pos (by simp; omega) (Ev.pos (by omega) (Ev.pos (by simp; omega) (Ev.pos (by simp; omega) ?_))))
      rw [ha, hb]
      refine Ev.split (fun e => ?_) (fun e => Ev.split (fun e2 => Ev.val ?_) (fun e2 => Ev.val ?_))
      · subst e
        have h3 := ih y (p ++ [a]) hx.tail hy.tail h' (by simp; omega)
        have h4 : wrap64 ((p.length : Int) + 1) = ((p ++ [a]).length : Int) := by rw [wrap64_id (by omega) (by omega)]; simp
        rw [h4]
        have e3 : sgnc (val (a :: x)) (val (a :: y)) = sgnc (val x) (val y) := by
          rw [val_cons, val_cons, h']
          unfold sgnc
          by_cases c1 : val x < val y
          · rw [if_pos c1, if_pos (by omega)]
          · rw [if_neg c1, if_neg (by omega)]
            by_cases c2 : val x = val y
            · rw [if_pos c2, if_pos (by omega)]
            · rw [if_neg c2, if_neg (by omega)]
        rw [e3]
        simpa using h3
      · have h5 : (a.toNat + 1) * 10 ^ y.length ≤ b.toNat * 10 ^ y.length := Nat.mul_le_mul_right _ (by omega)
        rw [Nat.add_mul] at h5
        rw [sgnc, if_pos (by rw [val_cons, val_cons, h']; omega)]
      · have h5 : (b.toNat + 1) * 10 ^ y.length ≤ a.toNat * 10 ^ y.length := Nat.mul_le_mul_right _ (by omega)
        rw [Nat.add_mul] at h5
        rw [sgnc, if_neg (by rw [val_cons, val_cons, h']; omega), if_neg (by rw [val_cons, val_cons, h']; omega)]
theorem length_lt_of {m n : Nat} (h : (dg m).length < (dg n).length) : m < n := by
  rcases Nat.lt_or_ge m n with h1 | h1
  · exact h1
  · have h2 : n < 10 ^ (dg m).length := Nat.lt_of_le_of_lt h1 (lt_of_length_dg m)
    have := (length_dg_iff n (dg m).length).2 h2
    omega
theorem cmp_is (m n : Nat) (hm : (dg m).length ≤ 100000) (hn : (dg n).length ≤ 100000) : Ev (fun k => decimal_digits_cmp.f k (dg m) (dg n)) (sgnc m n) := by
  refine Ev.split (fun h => ?_) (fun h => Ev.split (fun h1 => Ev.val ?_) (fun h1 => Ev.val ?_))
  · have := cmp_loop (dg m) (dg n) [] (Dig_dg m) (Dig_dg n) (by omega) (by simpa using hm)
    rw [val_dg, val_dg] at this
    exact this
  · have := length_lt_of (m := m) (n := n) (by omega)
    rw [sgnc, if_pos this]
  · have := length_lt_of (m := n) (n := m) (by omega)
    rw [sgnc, if_neg (by omega), if_neg (by omega)]
end Go.Proofs.YtihjcaglhjepdaaDoor.Q
set_option linter.unusedVariables false
set_option linter.unusedSimpArgs false
namespace Go.Proofs.YtihjcaglhjepdaaDoor.Q
open Go.RowKit Go.Proofs.YtihjcaglhjepdaaDoorW.PrintWords Go.Proofs.YtihjcaglhjepdaaDoor.P
def padL (w : Nat) (l : List Int) : List Int := List.replicate (w - l.length) 0 ++ l
theorem padL_len (w : Nat) (l : List Int) (h : l.length ≤ w) : (padL w l).length = w := by simp [padL]; omega
theorem val_padL (w : Nat) (l : List Int) : val (padL w l) = val l := by rw [padL, val_append, val_zeros]; simp
theorem Dig_padL (w : Nat) {l : List Int} (h : Dig l) : Dig (padL w l) := (Dig.zeros _).append h
theorem getD_append_right (l m : List Int) (i : Nat) : (l ++ m).getD (l.length + i) 0 = m.getD i 0 := by
  simp [List.getD_eq_getElem?_getD, List.getElem?_append_right]
theorem padL_at {w : Nat} {l B P : List Int} {y : Int} (hl : l.length ≤ w) (e : padL w l = B ++ y :: P) :
    (P.length < l.length → rd l ((l.length - 1 - P.length : Nat) : Int) = y) ∧ (l.length ≤ P.length → y = 0) := by
  have hw : w = B.length + (P.length + 1) := by rw [← padL_len w l hl, e]; simp
  have hy : (padL w l).getD B.length 0 = y := by rw [e, getD_append_mid]
  constructor
  · intro h
    have : B.length = (List.replicate (w - l.length) (0 : Int)).length + (l.length - 1 - P.length) := by simp; omega
    rw [padL, this, getD_append_right] at hy
    rw [rd_nat]; exact hy
  · intro h
    rw [padL, getD_append_left _ _ _ (by simp; omega)] at hy
    have hlt : B.length < w - l.length := by omega
    rw [List.getD_eq_getElem?_getD, List.getElem?_replicate, if_pos hlt] at hy
    exact hy.symm
theorem snoc_cases (l : List Int) (h : l ≠ []) : ∃ m d, l = m ++ [d] := ⟨l.dropLast, l.getLast h, (List.dropLast_concat_getLast h).symm⟩
theorem plus_loop (Y : List Int) (w : Nat) (hY : Dig Y) (hYw : Y.length ≤ w) (hw : w ≤ 100000) : ∀ (n : Nat) (A B P X' lo : List Int) (c : Int), A.length = n → B.length = n → padL w Y = B ++ P → n + P.length = w → lo.length = P.length →
    Dig A → Dig lo → X'.length = P.length → 0 ≤ c → c ≤ 1 → val lo + c.toNat * 10 ^ lo.length = val X' + val P →
    Ev (fun k => decimal_digits_plus.l0 k Y (0 :: (A ++ lo)) c (w : Int) (P.length : Int)) (dg (val (A ++ X') + val Y)) := by
  intro n
  induction n with
  | zero =>
    intro A B P X' lo c hA hB e hP hlo dA dlo hX c0 c1 hv
    have hA' : A = [] := List.eq_nil_of_length_eq_zero hA
    have hB' : B = [] := List.eq_nil_of_length_eq_zero hB
    subst hA' hB'
    refine Ev.up (Ev.neg (by omega) (Ev.pos (by simp) ?_))
    have hd : Dig (c :: lo) := Dig.cons c0 (by omega) dlo
    have := lead_is (c :: lo) hd (by simp; omega)
    have ev : val (c :: lo) = val ([] ++ X') + val Y := by
      rw [val_cons, List.nil_append, ← val_padL w Y, e, List.nil_append]; omega
    rw [← ev]
    exact this.tail
  | succ n ih =>
    intro A B P X' lo c hA hB e hP hlo dA dlo hX c0 c1 hv
    obtain ⟨A0, x, rfl⟩ := snoc_cases A (by intro h; rw [h] at hA; simp at hA)
    obtain ⟨B0, y, rfl⟩ := snoc_cases B (by intro h; rw [h] at hB; simp at hB)
    have hA0 : A0.length = n := by simpa using hA
    have hB0 : B0.length = n := by simpa using hB
    have dP := Dig_padL w hY
    have e' : padL w Y = B0 ++ y :: P := by rw [e]; simp
    obtain ⟨pa, pb⟩ := padL_at hYw e'
    have hy : 0 ≤ y ∧ y ≤ 9 := by
      rw [e'] at dP
      exact dP y (by simp)
    have hx : 0 ≤ x ∧ x ≤ 9 := dA x (by simp)
    have hl5 : (0 :: (A0 ++ [x] ++ lo)).length = w + 1 := by simp; omega
    have hj : wrap64 (wrap64 (((0 :: (A0 ++ [x] ++ lo)).length : Int) - 1) - (P.length : Int)) = ((n + 1 : Nat) : Int) := by
      rw [hl5, wrap64_id (x := ((w + 1 : Nat) : Int) - 1) (by omega) (by omega), wrap64_id (by omega) (by omega)]; omega
    have hrd : rd (0 :: (A0 ++ [x] ++ lo)) ((n + 1 : Nat) : Int) = x := by
      rw [rd_nat]
      have : (0 :: (A0 ++ [x] ++ lo) : List Int) = (0 :: A0) ++ x :: lo := by simp
      rw [this, ← hA0]
      exact getD_append_mid (0 :: A0) x lo
    have hset : ∀ v, (0 :: (A0 ++ [x] ++ lo) : List Int).set (n + 1) v = 0 :: (A0 ++ v :: lo) := by
      intro v
      have : (0 :: (A0 ++ [x] ++ lo) : List Int) = (0 :: A0) ++ x :: lo := by simp
      rw [this, ← hA0]
      exact set_append_mid (0 :: A0) x v lo
    have hi : wrap64 ((P.length : Int) + 1) = (((y :: P).length : Nat) : Int) := by rw [wrap64_id (by omega) (by omega)]; simp
    -- one digit more
    have step : ∀ (v q : Int), v = (x + c + y) % 10 → q = (x + c + y) / 10 →
        Ev (fun k => decimal_digits_plus.l0 k Y (0 :: (A0 ++ v :: lo)) q (w : Int) ((y :: P).length : Int)) (dg (val (A0 ++ [x] ++ X') + val Y)) := by
      intro v q hv' hq
      have h3 := ih A0 B0 (y :: P) (x :: X') (v :: lo) q hA0 hB0 e' (by simp; omega) (by simp [hlo]) (fun d hd => dA d (by simp [hd]))
        (Dig.cons (by omega) (by omega) dlo) (by simp [hX]) (by omega) (by omega) (by
          rw [val_cons, val_cons, val_cons, List.length_cons, hX, Nat.pow_succ]
          rw [hlo] at hv ⊢
          have hvn : v.toNat + q.toNat * 10 = x.toNat + c.toNat + y.toNat := by omega
          have : q.toNat * (10 ^ P.length * 10) = (q.toNat * 10) * 10 ^ P.length := by rw [Nat.mul_comm (10 ^ P.length) 10, Nat.mul_assoc]
          rw [this]
          have h2 : (v.toNat + q.toNat * 10) * 10 ^ P.length = (x.toNat + c.toNat + y.toNat) * 10 ^ P.length := by rw [hvn]
          rw [Nat.add_mul, Nat.add_mul, Nat.add_mul] at h2
          omega)
      have : A0 ++ [x] ++ X' = A0 ++ x :: X' := by simp
      rw [this]
      exact h3
    refine Ev.up (Ev.pos (by omega) ?_)
    rw [hj, hrd, hi]
    have hn1 : ((n + 1 : Nat) : Int).toNat = n + 1 := by omega
    rw [hn1]
    refine Ev.pos (by omega) (Ev.pos (by rw [hl5]; omega) (Ev.split (fun h => ?_) (fun h => ?_)))
    · have hlt : P.length < Y.length := by omega
      have hj2 : wrap64 (wrap64 ((Y.length : Int) - 1) - (P.length : Int)) = ((Y.length - 1 - P.length : Nat) : Int) := by
        rw [wrap64_id (x := (Y.length : Int) - 1) (by omega) (by omega), wrap64_id (by omega) (by omega)]; omega
      rw [hj2, pa hlt]
      refine Ev.pos (by omega) (Ev.pos (by omega) ?_)
      rw [hset]
      exact step _ _ (by omega) (by omega)
    · have hy0 := pb (by omega)
      rw [hset]
      exact step _ _ (by omega) (by omega)
theorem plus_j0 (X Y : List Int) (hX : Dig X) (hY : Dig Y) (h : Y.length ≤ X.length) (hl : X.length ≤ 100000) :
    Ev (fun k => decimal_digits_plus.j0 k X Y) (dg (val X + val Y)) := by
  have hw : wrap64 ((X.length : Int) + 1) = ((X.length + 1 : Nat) : Int) := by rw [wrap64_id (by omega) (by omega)]; omega
  have hc : copyAt 1 (List.replicate (X.length + 1) (0 : Int)) X = 0 :: (X ++ []) := by
    rw [List.replicate_succ, copyAt]
    simp
    omega
  have hn1 : ((X.length + 1 : Nat) : Int).toNat = X.length + 1 := by omega
  refine Ev.up (Ev.pos (by rw [hw]; omega) (Ev.pos (by rw [hw, hn1]; omega) ?_))
  rw [hw, hn1]
  refine Ev.bindS (Ev.pos (by simp; omega) ?_)
  rw [hc]
  have := plus_loop Y X.length hY h hl X.length X (padL X.length Y) [] [] [] 0 rfl (padL_len _ _ h) (by simp) (by simp) rfl hX Dig.nil rfl (by omega) (by omega) (by simp [val])
  simpa using this
theorem plus_is (m n : Nat) (hm : (dg m).length ≤ 100000) (hn : (dg n).length ≤ 100000) : Ev (fun k => decimal_digits_plus.f k (dg m) (dg n)) (dg (m + n)) := by
  refine Ev.split (fun h => ?_) (fun h => ?_)
  · have := plus_j0 (dg n) (dg m) (Dig_dg n) (Dig_dg m) (by omega) hn
    rw [val_dg, val_dg, Nat.add_comm] at this
    exact this
  · have := plus_j0 (dg m) (dg n) (Dig_dg m) (Dig_dg n) (by omega) hm
    rw [val_dg, val_dg] at this
    exact this
theorem minus_loop (Y : List Int) (w : Nat) (hY : Dig Y) (hYw : Y.length ≤ w) (hw : w ≤ 100000) : ∀ (n : Nat) (A B P X' lo : List Int) (c : Int), A.length = n → B.length = n → padL w Y = B ++ P → n + P.length = w → lo.length = P.length →
    Dig A → Dig lo → X'.length = P.length → 0 ≤ c → c ≤ 1 → val lo + val P = val X' + c.toNat * 10 ^ lo.length → val Y ≤ val (A ++ X') →
    Ev (fun k => decimal_digits_minus.l0 k Y (A ++ lo) c (w : Int) (P.length : Int)) (dg (val (A ++ X') - val Y)) := by
  intro n
  induction n with
  | zero =>
    intro A B P X' lo c hA hB e hP hlo dA dlo hX c0 c1 hv hle
    have hA' : A = [] := List.eq_nil_of_length_eq_zero hA
    have hB' : B = [] := List.eq_nil_of_length_eq_zero hB
    subst hA' hB'
    refine Ev.up (Ev.neg (by omega) ?_)
    have hvl := val_lt dlo
    rw [← val_padL w Y, e, List.nil_append] at hle ⊢
    rw [List.nil_append] at hle ⊢
    have hc : c = 0 := by
      rcases Int.lt_or_le c 1 with h | h
      · omega
      · have : c = 1 := by omega
        subst this
        simp at hv
        omega
    subst hc
    have := lead_is lo dlo (by omega)
    have ev : val lo = val X' - val P := by simp at hv; omega
    rw [ev] at this
    exact this.tail
  | succ n ih =>
    intro A B P X' lo c hA hB e hP hlo dA dlo hX c0 c1 hv hle
    obtain ⟨A0, x, rfl⟩ := snoc_cases A (by intro h; rw [h] at hA; simp at hA)
    obtain ⟨B0, y, rfl⟩ := snoc_cases B (by intro h; rw [h] at hB; simp at hB)
    have hA0 : A0.length = n := by simpa using hA
    have hB0 : B0.length = n := by simpa using hB
    have dP := Dig_padL w hY
    have e' : padL w Y = B0 ++ y :: P := by rw [e]; simp
    obtain ⟨pa, pb⟩ := padL_at hYw e'
    have hy : 0 ≤ y ∧ y ≤ 9 := by
      rw [e'] at dP
      exact dP y (by simp)
    have hx : 0 ≤ x ∧ x ≤ 9 := dA x (by simp)
    have hl5 : (A0 ++ [x] ++ lo).length = w := by simp; omega
    have hj : wrap64 (wrap64 (((A0 ++ [x] ++ lo).length : Int) - 1) - (P.length : Int)) = ((n : Nat) : Int) := by
      rw [hl5, wrap64_id (x := (w : Int) - 1) (by omega) (by omega), wrap64_id (by omega) (by omega)]; omega
    have hform : (A0 ++ [x] ++ lo : List Int) = A0 ++ x :: lo := by simp
    have hrd : ∀ v, rd (A0 ++ v :: lo) ((n : Nat) : Int) = v := by
      intro v
      rw [rd_nat, ← hA0]
      exact getD_append_mid A0 v lo
    have hset : ∀ u v, (A0 ++ u :: lo : List Int).set ((n : Nat) : Int).toNat v = A0 ++ v :: lo := by
      intro u v
      have : ((n : Nat) : Int).toNat = A0.length := by omega
      rw [this]
      exact set_append_mid A0 u v lo
    have hi : wrap64 ((P.length : Int) + 1) = (((y :: P).length : Nat) : Int) := by rw [wrap64_id (by omega) (by omega)]; simp
    have step : ∀ (v q : Int), 0 ≤ v → v ≤ 9 → 0 ≤ q → q ≤ 1 → v + c + y = x + q * 10 →
        Ev (fun k => decimal_digits_minus.l0 k Y (A0 ++ v :: lo) q (w : Int) ((y :: P).length : Int)) (dg (val (A0 ++ [x] ++ X') - val Y)) := by
      intro v q v0 v9 q0 q1 hq
      have hform' : A0 ++ [x] ++ X' = A0 ++ x :: X' := by simp
      have h3 := ih A0 B0 (y :: P) (x :: X') (v :: lo) q hA0 hB0 e' (by simp; omega) (by simp [hlo]) (fun d hd => dA d (by simp [hd]))
        (Dig.cons v0 v9 dlo) (by simp [hX]) q0 q1 (by
          rw [val_cons, val_cons, val_cons, List.length_cons, hX, Nat.pow_succ]
          rw [hlo] at hv ⊢
          have hvn : v.toNat + c.toNat + y.toNat = x.toNat + q.toNat * 10 := by omega
          have : q.toNat * (10 ^ P.length * 10) = (q.toNat * 10) * 10 ^ P.length := by rw [Nat.mul_comm (10 ^ P.length) 10, Nat.mul_assoc]
          rw [this]
          have h2 : (v.toNat + c.toNat + y.toNat) * 10 ^ P.length = (x.toNat + q.toNat * 10) * 10 ^ P.length := by rw [hvn]
          rw [Nat.add_mul, Nat.add_mul, Nat.add_mul] at h2
          omega) (by rw [← hform']; exact hle)
      rw [hform']
      exact h3
    refine Ev.up (Ev.pos (by omega) ?_)
    rw [hj, hi, hform]
    simp only [hrd, hset]
    have hlen : ((A0 ++ x :: lo).length : Int) = (w : Int) := by rw [← hform, hl5]
    refine Ev.split (fun h => ?_) (fun h => ?_)
    · have hlt : P.length < Y.length := by omega
      have hj2 : wrap64 (wrap64 ((Y.length : Int) - 1) - (P.length : Int)) = ((Y.length - 1 - P.length : Nat) : Int) := by
        rw [wrap64_id (x := (Y.length : Int) - 1) (by omega) (by omega), wrap64_id (by omega) (by omega)]; omega
      rw [hj2, pa hlt]
      refine Ev.pos (by omega) (Ev.pos (by omega) (Ev.pos (by omega) (Ev.pos (by omega) (Ev.split (fun h2 => Ev.bindS ?_) (fun h2 => ?_)))))
      · simp only [hrd, hset]
        exact step _ 1 (by omega) (by omega) (by omega) (by omega) (by omega)
      · exact step _ 0 (by omega) (by omega) (by omega) (by omega) (by omega)
    · have hy0 := pb (by omega)
      refine Ev.pos (by omega) (Ev.pos (by omega) (Ev.split (fun h2 => Ev.bindS ?_) (fun h2 => ?_)))
      · simp only [hrd, hset]
        exact step _ 1 (by omega) (by omega) (by omega) (by omega) (by omega)
      · exact step _ 0 (by omega) (by omega) (by omega) (by omega) (by omega)
theorem minus_is (m n : Nat) (h : n ≤ m) (hm : (dg m).length ≤ 100000) : Ev (fun k => decimal_digits_minus.f k (dg m) (dg n)) (dg (m - n)) := by
  have hln : (dg n).length ≤ (dg m).length := (length_dg_iff n _).2 (Nat.lt_of_le_of_lt h (lt_of_length_dg m))
  have hc : copyAt 0 (List.replicate (dg m).length (0 : Int)) (dg m) = dg m := by
    rw [copyAt]
    simp
  have hn1 : (((dg m).length : Nat) : Int).toNat = (dg m).length := by omega
  refine Ev.pos (by omega) (Ev.pos (by omega) (Ev.bindS ?_))
  rw [hn1, hc, List.length_replicate]
  have := minus_loop (dg n) (dg m).length (Dig_dg n) hln hm (dg m).length (dg m) (padL (dg m).length (dg n)) [] [] [] 0 rfl (padL_len _ _ hln) (by simp) (by simp) rfl (Dig_dg m) Dig.nil rfl (by omega) (by omega) (by simp [val]) (by rw [val_dg, List.append_nil, val_dg]; exact h)
  rw [List.append_nil, val_dg, val_dg] at this
  exact this
end Go.Proofs.YtihjcaglhjepdaaDoor.Q
set_option linter.unusedVariables false
set_option linter.unusedSimpArgs false
namespace Go.Proofs.YtihjcaglhjepdaaDoor.Q
open Go.RowKit Go.Proofs.YtihjcaglhjepdaaDoorW.PrintWords Go.Proofs.YtihjcaglhjepdaaDoor.P
theorem awake_is : Ev (fun k => idiomlaw02_awake.f k) true := Ev.of (fun k => idiomlaw02_awake.mono k) (k := 60) (by decide +kernel)
theorem chk_len {n : Bool} {a b : List Int} (h : chk n a b = 0) : a.length + b.length ≤ 40 := by
  unfold chk okD at h
  by_cases h1 : a.length + b.length ≤ 40
  · exact h1
  · simp [h1] at h
end Go.Proofs.YtihjcaglhjepdaaDoor.Q
set_option linter.unusedVariables false
set_option linter.unusedSimpArgs false
namespace Go.Proofs.YtihjcaglhjepdaaDoor.Q
open Go.RowKit Go.Proofs.YtihjcaglhjepdaaDoorW.PrintWords Go.Proofs.YtihjcaglhjepdaaDoor.P
structure Ans where
  neg : Bool
  a : List Int
  b : List Int
  err : Int
def bad (e : Int) : Ans := ⟨false, [], [], e⟩
def Tells (r : Bool × ByteArray × ByteArray × Int) (x : Ans) : Prop := r.1 = x.neg ∧ S r.2.1 = x.a ∧ S r.2.2.1 = x.b ∧ r.2.2.2 = x.err
theorem Tells.bad (e : Int) : Tells (false, (⟨#[]⟩ : ByteArray), (⟨#[]⟩ : ByteArray), e) (bad e) := ⟨rfl, rfl, rfl, rfl⟩
theorem Tells.eq {r r' : Bool × ByteArray × ByteArray × Int} {x : Ans} (h : Tells r x) (h' : Tells r' x) : r = r' := by
  obtain ⟨a, b, c, d⟩ := r
  obtain ⟨a', b', c', d'⟩ := r'
  obtain ⟨h1, h2, h3, h4⟩ := h
  obtain ⟨k1, k2, k3, k4⟩ := h'
  simp only at h1 h2 h3 h4 k1 k2 k3 k4
  rw [h1, S_inj (h2.trans k2.symm), S_inj (h3.trans k3.symm), h4, k1, k4]
end Go.Proofs.YtihjcaglhjepdaaDoor.Q
set_option linter.unusedVariables false
set_option linter.unusedSimpArgs false
namespace Go.Proofs.YtihjcaglhjepdaaDoor.Q
open Go.RowKit Go.Proofs.YtihjcaglhjepdaaDoorW.PrintWords Go.Proofs.YtihjcaglhjepdaaDoor.P
theorem padL_len_max (w : Nat) (l : List Int) : (padL w l).length = max w l.length := by simp [padL]; omega
def mk (neg : Bool) (N p : Nat) : Ans :=
  if 40 < (padL (p + 1) (dg N)).length then bad 3
  else ⟨neg && decide (N ≠ 0), (up48 (padL (p + 1) (dg N))).take ((padL (p + 1) (dg N)).length - p), (up48 (padL (p + 1) (dg N))).drop ((padL (p + 1) (dg N)).length - p), 0⟩
theorem up48_append (l m : List Int) : up48 (l ++ m) = up48 l ++ up48 m := by simp [up48]
theorem up48_zeros (n : Nat) : up48 (List.replicate n 0) = List.replicate n 48 := by simp [up48]
theorem Dig_up {l : List Int} (h : Dig l) : ∀ d ∈ up48 l, 0 ≤ d ∧ d ≤ 255 := by
  intro d hd
  obtain ⟨x, hx, rfl⟩ := List.mem_map.1 hd
  have := h x hx
  omega
theorem sub_take {l : List Int} {P : Int → Prop} (h : ∀ d ∈ l, P d) (n : Nat) : ∀ d ∈ l.take n, P d := fun d hd => h d (List.mem_of_mem_take hd)
theorem sub_drop {l : List Int} {P : Int → Prop} (h : ∀ d ∈ l, P d) (n : Nat) : ∀ d ∈ l.drop n, P d := fun d hd => h d (List.mem_of_mem_drop hd)
theorem made_l1 (neg : Bool) (l : List Int) (p : Nat) (dl : Dig l) (hl : l.length ≤ 100000) (hp : p ≤ 100000) (r : Bool × ByteArray × ByteArray × Int) : ∀ (rest pre acc : List Int), l = pre ++ rest → acc.length + rest.length ≤ 200000 →
    p ≤ acc.length + rest.length →
    r = (neg && decide (0 < l.length), strOfNums ((acc ++ up48 rest).take (acc.length + rest.length - p)), strOfNums ((acc ++ up48 rest).drop (acc.length + rest.length - p)), 0) →
    Ev (fun k => decimal_made.l1 k neg l (p : Int) acc l (l.length : Int) (pre.length : Int)) r := by
  intro rest
  induction rest with
  | nil =>
    intro pre acc h ha hpa hr
    have hl' : l.length = pre.length := by rw [h]; simp
    simp only [List.length_nil, Nat.add_zero] at ha hpa hr
    have hw : wrap64 ((acc.length : Int) - (p : Int)) = ((acc.length - p : Nat) : Int) := by rw [wrap64_id (by omega) (by omega)]; omega
    have hn : ((acc.length - p : Nat) : Int).toNat = acc.length - p := by omega
    refine Ev.up (Ev.neg (by omega) ?_)
    rw [hw, hn]
    simp only [up48, List.map_nil, List.append_nil] at hr
    refine Ev.split (fun h1 => Ev.pos (by omega) (Ev.pos (by omega) (Ev.val ?_))) (fun h1 => Ev.pos (by omega) (Ev.pos (by omega) (Ev.val ?_)))
    · rw [hr, h1, Bool.true_and]
      have : decide ((l.length : Int) > 0) = decide (0 < l.length) := by
        rw [decide_eq_decide]; omega
      rw [this]
    · rw [hr]
      simp only [Bool.not_eq_true] at h1
      rw [h1, Bool.false_and]
  | cons d rest ih =>
    intro pre acc h ha hpa hr
    have hl' : l.length = pre.length + (rest.length + 1) := by rw [h]; simp
    have hd : 0 ≤ d ∧ d ≤ 9 := dl d (by rw [h]; simp)
    have hrd : rd l (pre.length : Int) = d := by rw [rd_nat, h, getD_append_mid]
    have hi : wrap64 ((pre.length : Int) + 1) = (((pre ++ [d]).length : Nat) : Int) := by rw [wrap64_id (by omega) (by omega)]; simp
    simp only [List.length_cons] at ha hpa hr
    refine Ev.up (Ev.pos (by omega) (Ev.pos (by omega) (Ev.pos (by omega) (Ev.pos (by omega) ?_))))
    rw [hrd, hi]
    have e : (48 + d) % 256 = d + 48 := by omega
    rw [e]
    refine ih (pre ++ [d]) (acc ++ [d + 48]) (by rw [h]; simp) (by simp; omega) (by simp; omega) ?_
    rw [hr]
    have e1 : acc ++ [d + 48] ++ up48 rest = acc ++ up48 (d :: rest) := by simp [up48]
    have e2 : (acc ++ [d + 48]).length + rest.length = acc.length + (rest.length + 1) := by simp; omega
    rw [e1, e2]
theorem made_l0 (neg : Bool) (l : List Int) (p : Nat) (r : Bool × ByteArray × ByteArray × Int) (c : Int) (hc : c ≤ 100001) : ∀ (m i : Nat) (acc : List Int), c ≤ (i : Int) + m → (i : Int) + m ≤ max c i → acc.length + m ≤ 200000 →
    Ev (fun k => decimal_made.l1 k neg l (p : Int) (acc ++ List.replicate m 48) l (l.length : Int) 0) r →
    Ev (fun k => decimal_made.l0 k neg l (p : Int) acc c (i : Int)) r := by
  intro m
  induction m with
  | zero =>
    intro i acc h1 h2 ha h
    simp at h
    exact Ev.up (Ev.neg (by omega) h)
  | succ m ih =>
    intro i acc h1 h2 ha h
    have hi : wrap64 ((i : Int) + 1) = ((i + 1 : Nat) : Int) := by rw [wrap64_id (by omega) (by omega)]; omega
    refine Ev.up (Ev.pos (by omega) (Ev.pos (by omega) ?_))
    rw [hi]
    refine ih (i + 1) (acc ++ [48]) (by omega) (by omega) (by simp; omega) ?_
    have : acc ++ [48] ++ List.replicate m 48 = acc ++ List.replicate (m + 1) 48 := by rw [List.replicate_succ]; simp
    rw [this]; exact h
theorem mx_int (a b : Int) : mx a b = max a b := by unfold mx; split <;> omega
theorem made_is (neg : Bool) (N p : Nat) (hN : (dg N).length ≤ 100000) (hp : p ≤ 100000) : ∃ r, Ev (fun k => decimal_made.f k neg (dg N) (p : Int)) r ∧ Tells r (mk neg N p) := by
  have hw : wrap64 (((dg N).length : Int) - (p : Int)) = ((dg N).length : Int) - (p : Int) := wrap64_id (by omega) (by omega)
  have hL : (padL (p + 1) (dg N)).length = max (p + 1) (dg N).length := padL_len_max _ _
  have hw2 : wrap64 (mx (mx (wrap64 (((dg N).length : Int) - (p : Int))) 0) 1 + (p : Int)) = (max (p + 1) (dg N).length : Nat) := by
    rw [hw, mx_int, mx_int, wrap64_id (by omega) (by omega)]; omega
  unfold mk
  by_cases h : 40 < (padL (p + 1) (dg N)).length
  · rw [if_pos h]
    exact ⟨_, Ev.pos (by rw [hw2]; omega) (Ev.val rfl), Tells.bad 3⟩
  · rw [if_neg h]
    have hw3 : wrap64 (wrap64 ((p : Int) + 1) - ((dg N).length : Int)) = ((p : Int) + 1) - ((dg N).length : Int) := by
      rw [wrap64_id (x := (p : Int) + 1) (by omega) (by omega), wrap64_id (by omega) (by omega)]
    have e0 : List.replicate (p + 1 - (dg N).length) 48 ++ up48 (dg N) = up48 (padL (p + 1) (dg N)) := by rw [padL, up48_append, up48_zeros]
    have e1 : (List.replicate (p + 1 - (dg N).length) (48 : Int)).length + (dg N).length = (padL (p + 1) (dg N)).length := by rw [hL]; simp; omega
    refine ⟨(neg && decide (0 < (dg N).length), strOfNums ((up48 (padL (p + 1) (dg N))).take ((padL (p + 1) (dg N)).length - p)), strOfNums ((up48 (padL (p + 1) (dg N))).drop ((padL (p + 1) (dg N)).length - p)), 0), Ev.neg (by rw [hw2]; omega) (Ev.pos (by omega) ?_), ?_⟩
    · rw [hw3]
      refine made_l0 neg (dg N) p _ _ (by omega) (p + 1 - (dg N).length) 0 [] (by omega) (by omega) (by simp; omega) ?_
      refine made_l1 neg (dg N) p (Dig_dg N) hN hp _ (dg N) [] _ rfl ?_ ?_ ?_
      · rw [List.nil_append, e1]; omega
      · rw [List.nil_append, e1]; omega
      · rw [List.nil_append, e1, e0]
    · have dP := Dig_up (Dig_padL (p + 1) (Dig_dg N))
      have hne : decide (0 < (dg N).length) = decide (N ≠ 0) := by
        rw [decide_eq_decide, List.length_pos_iff, Ne, dg_eq_nil]
      refine ⟨by rw [hne], ?_, ?_, rfl⟩
      · exact S_str (sub_take dP _)
      · exact S_str (sub_drop dP _)
end Go.Proofs.YtihjcaglhjepdaaDoor.Q
set_option linter.unusedVariables false
set_option linter.unusedSimpArgs false
namespace Go.Proofs.YtihjcaglhjepdaaDoor.Q
open Go.RowKit Go.Proofs.YtihjcaglhjepdaaDoorW.PrintWords Go.Proofs.YtihjcaglhjepdaaDoor.P
def Box (C : Nat) (l : List Int) : Prop := ∀ d ∈ l, 0 ≤ d ∧ d ≤ C
theorem Box.mono {C C' : Nat} (h : C ≤ C') {l : List Int} (b : Box C l) : Box C' l := fun d hd => ⟨(b d hd).1, by have := (b d hd).2; omega⟩
theorem val_mid (A B : List Int) (d : Int) : val (A ++ d :: B) = val A * 10 ^ (B.length + 1) + d.toNat * 10 ^ B.length + val B := by
  rw [val_append, val_cons, List.length_cons]; omega
theorem part_at_ (l : List Int) (t : Nat) (h : t < l.length) : ∃ A d B, l = A ++ d :: B ∧ A.length = t :=
  ⟨l.take t, l[t], l.drop (t + 1), by rw [← List.drop_eq_getElem_cons h, List.take_append_drop], by rw [List.length_take]; omega⟩
theorem Box.up {C : Nat} {A B : List Int} {d z : Int} (b : Box C (A ++ d :: B)) (h0 : 0 ≤ z) (h1 : z ≤ 81) : Box (C + 81) (A ++ (d + z) :: B) := by
  intro e he
  rcases List.mem_append.1 he with he | he
  · have := b e (by simp [he]); omega
  · rcases List.mem_cons.1 he with he | he
    · have := b d (by simp); omega
    · have := b e (by simp [he]); omega
theorem wrap_step {d x y : Int} (h0 : 0 ≤ d) (h1 : d ≤ 1000000000) (hx : 0 ≤ x ∧ x ≤ 9) (hy : 0 ≤ y ∧ y ≤ 9) :
    wrap64 (d + wrap64 (wrap64 x * wrap64 y)) = d + x * y ∧ 0 ≤ x * y ∧ x * y ≤ 81 ∧ (d + x * y).toNat = d.toNat + x.toNat * y.toNat := by
  have hxy : 0 ≤ x * y := Int.mul_nonneg hx.1 hy.1
  have h9 : x * y ≤ 9 * y := Int.mul_le_mul_of_nonneg_right hx.2 hy.1
  have hm : (x * y).toNat = x.toNat * y.toNat := by
    obtain ⟨a, rfl⟩ := Int.eq_ofNat_of_zero_le hx.1
    obtain ⟨b, rfl⟩ := Int.eq_ofNat_of_zero_le hy.1
    rfl
  rw [wrap64_id (x := x) (by omega) (by omega), wrap64_id (x := y) (by omega) (by omega)]
  rw [← hm]
  generalize x * y = z at *
  rw [wrap64_id (x := z) (by omega) (by omega), wrap64_id (by omega) (by omega)]
  exact ⟨rfl, hxy, by omega, by omega⟩
theorem times_l1 (X Y : List Int) (x : Int) (i m n w : Nat) (hmw : m = i + 1 + w) (dY : Dig Y) (hx : 0 ≤ x ∧ x ≤ 9) (hX : X.length = m) (hY : Y.length = n) (hxi : rd X (i : Int) = x) (hm : m ≤ 1000) (hn : n ≤ 1000) (r : List Int) :
    ∀ (rest pre L : List Int) (C : Nat), Y = pre ++ rest → L.length = m + n → Box C L → C + 81 * rest.length ≤ 1000000000 →
    (∀ L' : List Int, L'.length = m + n → Box (C + 81 * rest.length) L' → val L' = val L + x.toNat * val rest * 10 ^ w → Ev (fun k => decimal_digits_times.l0 k X Y L' (m : Int) ((i + 1 : Nat) : Int)) r) →
    Ev (fun k => decimal_digits_times.l1 k X Y L (i : Int) (m : Int) (i : Int) (n : Int) (pre.length : Int)) r := by
  intro rest
  have g2 : (i : Int) < (X.length : Int) := by omega
  induction rest with
  | nil =>
    intro pre L C h hL bL hC K
    have hl : n = pre.length := by rw [← hY, h]; simp
    have hw : wrap64 ((i : Int) + 1) = ((i + 1 : Nat) : Int) := by rw [wrap64_id (by omega) (by omega)]; omega
    refine Ev.up (Ev.neg (by omega) ?_)
    rw [hw]
    exact K L hL (by simpa using bL) (by simp [val])
  | cons y rest ih =>
    intro pre L C h hL bL hC K
    have hl : n = pre.length + (rest.length + 1) := by rw [← hY, h]; simp
    have g1 : (pre.length : Int) < (n : Int) := by clear hC K ih; omega
    have g3 : (pre.length : Int) < (Y.length : Int) := by rw [hY]; exact g1
    have hy : 0 ≤ y ∧ y ≤ 9 := dY y (by rw [h]; simp)
    have hry : rd Y (pre.length : Int) = y := by rw [rd_nat, h, getD_append_mid]
    have hw : wrap64 (wrap64 ((i : Int) + (pre.length : Int)) + 1) = ((i + pre.length + 1 : Nat) : Int) := by
      rw [wrap64_id (x := (i : Int) + (pre.length : Int)) (by omega) (by omega), wrap64_id (by omega) (by omega)]; omega
    have hw2 : wrap64 ((pre.length : Int) + 1) = (((pre ++ [y]).length : Nat) : Int) := by rw [wrap64_id (by omega) (by omega)]; simp
    simp only [List.length_cons] at hC
    have hiL : i + pre.length + 1 < L.length := by
      rw [hL, hl, hmw]
      clear K ih bL hC hw hw2
      omega
    obtain ⟨A, d, B, eL, hA⟩ := part_at_ L (i + pre.length + 1) hiL
    have hB : B.length = w + rest.length := by
      have h1 : (A ++ d :: B).length = m + n := by rw [← eL]; exact hL
      rw [List.length_append, List.length_cons] at h1
      clear K ih bL hC hy hx hry hxi hw hw2
      omega
    have hd := bL d (by rw [eL]; simp)
    have hrd : rd L ((i + pre.length + 1 : Nat) : Int) = d := by rw [rd_nat, eL, ← hA, getD_append_mid]
    have hdC : d ≤ 1000000000 := by
      have := hd.2
      clear K ih hw hw2 hL hB hA hiL
      omega
    obtain ⟨hp, hxy0, hxy1, hxyN⟩ := wrap_step (x := x) (y := y) hd.1 hdC hx hy
    have bL' : Box (C + 81) (A ++ (d + x * y) :: B) := Box.up (by rw [← eL]; exact bL) hxy0 hxy1
    have W1 := PLift.up hxyN
    have W2 := PLift.up hp
    clear hd hdC hxy0 hxy1 hxyN hp
    have hn1 : ((i + pre.length + 1 : Nat) : Int).toNat = A.length := by rw [hA]; rfl
    have g4 : ((i + pre.length + 1 : Nat) : Int) < (L.length : Int) := Int.ofNat_lt.2 hiL
    refine Ev.up (Ev.pos g1 ?_)
    rw [hw, hw2, hry, hxi, hrd, W2.down, hn1]
    refine Ev.pos (Int.natCast_nonneg _) (Ev.pos g4 (Ev.pos (Int.natCast_nonneg _) (Ev.pos g2 (Ev.pos (Int.natCast_nonneg _) (Ev.pos g3 ?_)))))
    have eS : L.set A.length (d + x * y) = A ++ (d + x * y) :: B := by rw [eL, set_append_mid]
    rw [eS]
    refine ih (pre ++ [y]) (A ++ (d + x * y) :: B) (C + 81) (by rw [h]; simp) (by rw [eL] at hL; simpa using hL) bL' (by clear hw hw2 hL hB hA hiL K ih; omega) ?_
    intro L' h1 h2 h3
    refine K L' h1 (by have e : C + 81 + 81 * rest.length = C + 81 * (y :: rest).length := by rw [List.length_cons]; clear hw hw2 hL hB hA hiL K ih hC; omega
                       rw [← e]; exact h2) ?_
    rw [h3, eL, val_mid, val_mid, val_cons]
    have e1 := W1.down
    rw [e1, Nat.add_mul, Nat.mul_add, Nat.add_mul, hB]
    have e2 : x.toNat * y.toNat * 10 ^ (w + rest.length) = x.toNat * (y.toNat * 10 ^ rest.length) * 10 ^ w := by
      rw [Nat.pow_add, Nat.mul_comm (10 ^ w), ← Nat.mul_assoc, Nat.mul_assoc x.toNat]
    rw [e2]
    generalize val A * 10 ^ (w + rest.length + 1) = u1
    generalize d.toNat * 10 ^ (w + rest.length) = u2
    generalize x.toNat * (y.toNat * 10 ^ rest.length) * 10 ^ w = u3
    generalize x.toNat * val rest * 10 ^ w = u4
    clear W1 W2 e1 e2 h3 K ih hC hL hB hA hiL
    omega
theorem times_l2 (L : List Int) (len : Nat) (hlen : L.length = len) (hl : len ≤ 2000) (hval : val L < 10 ^ len) : ∀ (n : Nat) (A A' lo : List Int) (c : Int), A.length = n → L = A ++ A' → lo.length = A'.length → Dig lo → Box 1000000000 A → 0 ≤ c → c ≤ 1000000000 →
    val lo + c.toNat * 10 ^ lo.length = val A' →
    Ev (fun k => decimal_digits_times.l2 k L (List.replicate n 0 ++ lo) c ((n : Int) - 1)) (dg (val L)) := by
  intro n
  induction n with
  | zero =>
    intro A A' lo c hA e hlo dlo bA c0 c1 hv
    have hA' : A = [] := List.eq_nil_of_length_eq_zero hA
    subst hA'
    rw [List.nil_append] at e
    subst e
    have hc : c = 0 := by
      rw [hlo, hlen] at hv
      rcases Int.lt_or_le c 1 with h | h
      · omega
      · have h1 : 1 * 10 ^ len ≤ c.toNat * 10 ^ len := Nat.mul_le_mul_right _ (by omega)
        omega
    subst hc
    have := lead_is lo dlo (by omega)
    have ev : val lo = val L := by simpa using hv
    rw [ev] at this
    refine Ev.up (Ev.neg (by omega) ?_)
    rw [List.replicate_zero, List.nil_append]
    exact this.tail
  | succ n ih =>
    intro A A' lo c hA e hlo dlo bA c0 c1 hv
    obtain ⟨A0, d, rfl⟩ := snoc_cases A (by intro h; rw [h] at hA; simp at hA)
    have hA0 : A0.length = n := by simpa using hA
    have hd := bA d (by simp)
    have hL : n + 1 + lo.length = len := by rw [← hlen, e]; simp; omega
    have hn : ((n + 1 : Nat) : Int) - 1 = (n : Int) := by omega
    have hrd : rd L (n : Int) = d := by
      rw [rd_nat, e, ← hA0]
      have : A0 ++ [d] ++ A' = A0 ++ d :: A' := by simp
      rw [this, getD_append_mid]
    have hw : wrap64 (d + c) = d + c := wrap64_id (by omega) (by omega)
    have ht : Int.tmod (d + c) 10 % 256 = (d + c) % 10 := by
      rw [Int.tmod_eq_emod_of_nonneg (by omega)]; omega
    have ht2 : wrap64 (Int.tdiv (d + c) 10) = (d + c) / 10 := by
      rw [Int.tdiv_eq_ediv_of_nonneg (by omega), wrap64_id (by omega) (by omega)]
    have hn1 : ((n : Int)).toNat = (List.replicate n (0 : Int)).length := by simp
    have hx10 : wrap64 ((n : Int) - 1) = (n : Int) - 1 := wrap64_id (by omega) (by omega)
    have hs : (List.replicate (n + 1) 0 ++ lo : List Int) = List.replicate n 0 ++ 0 :: lo := by
      rw [List.replicate_succ']; simp
    rw [hn]
    refine Ev.up (Ev.pos (by omega) ?_)
    rw [hrd, hw, ht, ht2, hx10, hn1, hs, set_append_mid]
    refine Ev.pos (by omega) (Ev.pos (by omega) (Ev.pos (by simp; omega) ?_))
    refine ih A0 (d :: A') ((d + c) % 10 :: lo) ((d + c) / 10) hA0 (by rw [e]; simp) (by simp [hlo]) (Dig.cons (by omega) (by omega) dlo) (fun z hz => bA z (by simp [hz])) (by omega) (by omega) ?_
    rw [val_cons, val_cons, List.length_cons, Nat.pow_succ, ← hlo]
    have h1 : ((d + c) % 10).toNat + ((d + c) / 10).toNat * 10 = d.toNat + c.toNat := by omega
    have h2 : (((d + c) % 10).toNat + ((d + c) / 10).toNat * 10) * 10 ^ lo.length = (d.toNat + c.toNat) * 10 ^ lo.length := by rw [h1]
    rw [Nat.add_mul, Nat.add_mul] at h2
    have h3 : ((d + c) / 10).toNat * (10 ^ lo.length * 10) = ((d + c) / 10).toNat * 10 * 10 ^ lo.length := by rw [Nat.mul_comm (10 ^ lo.length), Nat.mul_assoc]
    omega
theorem times_l0 (X Y : List Int) (dX : Dig X) (dY : Dig Y) (hX : X.length ≤ 1000) (hY : Y.length ≤ 1000) : ∀ (Q P L : List Int), X = P ++ Q → L.length = X.length + Y.length → Box (81 * (P.length * Y.length)) L →
    val L = val P * 10 ^ Q.length * val Y →
    Ev (fun k => decimal_digits_times.l0 k X Y L (X.length : Int) (P.length : Int)) (dg (val X * val Y)) := by
  intro Q
  induction Q with
  | nil =>
    intro P L h hL bL hv
    have hP : X = P := by rw [h]; simp
    have hb : Box 1000000000 L := bL.mono (by
      have h1 : P.length * Y.length ≤ 1000 * 1000 := Nat.mul_le_mul (by rw [← hP]; exact hX) hY
      omega)
    have hlt : val L < 10 ^ L.length := by
      rw [hv, hL, Nat.pow_add, ← hP]
      simp only [List.length_nil, Nat.pow_zero, Nat.mul_one]
      exact Nat.mul_lt_mul'' (val_lt dX) (val_lt dY)
    have := times_l2 L L.length rfl (by omega) hlt L.length L [] [] 0 rfl (by simp) rfl Dig.nil hb (by omega) (by omega) (by simp [val])
    have ev : val L = val X * val Y := by rw [hv, ← hP]; simp
    rw [ev, List.append_nil] at this
    have hw : wrap64 ((L.length : Int) - 1) = (L.length : Int) - 1 := wrap64_id (by omega) (by omega)
    have hn : ((L.length : Int)).toNat = L.length := by simp
    refine Ev.up (Ev.neg (by rw [hP]; omega) (Ev.pos (by omega) (Ev.pos (by omega) ?_)))
    rw [hw, hn]
    exact this
  | cons x Q ih =>
    intro P L h hL bL hv
    have hl : X.length = P.length + (Q.length + 1) := by rw [h]; simp
    have hx : 0 ≤ x ∧ x ≤ 9 := dX x (by rw [h]; simp)
    have hrx : rd X (P.length : Int) = x := by rw [rd_nat, h, getD_append_mid]
    have hb0 : P.length * Y.length ≤ 1000 * 1000 := Nat.mul_le_mul (by omega) hY
    refine Ev.up (Ev.pos (by omega) ?_)
    refine times_l1 X Y x P.length X.length Y.length Q.length (by omega) dY hx rfl rfl hrx hX hY _ Y [] L (81 * (P.length * Y.length)) rfl hL bL (by omega) ?_
    intro L' h1 h2 h3
    have := ih (P ++ [x]) L' (by rw [h]; simp) h1 (by
      have e : 81 * (P.length * Y.length) + 81 * Y.length = 81 * ((P ++ [x]).length * Y.length) := by
        rw [List.length_append, List.length_singleton, Nat.add_mul]; omega
      rw [← e]; exact h2) (by
      rw [h3, hv, val_snoc, List.length_cons]
      rw [Nat.pow_succ, Nat.add_mul, Nat.add_mul]
      have e2 : val P * (10 ^ Q.length * 10) * val Y = val P * 10 * 10 ^ Q.length * val Y := by
        rw [Nat.mul_comm (10 ^ Q.length) 10, ← Nat.mul_assoc (val P)]
      have e3 : x.toNat * val Y * 10 ^ Q.length = x.toNat * 10 ^ Q.length * val Y := by
        rw [Nat.mul_assoc, Nat.mul_comm (val Y), ← Nat.mul_assoc]
      omega)
    have e : ((P ++ [x]).length : Int) = ((P.length + 1 : Nat) : Int) := by simp
    rw [e] at this
    exact this
theorem times_is (m n : Nat) (hm : (dg m).length ≤ 1000) (hn : (dg n).length ≤ 1000) : Ev (fun k => decimal_digits_times.f k (dg m) (dg n)) (dg (m * n)) := by
  have jt : ∀ x : Bool, x = true → Ev (fun k => decimal_digits_times.j0 k (dg m) (dg n) x) ([] : List Int) := fun x hx => Ev.up (Ev.pos hx (Ev.val rfl))
  by_cases h : ((dg m).length : Int) = 0
  · have : m = 0 := dg_eq_nil.1 (List.eq_nil_of_length_eq_zero (by omega))
    subst this
    refine Ev.pos h ?_
    have e : dg (0 * n) = [] := by rw [Nat.zero_mul, dg_zero]
    rw [e]
    exact jt true rfl
  · refine Ev.neg h ?_
    by_cases h1 : ((dg n).length : Int) = 0
    · have : n = 0 := dg_eq_nil.1 (List.eq_nil_of_length_eq_zero (by omega))
      subst this
      have e : dg (m * 0) = [] := by rw [Nat.mul_zero, dg_zero]
      rw [e]
      exact jt _ (by simp [dg_zero])
    · have jf : ∀ x : Bool, x = false → Ev (fun k => decimal_digits_times.j0 k (dg m) (dg n) x) (dg (m * n)) := by
        intro x hx
        have hw : wrap64 (((dg m).length : Int) + ((dg n).length : Int)) = (((dg m).length + (dg n).length : Nat) : Int) := by rw [wrap64_id (by omega) (by omega)]; omega
        have hn1 : (((dg m).length + (dg n).length : Nat) : Int).toNat = (dg m).length + (dg n).length := by omega
        refine Ev.up (Ev.neg (by rw [hx]; exact Bool.false_ne_true) ?_)
        rw [hw, hn1]
        refine Ev.pos (by omega) (Ev.pos (by omega) ?_)
        have := times_l0 (dg m) (dg n) (Dig_dg m) (Dig_dg n) hm hn (dg m) [] (List.replicate ((dg m).length + (dg n).length) 0) rfl (by simp) (fun d hd => by rw [(List.mem_replicate.1 hd).2]; omega) (by rw [val_zeros]; simp [val])
        rw [val_dg, val_dg] at this
        exact this
      exact jf _ (by rw [beq_eq_false_iff_ne]; exact h1)
theorem dg_len_mono {m n : Nat} (h : m ≤ n) : (dg m).length ≤ (dg n).length := (length_dg_iff m _).2 (Nat.lt_of_le_of_lt h (lt_of_length_dg n))
end Go.Proofs.YtihjcaglhjepdaaDoor.Q
set_option linter.unusedVariables false
set_option linter.unusedSimpArgs false
namespace Go.Proofs.YtihjcaglhjepdaaDoor.Q
open Go.RowKit Go.Proofs.YtihjcaglhjepdaaDoorW.PrintWords Go.Proofs.YtihjcaglhjepdaaDoor.P
def lit (x : List Int) : Nat := val (dn48 x.reverse)
theorem lit_nil : lit [] = 0 := rfl
end Go.Proofs.YtihjcaglhjepdaaDoor.Q
set_option linter.unusedVariables false
set_option linter.unusedSimpArgs false
namespace Go.Proofs.YtihjcaglhjepdaaDoor.Q
open Go.RowKit Go.Proofs.YtihjcaglhjepdaaDoorW.PrintWords Go.Proofs.YtihjcaglhjepdaaDoor.P
theorem sgnc_ge {m n : Nat} (h : n ≤ m) : sgnc m n ≥ 0 := by
  unfold sgnc; rw [if_neg (by omega)]; split <;> omega
end Go.Proofs.YtihjcaglhjepdaaDoor.Q
set_option linter.unusedVariables false
set_option linter.unusedSimpArgs false
namespace Go.Proofs.YtihjcaglhjepdaaDoor.Q
open Go.RowKit Go.Proofs.YtihjcaglhjepdaaDoorW.PrintWords Go.Proofs.YtihjcaglhjepdaaDoor.P
theorem chk_fm {n : Bool} {a b : List Int} (h : chk n a b = 0) : fm n a b = true := by
  unfold chk okD at h
  by_cases h1 : fm n a b = true
  · exact h1
  · simp [h1] at h
theorem chk_of {n : Bool} {a b : List Int} (h : fm n a b = true) (hl : a.length + b.length ≤ 40) : chk n a b = 0 := by
  simp [chk, okD, h, hl]
theorem fm_parts {n : Bool} {a b : List Int} (h : fm n a b = true) : a ≠ [] ∧ allD a = true ∧ allD b = true := by
  simp only [fm, Bool.and_eq_true] at h
  refine ⟨?_, h.1.1.1.2, h.1.1.2⟩
  intro e
  rw [e] at h
  simp at h
end Go.Proofs.YtihjcaglhjepdaaDoor.Q
set_option linter.unusedVariables false
set_option linter.unusedSimpArgs false
namespace Go.Proofs.YtihjcaglhjepdaaDoor.Q
open Go.RowKit Go.Proofs.YtihjcaglhjepdaaDoorW.PrintWords Go.Proofs.YtihjcaglhjepdaaDoor.P
def num (a b : List Int) : Nat := val (dn48 (a ++ b))
theorem allD_append {a b : List Int} (ha : allD a = true) (hb : allD b = true) : allD (a ++ b) = true := by
  rw [allD, List.all_append]; rw [allD] at ha hb; simp [ha, hb]
structure Fine (n : Bool) (a b : List Int) : Prop where
  ok : chk n a b = 0
theorem Fine.len {n : Bool} {a b : List Int} (h : Fine n a b) : a.length + b.length ≤ 40 := chk_len h.ok
theorem Fine.digits {n : Bool} {a b : List Int} (h : Fine n a b) : allD (a ++ b) = true :=
  allD_append (fm_parts (chk_fm h.ok)).2.1 (fm_parts (chk_fm h.ok)).2.2
theorem Fine.lt {n : Bool} {a b : List Int} (h : Fine n a b) : num a b < 10 ^ (a.length + b.length) := by
  have := val_lt (allD_dig h.digits)
  rwa [dn48_len, List.length_append] at this
theorem num_len {n : Bool} {a b : List Int} (h : Fine n a b) (c : Nat) : (dg (num a b * 10 ^ c)).length ≤ 40 + c := by
  refine (length_dg_iff _ _).2 (Nat.lt_of_lt_of_le (Nat.mul_lt_mul_of_pos_right h.lt (Nat.pow_pos (by omega))) ?_)
  rw [← Nat.pow_add]
  exact Nat.pow_le_pow_right (by omega) (by have := h.len; omega)
theorem of_num (n : Bool) (a b : ByteArray) (h : Fine n (S a) (S b)) : Ev (fun k => decimal_of.f k (a ++ b)) (dg (num (S a) (S b))) := by
  have hl := h.len
  rw [S_len, S_len] at hl
  have := of_is (a ++ b) (by rw [ByteArray.size_append]; omega) (by rw [S_append]; exact h.digits)
  rw [S_append] at this
  exact this
theorem up_num (n : Bool) (a b : ByteArray) (h : Fine n (S a) (S b)) (c : Nat) (hc : c ≤ 1000) : decimal_digits_up.f (dg (num (S a) (S b))) (c : Int) = some (dg (num (S a) (S b) * 10 ^ c)) := by
  have := num_len h 0
  rw [Nat.pow_zero, Nat.mul_one] at this
  exact up_is _ c (by omega) (by omega)
theorem mx_nat (x y : Nat) : mx (x : Int) (y : Int) = ((max x y : Nat) : Int) := by rw [mx_int]; omega
theorem aligned_is (n : Bool) (a b : ByteArray) (m : Bool) (c d : ByteArray) (h : Fine n (S a) (S b)) (h' : Fine m (S c) (S d)) :
    Ev (fun k => decimal_aligned.f k n a b m c d) (dg (num (S a) (S b) * 10 ^ (max b.size d.size - b.size)), dg (num (S c) (S d) * 10 ^ (max b.size d.size - d.size)), ((max b.size d.size : Nat) : Int)) := by
  have hl := h.len
  have hl' := h'.len
  rw [S_len, S_len] at hl hl'
  have w1 : wrap64 (((max b.size d.size : Nat) : Int) - (b.size : Int)) = ((max b.size d.size - b.size : Nat) : Int) := by rw [wrap64_id (by omega) (by omega)]; omega
  have w2 : wrap64 (((max b.size d.size : Nat) : Int) - (d.size : Int)) = ((max b.size d.size - d.size : Nat) : Int) := by rw [wrap64_id (by omega) (by omega)]; omega
  refine Ev.pos (by omega) (Ev.bind (of_num n a b h) (Ev.bindV (a := dg (num (S a) (S b) * 10 ^ (max b.size d.size - b.size))) ?_ (Ev.pos (by omega) (Ev.bind (of_num m c d h') (Ev.bindV (a := dg (num (S c) (S d) * 10 ^ (max b.size d.size - d.size))) ?_ (Ev.val ?_))))))
  · rw [mx_nat, w1]; exact up_num n a b h _ (by omega)
  · rw [mx_nat, w2]; exact up_num m c d h' _ (by omega)
  · rw [mx_nat]
end Go.Proofs.YtihjcaglhjepdaaDoor.Q
set_option linter.unusedVariables false
set_option linter.unusedSimpArgs false
namespace Go.Proofs.YtihjcaglhjepdaaDoor.Q
open Go.RowKit Go.Proofs.YtihjcaglhjepdaaDoorW.PrintWords Go.Proofs.YtihjcaglhjepdaaDoor.P
def err2 (n : Bool) (a b : List Int) (m : Bool) (c d : List Int) : Int := if chk n a b = 0 then chk m c d else chk n a b
theorem err2_fine {n : Bool} {a b : List Int} {m : Bool} {c d : List Int} (h : err2 n a b m c d = 0) : Fine n a b ∧ Fine m c d := by
  unfold err2 at h
  by_cases h1 : chk n a b = 0
  · rw [if_pos h1] at h; exact ⟨⟨h1⟩, ⟨h⟩⟩
  · rw [if_neg h1] at h; exact absurd h h1
theorem both_is (n : Bool) (a b : ByteArray) (m : Bool) (c d : ByteArray) (ha : Fit a) (hb : Fit b) (hc : Fit c) (hd : Fit d) : Ev (fun k => decimal_both.f k n a b m c d) (err2 n (S a) (S b) m (S c) (S d)) := by
  unfold err2
  by_cases h : chk n (S a) (S b) = 0
  · rw [if_pos h]
    exact Ev.bind (Check_is n a b ha hb) (Ev.pos h (Check_is m c d hc hd).tail)
  · rw [if_neg h]
    exact Ev.bind (Check_is n a b ha hb) (Ev.neg h (Ev.val rfl))
def nA (b : ByteArray) (d : ByteArray) (x : Nat) : Nat := x * 10 ^ (max b.size d.size - b.size)
def nB (b : ByteArray) (d : ByteArray) (x : Nat) : Nat := x * 10 ^ (max b.size d.size - d.size)
def cmpA (n m : Bool) (A B : Nat) : Int := if (n && m) = true then sgnc B A else if n = true then -1 else if m = true then 1 else sgnc A B
def sumA (n m : Bool) (A B p : Nat) : Ans := if (n == m) = true then mk m (A + B) p else if A < B then mk m (B - A) p else mk n (A - B) p
section
theorem Compare_is (n : Bool) (a b : ByteArray) (m : Bool) (c d : ByteArray) (ha : Fit a) (hb : Fit b) (hc : Fit c) (hd : Fit d) (A B : Nat) (hA : A = nA b d (num (S a) (S b))) (hB : B = nB b d (num (S c) (S d))) :
    Ev (fun k => decimal_Compare.f k n a b m c d) (if err2 n (S a) (S b) m (S c) (S d) = 0 then (cmpA n m A B, 0) else (0, err2 n (S a) (S b) m (S c) (S d))) := by
  by_cases h : err2 n (S a) (S b) m (S c) (S d) = 0
  · obtain ⟨f1, f2⟩ := err2_fine h
    have l1 := f1.len
    have l2 := f2.len
    rw [S_len, S_len] at l1 l2
    have lA : (dg A).length ≤ 200 := by rw [hA, nA]; exact Nat.le_trans (num_len f1 _) (by omega)
    have lB : (dg B).length ≤ 200 := by rw [hB, nB]; exact Nat.le_trans (num_len f2 _) (by omega)
    have al := aligned_is n a b m c d f1 f2
    rw [← nA, ← nB, ← hA, ← hB] at al
    rw [if_pos h]
    have j0 : ∀ x : Bool, x = (n && m) → Ev (fun k => decimal_Compare.j0 k (dg A) (dg B) x n a b m c d) (cmpA n m A B, 0) := by
      intro x hx
      unfold cmpA
      refine Ev.up (Ev.split (fun h1 => ?_) (fun h1 => Ev.split (fun h2 => Ev.val ?_) (fun h2 => Ev.split (fun h3 => Ev.val ?_) (fun h3 => ?_))))
      · rw [← hx, if_pos h1]
        exact Ev.bind (cmp_is B A (by omega) (by omega)) (Ev.val rfl)
      · rw [← hx, if_neg h1, if_pos h2]
      · rw [← hx, if_neg h1, if_neg h2, if_pos h3]
      · rw [← hx, if_neg h1, if_neg h2, if_neg h3]
        exact Ev.bind (cmp_is A B (by omega) (by omega)) (Ev.val rfl)
    refine Ev.bind (both_is n a b m c d ha hb hc hd) (Ev.pos h (Ev.bind al (Ev.split (fun h1 => j0 _ ?_) (fun h1 => j0 _ ?_))))
    · rw [h1]; rfl
    · simp only [Bool.not_eq_true] at h1; rw [h1]; rfl
  · rw [if_neg h]
    exact Ev.bind (both_is n a b m c d ha hb hc hd) (Ev.neg h (Ev.val rfl))
theorem sum_is (n : Bool) (a b : ByteArray) (m : Bool) (c d : ByteArray) (f1 : Fine n (S a) (S b)) (f2 : Fine m (S c) (S d)) (m2 : Bool) (A B : Nat) (hA : A = nA b d (num (S a) (S b))) (hB : B = nB b d (num (S c) (S d))) :
    ∃ r, Ev (fun k => decimal_sum.f k n a b m c d m2) r ∧ Tells r (sumA n m2 A B (max b.size d.size)) := by
  have l1 := f1.len
  have l2 := f2.len
  rw [S_len, S_len] at l1 l2
  have lA : (dg A).length ≤ 200 := by rw [hA, nA]; exact Nat.le_trans (num_len f1 _) (by omega)
  have lB : (dg B).length ≤ 200 := by rw [hB, nB]; exact Nat.le_trans (num_len f2 _) (by omega)
  have al := aligned_is n a b m c d f1 f2
  rw [← nA, ← nB, ← hA, ← hB] at al
  have hp : max b.size d.size ≤ 100000 := by omega
  have lS : (dg (A + B)).length ≤ 100000 := by
    have h1 : A < 10 ^ 200 := (length_dg_iff A 200).1 lA
    have h2 : B < 10 ^ 200 := (length_dg_iff B 200).1 lB
    have h3 : A + B < 10 ^ 201 := by rw [Nat.pow_succ]; generalize 10 ^ 200 = w at *; omega
    exact Nat.le_trans ((length_dg_iff _ 201).2 h3) (by omega)
  unfold sumA
  by_cases h : (n == m2) = true
  · rw [if_pos h]
    obtain ⟨r, hr, hT⟩ := made_is m2 (A + B) (max b.size d.size) lS hp
    exact ⟨r, Ev.bind al (Ev.pos h (Ev.bind (plus_is A B (by omega) (by omega)) (Ev.bind hr (Ev.val rfl)))), hT⟩
  · rw [if_neg h]
    by_cases h1 : A < B
    · rw [if_pos h1]
      obtain ⟨r, hr, hT⟩ := made_is m2 (B - A) (max b.size d.size) (Nat.le_trans (dg_len_mono (Nat.sub_le _ _)) (by omega)) hp
      exact ⟨r, Ev.bind al (Ev.neg h (Ev.bind (cmp_is A B (by omega) (by omega)) (Ev.pos (by rw [sgnc, if_pos h1]; omega) (Ev.bind (minus_is B A (Nat.le_of_lt h1) (by omega)) (Ev.bind hr (Ev.val rfl)))))), hT⟩
    · rw [if_neg h1]
      obtain ⟨r, hr, hT⟩ := made_is n (A - B) (max b.size d.size) (Nat.le_trans (dg_len_mono (Nat.sub_le _ _)) (by omega)) hp
      exact ⟨r, Ev.bind al (Ev.neg h (Ev.bind (cmp_is A B (by omega) (by omega)) (Ev.neg (by have := sgnc_ge (m := A) (n := B) (by omega); omega) (Ev.bind (minus_is A B (by omega) (by omega)) (Ev.bind hr (Ev.val rfl)))))), hT⟩
end
end Go.Proofs.YtihjcaglhjepdaaDoor.Q
set_option linter.unusedVariables false
set_option linter.unusedSimpArgs false
namespace Go.Proofs.YtihjcaglhjepdaaDoor.Q
open Go.RowKit Go.Proofs.YtihjcaglhjepdaaDoorW.PrintWords Go.Proofs.YtihjcaglhjepdaaDoor.P
theorem Add_is (n : Bool) (a b : ByteArray) (m : Bool) (c d : ByteArray) (ha : Fit a) (hb : Fit b) (hc : Fit c) (hd : Fit d) (A B : Nat) (hA : A = nA b d (num (S a) (S b))) (hB : B = nB b d (num (S c) (S d))) :
    ∃ r, Ev (fun k => decimal_Add.f k n a b m c d) r ∧ Tells r (if err2 n (S a) (S b) m (S c) (S d) = 0 then sumA n m A B (max b.size d.size) else bad (err2 n (S a) (S b) m (S c) (S d))) := by
  by_cases h : err2 n (S a) (S b) m (S c) (S d) = 0
  · obtain ⟨f1, f2⟩ := err2_fine h
    obtain ⟨r, hr, hT⟩ := sum_is n a b m c d f1 f2 m A B hA hB
    rw [if_pos h]
    exact ⟨r, Ev.bind (both_is n a b m c d ha hb hc hd) (Ev.pos h (Ev.bind hr (Ev.val rfl))), hT⟩
  · rw [if_neg h]
    exact ⟨_, Ev.bind (both_is n a b m c d ha hb hc hd) (Ev.neg h (Ev.val rfl)), Tells.bad _⟩
theorem Sub_is (n : Bool) (a b : ByteArray) (m : Bool) (c d : ByteArray) (ha : Fit a) (hb : Fit b) (hc : Fit c) (hd : Fit d) (A B : Nat) (hA : A = nA b d (num (S a) (S b))) (hB : B = nB b d (num (S c) (S d))) :
    ∃ r, Ev (fun k => decimal_Sub.f k n a b m c d) r ∧ Tells r (if err2 n (S a) (S b) m (S c) (S d) = 0 then sumA n (!m) A B (max b.size d.size) else bad (err2 n (S a) (S b) m (S c) (S d))) := by
  by_cases h : err2 n (S a) (S b) m (S c) (S d) = 0
  · obtain ⟨f1, f2⟩ := err2_fine h
    obtain ⟨r, hr, hT⟩ := sum_is n a b m c d f1 f2 (!m) A B hA hB
    rw [if_pos h]
    exact ⟨r, Ev.bind (both_is n a b m c d ha hb hc hd) (Ev.pos h (Ev.bind hr (Ev.val rfl))), hT⟩
  · rw [if_neg h]
    exact ⟨_, Ev.bind (both_is n a b m c d ha hb hc hd) (Ev.neg h (Ev.val rfl)), Tells.bad _⟩
theorem num_len0 {n : Bool} {a b : List Int} (h : Fine n a b) : (dg (num a b)).length ≤ 40 := by
  have := num_len h 0
  rwa [Nat.pow_zero, Nat.mul_one] at this
theorem mul_small {x y : Nat} (hx : (dg x).length ≤ 40) (hy : (dg y).length ≤ 40) : x * y < 10 ^ 80 := by
  have h1 := (length_dg_iff x 40).1 hx
  have h2 := (length_dg_iff y 40).1 hy
  rw [show 80 = 40 + 40 from rfl, Nat.pow_add]
  exact Nat.mul_lt_mul'' h1 h2
theorem Mul_is (n : Bool) (a b : ByteArray) (m : Bool) (c d : ByteArray) (ha : Fit a) (hb : Fit b) (hc : Fit c) (hd : Fit d) :
    ∃ r, Ev (fun k => decimal_Mul.f k n a b m c d) r ∧ Tells r (if err2 n (S a) (S b) m (S c) (S d) = 0 then mk (n != m) (num (S a) (S b) * num (S c) (S d)) (b.size + d.size) else bad (err2 n (S a) (S b) m (S c) (S d))) := by
  by_cases h : err2 n (S a) (S b) m (S c) (S d) = 0
  · obtain ⟨f1, f2⟩ := err2_fine h
    have l1 := f1.len
    have l2 := f2.len
    rw [S_len, S_len] at l1 l2
    have hw : wrap64 ((b.size : Int) + (d.size : Int)) = ((b.size + d.size : Nat) : Int) := by rw [wrap64_id (by omega) (by omega)]; omega
    obtain ⟨r, hr, hT⟩ := made_is (n != m) (num (S a) (S b) * num (S c) (S d)) (b.size + d.size) (Nat.le_trans ((length_dg_iff _ 80).2 (mul_small (num_len0 f1) (num_len0 f2))) (by omega)) (by omega)
    rw [if_pos h]
    refine ⟨r, Ev.bind (both_is n a b m c d ha hb hc hd) (Ev.pos h (Ev.pos (by omega) (Ev.bind (of_num n a b f1) (Ev.pos (by omega) (Ev.bind (of_num m c d f2) (Ev.bind (times_is _ _ (Nat.le_trans (num_len0 f1) (by omega)) (Nat.le_trans (num_len0 f2) (by omega))) ?_)))))), hT⟩
    rw [hw]
    exact Ev.bind hr (Ev.val rfl)
  · rw [if_neg h]
    exact ⟨_, Ev.bind (both_is n a b m c d ha hb hc hd) (Ev.neg h (Ev.val rfl)), Tells.bad _⟩
end Go.Proofs.YtihjcaglhjepdaaDoor.Q
set_option linter.unusedVariables false
set_option linter.unusedSimpArgs false
namespace Go.Proofs.YtihjcaglhjepdaaDoor.Q
open Go.RowKit Go.Proofs.YtihjcaglhjepdaaDoorW.PrintWords Go.Proofs.YtihjcaglhjepdaaDoor.P
theorem val_zero {l : List Int} (h : Dig l) : val l = 0 ↔ l.all (· == 0) = true := by
  induction l with
  | nil => simp [val]
  | cons d l ih =>
    rw [val_cons, List.all_cons, Bool.and_eq_true, ← ih h.tail]
    have h0 := h.head
    have hp : 0 < 10 ^ l.length := Nat.pow_pos (by omega)
    constructor
    · intro e
      have h1 : d.toNat * 10 ^ l.length = 0 := by omega
      have h2 : d.toNat = 0 := by rcases Nat.mul_eq_zero.1 h1 with h | h <;> omega
      have h3 : d = 0 := by omega
      exact ⟨by rw [h3]; rfl, by omega⟩
    · rintro ⟨e1, e2⟩
      have h3 : d = 0 := by simpa using e1
      rw [h3, e2]; simp
theorem all0_dn (l : List Int) : all0 l = (dn48 l).all (· == 0) := by
  induction l with
  | nil => rfl
  | cons d l ih =>
    show ((d == 48) && all0 l) = ((d - 48 == 0) && (dn48 l).all (· == 0))
    rw [ih]; congr 1
    rw [Bool.eq_iff_iff]; simp; omega
theorem num_zero {n : Bool} {a b : List Int} (h : Fine n a b) : num a b = 0 ↔ (all0 a && all0 b) = true := by
  rw [num, val_zero (allD_dig h.digits), ← all0_dn]
  simp [all0]
theorem Fine.nz {n : Bool} {a b : List Int} (h : Fine n a b) (hn : n = true) : num a b ≠ 0 := by
  intro e
  have h1 := (num_zero h).1 e
  have h2 := chk_fm h.ok
  simp [fm, hn, h1] at h2
theorem Fine.mk' {n : Bool} {a b : List Int} (hl : a.length + b.length ≤ 40) (h0 : a ≠ []) (ha : allD a = true) (hb : allD b = true) (hh : 1 < a.length → rd a 0 ≠ 48) (hn : n = true → ¬ (all0 a && all0 b) = true) : Fine n a b := by
  refine ⟨chk_of ?_ hl⟩
  unfold fm
  rw [isEmpty_false h0, ha, hb]
  have h1 : (decide (1 < a.length) && rd a 0 == 48) = false := by
    by_cases h : 1 < a.length
    · have := hh h; simp [this]
    · simp [h]
  have h2 : (n && (all0 a && all0 b)) = false := by
    cases n with
    | false => rfl
    | true => have := hn rfl; simp only [Bool.not_eq_true] at this; rw [this]; rfl
  rw [h1, h2]; rfl
def Z (n : Bool) (N : Nat) : Int := if n = true then -(N : Int) else (N : Int)
def sgI (x : Int) : Int := if x < 0 then -1 else if x = 0 then 0 else 1
def mkI (z : Int) (p : Nat) : Ans := mk (decide (z < 0)) z.natAbs p
theorem Z_true (N : Nat) : Z true N = -(N : Int) := rfl
theorem Z_false (N : Nat) : Z false N = (N : Int) := rfl
theorem mk_mkI (n : Bool) (N p : Nat) : mk n N p = mkI (Z n N) p := by
  unfold mkI
  cases n with
  | false =>
    rw [Z_false, Int.natAbs_natCast]
    have : decide ((N : Int) < 0) = false := decide_eq_false (by omega)
    rw [this]
  | true =>
    rw [Z_true, Int.natAbs_neg, Int.natAbs_natCast]
    by_cases h : N = 0
    · subst h; unfold mk; rfl
    · have : decide (-(N : Int) < 0) = true := decide_eq_true (by omega)
      rw [this]
theorem sumA_I (n m : Bool) (A B p : Nat) : sumA n m A B p = mkI (Z n A + Z m B) p := by
  unfold sumA
  cases n <;> cases m <;> simp only [Z_true, Z_false, beq_self_eq_true, if_true]
  · rw [mk_mkI, Z_false]; congr 1
  · rw [if_neg (by decide)]
    split
    · rw [mk_mkI, Z_true]; congr 1; omega
    · rw [mk_mkI, Z_false]; congr 1; omega
  · rw [if_neg (by decide)]
    split
    · rw [mk_mkI, Z_false]; congr 1; omega
    · rw [mk_mkI, Z_true]; congr 1; omega
  · rw [mk_mkI, Z_true]; congr 1; omega
theorem mulA_I (n m : Bool) (A B p : Nat) : mk (n != m) (A * B) p = mkI (Z n A * Z m B) p := by
  rw [mk_mkI]
  congr 1
  cases n <;> cases m
  · show ((A * B : Nat) : Int) = _; rw [Z_false, Z_false]; simp
  · show -((A * B : Nat) : Int) = _; rw [Z_false, Z_true]; simp [Int.mul_neg]
  · show -((A * B : Nat) : Int) = _; rw [Z_false, Z_true]; simp [Int.neg_mul]
  · show ((A * B : Nat) : Int) = _; rw [Z_true, Z_true]; simp [Int.neg_mul_neg]
theorem sgnc_I (A B : Nat) : sgnc A B = sgI ((A : Int) - (B : Int)) := by
  unfold sgnc sgI
  split
  · rw [if_pos (by omega)]
  · split
    · rw [if_neg (by omega), if_pos (by omega)]
    · rw [if_neg (by omega), if_neg (by omega)]
theorem cmpA_I (n m : Bool) (A B : Nat) (hn : n = true → A ≠ 0) (hm : m = true → B ≠ 0) : cmpA n m A B = sgI (Z n A - Z m B) := by
  unfold cmpA
  cases n <;> cases m
  · rw [if_neg (by decide), if_neg (by decide), if_neg (by decide), sgnc_I]; rfl
  · have := hm rfl
    rw [if_neg (by decide), if_neg (by decide), if_pos rfl, Z_true, Z_false, sgI, if_neg (by omega), if_neg (by omega)]
  · have := hn rfl
    have e : -(A : Int) - (B : Int) < 0 := by omega
    rw [if_neg (by decide), if_pos rfl, Z_true, Z_false]; unfold sgI; rw [if_pos e]
  · rw [if_pos (show (true && true) = true from rfl), sgnc_I, Z_true, Z_true, show (B : Int) - (A : Int) = -(A : Int) - -(B : Int) by omega]
theorem Z_scale (n : Bool) (N t : Nat) : Z n (N * t) = Z n N * (t : Int) := by
  cases n
  · rw [Z_false, Z_false]; simp
  · rw [Z_true, Z_true]; simp [Int.neg_mul]
theorem allD_up {l : List Int} (h : Dig l) : allD (up48 l) = true := by
  rw [allD, List.all_eq_true]
  intro x hx
  obtain ⟨d, hd, rfl⟩ := List.mem_map.1 hx
  have := h d hd
  simp [isD]; omega
theorem up48_take (l : List Int) (n : Nat) : (up48 l).take n = up48 (l.take n) := by simp [up48, List.map_take]
theorem up48_drop (l : List Int) (n : Nat) : (up48 l).drop n = up48 (l.drop n) := by simp [up48, List.map_drop]
theorem rd_up (d : Int) (l : List Int) : rd (up48 (d :: l)) 0 = d + 48 := rfl
theorem mk_good {n : Bool} {N p : Nat} (h : (mk n N p).err = 0) :
    Fine (mk n N p).neg (mk n N p).a (mk n N p).b ∧ num (mk n N p).a (mk n N p).b = N ∧ (mk n N p).b.length = p ∧ (mk n N p).neg = (n && decide (N ≠ 0)) := by
  unfold mk at *
  split
  · rename_i h1; rw [if_pos h1] at h; exact absurd h (by show (3 : Int) ≠ 0; omega)
  · rename_i h1
    have hL : (padL (p + 1) (dg N)).length = max (p + 1) (dg N).length := padL_len_max _ _
    have dL : Dig (padL (p + 1) (dg N)) := Dig_padL _ (Dig_dg N)
    have vL : val (padL (p + 1) (dg N)) = N := by rw [val_padL, val_dg]
    have hhead : (p + 1) < (padL (p + 1) (dg N)).length → ∀ d m, padL (p + 1) (dg N) = d :: m → d ≠ 0 := by
      intro h2 d m e
      have h3 : padL (p + 1) (dg N) = dg N := by
        rw [padL, show p + 1 - (dg N).length = 0 by omega]; rfl
      rw [h3] at e
      exact dg_head e
    generalize padL (p + 1) (dg N) = L at *
    have hp : p < L.length := by omega
    have e1 : up48 (L.take (L.length - p)) ++ up48 (L.drop (L.length - p)) = up48 L := by rw [← up48_append, List.take_append_drop]
    have hnum : num (up48 (L.take (L.length - p))) (up48 (L.drop (L.length - p))) = N := by rw [num, e1, dn_up, vL]
    have la : (up48 (L.take (L.length - p))).length = L.length - p := by rw [up48_len, List.length_take]; omega
    have lb : (up48 (L.drop (L.length - p))).length = p := by rw [up48_len, List.length_drop]; omega
    have Da := allD_up (dL.take (L.length - p))
    have Db := allD_up (dL.drop (L.length - p))
    show Fine _ _ _ ∧ _
    dsimp only
    rw [up48_take, up48_drop]
    refine ⟨?_, hnum, lb, rfl⟩
    refine Fine.mk' (by rw [la, lb]; omega) (by intro e; rw [e] at la; simp at la; omega) Da Db ?_ ?_
    · intro hl
      rw [la] at hl
      have hpos : 0 < L.length - p := by omega
      cases L with
      | nil => simp at hp
      | cons d m =>
        have h3 := hhead (by omega) d m rfl
        obtain ⟨k, hk⟩ : ∃ k, (d :: m).length - p = k + 1 := ⟨(d :: m).length - p - 1, by omega⟩
        rw [hk, List.take_succ_cons, rd_up]
        omega
    · intro hn h0
      have hNz : N ≠ 0 := by simpa using (Bool.and_eq_true_iff.1 hn).2
      apply hNz
      rw [← hnum, num, val_zero (allD_dig (allD_append Da Db)), ← all0_dn]
      rw [← h0]; simp [all0]
theorem Z_sign (n : Bool) (N : Nat) : Z (n && decide (N ≠ 0)) N = Z n N := by
  by_cases h : N = 0
  · subst h; cases n <;> rfl
  · simp [h]
theorem Z_abs (z : Int) : Z (decide (z < 0)) z.natAbs = z := by
  by_cases h : z < 0
  · rw [decide_eq_true h, Z_true]; omega
  · rw [decide_eq_false h, Z_false]; omega
def zn (n : Bool) (a b : List Int) : Int := Z n (num a b)
theorem mkI_good {z : Int} {p : Nat} (h : (mkI z p).err = 0) :
    Fine (mkI z p).neg (mkI z p).a (mkI z p).b ∧ zn (mkI z p).neg (mkI z p).a (mkI z p).b = z ∧ (mkI z p).b.length = p := by
  obtain ⟨h1, h2, h3, h4⟩ := mk_good h
  refine ⟨h1, ?_, h3⟩
  show Z (mk (decide (z < 0)) z.natAbs p).neg (num (mk (decide (z < 0)) z.natAbs p).a (mk (decide (z < 0)) z.natAbs p).b) = z
  rw [h2, h4, Z_sign, Z_abs]
end Go.Proofs.YtihjcaglhjepdaaDoor.Q
set_option linter.unusedVariables false
set_option linter.unusedSimpArgs false
namespace Go.Proofs.YtihjcaglhjepdaaDoor.Q
open Go.RowKit Go.Proofs.YtihjcaglhjepdaaDoorW.PrintWords Go.Proofs.YtihjcaglhjepdaaDoor.P
def al (z : Int) (p q : Nat) : Int := z * ((10 ^ (max p q - p) : Nat) : Int)
theorem p10 (n : Nat) : (0 : Int) < ((10 ^ n : Nat) : Int) := by
  have : 0 < 10 ^ n := Nat.pow_pos (by omega)
  omega
def eqv (z : Int) (p : Nat) (w : Int) (q : Nat) : Prop := z * ((10 ^ q : Nat) : Int) = w * ((10 ^ p : Nat) : Int)
theorem pow_cast_add (a b : Nat) : ((10 ^ (a + b) : Nat) : Int) = ((10 ^ a : Nat) : Int) * ((10 ^ b : Nat) : Int) := by
  rw [Nat.pow_add]; simp
theorem al_up (z : Int) (p q r : Nat) (h : max p q ≤ r) : al z p q * ((10 ^ (r - max p q) : Nat) : Int) = z * ((10 ^ (r - p) : Nat) : Int) := by
  rw [al, Int.mul_assoc, ← pow_cast_add]; congr 3; omega
theorem al_sub_up (z : Int) (p : Nat) (w : Int) (q r : Nat) (h : max p q ≤ r) : (al z p q - al w q p) * ((10 ^ (r - max p q) : Nat) : Int) = z * ((10 ^ (r - p) : Nat) : Int) - w * ((10 ^ (r - q) : Nat) : Int) := by
  have h1 := al_up z p q r h
  have h2 := al_up w q p r (by omega)
  rw [Nat.max_comm q p] at h2
  rw [Int.sub_mul, h1, h2]
theorem al_eqv (z : Int) (p : Nat) (w : Int) (q : Nat) : al z p q - al w q p = 0 ↔ eqv z p w q := by
  have h := al_sub_up z p w q (p + q) (by omega)
  rw [show p + q - p = q by omega, show p + q - q = p by omega] at h
  unfold eqv
  have h10 := p10 (p + q - max p q)
  constructor
  · intro e
    rw [e, Int.zero_mul] at h
    omega
  · intro e
    have : (al z p q - al w q p) * ((10 ^ (p + q - max p q) : Nat) : Int) = 0 := by omega
    rcases Int.mul_eq_zero.1 this with h1 | h1
    · exact h1
    · omega
theorem eqv_refl (z : Int) (p : Nat) : eqv z p z p := rfl
end Go.Proofs.YtihjcaglhjepdaaDoor.Q
set_option linter.unusedVariables false
set_option linter.unusedSimpArgs false
namespace Go.Proofs.YtihjcaglhjepdaaDoor.Q
open Go.RowKit Go.Proofs.YtihjcaglhjepdaaDoorW.PrintWords Go.Proofs.YtihjcaglhjepdaaDoor.P
theorem Fine.fit {n : Bool} {a b : ByteArray} (h : Fine n (S a) (S b)) : Fit a ∧ Fit b ∧ a.size + b.size ≤ 40 := by
  have hl := h.len
  rw [S_len, S_len] at hl
  unfold Fit; omega
theorem err2_of {n : Bool} {a b : List Int} {m : Bool} {c d : List Int} (h : Fine n a b) (h' : Fine m c d) : err2 n a b m c d = 0 := by
  unfold err2; rw [if_pos h.ok]; exact h'.ok
theorem Z_not (m : Bool) (B : Nat) : Z (!m) B = -(Z m B) := by
  cases m
  · rfl
  · show ((B : Nat) : Int) = -(-(B : Int)); omega
theorem nA_Z (n : Bool) (a b d : ByteArray) : Z n (nA b d (num (S a) (S b))) = al (zn n (S a) (S b)) b.size d.size := by rw [nA, Z_scale]; rfl
theorem nB_Z (m : Bool) (b c d : ByteArray) : Z m (nB b d (num (S c) (S d))) = al (zn m (S c) (S d)) d.size b.size := by rw [nB, Z_scale, al, Nat.max_comm]; rfl
theorem scaled_ne {x t : Nat} (h : x ≠ 0) : x * 10 ^ t ≠ 0 := by
  have : 0 < 10 ^ t := Nat.pow_pos (by omega)
  intro e
  rcases Nat.mul_eq_zero.1 e with h1 | h1 <;> omega
section
variable {n : Bool} {a b : ByteArray} {m : Bool} {c d : ByteArray} (h : Fine n (S a) (S b)) (h' : Fine m (S c) (S d))
include h h'
theorem cmp_f : Ev (fun k => decimal_Compare.f k n a b m c d) (sgI (al (zn n (S a) (S b)) b.size d.size - al (zn m (S c) (S d)) d.size b.size), 0) := by
  have C := Compare_is n a b m c d h.fit.1 h.fit.2.1 h'.fit.1 h'.fit.2.1 _ _ rfl rfl
  have hn : n = true → nA b d (num (S a) (S b)) ≠ 0 := fun e => scaled_ne (h.nz e)
  have hm : m = true → nB b d (num (S c) (S d)) ≠ 0 := fun e => scaled_ne (h'.nz e)
  rw [if_pos (err2_of h h'), cmpA_I _ _ _ _ hn hm, nA_Z, nB_Z] at C
  exact C
theorem great_yes (e : eqv (zn n (S a) (S b)) b.size (zn m (S c) (S d)) d.size) : Ev (fun k => idiomlaw02_great.f k n a b m c d) true := by
  have C := cmp_f h h'
  rw [(al_eqv _ _ _ _).2 e] at C
  exact Ev.bind C (Ev.pos rfl (Ev.val rfl))
theorem add_f : ∃ r, Ev (fun k => decimal_Add.f k n a b m c d) r ∧ Tells r (mkI (al (zn n (S a) (S b)) b.size d.size + al (zn m (S c) (S d)) d.size b.size) (max b.size d.size)) := by
  obtain ⟨r, hr, hT⟩ := Add_is n a b m c d h.fit.1 h.fit.2.1 h'.fit.1 h'.fit.2.1 _ _ rfl rfl
  rw [if_pos (err2_of h h'), sumA_I, nA_Z, nB_Z] at hT
  exact ⟨r, hr, hT⟩
theorem sub_f : ∃ r, Ev (fun k => decimal_Sub.f k n a b m c d) r ∧ Tells r (mkI (al (zn n (S a) (S b)) b.size d.size - al (zn m (S c) (S d)) d.size b.size) (max b.size d.size)) := by
  obtain ⟨r, hr, hT⟩ := Sub_is n a b m c d h.fit.1 h.fit.2.1 h'.fit.1 h'.fit.2.1 _ _ rfl rfl
  rw [if_pos (err2_of h h'), sumA_I, Z_not, nA_Z, nB_Z, ← Int.sub_eq_add_neg] at hT
  exact ⟨r, hr, hT⟩
theorem mul_f : ∃ r, Ev (fun k => decimal_Mul.f k n a b m c d) r ∧ Tells r (mkI (zn n (S a) (S b) * zn m (S c) (S d)) (b.size + d.size)) := by
  obtain ⟨r, hr, hT⟩ := Mul_is n a b m c d h.fit.1 h.fit.2.1 h'.fit.1 h'.fit.2.1
  rw [if_pos (err2_of h h'), mulA_I] at hT
  exact ⟨r, hr, hT⟩
end
theorem told_mkI {r : Bool × ByteArray × ByteArray × Int} {z : Int} {p : Nat} (h : Tells r (mkI z p)) (he : r.2.2.2 = 0) : Fine r.1 (S r.2.1) (S r.2.2.1) ∧ zn r.1 (S r.2.1) (S r.2.2.1) = z ∧ r.2.2.1.size = p := by
  obtain ⟨h1, h2, h3, h4⟩ := h
  rw [he] at h4
  have := mkI_good h4.symm
  rw [← h1, ← h2, ← h3, S_len] at this
  exact this
theorem fine_step (l : List S23) (i : Nat) (x : S23) (hi : i < l.length) (hl : l.length ≤ 1000) (hx : rd_T23 l (i : Int) = x) (ha : Fit x.f1) (hb : Fit x.f2) (r : Bool)
    (yes : chk x.f0 (S x.f1) (S x.f2) = 0 → Ev (fun k => idiomlaw02_fine.l0 k l ((i + 1 : Nat) : Int)) r) (no : ¬ chk x.f0 (S x.f1) (S x.f2) = 0 → false = r) : Ev (fun k => idiomlaw02_fine.l0 k l (i : Int)) r := by
  have hw : wrap64 ((i : Int) + 1) = ((i + 1 : Nat) : Int) := by rw [wrap64_id (by omega) (by omega)]; omega
  refine Ev.up (Ev.pos (by omega) (Ev.pos (by omega) ?_))
  rw [hx, hw]
  exact Ev.bind (refCheck_is x.f0 x.f1 x.f2 ha hb) (Ev.split (fun h => yes h) (fun h => Ev.val (no h)))
theorem fine_end (l : List S23) (i : Nat) (hi : i = l.length) : Ev (fun k => idiomlaw02_fine.l0 k l (i : Int)) true :=
  Ev.up (Ev.neg (by omega) (Ev.val rfl))
theorem fine3_yes {n : Bool} {a b : ByteArray} {m : Bool} {c d : ByteArray} {o : Bool} {e f : ByteArray} (h : Fine n (S a) (S b)) (h' : Fine m (S c) (S d)) (h'' : Fine o (S e) (S f)) :
    Ev (fun k => idiomlaw02_fine.f k [(⟨n, a, b⟩ : S23), (⟨m, c, d⟩ : S23), (⟨o, e, f⟩ : S23)]) true :=
  fine_step _ 0 ⟨n, a, b⟩ (by show 0 < 3; omega) (by show 3 ≤ 1000; omega) rfl h.fit.1 h.fit.2.1 true (fun _ =>
    fine_step _ 1 ⟨m, c, d⟩ (by show 1 < 3; omega) (by show 3 ≤ 1000; omega) rfl h'.fit.1 h'.fit.2.1 true (fun _ =>
      fine_step _ 2 ⟨o, e, f⟩ (by show 2 < 3; omega) (by show 3 ≤ 1000; omega) rfl h''.fit.1 h''.fit.2.1 true (fun _ => fine_end _ 3 rfl)
        (fun g => absurd h''.ok g)) (fun g => absurd h'.ok g)) (fun g => absurd h.ok g)
theorem fine3_no {n : Bool} {a b : ByteArray} {m : Bool} {c d : ByteArray} {o : Bool} {e f : ByteArray} (ha : Fit a) (hb : Fit b) (hc : Fit c) (hd : Fit d) (he : Fit e) (hf : Fit f) (h : ¬ (Fine n (S a) (S b) ∧ Fine m (S c) (S d) ∧ Fine o (S e) (S f))) :
    Ev (fun k => idiomlaw02_fine.f k [(⟨n, a, b⟩ : S23), (⟨m, c, d⟩ : S23), (⟨o, e, f⟩ : S23)]) false :=
  fine_step _ 0 ⟨n, a, b⟩ (by show 0 < 3; omega) (by show 3 ≤ 1000; omega) rfl ha hb false (fun h1 =>
    fine_step _ 1 ⟨m, c, d⟩ (by show 1 < 3; omega) (by show 3 ≤ 1000; omega) rfl hc hd false (fun h2 =>
      fine_step _ 2 ⟨o, e, f⟩ (by show 2 < 3; omega) (by show 3 ≤ 1000; omega) rfl he hf false (fun h3 => absurd ⟨⟨h1⟩, ⟨h2⟩, ⟨h3⟩⟩ h)
        (fun _ => rfl)) (fun _ => rfl)) (fun _ => rfl)
end Go.Proofs.YtihjcaglhjepdaaDoor.Q
set_option linter.unusedVariables false
set_option linter.unusedSimpArgs false
namespace Go.Proofs.YtihjcaglhjepdaaDoor.Q
open Go.RowKit Go.Proofs.YtihjcaglhjepdaaDoorW.PrintWords Go.Proofs.YtihjcaglhjepdaaDoor.P
def Told (e : Int) (n : Bool) (a b : ByteArray) (z : Int) (p : Nat) : Prop := e = 0 → Fine n (S a) (S b) ∧ zn n (S a) (S b) = z ∧ b.size = p
theorem Told.of {r : Bool × ByteArray × ByteArray × Int} {z : Int} {p : Nat} (h : Tells r (mkI z p)) : Told r.2.2.2 r.1 r.2.1 r.2.2.1 z p := fun he => told_mkI h he
theorem al_al (z : Int) (p q s : Nat) : al (al z p q) (max p q) s = z * ((10 ^ (max (max p q) s - p) : Nat) : Int) := by
  rw [al, al, Int.mul_assoc, ← pow_cast_add]; congr 3; omega
theorem al_max (z : Int) (p q : Nat) : al z q (max p q) = z * ((10 ^ (max p q - q) : Nat) : Int) := by
  rw [al]; congr 3; omega
theorem al_add (x y : Int) (p q : Nat) : al (x + y) p q = al x p q + al y p q := Int.add_mul _ _ _
theorem al_sub (x y : Int) (p q : Nat) : al (x - y) p q = al x p q - al y p q := Int.sub_mul _ _ _
theorem same_dec (r : Bool × ByteArray × ByteArray × Int) : (!(r.1 == r.1) || (!(r.2.1.toList == r.2.1.toList) || (!(r.2.2.1.toList == r.2.2.1.toList)))) = false := by simp
theorem assoc_sum (x y z : Int) (p q s : Nat) : al (al x p q + al y q p) (max p q) s + al z s (max p q) = al x p (max q s) + al (al y q s + al z s q) (max q s) p := by
  have e1 := al_al x p q s
  have e2 := al_al y q p s
  have e3 := al_al y q s p
  have e4 := al_al z s q p
  rw [Nat.max_comm q p] at e2
  rw [Nat.max_comm s q] at e4
  rw [al_add, al_add, e1, e2, e3, e4, al, al]
  rw [show max (max q s) p = max (max p q) s by omega, show max p (max q s) = max (max p q) s by omega, show max s (max p q) = max (max p q) s by omega]
  omega
theorem dist_sum (x y z : Int) (p q s : Nat) : x * (al y q s + al z s q) = al (x * y) (p + q) (p + s) + al (x * z) (p + s) (p + q) := by
  rw [al, al, al, al, Int.mul_add, ← Int.mul_assoc, ← Int.mul_assoc]
  congr 4 <;> omega
theorem sub_back (x y : Int) (p q : Nat) : eqv (al (al x p q - al y q p) (max p q) q + al y q (max p q)) (max (max p q) q) x p := by
  have e1 := al_al x p q q
  have e2 := al_al y q p q
  rw [Nat.max_comm q p] at e2
  rw [al_sub, e1, e2, al_max, show max (max p q) q = max p q by omega]
  have : x * ((10 ^ (max p q - p) : Nat) : Int) - y * ((10 ^ (max p q - q) : Nat) : Int) + y * ((10 ^ (max p q - q) : Nat) : Int) = x * ((10 ^ (max p q - p) : Nat) : Int) := by omega
  rw [this]
  unfold eqv
  rw [Int.mul_assoc, ← pow_cast_add]; congr 3; omega
section
variable {n : Bool} {a b : ByteArray} {m : Bool} {c d : ByteArray} {o : Bool} {e f : ByteArray} (h1 : Fine n (S a) (S b)) (h2 : Fine m (S c) (S d)) (h3 : Fine o (S e) (S f))
section
include h1 h2
theorem ring_j7 : Ev (fun k => idiomlaw02_DecimalRing.j7 k n a b m c d) true := by
  obtain ⟨r, hr, hT⟩ := sub_f h1 h2
  refine Ev.up (Ev.bind hr (Ev.split (fun he => ?_) (fun he => Ev.val rfl)))
  obtain ⟨f1, f2, f3⟩ := told_mkI hT he
  obtain ⟨s, hs, hU⟩ := add_f f1 h2
  refine Ev.bind hs (Ev.split (fun hf => ?_) (fun hf => Ev.val rfl))
  obtain ⟨g1, g2, g3⟩ := told_mkI hU hf
  refine (great_yes g1 h1 ?_).tail
  rw [g2, g3, f2, f3]
  exact sub_back _ _ _ _
theorem ring_j6 (x : Bool) {n1 : Bool} {a1 b1 : ByteArray} {n2 : Bool} {a2 b2 : ByteArray} {n3 : Bool} {a3 b3 : ByteArray} (z3 : Int) (s : Nat) (e1 e2 e3 : Int)
    (t1 : Told e1 n1 a1 b1 (al (zn m (S c) (S d)) d.size s + al z3 s d.size) (max d.size s)) (t2 : Told e2 n2 a2 b2 (zn n (S a) (S b) * zn m (S c) (S d)) (b.size + d.size)) (t3 : Told e3 n3 a3 b3 (zn n (S a) (S b) * z3) (b.size + s))
    (hx : x = true → e1 = 0 ∧ e2 = 0 ∧ e3 = 0) : Ev (fun k => idiomlaw02_DecimalRing.j6 k x n a b m c d n1 a1 b1 n2 a2 b2 n3 a3 b3) true := by
  refine Ev.up (Ev.split (fun h => ?_) (fun h => ring_j7 h1 h2))
  obtain ⟨x1, x2, x3⟩ := hx h
  obtain ⟨f1, f2, f3⟩ := t1 x1
  obtain ⟨g1, g2, g3⟩ := t2 x2
  obtain ⟨k1, k2, k3⟩ := t3 x3
  obtain ⟨r, hr, hT⟩ := mul_f h1 f1
  obtain ⟨u, hu, hU⟩ := add_f g1 k1
  refine Ev.bind hr (Ev.bind hu (Ev.split (fun he => Ev.split (fun hf => ?_) (fun hf => ring_j7 h1 h2)) (fun he => ring_j7 h1 h2)))
  obtain ⟨l1, l2, l3⟩ := told_mkI hT he
  obtain ⟨m1, m2, m3⟩ := told_mkI hU hf
  refine Ev.bind (great_yes l1 m1 ?_) (Ev.pos rfl (ring_j7 h1 h2))
  rw [l2, l3, m2, m3, f2, f3, g2, g3, k2, k3, ← dist_sum, show max (b.size + d.size) (b.size + s) = b.size + max d.size s by omega]
  exact eqv_refl _ _
theorem ring_j5 {n1 : Bool} {a1 b1 : ByteArray} {n2 : Bool} {a2 b2 : ByteArray} {n3 : Bool} {a3 b3 : ByteArray} (z3 : Int) (s : Nat) (e1 e2 e3 : Int)
    (t1 : Told e1 n1 a1 b1 (al (zn m (S c) (S d)) d.size s + al z3 s d.size) (max d.size s)) (t2 : Told e2 n2 a2 b2 (zn n (S a) (S b) * zn m (S c) (S d)) (b.size + d.size)) (t3 : Told e3 n3 a3 b3 (zn n (S a) (S b) * z3) (b.size + s)) :
    Ev (fun k => idiomlaw02_DecimalRing.j5 k e1 e2 e3 n a b m c d n1 a1 b1 n2 a2 b2 n3 a3 b3) true := by
  refine Ev.up (Ev.split (fun x1 => Ev.split (fun x2 => ?_) (fun _ => ?_)) (fun _ => ?_))
  · exact ring_j6 h1 h2 _ z3 s e1 e2 e3 t1 t2 t3 (fun h => ⟨x1, x2, by simpa using h⟩)
  · exact ring_j6 h1 h2 _ z3 s e1 e2 e3 t1 t2 t3 (fun h => absurd h (by decide))
  · exact ring_j6 h1 h2 _ z3 s e1 e2 e3 t1 t2 t3 (fun h => absurd h (by decide))
end
include h1 h2 h3
theorem ring_j4 (x : Bool) {n1 : Bool} {a1 b1 : ByteArray} {n2 : Bool} {a2 b2 : ByteArray} {n4 : Bool} {a4 b4 : ByteArray} {n3 : Bool} {a3 b3 : ByteArray} (e1 e2 e3 e4 : Int)
    (t1 : Told e1 n1 a1 b1 (al (zn m (S c) (S d)) d.size f.size + al (zn o (S e) (S f)) f.size d.size) (max d.size f.size)) (t2 : Told e2 n2 a2 b2 (zn n (S a) (S b) * zn m (S c) (S d)) (b.size + d.size)) (t3 : Told e3 n3 a3 b3 (zn n (S a) (S b) * zn o (S e) (S f)) (b.size + f.size))
    (t4 : Told e4 n4 a4 b4 (zn m (S c) (S d) * zn o (S e) (S f)) (d.size + f.size)) (hx : x = true → e2 = 0 ∧ e4 = 0) :
    Ev (fun k => idiomlaw02_DecimalRing.j4 k e1 e2 e3 x n a b m c d o e f n1 a1 b1 n2 a2 b2 n4 a4 b4 n3 a3 b3) true := by
  have nxt := ring_j5 h1 h2 (zn o (S e) (S f)) f.size e1 e2 e3 t1 t2 t3
  refine Ev.up (Ev.split (fun h => ?_) (fun h => nxt))
  obtain ⟨x2, x4⟩ := hx h
  obtain ⟨g1, g2, g3⟩ := t2 x2
  obtain ⟨k1, k2, k3⟩ := t4 x4
  obtain ⟨r, hr, hT⟩ := mul_f g1 h3
  obtain ⟨u, hu, hU⟩ := mul_f h1 k1
  rw [g2, g3, Int.mul_assoc, Nat.add_assoc] at hT
  rw [k2, k3] at hU
  obtain rfl := Tells.eq hT hU
  exact Ev.bind hr (Ev.bind hu (Ev.split (fun he => Ev.split (fun hf => Ev.neg (by rw [same_dec]; exact Bool.false_ne_true) nxt) (fun hf => nxt)) (fun he => nxt)))
theorem ring_j3 (x : Bool) (hx : x = false) {n1 : Bool} {a1 b1 : ByteArray} {n2 : Bool} {a2 b2 : ByteArray} {n4 : Bool} {a4 b4 : ByteArray} {n3 : Bool} {a3 b3 : ByteArray} (e1 e2 e3 e4 : Int)
    (t1 : Told e1 n1 a1 b1 (al (zn m (S c) (S d)) d.size f.size + al (zn o (S e) (S f)) f.size d.size) (max d.size f.size)) (t2 : Told e2 n2 a2 b2 (zn n (S a) (S b) * zn m (S c) (S d)) (b.size + d.size)) (t3 : Told e3 n3 a3 b3 (zn n (S a) (S b) * zn o (S e) (S f)) (b.size + f.size))
    (t4 : Told e4 n4 a4 b4 (zn m (S c) (S d) * zn o (S e) (S f)) (d.size + f.size)) :
    Ev (fun k => idiomlaw02_DecimalRing.j3 k e1 e2 e4 e3 x n a b m c d o e f n1 a1 b1 n2 a2 b2 n4 a4 b4 n3 a3 b3) true := by
  refine Ev.up (Ev.neg (by rw [hx]; exact Bool.false_ne_true) (Ev.split (fun x2 => ?_) (fun x2 => ?_)))
  · exact ring_j4 h1 h2 h3 _ e1 e2 e3 e4 t1 t2 t3 t4 (fun h => ⟨x2, by simpa using h⟩)
  · exact ring_j4 h1 h2 h3 _ e1 e2 e3 e4 t1 t2 t3 t4 (fun h => absurd h (by decide))
theorem ring_j2 {n1 : Bool} {a1 b1 : ByteArray} (e1 : Int) (t1 : Told e1 n1 a1 b1 (al (zn m (S c) (S d)) d.size f.size + al (zn o (S e) (S f)) f.size d.size) (max d.size f.size)) :
    Ev (fun k => idiomlaw02_DecimalRing.j2 k e1 n a b m c d o e f n1 a1 b1) true := by
  obtain ⟨r, hr, hT⟩ := mul_f h1 h2
  obtain ⟨r', hr', hT'⟩ := mul_f h2 h1
  obtain ⟨u, hu, hU⟩ := mul_f h2 h3
  obtain ⟨v, hv, hV⟩ := mul_f h1 h3
  rw [Int.mul_comm, Nat.add_comm] at hT'
  obtain rfl := Tells.eq hT hT'
  exact Ev.up (Ev.bind hr (Ev.bind hr' (Ev.bind hu (Ev.bind hv (Ev.pos rfl (ring_j3 h1 h2 h3 _ (same_dec r) e1 _ _ _ t1 (Told.of hT) (Told.of hV) (Told.of hU)))))))
theorem ring_j1 (x : Bool) {n0 : Bool} {a0 b0 : ByteArray} {n1 : Bool} {a1 b1 : ByteArray} (e0 e1 : Int) (t0 : Told e0 n0 a0 b0 (al (zn n (S a) (S b)) b.size d.size + al (zn m (S c) (S d)) d.size b.size) (max b.size d.size))
    (t1 : Told e1 n1 a1 b1 (al (zn m (S c) (S d)) d.size f.size + al (zn o (S e) (S f)) f.size d.size) (max d.size f.size)) (hx : x = true → e0 = 0 ∧ e1 = 0) :
    Ev (fun k => idiomlaw02_DecimalRing.j1 k e1 x n a b m c d o e f n0 a0 b0 n1 a1 b1) true := by
  have nxt := ring_j2 h1 h2 h3 e1 t1
  refine Ev.up (Ev.split (fun h => ?_) (fun h => nxt))
  obtain ⟨x0, x1⟩ := hx h
  obtain ⟨g1, g2, g3⟩ := t0 x0
  obtain ⟨k1, k2, k3⟩ := t1 x1
  obtain ⟨r, hr, hT⟩ := add_f g1 h3
  obtain ⟨u, hu, hU⟩ := add_f h1 k1
  rw [g2, g3, assoc_sum, show max (max b.size d.size) f.size = max b.size (max d.size f.size) by omega] at hT
  rw [k2, k3] at hU
  obtain rfl := Tells.eq hT hU
  exact Ev.bind hr (Ev.bind hu (Ev.split (fun he => Ev.split (fun hf => Ev.neg (by rw [same_dec]; exact Bool.false_ne_true) nxt) (fun hf => nxt)) (fun he => nxt)))
theorem ring_j0 (x : Bool) (hx : x = false) {n0 : Bool} {a0 b0 : ByteArray} {n1 : Bool} {a1 b1 : ByteArray} (e0 e1 : Int) (t0 : Told e0 n0 a0 b0 (al (zn n (S a) (S b)) b.size d.size + al (zn m (S c) (S d)) d.size b.size) (max b.size d.size))
    (t1 : Told e1 n1 a1 b1 (al (zn m (S c) (S d)) d.size f.size + al (zn o (S e) (S f)) f.size d.size) (max d.size f.size)) :
    Ev (fun k => idiomlaw02_DecimalRing.j0 k e0 e1 x n a b m c d o e f n0 a0 b0 n1 a1 b1) true := by
  refine Ev.up (Ev.neg (by rw [hx]; exact Bool.false_ne_true) (Ev.split (fun x0 => ?_) (fun x0 => ?_)))
  · exact ring_j1 h1 h2 h3 _ e0 e1 t0 t1 (fun h => ⟨x0, by simpa using h⟩)
  · exact ring_j1 h1 h2 h3 _ e0 e1 t0 t1 (fun h => absurd h (by decide))
end
theorem ring_law (n : Bool) (a b : ByteArray) (m : Bool) (c d : ByteArray) (o : Bool) (e f : ByteArray) (ha : Fit a) (hb : Fit b) (hc : Fit c) (hd : Fit d) (he : Fit e) (hf : Fit f) : ∃ k, idiomlaw02_DecimalRing.f k n a b m c d o e f = some true := by
  apply Ev.rounds
  refine Ev.bind awake_is (Ev.pos rfl ?_)
  by_cases H : Fine n (S a) (S b) ∧ Fine m (S c) (S d) ∧ Fine o (S e) (S f)
  · obtain ⟨h1, h2, h3⟩ := H
    obtain ⟨r, hr, hT⟩ := add_f h1 h2
    obtain ⟨r', hr', hT'⟩ := add_f h2 h1
    obtain ⟨u, hu, hU⟩ := add_f h2 h3
    rw [Int.add_comm, Nat.max_comm] at hT'
    obtain rfl := Tells.eq hT hT'
    exact Ev.bind (fine3_yes h1 h2 h3) (Ev.pos rfl (Ev.bind hr (Ev.bind hr' (Ev.bind hu (Ev.pos rfl (ring_j0 h1 h2 h3 _ (same_dec r) _ _ (Told.of hT) (Told.of hU)))))))
  · exact Ev.bind (fine3_no ha hb hc hd he hf H) (Ev.neg (by decide) (Ev.val rfl))
end Go.Proofs.YtihjcaglhjepdaaDoor.Q
