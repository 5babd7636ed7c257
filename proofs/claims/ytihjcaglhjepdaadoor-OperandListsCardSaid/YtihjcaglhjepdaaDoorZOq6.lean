/- A part of the proof. Part 7 of 8; its texts were written by programs, some out of the kit's print. -/
import Derived.Test.YtihjcaglhjepdaaDoorZOq5
import Derived.Lib.Bytes
import Derived.Sort.Walk0
set_option linter.unusedVariables false
set_option linter.unusedSimpArgs false
namespace Go.Proofs.YtihjcaglhjepdaaDoor.Q
open Go.RowKit Go.Proofs.YtihjcaglhjepdaaDoorW.PrintWords
def val (l : List Int) : Nat := l.foldl (fun n d => n * 10 + d.toNat) 0
def Dig (l : List Int) : Prop := ∀ d ∈ l, 0 ≤ d ∧ d ≤ 9
theorem foldl_val (l : List Int) : ∀ n : Nat, l.foldl (fun n d => n * 10 + d.toNat) n = n * 10 ^ l.length + val l := by
 induction l with
 | nil => intro n; simp [val]
 | cons d l ih =>
  intro n
  simp only [List.foldl_cons, val]
  rw [ih, ih (0 * 10 + d.toNat), List.length_cons, Nat.pow_succ, Nat.add_mul, Nat.zero_mul, Nat.zero_add, Nat.mul_assoc, Nat.mul_comm 10]
  omega
theorem val_nil : val [] = 0 := rfl
theorem val_append (l m : List Int) : val (l ++ m) = val l * 10 ^ m.length + val m := by
 rw [val, List.foldl_append, foldl_val]; rfl
theorem val_snoc (l : List Int) (d : Int) : val (l ++ [d]) = val l * 10 + d.toNat := by
 rw [val_append]; simp [val]
theorem val_cons (d : Int) (l : List Int) : val (d :: l) = d.toNat * 10 ^ l.length + val l := by
 rw [show d :: l = [d] ++ l from rfl, val_append]; simp [val]
theorem val_zeros (n : Nat) : val (List.replicate n 0) = 0 := by
 induction n with
 | zero => rfl
 | succ n ih => rw [List.replicate_succ, val_cons, ih]; simp
theorem Dig.nil : Dig [] := fun d h => by cases h
theorem Dig.append {l m : List Int} (h : Dig l) (k : Dig m) : Dig (l ++ m) := fun d hd => by
  rcases List.mem_append.1 hd with h1 | h1
  · exact h d h1
  · exact k d h1
theorem Dig.left {l m : List Int} (h : Dig (l ++ m)) : Dig l := fun d hd => h d (List.mem_append_left _ hd)
theorem Dig.right {l m : List Int} (h : Dig (l ++ m)) : Dig m := fun d hd => h d (List.mem_append_right _ hd)
theorem Dig.one {d : Int} (h0 : 0 ≤ d) (h1 : d ≤ 9) : Dig [d] := fun x hx => by rw [List.mem_singleton.1 hx]; exact ⟨h0, h1⟩
theorem Dig.head {d : Int} {l : List Int} (h : Dig (d :: l)) : 0 ≤ d ∧ d ≤ 9 := h d (List.mem_cons_self)
theorem Dig.tail {d : Int} {l : List Int} (h : Dig (d :: l)) : Dig l := fun x hx => h x (List.mem_cons_of_mem _ hx)
theorem Dig.cons {d : Int} {l : List Int} (h0 : 0 ≤ d) (h1 : d ≤ 9) (h : Dig l) : Dig (d :: l) := fun x hx => by
  rcases List.mem_cons.1 hx with rfl | hx
  · exact ⟨h0, h1⟩
  · exact h x hx
theorem Dig.zeros (n : Nat) : Dig (List.replicate n 0) := fun d hd => by rw [(List.mem_replicate.1 hd).2]; omega
theorem Dig.take {l : List Int} (h : Dig l) (n : Nat) : Dig (l.take n) := fun d hd => h d (List.mem_of_mem_take hd)
theorem Dig.drop {l : List Int} (h : Dig l) (n : Nat) : Dig (l.drop n) := fun d hd => h d (List.mem_of_mem_drop hd)
theorem val_lt {l : List Int} (h : Dig l) : val l < 10 ^ l.length := by
 induction l with
 | nil => simp [val]
 | cons d l ih =>
  have h1 := ih h.tail
  have h2 := h.head
  rw [val_cons, List.length_cons, Nat.pow_succ]
  have h3 : d.toNat * 10 ^ l.length ≤ 9 * 10 ^ l.length := Nat.mul_le_mul_right _ (by omega)
  omega
def dg (n : Nat) : List Int := if h : n = 0 then [] else dg (n / 10) ++ [((n % 10 : Nat) : Int)]
termination_by n
decreasing_by omega
theorem dg_zero : dg 0 = [] := by rw [dg]; simp
theorem dg_pos {n : Nat} (h : n ≠ 0) : dg n = dg (n / 10) ++ [((n % 10 : Nat) : Int)] := by rw [dg]; simp [h]
theorem val_dg (n : Nat) : val (dg n) = n := by
 induction n using Nat.strongRecOn with
 | _ n ih =>
  by_cases h : n = 0
  ·subst h; rw [dg_zero]; rfl
  ·rw [dg_pos h, val_snoc, ih (n / 10) (by omega)]; omega
theorem Dig_dg (n : Nat) : Dig (dg n) := by
 induction n using Nat.strongRecOn with
 | _ n ih =>
  by_cases h : n = 0
  ·subst h; rw [dg_zero]; exact Dig.nil
  ·rw [dg_pos h]; exact (ih (n / 10) (by omega)).append (Dig.one (by omega) (by omega))
theorem dg_eq_nil {n : Nat} : dg n = [] ↔ n = 0 := by
 constructor
 ·intro h
  have := val_dg n
  rw [h] at this
  exact this.symm
 ·rintro rfl; exact dg_zero
theorem dg_head {n : Nat} {d : Int} {l : List Int} (h : dg n = d :: l) : d ≠ 0 := by
 induction n using Nat.strongRecOn generalizing d l with
 | _ n ih =>
  by_cases h0 : n = 0
  ·subst h0; rw [dg_zero] at h; cases h
  ·rw [dg_pos h0] at h
   cases hx : dg (n / 10) with
   | nil =>
    rw [hx] at h
    have h1 := dg_eq_nil.1 hx
    simp only [List.nil_append, List.cons.injEq] at h
    omega
   | cons x m =>
    rw [hx] at h
    simp only [List.cons_append, List.cons.injEq] at h
    rw [← h.1]
    exact ih (n / 10) (by omega) hx
theorem dg_snoc {n : Nat} {d : Int} (h0 : 0 ≤ d) (h1 : d ≤ 9) (hn : n ≠ 0 ∨ d ≠ 0) : dg (n * 10 + d.toNat) = dg n ++ [d] := by
 rw [dg_pos (by omega), show (n * 10 + d.toNat) / 10 = n by omega, show (n * 10 + d.toNat) % 10 = d.toNat by omega]
 congr 2
 omega
theorem dg_val {l : List Int} (h : Dig l) (hh : ∀ d m, l = d :: m → d ≠ 0) : dg (val l) = l := by
 induction hn : l.length generalizing l with
 | zero => rw [List.eq_nil_of_length_eq_zero hn]; exact dg_zero
 | succ n ih =>
  have hne : l ≠ [] := by intro e; rw [e] at hn; simp at hn
  obtain ⟨m, d, rfl⟩ : ∃ m d, l = m ++ [d] := ⟨l.dropLast, l.getLast hne, (List.dropLast_concat_getLast hne).symm⟩
  have hd := h.right d (List.mem_singleton_self d)
  have hm : dg (val m) = m := ih h.left (fun x t e => hh x (t ++ [d]) (by rw [e]; rfl)) (by simpa using hn)
  rw [val_snoc, dg_snoc hd.1 hd.2, hm]
  cases m with
  | nil => right; exact hh d [] rfl
  | cons x t =>
   left
   intro e
   rw [e, dg_zero] at hm
   cases hm
theorem dg_lead {l : List Int} (h : Dig l) : dg (val l) = l.dropWhile (· == 0) := by
  induction l with
  | nil => exact dg_zero
  | cons d l ih =>
    by_cases hd : d = 0
    · subst hd
      rw [val_cons]
      simpa using ih h.tail
    · rw [List.dropWhile_cons_of_neg (by simpa using hd)]
      exact dg_val h (fun x m e => by injection e with e _; rw [← e]; exact hd)
theorem length_dg_le {n k : Nat} (h : n < 10 ^ k) : (dg n).length ≤ k := by
  induction k generalizing n with
  | zero => have : n = 0 := by simpa using h
            rw [this, dg_zero]; simp
  | succ k ih =>
    by_cases h0 : n = 0
    · rw [h0, dg_zero]; simp
    · rw [dg_pos h0, List.length_append, List.length_singleton]
      have := ih (n := n / 10) (by rw [Nat.pow_succ] at h; omega)
      omega
theorem lt_of_length_dg (n : Nat) : n < 10 ^ (dg n).length := by
 have := val_lt (Dig_dg n)
 rwa [val_dg] at this
theorem length_dg_iff (n k : Nat) : (dg n).length ≤ k ↔ n < 10 ^ k :=
  ⟨fun h => Nat.lt_of_lt_of_le (lt_of_length_dg n) (Nat.pow_le_pow_right (by omega) h), length_dg_le⟩
theorem dg_mul_pow (n k : Nat) : dg (n * 10 ^ k) = if n = 0 then [] else dg n ++ List.replicate k 0 := by
 by_cases h : n = 0
 ·subst h; rw [Nat.zero_mul, dg_zero]; rfl
 ·rw [if_neg h]
  induction k with
  | zero => simp
  | succ k ih =>
   have hp : 0 < 10 ^ k := Nat.pow_pos (by omega)
   have h1 : n * 10 ^ k ≠ 0 := by
    have := Nat.mul_pos (Nat.pos_of_ne_zero h) hp
    omega
   have h2 : n * 10 ^ (k + 1) = (n * 10 ^ k) * 10 + (0 : Int).toNat := by rw [Nat.pow_succ, ← Nat.mul_assoc]; rfl
   rw [h2, dg_snoc (by omega) (by omega) (.inl h1), ih, List.append_assoc, List.replicate_succ']
end Go.Proofs.YtihjcaglhjepdaaDoor.Q
set_option linter.unusedVariables false
set_option linter.unusedSimpArgs false
namespace Go.Proofs.YtihjcaglhjepdaaDoor.Q
open Go.RowKit Go.Proofs.YtihjcaglhjepdaaDoorW.PrintWords
def S (s : ByteArray) : List Int := s.data.toList.map fun b => (b.toNat : Int)
theorem S_len (s : ByteArray) : (S s).length = s.size := by
 rw [S, List.length_map, Array.length_toList]; rfl
theorem bt_S (s : ByteArray) (i : Int) : bt s i = rd (S s) i := by
 unfold bt rd S
 by_cases h : i.toNat < s.size
 ·have h' : i.toNat < s.data.size := h
  rw [dif_pos h, List.getD_eq_getElem?_getD, List.getElem?_map, List.getElem?_eq_getElem (by simpa using h')]
  simp
  rfl
 ·have h' : ¬ i.toNat < s.data.size := h
  rw [dif_neg h, List.getD_eq_getElem?_getD, List.getElem?_eq_none (by simpa using h')]
  rfl
theorem S_append (s t : ByteArray) : S (s ++ t) = S s ++ S t := by
 simp [S]
theorem S_extract (s : ByteArray) (a b : Nat) : S (s.extract a b) = ((S s).drop a).take (b - a) := by
 simp only [S, ByteArray.data_extract, Array.toList_extract, List.extract_eq_take_drop, List.map_take, List.map_drop]
theorem S_drop (s : ByteArray) (a : Nat) : S (s.extract a s.size) = (S s).drop a := by
 rw [S_extract]
 apply List.take_of_length_le
 rw [List.length_drop, S_len]
 omega
theorem S_take (s : ByteArray) (b : Nat) : S (s.extract 0 b) = (S s).take b := by
 rw [S_extract]; simp
theorem u8_ofNat (b : UInt8) : UInt8.ofNat ((b.toNat : Int).toNat) = b := by simp
theorem S_back (s : ByteArray) : strOfNums (S s) = s := by
  cases s with
  | mk d =>
    simp only [strOfNums, S, List.map_map, ByteArray.mk.injEq]
    have : (fun n : Int => UInt8.ofNat n.toNat) ∘ (fun b : UInt8 => (b.toNat : Int)) = id := by
      funext b; exact u8_ofNat b
    rw [this]; simp
theorem S_inj {s t : ByteArray} (h : S s = S t) : s = t := by rw [← S_back s, ← S_back t, h]
theorem S_str {l : List Int} (h : ∀ d ∈ l, 0 ≤ d ∧ d ≤ 255) : S (strOfNums l) = l := by
 simp only [S, strOfNums, List.map_map]
 conv => rhs; rw [← List.map_id l]
 apply List.map_congr_left
 intro d hd
 have := h d hd
 simp [UInt8.toNat_ofNat']
 omega
theorem toList_S (s t : ByteArray) : s.toList = t.toList ↔ S s = S t := by
 constructor
 ·intro h
  rw [ByteArray.toList_eq, ByteArray.toList_eq] at h
  rw [S, S, h]
 ·intro h; rw [S_inj h]
theorem toList_lit (s : ByteArray) (l : List UInt8) : s.toList = l ↔ S s = l.map (fun b => (b.toNat : Int)) := by
 have := toList_S s ⟨l.toArray⟩
 rw [ByteArray.toList_mk l] at this
 rw [this]; simp [S]
theorem toList_nil (s : ByteArray) : s.toList = ([] : List UInt8) ↔ S s = [] := toList_lit s []
theorem beq_S (s t : ByteArray) : (s.toList == t.toList) = decide (S s = S t) := by
 rw [Bool.eq_iff_iff]; simp [toList_S]
theorem beq_lit (s : ByteArray) (l : List UInt8) : (s.toList == l) = decide (S s = l.map (fun b => (b.toNat : Int))) := by
 rw [Bool.eq_iff_iff]; simp [toList_lit]
theorem u8_lt (a b : UInt8) : a < b ↔ (a.toNat : Int) < (b.toNat : Int) := by
 rw [UInt8.lt_iff_toNat_lt]; omega
def lessL : List Int → List Int → Bool
  | _, [] => false
  | [], _ :: _ => true
  | a :: x, b :: y => decide (a < b) || (decide (a = b) && lessL x y)
theorem less_S (s t : ByteArray) : Op.bytesLess s.toList t.toList = lessL (S s) (S t) := by
 rw [ByteArray.toList_eq, ByteArray.toList_eq, S, S]
 generalize s.data.toList = x
 generalize t.data.toList = y
 induction x generalizing y with
 | nil => cases y <;> rfl
 | cons a x ih =>
  cases y with
  | nil => rfl
  | cons b y =>
   simp only [Op.bytesLess, List.map_cons, lessL]
   rw [ih]
   have h1 : (decide (a < b)) = decide ((a.toNat : Int) < (b.toNat : Int)) := decide_eq_decide.2 (u8_lt a b)
   have h2 : (a == b) = decide ((a.toNat : Int) = (b.toNat : Int)) := by
    rw [Bool.eq_iff_iff]
    simp only [beq_iff_eq, decide_eq_true_eq]
    rw [← UInt8.toNat_inj]; omega
   rw [← h1, ← h2]
theorem lessL_val : ∀ {l m : List Int}, Dig l → Dig m → l.length = m.length → lessL l m = decide (val l < val m)
  | [], [], _, _, _ => by simp [lessL]
  | [], _ :: _, _, _, h => by simp at h
  | _ :: _, [], _, _, h => by simp at h
  | a :: x, b :: y, hl, hm, h => by
    have hx := val_lt hl.tail
    have hy := val_lt hm.tail
    have h' : x.length = y.length := by simpa using h
    have ha := hl.head
    have hb := hm.head
    rw [lessL, lessL_val hl.tail hm.tail h', val_cons, val_cons, h', Bool.eq_iff_iff]
    rw [h'] at hx
    simp only [Bool.or_eq_true, Bool.and_eq_true, decide_eq_true_eq]
    constructor
    · rintro (h1 | ⟨h1, h2⟩)
      · have h3 : (a.toNat + 1) * 10 ^ y.length ≤ b.toNat * 10 ^ y.length := Nat.mul_le_mul_right _ (by omega)
        rw [Nat.add_mul] at h3
        omega
      · subst h1; omega
    · intro h1
      rcases Int.lt_trichotomy a b with h2 | h2 | h2
      · exact .inl h2
      · subst h2; exact .inr ⟨rfl, by omega⟩
      · have h3 : (b.toNat + 1) * 10 ^ y.length ≤ a.toNat * 10 ^ y.length := Nat.mul_le_mul_right _ (by omega)
        rw [Nat.add_mul] at h3
        omega
theorem rd_nat (l : List Int) (i : Nat) : rd l (i : Int) = l.getD i 0 := by simp [rd]
theorem getD_append_left (l m : List Int) (i : Nat) (h : i < l.length) : (l ++ m).getD i 0 = l.getD i 0 := by
 simp [List.getD_eq_getElem?_getD, List.getElem?_append_left h]
theorem getD_append_mid (l : List Int) (d : Int) (m : List Int) : (l ++ d :: m).getD l.length 0 = d := by
 simp [List.getD_eq_getElem?_getD]
theorem set_append_mid (l : List Int) (d e : Int) (m : List Int) : (l ++ d :: m).set l.length e = l ++ e :: m := by
 simp [List.set_append]
theorem wrap64_id {x : Int} (h0 : -9223372036854775808 ≤ x) (h1 : x ≤ 9223372036854775807) : wrap64 x = x := by
 unfold wrap64; omega
def up48 (l : List Int) : List Int := l.map (· + 48)
theorem up48_len (l : List Int) : (up48 l).length = l.length := by simp [up48]
def dn48 (l : List Int) : List Int := l.map (· - 48)
theorem dn48_len (l : List Int) : (dn48 l).length = l.length := by simp [dn48]
theorem up_dn (l : List Int) : up48 (dn48 l) = l := by
 rw [up48, dn48, List.map_map]; conv => rhs; rw [← List.map_id l]
 apply List.map_congr_left; intro d _; show d - 48 + 48 = d; omega
theorem dn_up (l : List Int) : dn48 (up48 l) = l := by
 rw [up48, dn48, List.map_map]; conv => rhs; rw [← List.map_id l]
 apply List.map_congr_left; intro d _; show d + 48 - 48 = d; omega
end Go.Proofs.YtihjcaglhjepdaaDoor.Q
set_option linter.unusedVariables false
set_option linter.unusedSimpArgs false
namespace Go.Proofs.YtihjcaglhjepdaaDoorW.PrintWords
theorem Ev.pos {α : Type} {c : Prop} [Decidable c] {A B : Nat → Option α} {r : α} (h : c) (e : Ev A r) : Ev (fun k => if c then A k else B k) r :=
  Ev.congr (fun k => if_pos h) e
theorem Ev.neg {α : Type} {c : Prop} [Decidable c] {A B : Nat → Option α} {r : α} (h : ¬ c) (e : Ev B r) : Ev (fun k => if c then A k else B k) r :=
  Ev.congr (fun k => if_neg h) e
theorem Ev.split {α : Type} {c : Prop} [Decidable c] {A B : Nat → Option α} {r : α} (h : c → Ev A r) (h' : ¬ c → Ev B r) : Ev (fun k => if c then A k else B k) r := by
 by_cases hc : c
 ·exact Ev.pos hc (h hc)
 ·exact Ev.neg hc (h' hc)
theorem Ev.val {α : Type} {a r : α} (h : a = r) : Ev (fun _ => some a) r := by rw [h]; exact Ev.now r
theorem Ev.bindS {α β : Type} {a : α} {F : Nat → α → Option β} {r : β} (h : Ev (fun k => F k a) r) : Ev (fun k => (some a).bind (F k)) r := h
theorem Ev.bindV {α β : Type} {g : Option α} {a : α} {F : Nat → α → Option β} {r : β} (hg : g = some a) (h : Ev (fun k => F k a) r) : Ev (fun k => g.bind (F k)) r := by
 rw [hg]; exact h
theorem Ev.tail {α : Type} {g : Nat → Option α} {a : α} (h : Ev g a) : Ev (fun k => (g k).bind fun t => some t) a := Ev.bind h (Ev.now a)
theorem Ev.eq {α : Type} {g : Nat → Option α} {a b : α} (h : Ev g a) (e : a = b) : Ev g b := e ▸ h
theorem Ev.up {α : Type} {g : Nat → Option α} {r : α} (k : Ev (fun n => g (n + 1)) r) : Ev g r := Ev.step (fun _ => rfl) k
end Go.Proofs.YtihjcaglhjepdaaDoorW.PrintWords
set_option linter.unusedVariables false
set_option linter.unusedSimpArgs false
namespace Go.Proofs.YtihjcaglhjepdaaDoor.Q
open Go.RowKit Go.Proofs.YtihjcaglhjepdaaDoorW.PrintWords Go.Proofs.YtihjcaglhjepdaaDoor.P
def isD (d : Int) : Bool := decide (48 ≤ d) && decide (d ≤ 57)
def allD (l : List Int) : Bool := l.all isD
def all0 (l : List Int) : Bool := l.all (· == 48)
def fm (neg : Bool) (a b : List Int) : Bool := !a.isEmpty && allD a && allD b && !(decide (1 < a.length) && rd a 0 == 48) && !(neg && (all0 a && all0 b))
def okD (neg : Bool) (a b : List Int) : Bool := decide (a.length + b.length ≤ 40) && fm neg a b
def chk (neg : Bool) (a b : List Int) : Int := if okD neg a b = true then 0 else 20
def Fit (s : ByteArray) : Prop := s.size ≤ 1000000000000000000
theorem all_loop (s : ByteArray) (hs : Fit s) : ∀ rest pre : List Int, S s = pre ++ rest → Ev (fun k => decimal_all.l0 k s (s.size : Int) (pre.length : Int)) (allD rest) := by
  unfold Fit at hs
  intro rest
  induction rest with
  | nil =>
    intro pre h
    have hl : s.size = pre.length := by rw [← S_len, h]; simp
    refine Ev.up (Ev.neg (by omega) (Ev.val rfl))
  | cons d rest ih =>
    intro pre h
    have hl : s.size = pre.length + (rest.length + 1) := by rw [← S_len, h]; simp
    have hb : bt s (pre.length : Int) = d := by rw [bt_S, h, rd_nat, getD_append_mid]
    refine Ev.up (Ev.pos (by omega) (Ev.pos (by omega) (Ev.pos (by omega) ?_)))
    rw [hb]
    refine Ev.split (fun h1 => Ev.val ?_) (fun h1 => Ev.split (fun h2 => Ev.val ?_) (fun h2 => ?_))
    · simp [allD, isD]; omega
    · simp [allD, isD]; omega
    · have h3 := ih (pre ++ [d]) (by rw [h]; simp)
      have h4 : wrap64 ((pre.length : Int) + 1) = ((pre ++ [d]).length : Int) := by rw [wrap64_id (by omega) (by omega)]; simp
      rw [h4]
      refine h3.eq ?_
      have : isD d = true := by simp [isD]; omega
      simp [allD, this]
theorem all_is (s : ByteArray) (hs : Fit s) : Ev (fun k => decimal_all.f k s) (allD (S s)) := all_loop s hs (S s) [] rfl
def ltrim (l : List Int) : List Int := l.dropWhile (· == 48)
def rtrim (l : List Int) : List Int := (l.reverse.dropWhile (· == 48)).reverse
theorem ltrim_len (l : List Int) : (ltrim l).length ≤ l.length := by
 rw [ltrim, ← List.length_reverse]
 have := (List.dropWhile_suffix (l := l) (fun d : Int => d == 48)).length_le
 simpa using this
theorem ltrim_nil (l : List Int) : ltrim l = [] ↔ all0 l = true := by
 unfold ltrim all0
 induction l with
 | nil => simp
 | cons d l ih =>
  rw [List.dropWhile_cons]
  by_cases h : d = 48
  ·simpa [h] using ih
  ·simp [h]
theorem rtrim_snoc (l : List Int) (d : Int) : rtrim (l ++ [d]) = if d = 48 then rtrim l else l ++ [d] := by
 simp only [rtrim, List.reverse_append, List.reverse_cons, List.reverse_nil, List.nil_append, List.cons_append, List.dropWhile_cons]
 by_cases h : d = 48
 ·simp [h]
 ·simp [h]
theorem rtrim_nil (l : List Int) : rtrim l = [] ↔ all0 l = true := by
 have := ltrim_nil l.reverse
 simpa [rtrim, ltrim, all0] using this
theorem all0_ltrim (l : List Int) : all0 (ltrim l) = all0 l := by
 induction l with
 | nil => rfl
 | cons d l ih =>
  simp only [ltrim, List.dropWhile_cons]
  by_cases h : d = 48
  ·simpa [h, all0, ltrim] using ih
  ·simp [h]
theorem all0_rtrim (l : List Int) : all0 (rtrim l) = all0 l := by
 have h1 : all0 (rtrim l) = all0 (ltrim l.reverse) := by simp [all0, rtrim, ltrim]
 rw [h1, all0_ltrim]; simp [all0]
theorem trimLeft_is : ∀ (n : Nat) (s : ByteArray), s.size = n → Fit s → ∃ t, Ev (fun k => strings_trimLeftByte.f k s 48) t ∧ S t = ltrim (S s) := by
  intro n
  induction n with
  | zero =>
    intro s h _
    have h0 : S s = [] := List.eq_nil_of_length_eq_zero (by rw [S_len]; exact h)
    exact ⟨s, Ev.up (Ev.neg (by omega) (Ev.val rfl)), by rw [h0]; rfl⟩
  | succ n ih =>
    intro s h hf
    obtain ⟨d, m, e⟩ : ∃ d m, S s = d :: m := by
      cases he : S s with
      | nil => have := S_len s; rw [he] at this; simp at this; omega
      | cons d m => exact ⟨d, m, rfl⟩
    have hb : bt s 0 = d := by rw [bt_S, e]; rfl
    by_cases h1 : d = 48
    · have h2 : S (s.extract 1 s.size) = m := by rw [S_drop, e]; rfl
      have h3 : (s.extract 1 s.size).size = n := by rw [← S_len, h2]; have := S_len s; rw [e] at this; simp at this; omega
      obtain ⟨t, ht, hs⟩ := ih _ h3 (by unfold Fit at *; omega)
      refine ⟨t, Ev.up (Ev.pos (by omega) (Ev.pos (by omega) (Ev.pos (by rw [hb]; exact h1) (Ev.pos (by omega) ht)))), ?_⟩
      rw [hs, h2, e, ltrim, ltrim, List.dropWhile_cons]; simp [h1]
    · refine ⟨s, Ev.up (Ev.pos (by omega) (Ev.pos (by omega) (Ev.neg (by rw [hb]; exact h1) (Ev.val rfl)))), ?_⟩
      rw [e, ltrim, List.dropWhile_cons]; simp [h1]
theorem trimRight_is : ∀ (n : Nat) (s : ByteArray), s.size = n → Fit s → ∃ t, Ev (fun k => strings_trimRightByte.f k s 48) t ∧ S t = rtrim (S s) := by
  intro n
  induction n with
  | zero =>
    intro s h _
    have h0 : S s = [] := List.eq_nil_of_length_eq_zero (by rw [S_len]; exact h)
    exact ⟨s, Ev.up (Ev.neg (by omega) (Ev.val rfl)), by rw [h0]; rfl⟩
  | succ n ih =>
    intro s h hf
    have hl := S_len s
    obtain ⟨m, d, e⟩ : ∃ m d, S s = m ++ [d] := by
      have : S s ≠ [] := by intro he; rw [he] at hl; simp at hl; omega
      exact ⟨(S s).dropLast, (S s).getLast this, (List.dropLast_concat_getLast this).symm⟩
    have hm : m.length = n := by rw [e] at hl; simp at hl; omega
    have hf' := hf
    unfold Fit at hf'
    have hw : wrap64 ((s.size : Int) - 1) = (m.length : Int) := by rw [wrap64_id (by omega) (by omega)]; omega
    have hb : bt s (m.length : Int) = d := by rw [bt_S, e, rd_nat, getD_append_mid]
    by_cases h1 : d = 48
    · have h2 : S (s.extract 0 (m.length : Int).toNat) = m := by rw [S_take, e]; simp
      have h3 : (s.extract 0 (m.length : Int).toNat).size = n := by rw [← S_len, h2]; omega
      obtain ⟨t, ht, hs⟩ := ih _ h3 (by unfold Fit; omega)
      refine ⟨t, Ev.up (Ev.pos (by omega) ?_), by rw [hs, h2, e, rtrim_snoc, if_pos h1]⟩
      rw [hw, hb]
      exact Ev.pos (by omega) (Ev.pos (by omega) (Ev.pos h1 (Ev.pos (by omega) ht)))
    · refine ⟨s, Ev.up (Ev.pos (by omega) ?_), by rw [e, rtrim_snoc, if_neg h1]⟩
      rw [hw, hb]
      exact Ev.pos (by omega) (Ev.pos (by omega) (Ev.neg h1 (Ev.val rfl)))
theorem trim_nil_bytes (s : ByteArray) (h : s.toList = ([] : List UInt8)) : S s = [] := (toList_nil s).1 h
theorem size48 : (((⟨#[48]⟩ : ByteArray).size : Nat) : Int) = 1 := by decide
theorem bt48 : bt (⟨#[48]⟩ : ByteArray) 0 = 48 := by decide
theorem ne48 : ((⟨#[48]⟩ : ByteArray).toList == ([] : List UInt8)) = false := by rw [beq_lit]; rfl
theorem Fit.of_len {t : ByteArray} {n : Nat} (h : (S t).length ≤ n) (hn : n ≤ 1000000000000000000) : Fit t := by
 unfold Fit; rw [← S_len]; omega
theorem rtrim_len (l : List Int) : (rtrim l).length ≤ l.length := by
 have := ltrim_len l.reverse
 simp [rtrim, ltrim] at *
 exact this
theorem TrimLeft_go (s z : ByteArray) (hz : (z.size : Int) = 1) (hb : bt z 0 = 48) (hn : (z.toList == ([] : List UInt8)) = false) (h : ¬ s.toList = ([] : List UInt8))
    {t : ByteArray} (ht : Ev (fun k => strings_trimLeftByte.f k s 48) t) : Ev (fun k => strings_TrimLeft.f k s z) t := by
  have j1 : ∀ x : Bool, x = true → Ev (fun k => strings_TrimLeft.j1 k s z x) t := by
    intro x hx
    refine Ev.up (Ev.pos hx (Ev.pos (by omega) ?_))
    rw [hb]
    exact ht.tail
  have j0 : ∀ x : Bool, x = false → Ev (fun k => strings_TrimLeft.j0 k s z x) t := by
    intro x hx
    exact Ev.up (Ev.neg (by rw [hx]; exact Bool.false_ne_true) (Ev.pos hz (Ev.pos (by omega) (j1 _ (by rw [hb]; rfl)))))
  exact Ev.neg h (j0 _ hn)
theorem TrimLeft_none (s z : ByteArray) (h : s.toList = ([] : List UInt8)) : Ev (fun k => strings_TrimLeft.f k s z) s := by
 have j0 : ∀ x : Bool, x = true → Ev (fun k => strings_TrimLeft.j0 k s z x) s := fun x hx => Ev.up (Ev.pos hx (Ev.val rfl))
 exact Ev.pos h (j0 _ rfl)
theorem TrimLeft_is (s : ByteArray) (hs : Fit s) : ∃ t, Ev (fun k => strings_TrimLeft.f k s (⟨#[48]⟩ : ByteArray)) t ∧ S t = ltrim (S s) := by
 obtain ⟨t, ht, e⟩ := trimLeft_is _ s rfl hs
 by_cases h : s.toList = ([] : List UInt8)
 ·exact ⟨s, TrimLeft_none s _ h, by rw [trim_nil_bytes s h]; rfl⟩
 ·exact ⟨t, TrimLeft_go s _ size48 bt48 ne48 h ht, e⟩
theorem TrimRight_go (s z : ByteArray) (hz : (z.size : Int) = 1) (hb : bt z 0 = 48) (hn : (z.toList == ([] : List UInt8)) = false) (h : ¬ s.toList = ([] : List UInt8))
    {t : ByteArray} (ht : Ev (fun k => strings_trimRightByte.f k s 48) t) : Ev (fun k => strings_TrimRight.f k s z) t := by
  have j1 : ∀ x : Bool, x = true → Ev (fun k => strings_TrimRight.j1 k s z x) t := by
    intro x hx
    refine Ev.up (Ev.pos hx (Ev.pos (by omega) ?_))
    rw [hb]
    exact ht.tail
  have j0 : ∀ x : Bool, x = false → Ev (fun k => strings_TrimRight.j0 k s z x) t := by
    intro x hx
    exact Ev.up (Ev.neg (by rw [hx]; exact Bool.false_ne_true) (Ev.pos hz (Ev.pos (by omega) (j1 _ (by rw [hb]; rfl)))))
  exact Ev.neg h (j0 _ hn)
theorem TrimRight_none (s z : ByteArray) (h : s.toList = ([] : List UInt8)) : Ev (fun k => strings_TrimRight.f k s z) s := by
 have j0 : ∀ x : Bool, x = true → Ev (fun k => strings_TrimRight.j0 k s z x) s := fun x hx => Ev.up (Ev.pos hx (Ev.val rfl))
 exact Ev.pos h (j0 _ rfl)
theorem TrimRight_is (s : ByteArray) (hs : Fit s) : ∃ t, Ev (fun k => strings_TrimRight.f k s (⟨#[48]⟩ : ByteArray)) t ∧ S t = rtrim (S s) := by
 obtain ⟨t, ht, e⟩ := trimRight_is _ s rfl hs
 by_cases h : s.toList = ([] : List UInt8)
 ·exact ⟨s, TrimRight_none s _ h, by rw [trim_nil_bytes s h]; rfl⟩
 ·exact ⟨t, TrimRight_go s _ size48 bt48 ne48 h ht, e⟩
theorem any48 (b : UInt8) : ([(48 : UInt8)].contains b) = ((b.toNat : Int) == 48) := by
 rw [Lib.contains_one, Bool.eq_iff_iff, beq_iff_eq, beq_iff_eq]
 constructor
 ·rintro rfl; rfl
 ·intro h
  have h1 : b.toNat = 48 := by omega
  exact UInt8.toNat_inj.1 h1
theorem map_dropW (l : List UInt8) : (l.dropWhile ([(48 : UInt8)].contains ·)).map (fun b => (b.toNat : Int)) = (l.map (fun b => (b.toNat : Int))).dropWhile (· == 48) := by
 induction l with
 | nil => rfl
 | cons b l ih =>
  rw [List.dropWhile_cons, List.map_cons, List.dropWhile_cons, any48]
  by_cases h : ((b.toNat : Int) == 48) = true
  ·rw [if_pos h, if_pos h, ih]
  ·rw [if_neg h, if_neg h, List.map_cons]
theorem Trim_is (s : ByteArray) (hs : Fit s) : ∃ t, strings_Trim.f s (⟨#[48]⟩ : ByteArray) = some t ∧ S t = ltrim (rtrim (S s)) := by
 unfold Fit at hs
 unfold strings_Trim.f
 rw [if_pos ⟨by omega, by decide, by decide⟩]
 refine ⟨_, rfl, ?_⟩
 show (Lib.trimS s.data.toList [(48 : UInt8)]).map (fun b => (b.toNat : Int)) = _
 unfold Lib.trimS Lib.trimLeftS Lib.trimRightS ltrim rtrim S
 rw [map_dropW, List.map_reverse, map_dropW, List.map_reverse]
theorem trim_nil (l : List Int) : ltrim (rtrim l) = [] ↔ all0 l = true := by rw [ltrim_nil, all0_rtrim]
theorem isEmpty_false {l : List Int} (h : l ≠ []) : l.isEmpty = false := by cases l with
  | nil => exact absurd rfl h
  | cons => rfl
theorem form_is (n : Bool) (a b : ByteArray) (ha : Fit a) (hb : Fit b) : Ev (fun k => decimal_form.f k n a b) (fm n (S a) (S b)) := by
  have hl := S_len a
  have key : ∀ x : Bool, (x = false → (!(S a).isEmpty && allD (S a) && allD (S b) && !(decide (1 < (S a).length) && rd (S a) 0 == 48)) = true) →
      (x = true → (!(S a).isEmpty && allD (S a) && allD (S b) && !(decide (1 < (S a).length) && rd (S a) 0 == 48)) = false) →
      Ev (fun k => decimal_form.j0 k x n a b) (fm n (S a) (S b)) := by
    intro x h0 h1
    unfold fm
    refine Ev.up (Ev.split (fun hx => Ev.val ?_) (fun hx => ?_))
    · rw [h1 hx]; rfl
    · rw [h0 (by simpa using hx), Bool.true_and]
      refine Ev.split (fun hn => ?_) (fun hn => Ev.val ?_)
      · obtain ⟨t, ht, et⟩ := Trim_is a ha
        obtain ⟨u, hu, eu⟩ := Trim_is b hb
        refine Ev.bindV ht (Ev.split (fun h => ?_) (fun h => Ev.val ?_))
        · rw [toList_nil, et, trim_nil] at h
          refine Ev.bindV hu (Ev.val ?_)
          rw [hn, h, Bool.eq_iff_iff]
          simp [toList_nil, eu, trim_nil]
        · rw [toList_nil, et, trim_nil] at h
          simp at h; simp [h]
      · simp at hn; simp [hn]
  refine Ev.split (fun h => key true (by simp) (fun _ => ?_)) (fun h => ?_)
  · rw [toList_nil] at h; simp [h]
  · rw [toList_nil] at h
    have hne : (S a).isEmpty = false := isEmpty_false h
    have hp : 0 < (S a).length := List.length_pos_iff.2 h
    refine Ev.bind (all_is a ha) (Ev.split (fun h1 => ?_) (fun h1 => key true (by simp) (fun _ => by simp at h1; simp [h1])))
    refine Ev.bind (all_is b hb) (Ev.split (fun h2 => ?_) (fun h2 => key true (by simp) (fun _ => by simp at h2; simp [h2])))
    refine Ev.split (fun h3 => Ev.pos (by omega) (key _ ?_ ?_)) (fun h3 => key _ ?_ ?_)
    · intro h4
      rw [bt_S] at h4
      simp [hne, h1, h2, h4]
    · intro h4
      rw [bt_S] at h4
      have : 1 < (S a).length := by omega
      simp [h4, this]
    · intro _
      have : ¬ 1 < (S a).length := by omega
      simp [hne, h1, h2, this]
    · simp
theorem Check_is (n : Bool) (a b : ByteArray) (ha : Fit a) (hb : Fit b) : Ev (fun k => decimal_Check.f k n a b) (chk n (S a) (S b)) := by
  have hl := S_len a
  have hl' := S_len b
  unfold chk okD Fit at *
  refine Ev.split (fun h => Ev.val ?_) (fun h => ?_)
  · have : ¬ (S a).length + (S b).length ≤ 40 := by omega
    simp [this]
  · have hw : wrap64 (40 - (a.size : Int)) = 40 - (a.size : Int) := wrap64_id (by omega) (by omega)
    rw [hw]
    refine Ev.split (fun h1 => Ev.val ?_) (fun h1 => ?_)
    · have : ¬ (S a).length + (S b).length ≤ 40 := by omega
      simp [this]
    · have : (S a).length + (S b).length ≤ 40 := by omega
      refine Ev.bind (form_is n a b ha hb) (Ev.split (fun h2 => Ev.val ?_) (fun h2 => Ev.val ?_))
      · simp [this, h2]
      · simp [h2]
end Go.Proofs.YtihjcaglhjepdaaDoor.Q
set_option linter.unusedVariables false
set_option linter.unusedSimpArgs false
namespace Go.Proofs.YtihjcaglhjepdaaDoor.Q
open Go.RowKit Go.Proofs.YtihjcaglhjepdaaDoorW.PrintWords Go.Proofs.YtihjcaglhjepdaaDoor.P
theorem lead_is : ∀ (l : List Int), Dig l → l.length ≤ 1000000000000000000 → Ev (fun k => decimal_digits_lead.f k l) (dg (val l)) := by
  intro l
  induction l with
  | nil =>
    intro _ _
    exact Ev.up (Ev.val (by rw [val_nil, dg_zero]))
  | cons d l ih =>
    intro h hl
    simp only [List.length_cons] at hl
    have hr : rd (d :: l) 0 = d := rfl
    by_cases hd : d = 0
    · have h2 := ih h.tail (by omega)
      have e : val (d :: l) = val l := by rw [val_cons, hd]; simp
      rw [e]
      exact Ev.up (Ev.pos (by simp) (Ev.pos (by simp) (Ev.pos (by rw [hr]; exact hd) (Ev.pos (by simp; omega) h2))))
    · refine Ev.up (Ev.pos (by simp) (Ev.pos (by simp) (Ev.neg (by rw [hr]; exact hd) (Ev.val ?_))))
      rw [dg_lead h, List.dropWhile_cons, if_neg (by simpa using hd)]
theorem dn48_ltrim (l : List Int) : dn48 (ltrim l) = (dn48 l).dropWhile (· == 0) := by
  induction l with
  | nil => rfl
  | cons d l ih =>
    unfold ltrim at *
    rw [List.dropWhile_cons]
    by_cases h : d = 48
    · rw [if_pos (by simpa using h), ih]
      show _ = List.dropWhile (· == 0) ((d - 48) :: dn48 l)
      rw [List.dropWhile_cons, if_pos (by simp; omega)]
    · rw [if_neg (by simpa using h)]
      show _ = List.dropWhile (· == 0) ((d - 48) :: dn48 l)
      rw [List.dropWhile_cons, if_neg (by simp; omega)]
      rfl
theorem allD_dig {l : List Int} (h : allD l = true) : Dig (dn48 l) := by
 intro d hd
 obtain ⟨x, hx, rfl⟩ := List.mem_map.1 hd
 have := List.all_eq_true.1 h x hx
 simp [isD] at this
 omega
theorem allD_ltrim {l : List Int} (h : allD l = true) : allD (ltrim l) = true := by
 rw [allD, List.all_eq_true] at *
 intro d hd
 exact h d ((List.dropWhile_suffix _).subset hd)
theorem set_mid_zero (l : List Int) (v : Int) (n : Nat) : (l ++ List.replicate (n + 1) 0).set l.length v = (l ++ [v]) ++ List.replicate n 0 := by
 rw [List.replicate_succ, set_append_mid]; simp
theorem of_loop (s : ByteArray) (hs : Fit s) (hd : allD (S s) = true) : ∀ rest pre : List Int, S s = pre ++ rest →
    Ev (fun k => decimal_of.l0 k s (dn48 pre ++ List.replicate rest.length 0) (s.size : Int) (pre.length : Int)) (dn48 (S s)) := by
 unfold Fit at hs
 intro rest
 induction rest with
 | nil =>
  intro pre h
  have hl : s.size = pre.length := by rw [← S_len, h]; simp
  exact Ev.up (Ev.neg (by omega) (Ev.val (by rw [h]; simp)))
 | cons d rest ih =>
  intro pre h
  have hl : s.size = pre.length + (rest.length + 1) := by rw [← S_len, h]; simp
  have hb : bt s (pre.length : Int) = d := by rw [bt_S, h, rd_nat, getD_append_mid]
  have h3 := ih (pre ++ [d]) (by rw [h]; simp)
  have h4 : wrap64 ((pre.length : Int) + 1) = ((pre ++ [d]).length : Int) := by rw [wrap64_id (by omega) (by omega)]; simp
  have hdd : 48 ≤ d ∧ d ≤ 57 := by
   have := List.all_eq_true.1 hd d (by rw [h]; simp)
   simpa [isD] using this
  refine Ev.up (Ev.pos (by omega) (Ev.pos (by omega) (Ev.pos (by omega) (Ev.pos (by simp [dn48]; omega) ?_))))
  rw [hb, h4]
  have e : (dn48 pre ++ List.replicate (d :: rest).length 0).set (pre.length : Int).toNat ((d - 48) % 256) = dn48 (pre ++ [d]) ++ List.replicate rest.length 0 := by
   have : (pre.length : Int).toNat = (dn48 pre).length := by simp [dn48]
   rw [this, List.length_cons, set_mid_zero]
   have : (d - 48) % 256 = d - 48 := by omega
   rw [this]; simp [dn48]
  rw [e]
  exact h3
theorem of_is (s : ByteArray) (hs : s.size ≤ 100000) (hd : allD (S s) = true) : Ev (fun k => decimal_of.f k s) (dg (val (dn48 (S s)))) := by
 obtain ⟨t, ht, et⟩ := TrimLeft_is s (by unfold Fit; omega)
 have hl : t.size ≤ s.size := by rw [← S_len, ← S_len, et]; exact ltrim_len _
 have h1 : allD (S t) = true := by rw [et]; exact allD_ltrim hd
 have h2 := of_loop t (by unfold Fit; omega) h1 (S t) [] rfl
 have e : dn48 (S t) = dg (val (dn48 (S s))) := by rw [et, dn48_ltrim, dg_lead (allD_dig hd)]
 rw [← e]
 refine Ev.bind ht (Ev.pos (by omega) (Ev.pos (by omega) ?_))
 have e2 : ((t.size : Int)).toNat = (S t).length := by rw [S_len]; simp
 rw [e2]
 exact h2
theorem up_is (n c : Nat) (hn : (dg n).length ≤ 100000) (hc : c ≤ 100000) : decimal_digits_up.f (dg n) (c : Int) = some (dg (n * 10 ^ c)) := by
 unfold decimal_digits_up.f
 by_cases h : n = 0
 ·subst h; simp [dg_zero]
 ·have hl : (dg n).length ≠ 0 := by
   intro e; exact h (dg_eq_nil.1 (List.eq_nil_of_length_eq_zero e))
  have hw : wrap64 (((dg n).length : Int) + (c : Int)) = (((dg n).length + c : Nat) : Int) := by rw [wrap64_id (by omega) (by omega)]; omega
  rw [if_neg (by omega), hw, if_pos (by omega), if_pos (by omega), dg_mul_pow, if_neg h]
  have : (((dg n).length + c : Nat) : Int).toNat = (dg n).length + c := by omega
  rw [this]
  congr 1
  unfold copyAt
  rw [List.take_zero, List.nil_append, List.length_replicate]
  have h1 : min (dg n).length ((dg n).length + c - 0) = (dg n).length := by omega
  rw [h1, List.take_of_length_le (by omega), Nat.zero_add, List.drop_replicate]
  have : (dg n).length + c - (dg n).length = c := by omega
  rw [this]
def sgnc (m n : Nat) : Int := if m < n then -1 else if m = n then 0 else 1
theorem cmp_loop : ∀ (x y p : List Int) , Dig x → Dig y → x.length = y.length → p.length + x.length ≤ 100000 →
    Ev (fun k => decimal_digits_cmp.l0 k (p ++ x) (p ++ y) ((p ++ x).length : Int) (p.length : Int)) (sgnc (val x) (val y)) := by
  intro x
  induction x with
  | nil =>
    intro y p _ _ h _
    have : y = [] := List.eq_nil_of_length_eq_zero h.symm
    subst this
    exact Ev.up (Ev.neg (by simp) (Ev.val (by simp [sgnc])))
  | cons a x ih =>
    intro y p hx hy h hl
    cases y with
    | nil => simp at h
    | cons b y =>
      have h' : x.length = y.length := by simpa using h
      simp only [List.length_cons] at hl
      have ha : rd (p ++ a :: x) (p.length : Int) = a := by rw [rd_nat, getD_append_mid]
      have hb : rd (p ++ b :: y) (p.length : Int) = b := by rw [rd_nat, getD_append_mid]
      have vx := val_lt hx.tail
      have vy := val_lt hy.tail
      have a9 := hx.head
      have b9 := hy.head
      rw [h'] at vx
      refine Ev.up (Ev.pos (by simp; omega) (Ev.pos (by omega) (Ev.pos (by simp; omega) (Ev.pos (by simp; omega) ?_))))
      rw [ha, hb]
      refine Ev.split (fun e => ?_) (fun e => Ev.split (fun e2 => Ev.val ?_) (fun e2 => Ev.val ?_))
      · subst e
        have h3 := ih y (p ++ [a]) hx.tail hy.tail h' (by simp; omega)
        have h4 : wrap64 ((p.length : Int) + 1) = ((p ++ [a]).length : Int) := by rw [wrap64_id (by omega) (by omega)]; simp
        rw [h4]
        have e3 : sgnc (val (a :: x)) (val (a :: y)) = sgnc (val x) (val y) := by
          rw [val_cons, val_cons, h']
          unfold sgnc
          by_cases c1 : val x < val y
          · rw [if_pos c1, if_pos (by omega)]
          · rw [if_neg c1, if_neg (by omega)]
            by_cases c2 : val x = val y
            · rw [if_pos c2, if_pos (by omega)]
            · rw [if_neg c2, if_neg (by omega)]
        rw [e3]
        simpa using h3
      · have h5 : (a.toNat + 1) * 10 ^ y.length ≤ b.toNat * 10 ^ y.length := Nat.mul_le_mul_right _ (by omega)
        rw [Nat.add_mul] at h5
        rw [sgnc, if_pos (by rw [val_cons, val_cons, h']; omega)]
      · have h5 : (b.toNat + 1) * 10 ^ y.length ≤ a.toNat * 10 ^ y.length := Nat.mul_le_mul_right _ (by omega)
        rw [Nat.add_mul] at h5
        rw [sgnc, if_neg (by rw [val_cons, val_cons, h']; omega), if_neg (by rw [val_cons, val_cons, h']; omega)]
theorem length_lt_of {m n : Nat} (h : (dg m).length < (dg n).length) : m < n := by
 rcases Nat.lt_or_ge m n with h1 | h1
 ·exact h1
 ·have h2 : n < 10 ^ (dg m).length := Nat.lt_of_le_of_lt h1 (lt_of_length_dg m)
  have := (length_dg_iff n (dg m).length).2 h2
  omega
theorem cmp_is (m n : Nat) (hm : (dg m).length ≤ 100000) (hn : (dg n).length ≤ 100000) : Ev (fun k => decimal_digits_cmp.f k (dg m) (dg n)) (sgnc m n) := by
  refine Ev.split (fun h => ?_) (fun h => Ev.split (fun h1 => Ev.val ?_) (fun h1 => Ev.val ?_))
  · have := cmp_loop (dg m) (dg n) [] (Dig_dg m) (Dig_dg n) (by omega) (by simpa using hm)
    rw [val_dg, val_dg] at this
    exact this
  · have := length_lt_of (m := m) (n := n) (by omega)
    rw [sgnc, if_pos this]
  · have := length_lt_of (m := n) (n := m) (by omega)
    rw [sgnc, if_neg (by omega), if_neg (by omega)]
end Go.Proofs.YtihjcaglhjepdaaDoor.Q
set_option linter.unusedVariables false
set_option linter.unusedSimpArgs false
namespace Go.Proofs.YtihjcaglhjepdaaDoor.Q
open Go.RowKit Go.Proofs.YtihjcaglhjepdaaDoorW.PrintWords Go.Proofs.YtihjcaglhjepdaaDoor.P
def padL (w : Nat) (l : List Int) : List Int := List.replicate (w - l.length) 0 ++ l
theorem padL_len (w : Nat) (l : List Int) (h : l.length ≤ w) : (padL w l).length = w := by simp [padL]; omega
theorem val_padL (w : Nat) (l : List Int) : val (padL w l) = val l := by rw [padL, val_append, val_zeros]; simp
theorem Dig_padL (w : Nat) {l : List Int} (h : Dig l) : Dig (padL w l) := (Dig.zeros _).append h
theorem getD_append_right (l m : List Int) (i : Nat) : (l ++ m).getD (l.length + i) 0 = m.getD i 0 := by
 simp [List.getD_eq_getElem?_getD, List.getElem?_append_right]
theorem padL_at {w : Nat} {l B P : List Int} {y : Int} (hl : l.length ≤ w) (e : padL w l = B ++ y :: P) :
    (P.length < l.length → rd l ((l.length - 1 - P.length : Nat) : Int) = y) ∧ (l.length ≤ P.length → y = 0) := by
 have hw : w = B.length + (P.length + 1) := by rw [← padL_len w l hl, e]; simp
 have hy : (padL w l).getD B.length 0 = y := by rw [e, getD_append_mid]
 constructor
 ·intro h
  have : B.length = (List.replicate (w - l.length) (0 : Int)).length + (l.length - 1 - P.length) := by simp; omega
  rw [padL, this, getD_append_right] at hy
  rw [rd_nat]; exact hy
 ·intro h
  rw [padL, getD_append_left _ _ _ (by simp; omega)] at hy
  have hlt : B.length < w - l.length := by omega
  rw [List.getD_eq_getElem?_getD, List.getElem?_replicate, if_pos hlt] at hy
  exact hy.symm
theorem snoc_cases (l : List Int) (h : l ≠ []) : ∃ m d, l = m ++ [d] := ⟨l.dropLast, l.getLast h, (List.dropLast_concat_getLast h).symm⟩
theorem minus_loop (Y : List Int) (w : Nat) (hY : Dig Y) (hYw : Y.length ≤ w) (hw : w ≤ 100000) : ∀ (n : Nat) (A B P X' lo : List Int) (c : Int), A.length = n → B.length = n → padL w Y = B ++ P → n + P.length = w → lo.length = P.length →
    Dig A → Dig lo → X'.length = P.length → 0 ≤ c → c ≤ 1 → val lo + val P = val X' + c.toNat * 10 ^ lo.length → val Y ≤ val (A ++ X') →
    Ev (fun k => decimal_digits_minus.l0 k Y (A ++ lo) c (w : Int) (P.length : Int)) (dg (val (A ++ X') - val Y)) := by
  intro n
  induction n with
  | zero =>
    intro A B P X' lo c hA hB e hP hlo dA dlo hX c0 c1 hv hle
    have hA' : A = [] := List.eq_nil_of_length_eq_zero hA
    have hB' : B = [] := List.eq_nil_of_length_eq_zero hB
    subst hA' hB'
    refine Ev.up (Ev.neg (by omega) ?_)
    have hvl := val_lt dlo
    rw [← val_padL w Y, e, List.nil_append] at hle ⊢
    rw [List.nil_append] at hle ⊢
    have hc : c = 0 := by
      rcases Int.lt_or_le c 1 with h | h
      · omega
      · have : c = 1 := by omega
        subst this
        simp at hv
        omega
    subst hc
    have := lead_is lo dlo (by omega)
    have ev : val lo = val X' - val P := by simp at hv; omega
    rw [ev] at this
    exact this.tail
  | succ n ih =>
    intro A B P X' lo c hA hB e hP hlo dA dlo hX c0 c1 hv hle
    obtain ⟨A0, x, rfl⟩ := snoc_cases A (by intro h; rw [h] at hA; simp at hA)
    obtain ⟨B0, y, rfl⟩ := snoc_cases B (by intro h; rw [h] at hB; simp at hB)
    have hA0 : A0.length = n := by simpa using hA
    have hB0 : B0.length = n := by simpa using hB
    have dP := Dig_padL w hY
    have e' : padL w Y = B0 ++ y :: P := by rw [e]; simp
    obtain ⟨pa, pb⟩ := padL_at hYw e'
    have hy : 0 ≤ y ∧ y ≤ 9 := by
      rw [e'] at dP
      exact dP y (by simp)
    have hx : 0 ≤ x ∧ x ≤ 9 := dA x (by simp)
    have hl5 : (A0 ++ [x] ++ lo).length = w := by simp; omega
    have hj : wrap64 (wrap64 (((A0 ++ [x] ++ lo).length : Int) - 1) - (P.length : Int)) = ((n : Nat) : Int) := by
      rw [hl5, wrap64_id (x := (w : Int) - 1) (by omega) (by omega), wrap64_id (by omega) (by omega)]; omega
    have hform : (A0 ++ [x] ++ lo : List Int) = A0 ++ x :: lo := by simp
    have hrd : ∀ v, rd (A0 ++ v :: lo) ((n : Nat) : Int) = v := by
      intro v
      rw [rd_nat, ← hA0]
      exact getD_append_mid A0 v lo
    have hset : ∀ u v, (A0 ++ u :: lo : List Int).set ((n : Nat) : Int).toNat v = A0 ++ v :: lo := by
      intro u v
      have : ((n : Nat) : Int).toNat = A0.length := by omega
      rw [this]
      exact set_append_mid A0 u v lo
    have hi : wrap64 ((P.length : Int) + 1) = (((y :: P).length : Nat) : Int) := by rw [wrap64_id (by omega) (by omega)]; simp
    have step : ∀ (v q : Int), 0 ≤ v → v ≤ 9 → 0 ≤ q → q ≤ 1 → v + c + y = x + q * 10 →
        Ev (fun k => decimal_digits_minus.l0 k Y (A0 ++ v :: lo) q (w : Int) ((y :: P).length : Int)) (dg (val (A0 ++ [x] ++ X') - val Y)) := by
      intro v q v0 v9 q0 q1 hq
      have hform' : A0 ++ [x] ++ X' = A0 ++ x :: X' := by simp
      have h3 := ih A0 B0 (y :: P) (x :: X') (v :: lo) q hA0 hB0 e' (by simp; omega) (by simp [hlo]) (fun d hd => dA d (by simp [hd]))
        (Dig.cons v0 v9 dlo) (by simp [hX]) q0 q1 (by
          rw [val_cons, val_cons, val_cons, List.length_cons, hX, Nat.pow_succ]
          rw [hlo] at hv ⊢
          have hvn : v.toNat + c.toNat + y.toNat = x.toNat + q.toNat * 10 := by omega
          have : q.toNat * (10 ^ P.length * 10) = (q.toNat * 10) * 10 ^ P.length := by rw [Nat.mul_comm (10 ^ P.length) 10, Nat.mul_assoc]
          rw [this]
          have h2 : (v.toNat + c.toNat + y.toNat) * 10 ^ P.length = (x.toNat + q.toNat * 10) * 10 ^ P.length := by rw [hvn]
          rw [Nat.add_mul, Nat.add_mul, Nat.add_mul] at h2
          omega) (by rw [← hform']; exact hle)
      rw [hform']
      exact h3
    refine Ev.up (Ev.pos (by omega) ?_)
    rw [hj, hi, hform]
    simp only [hrd, hset]
    have hlen : ((A0 ++ x :: lo).length : Int) = (w : Int) := by rw [← hform, hl5]
    refine Ev.split (fun h => ?_) (fun h => ?_)
    · have hlt : P.length < Y.length := by omega
      have hj2 : wrap64 (wrap64 ((Y.length : Int) - 1) - (P.length : Int)) = ((Y.length - 1 - P.length : Nat) : Int) := by
        rw [wrap64_id (x := (Y.length : Int) - 1) (by omega) (by omega), wrap64_id (by omega) (by omega)]; omega
      rw [hj2, pa hlt]
      refine Ev.pos (by omega) (Ev.pos (by omega) (Ev.pos (by omega) (Ev.pos (by omega) (Ev.split (fun h2 => Ev.bindS ?_) (fun h2 => ?_)))))
      · simp only [hrd, hset]
        exact step _ 1 (by omega) (by omega) (by omega) (by omega) (by omega)
      · exact step _ 0 (by omega) (by omega) (by omega) (by omega) (by omega)
    · have hy0 := pb (by omega)
      refine Ev.pos (by omega) (Ev.pos (by omega) (Ev.split (fun h2 => Ev.bindS ?_) (fun h2 => ?_)))
      · simp only [hrd, hset]
        exact step _ 1 (by omega) (by omega) (by omega) (by omega) (by omega)
      · exact step _ 0 (by omega) (by omega) (by omega) (by omega) (by omega)
theorem minus_is (m n : Nat) (h : n ≤ m) (hm : (dg m).length ≤ 100000) : Ev (fun k => decimal_digits_minus.f k (dg m) (dg n)) (dg (m - n)) := by
 have hln : (dg n).length ≤ (dg m).length := (length_dg_iff n _).2 (Nat.lt_of_le_of_lt h (lt_of_length_dg m))
 have hc : copyAt 0 (List.replicate (dg m).length (0 : Int)) (dg m) = dg m := by
  rw [copyAt]
  simp
 have hn1 : (((dg m).length : Nat) : Int).toNat = (dg m).length := by omega
 refine Ev.pos (by omega) (Ev.pos (by omega) (Ev.bindS ?_))
 rw [hn1, hc, List.length_replicate]
 have := minus_loop (dg n) (dg m).length (Dig_dg n) hln hm (dg m).length (dg m) (padL (dg m).length (dg n)) [] [] [] 0 rfl (padL_len _ _ hln) (by simp) (by simp) rfl (Dig_dg m) Dig.nil rfl (by omega) (by omega) (by simp [val]) (by rw [val_dg, List.append_nil, val_dg]; exact h)
 rw [List.append_nil, val_dg, val_dg] at this
 exact this
end Go.Proofs.YtihjcaglhjepdaaDoor.Q
set_option linter.unusedVariables false
set_option linter.unusedSimpArgs false
namespace Go.Proofs.YtihjcaglhjepdaaDoor.Q
open Go.RowKit Go.Proofs.YtihjcaglhjepdaaDoorW.PrintWords Go.Proofs.YtihjcaglhjepdaaDoor.P
def txd (n : Nat) : List Int := if n = 0 then [0] else dg n
def tx (n : Nat) : List Int := up48 (txd n)
theorem txd_val {d : Int} {l : List Int} (h : Dig (d :: l)) (hd : d ≠ 0 ∨ l = []) : txd (val (d :: l)) = d :: l := by
 have h9 := h.head
 by_cases h0 : d = 0
 ·rcases hd with hd | hd
  ·exact absurd h0 hd
  ·subst hd h0; rfl
 ·have hp : val (d :: l) ≠ 0 := by
   rw [val_cons]
   have : 1 * 10 ^ l.length ≤ d.toNat * 10 ^ l.length := Nat.mul_le_mul_right _ (by omega)
   have : 0 < 10 ^ l.length := Nat.pow_pos (by omega)
   omega
  unfold txd
  rw [if_neg hp]
  exact dg_val h (fun e m he => by rw [← (List.cons.inj he).1]; exact h0)
theorem lessL_up : ∀ l m : List Int, lessL (up48 l) (up48 m) = lessL l m
  | [], [] => rfl
  | [], _ :: _ => rfl
  | _ :: _, [] => rfl
  | a :: l, b :: m => by
    show (decide (a + 48 < b + 48) || (decide (a + 48 = b + 48) && lessL (up48 l) (up48 m))) = _
    rw [lessL_up l m, lessL]
    have h1 : decide (a + 48 < b + 48) = decide (a < b) := by rw [decide_eq_decide]; omega
    have h2 : decide (a + 48 = b + 48) = decide (a = b) := by rw [decide_eq_decide]; omega
    rw [h1, h2]
end Go.Proofs.YtihjcaglhjepdaaDoor.Q
set_option linter.unusedVariables false
set_option linter.unusedSimpArgs false
namespace Go.Proofs.YtihjcaglhjepdaaDoor.Q
open Go.RowKit Go.Proofs.YtihjcaglhjepdaaDoorW.PrintWords Go.Proofs.YtihjcaglhjepdaaDoor.P
theorem chk_len {n : Bool} {a b : List Int} (h : chk n a b = 0) : a.length + b.length ≤ 40 := by
 unfold chk okD at h
 by_cases h1 : a.length + b.length ≤ 40
 ·exact h1
 ·simp [h1] at h
end Go.Proofs.YtihjcaglhjepdaaDoor.Q
set_option linter.unusedVariables false
set_option linter.unusedSimpArgs false
namespace Go.Proofs.YtihjcaglhjepdaaDoor.Q
open Go.RowKit Go.Proofs.YtihjcaglhjepdaaDoorW.PrintWords Go.Proofs.YtihjcaglhjepdaaDoor.P
structure Ans where
  neg : Bool
  a : List Int
  b : List Int
  err : Int
def bad (e : Int) : Ans := ⟨false, [], [], e⟩
def Tells (r : Bool × ByteArray × ByteArray × Int) (x : Ans) : Prop := r.1 = x.neg ∧ S r.2.1 = x.a ∧ S r.2.2.1 = x.b ∧ r.2.2.2 = x.err
theorem Tells.bad (e : Int) : Tells (false, (⟨#[]⟩ : ByteArray), (⟨#[]⟩ : ByteArray), e) (bad e) := ⟨rfl, rfl, rfl, rfl⟩
theorem Tells.eq {r r' : Bool × ByteArray × ByteArray × Int} {x : Ans} (h : Tells r x) (h' : Tells r' x) : r = r' := by
 obtain ⟨a, b, c, d⟩ := r
 obtain ⟨a', b', c', d'⟩ := r'
 obtain ⟨h1, h2, h3, h4⟩ := h
 obtain ⟨k1, k2, k3, k4⟩ := h'
 simp only at h1 h2 h3 h4 k1 k2 k3 k4
 rw [h1, S_inj (h2.trans k2.symm), S_inj (h3.trans k3.symm), h4, k1, k4]
end Go.Proofs.YtihjcaglhjepdaaDoor.Q
set_option linter.unusedVariables false
set_option linter.unusedSimpArgs false
namespace Go.Proofs.YtihjcaglhjepdaaDoor.Q
open Go.RowKit Go.Proofs.YtihjcaglhjepdaaDoorW.PrintWords Go.Proofs.YtihjcaglhjepdaaDoor.P
theorem padL_len_max (w : Nat) (l : List Int) : (padL w l).length = max w l.length := by simp [padL]; omega
def mk (neg : Bool) (N p : Nat) : Ans :=
  if 40 < (padL (p + 1) (dg N)).length then bad 3
  else ⟨neg && decide (N ≠ 0), (up48 (padL (p + 1) (dg N))).take ((padL (p + 1) (dg N)).length - p), (up48 (padL (p + 1) (dg N))).drop ((padL (p + 1) (dg N)).length - p), 0⟩
theorem up48_append (l m : List Int) : up48 (l ++ m) = up48 l ++ up48 m := by simp [up48]
theorem up48_zeros (n : Nat) : up48 (List.replicate n 0) = List.replicate n 48 := by simp [up48]
theorem Dig_up {l : List Int} (h : Dig l) : ∀ d ∈ up48 l, 0 ≤ d ∧ d ≤ 255 := by
 intro d hd
 obtain ⟨x, hx, rfl⟩ := List.mem_map.1 hd
 have := h x hx
 omega
theorem sub_take {l : List Int} {P : Int → Prop} (h : ∀ d ∈ l, P d) (n : Nat) : ∀ d ∈ l.take n, P d := fun d hd => h d (List.mem_of_mem_take hd)
theorem sub_drop {l : List Int} {P : Int → Prop} (h : ∀ d ∈ l, P d) (n : Nat) : ∀ d ∈ l.drop n, P d := fun d hd => h d (List.mem_of_mem_drop hd)
theorem made_l1 (neg : Bool) (l : List Int) (p : Nat) (dl : Dig l) (hl : l.length ≤ 100000) (hp : p ≤ 100000) (r : Bool × ByteArray × ByteArray × Int) : ∀ (rest pre acc : List Int), l = pre ++ rest → acc.length + rest.length ≤ 200000 →
    p ≤ acc.length + rest.length →
    r = (neg && decide (0 < l.length), strOfNums ((acc ++ up48 rest).take (acc.length + rest.length - p)), strOfNums ((acc ++ up48 rest).drop (acc.length + rest.length - p)), 0) →
    Ev (fun k => decimal_made.l1 k neg l (p : Int) acc l (l.length : Int) (pre.length : Int)) r := by
 intro rest
 induction rest with
 | nil =>
  intro pre acc h ha hpa hr
  have hl' : l.length = pre.length := by rw [h]; simp
  simp only [List.length_nil, Nat.add_zero] at ha hpa hr
  have hw : wrap64 ((acc.length : Int) - (p : Int)) = ((acc.length - p : Nat) : Int) := by rw [wrap64_id (by omega) (by omega)]; omega
  have hn : ((acc.length - p : Nat) : Int).toNat = acc.length - p := by omega
  refine Ev.up (Ev.neg (by omega) ?_)
  rw [hw, hn]
  simp only [up48, List.map_nil, List.append_nil] at hr
  refine Ev.split (fun h1 => Ev.pos (by omega) (Ev.pos (by omega) (Ev.val ?_))) (fun h1 => Ev.pos (by omega) (Ev.pos (by omega) (Ev.val ?_)))
  ·rw [hr, h1, Bool.true_and]
   have : decide ((l.length : Int) > 0) = decide (0 < l.length) := by
    rw [decide_eq_decide]; omega
   rw [this]
  ·rw [hr]
   simp only [Bool.not_eq_true] at h1
   rw [h1, Bool.false_and]
 | cons d rest ih =>
  intro pre acc h ha hpa hr
  have hl' : l.length = pre.length + (rest.length + 1) := by rw [h]; simp
  have hd : 0 ≤ d ∧ d ≤ 9 := dl d (by rw [h]; simp)
  have hrd : rd l (pre.length : Int) = d := by rw [rd_nat, h, getD_append_mid]
  have hi : wrap64 ((pre.length : Int) + 1) = (((pre ++ [d]).length : Nat) : Int) := by rw [wrap64_id (by omega) (by omega)]; simp
  simp only [List.length_cons] at ha hpa hr
  refine Ev.up (Ev.pos (by omega) (Ev.pos (by omega) (Ev.pos (by omega) (Ev.pos (by omega) ?_))))
  rw [hrd, hi]
  have e : (48 + d) % 256 = d + 48 := by omega
  rw [e]
  refine ih (pre ++ [d]) (acc ++ [d + 48]) (by rw [h]; simp) (by simp; omega) (by simp; omega) ?_
  rw [hr]
  have e1 : acc ++ [d + 48] ++ up48 rest = acc ++ up48 (d :: rest) := by simp [up48]
  have e2 : (acc ++ [d + 48]).length + rest.length = acc.length + (rest.length + 1) := by simp; omega
  rw [e1, e2]
theorem made_l0 (neg : Bool) (l : List Int) (p : Nat) (r : Bool × ByteArray × ByteArray × Int) (c : Int) (hc : c ≤ 100001) : ∀ (m i : Nat) (acc : List Int), c ≤ (i : Int) + m → (i : Int) + m ≤ max c i → acc.length + m ≤ 200000 →
    Ev (fun k => decimal_made.l1 k neg l (p : Int) (acc ++ List.replicate m 48) l (l.length : Int) 0) r →
    Ev (fun k => decimal_made.l0 k neg l (p : Int) acc c (i : Int)) r := by
 intro m
 induction m with
 | zero =>
  intro i acc h1 h2 ha h
  simp at h
  exact Ev.up (Ev.neg (by omega) h)
 | succ m ih =>
  intro i acc h1 h2 ha h
  have hi : wrap64 ((i : Int) + 1) = ((i + 1 : Nat) : Int) := by rw [wrap64_id (by omega) (by omega)]; omega
  refine Ev.up (Ev.pos (by omega) (Ev.pos (by omega) ?_))
  rw [hi]
  refine ih (i + 1) (acc ++ [48]) (by omega) (by omega) (by simp; omega) ?_
  have : acc ++ [48] ++ List.replicate m 48 = acc ++ List.replicate (m + 1) 48 := by rw [List.replicate_succ]; simp
  rw [this]; exact h
theorem mx_int (a b : Int) : mx a b = max a b := by unfold mx; split <;> omega
theorem made_is (neg : Bool) (N p : Nat) (hN : (dg N).length ≤ 100000) (hp : p ≤ 100000) : ∃ r, Ev (fun k => decimal_made.f k neg (dg N) (p : Int)) r ∧ Tells r (mk neg N p) := by
 have hw : wrap64 (((dg N).length : Int) - (p : Int)) = ((dg N).length : Int) - (p : Int) := wrap64_id (by omega) (by omega)
 have hL : (padL (p + 1) (dg N)).length = max (p + 1) (dg N).length := padL_len_max _ _
 have hw2 : wrap64 (mx (mx (wrap64 (((dg N).length : Int) - (p : Int))) 0) 1 + (p : Int)) = (max (p + 1) (dg N).length : Nat) := by
  rw [hw, mx_int, mx_int, wrap64_id (by omega) (by omega)]; omega
 unfold mk
 by_cases h : 40 < (padL (p + 1) (dg N)).length
 ·rw [if_pos h]
  exact ⟨_, Ev.pos (by rw [hw2]; omega) (Ev.val rfl), Tells.bad 3⟩
 ·rw [if_neg h]
  have hw3 : wrap64 (wrap64 ((p : Int) + 1) - ((dg N).length : Int)) = ((p : Int) + 1) - ((dg N).length : Int) := by
   rw [wrap64_id (x := (p : Int) + 1) (by omega) (by omega), wrap64_id (by omega) (by omega)]
  have e0 : List.replicate (p + 1 - (dg N).length) 48 ++ up48 (dg N) = up48 (padL (p + 1) (dg N)) := by rw [padL, up48_append, up48_zeros]
  have e1 : (List.replicate (p + 1 - (dg N).length) (48 : Int)).length + (dg N).length = (padL (p + 1) (dg N)).length := by rw [hL]; simp; omega
  refine ⟨(neg && decide (0 < (dg N).length), strOfNums ((up48 (padL (p + 1) (dg N))).take ((padL (p + 1) (dg N)).length - p)), strOfNums ((up48 (padL (p + 1) (dg N))).drop ((padL (p + 1) (dg N)).length - p)), 0), Ev.neg (by rw [hw2]; omega) (Ev.pos (by omega) ?_), ?_⟩
  ·rw [hw3]
   refine made_l0 neg (dg N) p _ _ (by omega) (p + 1 - (dg N).length) 0 [] (by omega) (by omega) (by simp; omega) ?_
   refine made_l1 neg (dg N) p (Dig_dg N) hN hp _ (dg N) [] _ rfl ?_ ?_ ?_
   ·rw [List.nil_append, e1]; omega
   ·rw [List.nil_append, e1]; omega
   ·rw [List.nil_append, e1, e0]
  ·have dP := Dig_up (Dig_padL (p + 1) (Dig_dg N))
   have hne : decide (0 < (dg N).length) = decide (N ≠ 0) := by
    rw [decide_eq_decide, List.length_pos_iff, Ne, dg_eq_nil]
   refine ⟨by rw [hne], ?_, ?_, rfl⟩
   ·exact S_str (sub_take dP _)
   ·exact S_str (sub_drop dP _)
end Go.Proofs.YtihjcaglhjepdaaDoor.Q
set_option linter.unusedVariables false
set_option linter.unusedSimpArgs false
namespace Go.Proofs.YtihjcaglhjepdaaDoor.Q
open Go.RowKit Go.Proofs.YtihjcaglhjepdaaDoorW.PrintWords Go.Proofs.YtihjcaglhjepdaaDoor.P
theorem dg_len_mono {m n : Nat} (h : m ≤ n) : (dg m).length ≤ (dg n).length := (length_dg_iff m _).2 (Nat.lt_of_le_of_lt h (lt_of_length_dg n))
theorem dg_len_ten {m n : Nat} (h : m < n * 10) : (dg m).length ≤ (dg n).length + 1 := by
 refine (length_dg_iff m _).2 (Nat.lt_of_lt_of_le h ?_)
 rw [Nat.pow_succ]
 exact Nat.mul_le_mul_right _ (Nat.le_of_lt (lt_of_length_dg n))
theorem by_l1 (Yn : Nat) (X : List Int) (i : Int) (res : List Int × List Int) (hY : 0 < Yn) (hl : (dg Yn).length ≤ 1000) (x4 : List Int) (h4 : x4.length ≤ 100000) (r' : Nat) (hr : r' < Yn) : ∀ (q c : Nat), c + q ≤ 9 →
    Ev (fun k => decimal_digits_by.l0 k (dg Yn) (x4 ++ [((c + q : Nat) : Int)]) (dg r') X (X.length : Int) (wrap64 (i + 1))) res →
    Ev (fun k => decimal_digits_by.l1 k (dg Yn) x4 (dg (q * Yn + r')) (c : Int) X (X.length : Int) i) res := by
 intro q
 induction q with
 | zero =>
  intro c hc K
  have hlen : (dg r').length ≤ 1000 := Nat.le_trans (dg_len_mono (Nat.le_of_lt hr)) hl
  rw [Nat.zero_mul, Nat.zero_add]
  refine Ev.up (Ev.bind (cmp_is r' Yn (by omega) (by omega)) (Ev.neg (by rw [sgnc, if_pos hr]; omega) (Ev.pos (by omega) ?_)))
  exact K
 | succ q ih =>
  intro c hc K
  have hlt : (q + 1) * Yn + r' < Yn * 10 := by
   have h1 : (q + 1) * Yn ≤ 9 * Yn := Nat.mul_le_mul_right _ (by omega)
   omega
  have hlen := dg_len_ten hlt
  have hge : Yn ≤ (q + 1) * Yn + r' := by rw [Nat.add_mul]; omega
  have hc' : ((c : Int) + 1) % 256 = ((c + 1 : Nat) : Int) := by omega
  have hsub : (q + 1) * Yn + r' - Yn = q * Yn + r' := by rw [Nat.add_mul]; omega
  refine Ev.up (Ev.bind (cmp_is _ Yn (by omega) (by omega)) (Ev.pos ?_ (Ev.bind (minus_is _ Yn hge (by omega)) ?_)))
  ·unfold sgnc; rw [if_neg (by omega)]; split <;> omega
  ·rw [hsub, hc']
   refine ih (c + 1) (by omega) ?_
   have : c + 1 + q = c + (q + 1) := by omega
   rw [this]; exact K
theorem by_l0 (Yn : Nat) (X : List Int) (dX : Dig X) (hY : 0 < Yn) (hl : (dg Yn).length ≤ 1000) (hX : X.length ≤ 1000) : ∀ (Q P x4 : List Int) (r : Nat), X = P ++ Q → Dig x4 → x4.length = P.length → r < Yn → val x4 * Yn + r = val P →
    Ev (fun k => decimal_digits_by.l0 k (dg Yn) x4 (dg r) X (X.length : Int) (P.length : Int)) (dg (val X / Yn), dg (val X % Yn)) := by
  intro Q
  induction Q with
  | nil =>
    intro P x4 r h d4 h4 hr hv
    have hP : X = P := by rw [h]; simp
    have e1 : val X / Yn = val x4 := by rw [hP, ← hv, Nat.mul_comm, Nat.mul_add_div hY, Nat.div_eq_of_lt hr]; omega
    have e2 : val X % Yn = r := by rw [hP, ← hv, Nat.mul_comm, Nat.mul_add_mod, Nat.mod_eq_of_lt hr]
    rw [e1, e2]
    refine Ev.up (Ev.neg (by rw [hP]; omega) (Ev.bind (lead_is x4 d4 (by rw [h4, ← hP]; omega)) (Ev.val rfl)))
  | cons d Q ih =>
    intro P x4 r h d4 h4 hr hv
    have hlen : X.length = P.length + (Q.length + 1) := by rw [h]; simp
    have hd : 0 ≤ d ∧ d ≤ 9 := dX d (by rw [h]; simp)
    have hrd : rd X (P.length : Int) = d := by rw [rd_nat, h, getD_append_mid]
    have hlr : (dg r).length ≤ 1000 := Nat.le_trans (dg_len_mono (Nat.le_of_lt hr)) hl
    have hlead := lead_is (dg r ++ [d]) ((Dig_dg r).append (Dig.one hd.1 hd.2)) (by simp; omega)
    rw [val_snoc, val_dg] at hlead
    have hlt : r * 10 + d.toNat < Yn * 10 := by omega
    have hq : (r * 10 + d.toNat) / Yn ≤ 9 := by
      have := Nat.div_lt_of_lt_mul (n := Yn) (k := 10) hlt
      omega
    have hdm := Nat.div_add_mod (r * 10 + d.toNat) Yn
    have hr' := Nat.mod_lt (r * 10 + d.toNat) hY
    generalize (r * 10 + d.toNat) / Yn = q at hq hdm
    generalize (r * 10 + d.toNat) % Yn = r' at hdm hr'
    refine Ev.up (Ev.pos (by omega) ?_)
    rw [hrd]
    refine Ev.pos (by omega) (Ev.pos (by omega) (Ev.pos (by omega) (Ev.bind hlead ?_)))
    have key := by_l1 Yn X (P.length : Int) (dg (val X / Yn), dg (val X % Yn)) hY hl x4 (by omega) _ hr' q 0 (by omega) (by
      have hi : wrap64 ((P.length : Int) + 1) = (((P ++ [d]).length : Nat) : Int) := by rw [wrap64_id (by omega) (by omega)]; simp
      rw [hi]
      refine ih (P ++ [d]) (x4 ++ [((0 + q : Nat) : Int)]) _ (by rw [h]; simp) (d4.append (Dig.one (by omega) (by omega))) (by simp [h4]) hr' ?_
      rw [val_snoc, val_snoc, ← hv]
      have e1 : ((0 + q : Nat) : Int).toNat = q := by omega
      rw [e1, Nat.add_mul, Nat.add_mul]
      have e2 : q * Yn = Yn * q := Nat.mul_comm _ _
      have e3 : val x4 * 10 * Yn = val x4 * Yn * 10 := by rw [Nat.mul_assoc, Nat.mul_comm 10, ← Nat.mul_assoc]
      omega)
    have e : q * Yn + r' = r * 10 + d.toNat := by rw [Nat.mul_comm]; exact hdm
    rw [e] at key
    exact key
theorem by_is (m n : Nat) (hn0 : 0 < n) (hm : (dg m).length ≤ 1000) (hn : (dg n).length ≤ 1000) : Ev (fun k => decimal_digits_by.f k (dg m) (dg n)) (dg (m / n), dg (m % n)) := by
 have := by_l0 n (dg m) (Dig_dg m) hn0 hn hm (dg m) [] [] 0 rfl Dig.nil rfl hn0 (by simp [val])
 rw [val_dg, dg_zero] at this
 exact this
end Go.Proofs.YtihjcaglhjepdaaDoor.Q
set_option linter.unusedVariables false
set_option linter.unusedSimpArgs false
namespace Go.Proofs.YtihjcaglhjepdaaDoor.Q
open Go.RowKit Go.Proofs.YtihjcaglhjepdaaDoorW.PrintWords Go.Proofs.YtihjcaglhjepdaaDoor.P
def lit (x : List Int) : Nat := val (dn48 x.reverse)
theorem lit_nil : lit [] = 0 := rfl
end Go.Proofs.YtihjcaglhjepdaaDoor.Q
set_option linter.unusedVariables false
set_option linter.unusedSimpArgs false
namespace Go.Proofs.YtihjcaglhjepdaaDoor.Q
open Go.RowKit Go.Proofs.YtihjcaglhjepdaaDoorW.PrintWords Go.Proofs.YtihjcaglhjepdaaDoor.P
theorem chk_fm {n : Bool} {a b : List Int} (h : chk n a b = 0) : fm n a b = true := by
 unfold chk okD at h
 by_cases h1 : fm n a b = true
 ·exact h1
 ·simp [h1] at h
theorem chk_of {n : Bool} {a b : List Int} (h : fm n a b = true) (hl : a.length + b.length ≤ 40) : chk n a b = 0 := by
 simp [chk, okD, h, hl]
theorem fm_parts {n : Bool} {a b : List Int} (h : fm n a b = true) : a ≠ [] ∧ allD a = true ∧ allD b = true := by
 simp only [fm, Bool.and_eq_true] at h
 refine ⟨?_, h.1.1.1.2, h.1.1.2⟩
 intro e
 rw [e] at h
 simp at h
end Go.Proofs.YtihjcaglhjepdaaDoor.Q
set_option linter.unusedVariables false
set_option linter.unusedSimpArgs false
namespace Go.Proofs.YtihjcaglhjepdaaDoor.Q
open Go.RowKit Go.Proofs.YtihjcaglhjepdaaDoorW.PrintWords Go.Proofs.YtihjcaglhjepdaaDoor.P
def num (a b : List Int) : Nat := val (dn48 (a ++ b))
theorem allD_append {a b : List Int} (ha : allD a = true) (hb : allD b = true) : allD (a ++ b) = true := by
 rw [allD, List.all_append]; rw [allD] at ha hb; simp [ha, hb]
structure Fine (n : Bool) (a b : List Int) : Prop where
  ok : chk n a b = 0
theorem Fine.len {n : Bool} {a b : List Int} (h : Fine n a b) : a.length + b.length ≤ 40 := chk_len h.ok
theorem Fine.digits {n : Bool} {a b : List Int} (h : Fine n a b) : allD (a ++ b) = true :=
  allD_append (fm_parts (chk_fm h.ok)).2.1 (fm_parts (chk_fm h.ok)).2.2
theorem Fine.lt {n : Bool} {a b : List Int} (h : Fine n a b) : num a b < 10 ^ (a.length + b.length) := by
 have := val_lt (allD_dig h.digits)
 rwa [dn48_len, List.length_append] at this
theorem num_len {n : Bool} {a b : List Int} (h : Fine n a b) (c : Nat) : (dg (num a b * 10 ^ c)).length ≤ 40 + c := by
 refine (length_dg_iff _ _).2 (Nat.lt_of_lt_of_le (Nat.mul_lt_mul_of_pos_right h.lt (Nat.pow_pos (by omega))) ?_)
 rw [← Nat.pow_add]
 exact Nat.pow_le_pow_right (by omega) (by have := h.len; omega)
theorem of_num (n : Bool) (a b : ByteArray) (h : Fine n (S a) (S b)) : Ev (fun k => decimal_of.f k (a ++ b)) (dg (num (S a) (S b))) := by
 have hl := h.len
 rw [S_len, S_len] at hl
 have := of_is (a ++ b) (by rw [ByteArray.size_append]; omega) (by rw [S_append]; exact h.digits)
 rw [S_append] at this
 exact this
theorem up_num (n : Bool) (a b : ByteArray) (h : Fine n (S a) (S b)) (c : Nat) (hc : c ≤ 1000) : decimal_digits_up.f (dg (num (S a) (S b))) (c : Int) = some (dg (num (S a) (S b) * 10 ^ c)) := by
 have := num_len h 0
 rw [Nat.pow_zero, Nat.mul_one] at this
 exact up_is _ c (by omega) (by omega)
theorem mx_nat (x y : Nat) : mx (x : Int) (y : Int) = ((max x y : Nat) : Int) := by rw [mx_int]; omega
theorem aligned_is (n : Bool) (a b : ByteArray) (m : Bool) (c d : ByteArray) (h : Fine n (S a) (S b)) (h' : Fine m (S c) (S d)) :
    Ev (fun k => decimal_aligned.f k n a b m c d) (dg (num (S a) (S b) * 10 ^ (max b.size d.size - b.size)), dg (num (S c) (S d) * 10 ^ (max b.size d.size - d.size)), ((max b.size d.size : Nat) : Int)) := by
 have hl := h.len
 have hl' := h'.len
 rw [S_len, S_len] at hl hl'
 have w1 : wrap64 (((max b.size d.size : Nat) : Int) - (b.size : Int)) = ((max b.size d.size - b.size : Nat) : Int) := by rw [wrap64_id (by omega) (by omega)]; omega
 have w2 : wrap64 (((max b.size d.size : Nat) : Int) - (d.size : Int)) = ((max b.size d.size - d.size : Nat) : Int) := by rw [wrap64_id (by omega) (by omega)]; omega
 refine Ev.pos (by omega) (Ev.bind (of_num n a b h) (Ev.bindV (a := dg (num (S a) (S b) * 10 ^ (max b.size d.size - b.size))) ?_ (Ev.pos (by omega) (Ev.bind (of_num m c d h') (Ev.bindV (a := dg (num (S c) (S d) * 10 ^ (max b.size d.size - d.size))) ?_ (Ev.val ?_))))))
 ·rw [mx_nat, w1]; exact up_num n a b h _ (by omega)
 ·rw [mx_nat, w2]; exact up_num m c d h' _ (by omega)
 ·rw [mx_nat]
end Go.Proofs.YtihjcaglhjepdaaDoor.Q
set_option linter.unusedVariables false
set_option linter.unusedSimpArgs false
namespace Go.Proofs.YtihjcaglhjepdaaDoor.Q
open Go.RowKit Go.Proofs.YtihjcaglhjepdaaDoorW.PrintWords Go.Proofs.YtihjcaglhjepdaaDoor.P
def err2 (n : Bool) (a b : List Int) (m : Bool) (c d : List Int) : Int := if chk n a b = 0 then chk m c d else chk n a b
theorem err2_fine {n : Bool} {a b : List Int} {m : Bool} {c d : List Int} (h : err2 n a b m c d = 0) : Fine n a b ∧ Fine m c d := by
 unfold err2 at h
 by_cases h1 : chk n a b = 0
 ·rw [if_pos h1] at h; exact ⟨⟨h1⟩, ⟨h⟩⟩
 ·rw [if_neg h1] at h; exact absurd h h1
theorem both_is (n : Bool) (a b : ByteArray) (m : Bool) (c d : ByteArray) (ha : Fit a) (hb : Fit b) (hc : Fit c) (hd : Fit d) : Ev (fun k => decimal_both.f k n a b m c d) (err2 n (S a) (S b) m (S c) (S d)) := by
 unfold err2
 by_cases h : chk n (S a) (S b) = 0
 ·rw [if_pos h]
  exact Ev.bind (Check_is n a b ha hb) (Ev.pos h (Check_is m c d hc hd).tail)
 ·rw [if_neg h]
  exact Ev.bind (Check_is n a b ha hb) (Ev.neg h (Ev.val rfl))
def nA (b : ByteArray) (d : ByteArray) (x : Nat) : Nat := x * 10 ^ (max b.size d.size - b.size)
def nB (b : ByteArray) (d : ByteArray) (x : Nat) : Nat := x * 10 ^ (max b.size d.size - d.size)
def cmpA (n m : Bool) (A B : Nat) : Int := if (n && m) = true then sgnc B A else if n = true then -1 else if m = true then 1 else sgnc A B
section
theorem Compare_is (n : Bool) (a b : ByteArray) (m : Bool) (c d : ByteArray) (ha : Fit a) (hb : Fit b) (hc : Fit c) (hd : Fit d) (A B : Nat) (hA : A = nA b d (num (S a) (S b))) (hB : B = nB b d (num (S c) (S d))) :
    Ev (fun k => decimal_Compare.f k n a b m c d) (if err2 n (S a) (S b) m (S c) (S d) = 0 then (cmpA n m A B, 0) else (0, err2 n (S a) (S b) m (S c) (S d))) := by
  by_cases h : err2 n (S a) (S b) m (S c) (S d) = 0
  · obtain ⟨f1, f2⟩ := err2_fine h
    have l1 := f1.len
    have l2 := f2.len
    rw [S_len, S_len] at l1 l2
    have lA : (dg A).length ≤ 200 := by rw [hA, nA]; exact Nat.le_trans (num_len f1 _) (by omega)
    have lB : (dg B).length ≤ 200 := by rw [hB, nB]; exact Nat.le_trans (num_len f2 _) (by omega)
    have al := aligned_is n a b m c d f1 f2
    rw [← nA, ← nB, ← hA, ← hB] at al
    rw [if_pos h]
    have j0 : ∀ x : Bool, x = (n && m) → Ev (fun k => decimal_Compare.j0 k (dg A) (dg B) x n a b m c d) (cmpA n m A B, 0) := by
      intro x hx
      unfold cmpA
      refine Ev.up (Ev.split (fun h1 => ?_) (fun h1 => Ev.split (fun h2 => Ev.val ?_) (fun h2 => Ev.split (fun h3 => Ev.val ?_) (fun h3 => ?_))))
      · rw [← hx, if_pos h1]
        exact Ev.bind (cmp_is B A (by omega) (by omega)) (Ev.val rfl)
      · rw [← hx, if_neg h1, if_pos h2]
      · rw [← hx, if_neg h1, if_neg h2, if_pos h3]
      · rw [← hx, if_neg h1, if_neg h2, if_neg h3]
        exact Ev.bind (cmp_is A B (by omega) (by omega)) (Ev.val rfl)
    refine Ev.bind (both_is n a b m c d ha hb hc hd) (Ev.pos h (Ev.bind al (Ev.split (fun h1 => j0 _ ?_) (fun h1 => j0 _ ?_))))
    · rw [h1]; rfl
    · simp only [Bool.not_eq_true] at h1; rw [h1]; rfl
  · rw [if_neg h]
    exact Ev.bind (both_is n a b m c d ha hb hc hd) (Ev.neg h (Ev.val rfl))
end
end Go.Proofs.YtihjcaglhjepdaaDoor.Q
set_option linter.unusedVariables false
set_option linter.unusedSimpArgs false
namespace Go.Proofs.YtihjcaglhjepdaaDoor.Q
open Go.RowKit Go.Proofs.YtihjcaglhjepdaaDoorW.PrintWords Go.Proofs.YtihjcaglhjepdaaDoor.P
theorem val_zero {l : List Int} (h : Dig l) : val l = 0 ↔ l.all (· == 0) = true := by
 induction l with
 | nil => simp [val]
 | cons d l ih =>
  rw [val_cons, List.all_cons, Bool.and_eq_true, ← ih h.tail]
  have h0 := h.head
  have hp : 0 < 10 ^ l.length := Nat.pow_pos (by omega)
  constructor
  ·intro e
   have h1 : d.toNat * 10 ^ l.length = 0 := by omega
   have h2 : d.toNat = 0 := by rcases Nat.mul_eq_zero.1 h1 with h | h <;> omega
   have h3 : d = 0 := by omega
   exact ⟨by rw [h3]; rfl, by omega⟩
  ·rintro ⟨e1, e2⟩
   have h3 : d = 0 := by simpa using e1
   rw [h3, e2]; simp
theorem all0_dn (l : List Int) : all0 l = (dn48 l).all (· == 0) := by
 induction l with
 | nil => rfl
 | cons d l ih =>
  show ((d == 48) && all0 l) = ((d - 48 == 0) && (dn48 l).all (· == 0))
  rw [ih]; congr 1
  rw [Bool.eq_iff_iff]; simp; omega
theorem num_zero {n : Bool} {a b : List Int} (h : Fine n a b) : num a b = 0 ↔ (all0 a && all0 b) = true := by
 rw [num, val_zero (allD_dig h.digits), ← all0_dn]
 simp [all0]
theorem Fine.nz {n : Bool} {a b : List Int} (h : Fine n a b) (hn : n = true) : num a b ≠ 0 := by
 intro e
 have h1 := (num_zero h).1 e
 have h2 := chk_fm h.ok
 simp [fm, hn, h1] at h2
theorem Fine.head {n : Bool} {a b : List Int} (h : Fine n a b) : 1 < a.length → rd a 0 ≠ 48 := by
 intro hl e
 have h2 := chk_fm h.ok
 simp [fm, hl, e] at h2
theorem Fine.ne {n : Bool} {a b : List Int} (h : Fine n a b) : a ≠ [] := (fm_parts (chk_fm h.ok)).1
theorem Fine.da {n : Bool} {a b : List Int} (h : Fine n a b) : allD a = true := (fm_parts (chk_fm h.ok)).2.1
theorem Fine.db {n : Bool} {a b : List Int} (h : Fine n a b) : allD b = true := (fm_parts (chk_fm h.ok)).2.2
theorem Fine.mk' {n : Bool} {a b : List Int} (hl : a.length + b.length ≤ 40) (h0 : a ≠ []) (ha : allD a = true) (hb : allD b = true) (hh : 1 < a.length → rd a 0 ≠ 48) (hn : n = true → ¬ (all0 a && all0 b) = true) : Fine n a b := by
 refine ⟨chk_of ?_ hl⟩
 unfold fm
 rw [isEmpty_false h0, ha, hb]
 have h1 : (decide (1 < a.length) && rd a 0 == 48) = false := by
  by_cases h : 1 < a.length
  ·have := hh h; simp [this]
  ·simp [h]
 have h2 : (n && (all0 a && all0 b)) = false := by
  cases n with
  | false => rfl
  | true => have := hn rfl; simp only [Bool.not_eq_true] at this; rw [this]; rfl
 rw [h1, h2]; rfl
def Z (n : Bool) (N : Nat) : Int := if n = true then -(N : Int) else (N : Int)
def sgI (x : Int) : Int := if x < 0 then -1 else if x = 0 then 0 else 1
theorem Z_true (N : Nat) : Z true N = -(N : Int) := rfl
theorem Z_false (N : Nat) : Z false N = (N : Int) := rfl
theorem sgnc_I (A B : Nat) : sgnc A B = sgI ((A : Int) - (B : Int)) := by
 unfold sgnc sgI
 split
 ·rw [if_pos (by omega)]
 ·split
  ·rw [if_neg (by omega), if_pos (by omega)]
  ·rw [if_neg (by omega), if_neg (by omega)]
theorem cmpA_I (n m : Bool) (A B : Nat) (hn : n = true → A ≠ 0) (hm : m = true → B ≠ 0) : cmpA n m A B = sgI (Z n A - Z m B) := by
 unfold cmpA
 cases n <;> cases m
 ·rw [if_neg (by decide), if_neg (by decide), if_neg (by decide), sgnc_I]; rfl
 ·have := hm rfl
  rw [if_neg (by decide), if_neg (by decide), if_pos rfl, Z_true, Z_false, sgI, if_neg (by omega), if_neg (by omega)]
 ·have := hn rfl
  have e : -(A : Int) - (B : Int) < 0 := by omega
  rw [if_neg (by decide), if_pos rfl, Z_true, Z_false]; unfold sgI; rw [if_pos e]
 ·rw [if_pos (show (true && true) = true from rfl), sgnc_I, Z_true, Z_true, show (B : Int) - (A : Int) = -(A : Int) - -(B : Int) by omega]
theorem Z_scale (n : Bool) (N t : Nat) : Z n (N * t) = Z n N * (t : Int) := by
 cases n
 ·rw [Z_false, Z_false]; simp
 ·rw [Z_true, Z_true]; simp [Int.neg_mul]
theorem allD_up {l : List Int} (h : Dig l) : allD (up48 l) = true := by
 rw [allD, List.all_eq_true]
 intro x hx
 obtain ⟨d, hd, rfl⟩ := List.mem_map.1 hx
 have := h d hd
 simp [isD]; omega
theorem up48_take (l : List Int) (n : Nat) : (up48 l).take n = up48 (l.take n) := by simp [up48, List.map_take]
theorem up48_drop (l : List Int) (n : Nat) : (up48 l).drop n = up48 (l.drop n) := by simp [up48, List.map_drop]
theorem rd_up (d : Int) (l : List Int) : rd (up48 (d :: l)) 0 = d + 48 := rfl
theorem mk_bad {n : Bool} {N p : Nat} (h : (mk n N p).err ≠ 0) : mk n N p = bad 3 := by
 unfold mk at *
 split
 ·rfl
 ·rename_i h1; rw [if_neg h1] at h; exact absurd rfl h
theorem mk_good {n : Bool} {N p : Nat} (h : (mk n N p).err = 0) :
    Fine (mk n N p).neg (mk n N p).a (mk n N p).b ∧ num (mk n N p).a (mk n N p).b = N ∧ (mk n N p).b.length = p ∧ (mk n N p).neg = (n && decide (N ≠ 0)) := by
 unfold mk at *
 split
 ·rename_i h1; rw [if_pos h1] at h; exact absurd h (by show (3 : Int) ≠ 0; omega)
 ·rename_i h1
  have hL : (padL (p + 1) (dg N)).length = max (p + 1) (dg N).length := padL_len_max _ _
  have dL : Dig (padL (p + 1) (dg N)) := Dig_padL _ (Dig_dg N)
  have vL : val (padL (p + 1) (dg N)) = N := by rw [val_padL, val_dg]
  have hhead : (p + 1) < (padL (p + 1) (dg N)).length → ∀ d m, padL (p + 1) (dg N) = d :: m → d ≠ 0 := by
   intro h2 d m e
   have h3 : padL (p + 1) (dg N) = dg N := by
    rw [padL, show p + 1 - (dg N).length = 0 by omega]; rfl
   rw [h3] at e
   exact dg_head e
  generalize padL (p + 1) (dg N) = L at *
  have hp : p < L.length := by omega
  have e1 : up48 (L.take (L.length - p)) ++ up48 (L.drop (L.length - p)) = up48 L := by rw [← up48_append, List.take_append_drop]
  have hnum : num (up48 (L.take (L.length - p))) (up48 (L.drop (L.length - p))) = N := by rw [num, e1, dn_up, vL]
  have la : (up48 (L.take (L.length - p))).length = L.length - p := by rw [up48_len, List.length_take]; omega
  have lb : (up48 (L.drop (L.length - p))).length = p := by rw [up48_len, List.length_drop]; omega
  have Da := allD_up (dL.take (L.length - p))
  have Db := allD_up (dL.drop (L.length - p))
  show Fine _ _ _ ∧ _
  dsimp only
  rw [up48_take, up48_drop]
  refine ⟨?_, hnum, lb, rfl⟩
  refine Fine.mk' (by rw [la, lb]; omega) (by intro e; rw [e] at la; simp at la; omega) Da Db ?_ ?_
  ·intro hl
   rw [la] at hl
   have hpos : 0 < L.length - p := by omega
   cases L with
   | nil => simp at hp
   | cons d m =>
    have h3 := hhead (by omega) d m rfl
    obtain ⟨k, hk⟩ : ∃ k, (d :: m).length - p = k + 1 := ⟨(d :: m).length - p - 1, by omega⟩
    rw [hk, List.take_succ_cons, rd_up]
    omega
  ·intro hn h0
   have hNz : N ≠ 0 := by simpa using (Bool.and_eq_true_iff.1 hn).2
   apply hNz
   rw [← hnum, num, val_zero (allD_dig (allD_append Da Db)), ← all0_dn]
   rw [← h0]; simp [all0]
def zn (n : Bool) (a b : List Int) : Int := Z n (num a b)
theorem canon {a : List Int} (h0 : a ≠ []) (ha : allD a = true) (hh : 1 < a.length → rd a 0 ≠ 48) : a = tx (val (dn48 a)) := by
 cases a with
 | nil => exact absurd rfl h0
 | cons d m =>
  have e := allD_dig ha
  have h1 : dn48 (d :: m) = (d - 48) :: dn48 m := rfl
  rw [h1] at e
  rw [tx, h1, txd_val e, ← h1, up_dn]
  cases m with
  | nil => exact .inr rfl
  | cons x m => exact .inl (by have : d ≠ 48 := hh (by simp); omega)
end Go.Proofs.YtihjcaglhjepdaaDoor.Q
set_option linter.unusedVariables false
set_option linter.unusedSimpArgs false
namespace Go.Proofs.YtihjcaglhjepdaaDoor.Q
open Go.RowKit Go.Proofs.YtihjcaglhjepdaaDoorW.PrintWords Go.Proofs.YtihjcaglhjepdaaDoor.P
def al (z : Int) (p q : Nat) : Int := z * ((10 ^ (max p q - p) : Nat) : Int)
end Go.Proofs.YtihjcaglhjepdaaDoor.Q
set_option linter.unusedVariables false
set_option linter.unusedSimpArgs false
namespace Go.Proofs.YtihjcaglhjepdaaDoor.Q
open Go.RowKit Go.Proofs.YtihjcaglhjepdaaDoorW.PrintWords Go.Proofs.YtihjcaglhjepdaaDoor.P
def trimA (n : Bool) (a b : List Int) : Ans := if chk n a b = 0 then ⟨n, a, rtrim b, 0⟩ else bad (chk n a b)
theorem Trimd_is (n : Bool) (a b : ByteArray) (ha : Fit a) (hb : Fit b) : ∃ r, Ev (fun k => decimal_Trim.f k n a b) r ∧ Tells r (trimA n (S a) (S b)) := by
 unfold trimA
 by_cases h : chk n (S a) (S b) = 0
 ·obtain ⟨t, ht, et⟩ := TrimRight_is b hb
  rw [if_pos h]
  exact ⟨_, Ev.bind (Check_is n a b ha hb) (Ev.pos h (Ev.bind ht (Ev.val rfl))), rfl, rfl, et, rfl⟩
 ·rw [if_neg h]
  exact ⟨_, Ev.bind (Check_is n a b ha hb) (Ev.neg h (Ev.val rfl)), Tells.bad _⟩
theorem Repeat_is (m : Nat) (hm : m ≤ 1000) : ∃ t, strings_Repeat.f (⟨#[48]⟩ : ByteArray) (m : Int) = some t ∧ S t = List.replicate m 48 := by
  have hs : ((⟨#[48]⟩ : ByteArray)).size = 1 := rfl
  unfold strings_Repeat.f
  rw [if_pos ⟨by omega, by omega, by rw [hs]; omega⟩]
  refine ⟨_, rfl, ?_⟩
  have h : ∀ k : Nat, (Lib.repeatL [(48 : UInt8)] k).map (fun b => (b.toNat : Int)) = List.replicate k 48 := by
    intro k
    induction k with
    | zero => rfl
    | succ k ih => rw [Lib.repeatL, List.map_append, ih, List.replicate_succ]; rfl
  simpa [S] using h m
end Go.Proofs.YtihjcaglhjepdaaDoor.Q
set_option linter.unusedVariables false
set_option linter.unusedSimpArgs false
namespace Go.Proofs.YtihjcaglhjepdaaDoor.Q
open Go.RowKit Go.Proofs.YtihjcaglhjepdaaDoorW.PrintWords Go.Proofs.YtihjcaglhjepdaaDoor.P
def errD (n : Bool) (a b : List Int) (m : Bool) (c d : List Int) : Int := if err2 n a b m c d = 0 then (if num c d = 0 then 21 else 0) else err2 n a b m c d
theorem errD_ok {n : Bool} {a b : List Int} {m : Bool} {c d : List Int} (h : errD n a b m c d = 0) : err2 n a b m c d = 0 ∧ num c d ≠ 0 := by
 unfold errD at h
 by_cases h1 : err2 n a b m c d = 0
 ·rw [if_pos h1] at h
  refine ⟨h1, fun h2 => ?_⟩
  rw [if_pos h2] at h
  omega
 ·rw [if_neg h1] at h; exact absurd h h1
theorem nB_zero {b d : ByteArray} {x : Nat} : nB b d x = 0 ↔ x = 0 := by
 unfold nB
 have : 0 < 10 ^ (max b.size d.size - d.size) := Nat.pow_pos (by omega)
 constructor
 ·intro h
  rcases Nat.mul_eq_zero.1 h with h | h <;> omega
 ·intro h; rw [h, Nat.zero_mul]
theorem divided_is (n : Bool) (a b : ByteArray) (m : Bool) (c d : ByteArray) (ha : Fit a) (hb : Fit b) (hc : Fit c) (hd : Fit d) (A B : Nat) (hA : A = nA b d (num (S a) (S b))) (hB : B = nB b d (num (S c) (S d))) :
    ∃ q r p, Ev (fun k => decimal_divided.f k n a b m c d) (q, r, p, errD n (S a) (S b) m (S c) (S d)) ∧ (errD n (S a) (S b) m (S c) (S d) = 0 → q = dg (A / B) ∧ r = dg (A % B) ∧ p = ((max b.size d.size : Nat) : Int)) := by
  by_cases h : err2 n (S a) (S b) m (S c) (S d) = 0
  · obtain ⟨f1, f2⟩ := err2_fine h
    have l1 := f1.len
    have l2 := f2.len
    rw [S_len, S_len] at l1 l2
    have lA : (dg A).length ≤ 1000 := by rw [hA, nA]; exact Nat.le_trans (num_len f1 _) (by omega)
    have lB : (dg B).length ≤ 1000 := by rw [hB, nB]; exact Nat.le_trans (num_len f2 _) (by omega)
    have al := aligned_is n a b m c d f1 f2
    rw [← nA, ← nB, ← hA, ← hB] at al
    unfold errD
    rw [if_pos h]
    by_cases h0 : num (S c) (S d) = 0
    · have hB0 : B = 0 := by rw [hB]; exact nB_zero.2 h0
      rw [if_pos h0]
      exact ⟨_, _, _, Ev.bind (both_is n a b m c d ha hb hc hd) (Ev.pos h (Ev.bind al (Ev.pos (by rw [hB0, dg_zero]; rfl) (Ev.val rfl)))), fun e => by omega⟩
    · have hB0 : 0 < B := Nat.pos_of_ne_zero (by rw [hB]; exact fun e => h0 (nB_zero.1 e))
      rw [if_neg h0]
      refine ⟨_, _, _, Ev.bind (both_is n a b m c d ha hb hc hd) (Ev.pos h (Ev.bind al (Ev.neg ?_ (Ev.bind (by_is A B hB0 lA lB) (Ev.val rfl))))), fun _ => ⟨rfl, rfl, rfl⟩⟩
      intro e
      have e' : ((dg B).length : Int) = 0 := e
      have : dg B = [] := List.eq_nil_of_length_eq_zero (by omega)
      rw [dg_eq_nil] at this
      omega
  · unfold errD
    rw [if_neg h]
    exact ⟨_, _, _, Ev.bind (both_is n a b m c d ha hb hc hd) (Ev.neg h (Ev.val rfl)), fun e => absurd e h⟩
theorem lenA (n : Bool) (a b : ByteArray) (m : Bool) (c d : ByteArray) (A B : Nat) (hA : A = nA b d (num (S a) (S b))) (hB : B = nB b d (num (S c) (S d))) (h : errD n (S a) (S b) m (S c) (S d) = 0) : (dg A).length ≤ 200 ∧ (dg B).length ≤ 200 ∧ max b.size d.size ≤ 40 := by
 obtain ⟨f1, f2⟩ := err2_fine (errD_ok h).1
 have l1 := f1.len
 have l2 := f2.len
 rw [S_len, S_len] at l1 l2
 refine ⟨?_, ?_, by omega⟩
 ·rw [hA, nA]; exact Nat.le_trans (num_len f1 _) (by omega)
 ·rw [hB, nB]; exact Nat.le_trans (num_len f2 _) (by omega)
section
variable (n : Bool) (a b : ByteArray) (m : Bool) (c d : ByteArray) (ha : Fit a) (hb : Fit b) (hc : Fit c) (hd : Fit d) (A B : Nat) (hA : A = nA b d (num (S a) (S b))) (hB : B = nB b d (num (S c) (S d)))
include ha hb hc hd hA hB
theorem Rem_is : ∃ r, Ev (fun k => decimal_Rem.f k n a b m c d) r ∧ Tells r (if errD n (S a) (S b) m (S c) (S d) = 0 then mk n (A % B) (max b.size d.size) else bad (errD n (S a) (S b) m (S c) (S d))) := by
 obtain ⟨q, r, p, hD, hE⟩ := divided_is n a b m c d ha hb hc hd A B hA hB
 by_cases h : errD n (S a) (S b) m (S c) (S d) = 0
 ·obtain ⟨rfl, rfl, rfl⟩ := hE h
  obtain ⟨l1, l2, l3⟩ := lenA n a b m c d A B hA hB h
  obtain ⟨r, hr, hT⟩ := made_is n (A % B) (max b.size d.size) (Nat.le_trans (dg_len_mono (Nat.mod_le _ _)) (by omega)) (by omega)
  rw [if_pos h]
  exact ⟨r, Ev.bind hD (Ev.pos h (Ev.bind hr (Ev.val rfl))), hT⟩
 ·rw [if_neg h]
  exact ⟨_, Ev.bind hD (Ev.neg h (Ev.val rfl)), Tells.bad _⟩
end
end Go.Proofs.YtihjcaglhjepdaaDoor.Q
set_option linter.unusedVariables false
set_option linter.unusedSimpArgs false
namespace Go.Proofs.YtihjcaglhjepdaaDoor.Q
open Go.RowKit Go.Proofs.YtihjcaglhjepdaaDoorW.PrintWords Go.Proofs.YtihjcaglhjepdaaDoor.P
theorem Fine.fit {n : Bool} {a b : ByteArray} (h : Fine n (S a) (S b)) : Fit a ∧ Fit b ∧ a.size + b.size ≤ 40 := by
 have hl := h.len
 rw [S_len, S_len] at hl
 unfold Fit; omega
theorem err2_of {n : Bool} {a b : List Int} {m : Bool} {c d : List Int} (h : Fine n a b) (h' : Fine m c d) : err2 n a b m c d = 0 := by
 unfold err2; rw [if_pos h.ok]; exact h'.ok
theorem nA_Z (n : Bool) (a b d : ByteArray) : Z n (nA b d (num (S a) (S b))) = al (zn n (S a) (S b)) b.size d.size := by rw [nA, Z_scale]; rfl
theorem nB_Z (m : Bool) (b c d : ByteArray) : Z m (nB b d (num (S c) (S d))) = al (zn m (S c) (S d)) d.size b.size := by rw [nB, Z_scale, al, Nat.max_comm]; rfl
theorem scaled_ne {x t : Nat} (h : x ≠ 0) : x * 10 ^ t ≠ 0 := by
 have : 0 < 10 ^ t := Nat.pow_pos (by omega)
 intro e
 rcases Nat.mul_eq_zero.1 e with h1 | h1 <;> omega
section
variable {n : Bool} {a b : ByteArray} {m : Bool} {c d : ByteArray} (h : Fine n (S a) (S b)) (h' : Fine m (S c) (S d))
include h h'
theorem cmp_f : Ev (fun k => decimal_Compare.f k n a b m c d) (sgI (al (zn n (S a) (S b)) b.size d.size - al (zn m (S c) (S d)) d.size b.size), 0) := by
 have C := Compare_is n a b m c d h.fit.1 h.fit.2.1 h'.fit.1 h'.fit.2.1 _ _ rfl rfl
 have hn : n = true → nA b d (num (S a) (S b)) ≠ 0 := fun e => scaled_ne (h.nz e)
 have hm : m = true → nB b d (num (S c) (S d)) ≠ 0 := fun e => scaled_ne (h'.nz e)
 rw [if_pos (err2_of h h'), cmpA_I _ _ _ _ hn hm, nA_Z, nB_Z] at C
 exact C
end
theorem trim_f {n : Bool} {a b : ByteArray} (h : Fine n (S a) (S b)) : ∃ t, Ev (fun k => decimal_Trim.f k n a b) (n, a, t, 0) ∧ S t = rtrim (S b) := by
 obtain ⟨r, hr, hT⟩ := Trimd_is n a b h.fit.1 h.fit.2.1
 obtain ⟨r1, r2, r3, r4⟩ := r
 unfold trimA at hT
 rw [if_pos h.ok] at hT
 obtain ⟨h1, h2, h3, h4⟩ := hT
 simp only at h1 h2 h3 h4
 obtain rfl := S_inj h2
 subst h1 h4
 exact ⟨r3, hr, h3⟩
end Go.Proofs.YtihjcaglhjepdaaDoor.Q
set_option linter.unusedVariables false
set_option linter.unusedSimpArgs false
namespace Go.Proofs.YtihjcaglhjepdaaDoor.Q
open Go.RowKit Go.Proofs.YtihjcaglhjepdaaDoorW.PrintWords Go.Proofs.YtihjcaglhjepdaaDoor.P
theorem allD_zeros (k : Nat) : allD (List.replicate k 48) = true := by
 rw [allD, List.all_eq_true]
 intro x hx
 rw [(List.mem_replicate.1 hx).2]; rfl
end Go.Proofs.YtihjcaglhjepdaaDoor.Q
set_option linter.unusedVariables false
set_option linter.unusedSimpArgs false
namespace Go.Proofs.YtihjcaglhjepdaaDoor.Q
open Go.RowKit Go.Proofs.YtihjcaglhjepdaaDoorW.PrintWords Go.Proofs.YtihjcaglhjepdaaDoor.P
def wh (l : List Int) : List Int := if ltrim l = [] then [48] else ltrim l
theorem ltrim_cons (d : Int) (l : List Int) : ltrim (d :: l) = if d = 48 then ltrim l else d :: l := by
 unfold ltrim
 rw [List.dropWhile_cons]
 by_cases h : d = 48 <;> simp [h]
theorem ltrim_head {l m : List Int} {d : Int} (h : ltrim l = d :: m) : d ≠ 48 := by
 induction l with
 | nil => simp [ltrim] at h
 | cons x l ih =>
  rw [ltrim_cons] at h
  by_cases hx : x = 48
  ·rw [if_pos hx] at h; exact ih h
  ·rw [if_neg hx] at h
   simp only [List.cons.injEq] at h
   rw [← h.1]; exact hx
theorem wh_ne (l : List Int) : wh l ≠ [] := by
 unfold wh
 by_cases h : ltrim l = []
 ·rw [if_pos h]; simp
 ·rw [if_neg h]; exact h
theorem wh_len (l : List Int) : (wh l).length ≤ l.length + 1 := by
 unfold wh
 have := ltrim_len l
 by_cases h : ltrim l = []
 ·rw [if_pos h]; simp
 ·rw [if_neg h]; omega
theorem ltrim_suffix (l : List Int) : ∀ d ∈ ltrim l, d ∈ l := fun d hd => (List.dropWhile_suffix _).mem hd
theorem allD_wh {l : List Int} (h : allD l = true) : allD (wh l) = true := by
 unfold wh
 by_cases h0 : ltrim l = []
 ·rw [if_pos h0]; rfl
 ·rw [if_neg h0, allD, List.all_eq_true]
  intro d hd
  exact List.all_eq_true.1 h d (ltrim_suffix l d hd)
theorem fine_wh {l : List Int} (h : allD l = true) (hl : l.length ≤ 39) : Fine false (wh l) [] := by
 refine Fine.mk' ?_ (wh_ne l) (allD_wh h) rfl ?_ (by intro h; cases h)
 ·have := wh_len l; simp; omega
 ·intro h1 h2
  unfold wh at h1 h2
  by_cases h0 : ltrim l = []
  ·rw [if_pos h0] at h1; simp at h1
  ·rw [if_neg h0] at h2
   cases e : ltrim l with
   | nil => exact h0 e
   | cons d m => rw [e] at h2; exact ltrim_head e h2
end Go.Proofs.YtihjcaglhjepdaaDoor.Q
set_option linter.unusedVariables false
set_option linter.unusedSimpArgs false
namespace Go.Proofs.YtihjcaglhjepdaaDoor.Q
open Go.RowKit Go.Proofs.YtihjcaglhjepdaaDoorW.PrintWords Go.Proofs.YtihjcaglhjepdaaDoor.P
theorem whole_is (s : ByteArray) (hs : Fit s) : ∃ t, Ev (fun k => operand_whole.f k s) t ∧ S t = wh (S s) := by
 obtain ⟨t, ht, et⟩ := TrimLeft_is s hs
 unfold wh
 by_cases h : ltrim (S s) = []
 ·rw [if_pos h]
  exact ⟨(⟨#[48]⟩ : ByteArray), Ev.bind ht (Ev.pos (by rw [toList_nil, et, h]) (Ev.val rfl)), rfl⟩
 ·rw [if_neg h]
  exact ⟨t, Ev.bind ht (Ev.neg (by rw [toList_nil, et]; exact h) (Ev.val rfl)), et⟩
structure OkO (n : Bool) (a b i : ByteArray) (v w : Int) (f t : ByteArray) (e : Int) : Prop where
  fine : Fine n (S a) (S b)
  pos : n = false
  trim : rtrim (S b) = S b
  v0 : (b.size : Int) ≤ v
  v1 : v ≤ 40 - a.size
  e0 : 0 ≤ e
  e1 : e ≤ 40
  i_ : i = a
  w_ : w = b.size
  f_ : S f = wh (S b ++ List.replicate (v.toNat - b.size) 48)
  t_ : S t = wh (S b)
theorem Suffix_is (b : ByteArray) (hb : Fit b) : ∃ x, strings_HasSuffix.f b (⟨#[48]⟩ : ByteArray) = some x ∧ (x = true ↔ ¬ rtrim (S b) = S b) := by
  have hs : ((⟨#[48]⟩ : ByteArray)).size = 1 := rfl
  have S1 : S (⟨#[48]⟩ : ByteArray) = [48] := rfl
  unfold Fit at hb
  unfold strings_HasSuffix.f stringslite_HasSuffix.f
  rw [hs]
  by_cases h : S b = []
  · have h0 : b.size = 0 := by rw [← S_len, h]; rfl
    rw [if_neg (by omega)]
    refine ⟨false, rfl, ?_⟩
    rw [h]; simp [rtrim]
  · have h0 : 0 < b.size := by rw [← S_len]; exact List.length_pos_iff.2 h
    have w1 : wrap64 ((b.size : Int) - ((1 : Nat) : Int)) = ((b.size - 1 : Nat) : Int) := by rw [wrap64_id (by omega) (by omega)]; omega
    rw [if_pos (by omega), w1, if_pos (by omega), if_pos (by omega)]
    refine ⟨_, rfl, ?_⟩
    obtain ⟨m, d, e⟩ := snoc_cases (S b) h
    have hm : m.length = b.size - 1 := by
      have := congrArg List.length e
      rw [S_len] at this; simp at this; omega
    rw [beq_S, S_drop, e, Int.toNat_natCast, ← hm, List.drop_left, S1, decide_eq_true_eq, rtrim_snoc]
    by_cases hd : d = 48
    · rw [hd, if_pos rfl]
      simp only [true_iff]
      intro e2
      have := rtrim_len m
      rw [e2] at this
      simp at this
      omega
    · rw [if_neg hd]; simp [hd]
theorem Check_prog (n : Bool) (a b i : ByteArray) (v w : Int) (f t : ByteArray) (e : Int) (ha : Fit a) (hb : Fit b) (hv : -9223372036854775808 ≤ v ∧ v ≤ 9223372036854775807) :
    (OkO n a b i v w f t e → Ev (fun k => operand_Check.f k n a b i v w f t e) 0) ∧ (¬ OkO n a b i v w f t e → Ev (fun k => operand_Check.f k n a b i v w f t e) 40) := by
  have no : ∀ x : Bool, x = true → ¬ OkO n a b i v w f t e → ((OkO n a b i v w f t e → Ev (fun k => operand_Check.j0 k x n a b i v w f t e n a b) 0) ∧ (¬ OkO n a b i v w f t e → Ev (fun k => operand_Check.j0 k x n a b i v w f t e n a b) 40)) :=
    fun x hx h => ⟨fun h' => absurd h' h, fun _ => Ev.up (Ev.pos hx (Ev.val rfl))⟩
  have lift : ∀ g : Nat → Option Int, (∀ r, Ev g r → Ev (fun k => operand_Check.f k n a b i v w f t e) r) → ((OkO n a b i v w f t e → Ev g 0) ∧ (¬ OkO n a b i v w f t e → Ev g 40)) →
      ((OkO n a b i v w f t e → Ev (fun k => operand_Check.f k n a b i v w f t e) 0) ∧ (¬ OkO n a b i v w f t e → Ev (fun k => operand_Check.f k n a b i v w f t e) 40)) :=
    fun g hg h => ⟨fun o => hg _ (h.1 o), fun o => hg _ (h.2 o)⟩
  by_cases h1 : chk n (S a) (S b) = 0
  case neg => exact lift _ (fun r hr => Ev.bind (Check_is n a b ha hb) (Ev.neg h1 hr)) (no true rfl (fun o => h1 o.fine.ok))
  have hF : Fine n (S a) (S b) := ⟨h1⟩
  have hl := hF.fit.2.2
  by_cases h2 : n = true
  case pos => exact lift _ (fun r hr => Ev.bind (Check_is n a b ha hb) (Ev.pos h1 (Ev.pos h2 hr))) (no true rfl (fun o => by have := o.pos; rw [h2] at this; cases this))
  obtain ⟨x, hx, ex⟩ := Suffix_is b hb
  have up2 : ∀ g : Nat → Option Int, ∀ r, Ev (fun k => if x = true then operand_Check.j0 k true n a b i v w f t e n a b else g k) r →
      Ev (fun k => (decimal_Check.f k n a b).bind fun t921 => (if t921 = 0 then (if n = true then (operand_Check.j0 k true n a b i v w f t e n a b) else ((strings_HasSuffix.f b (⟨#[48]⟩ : ByteArray)).bind fun t974 => if t974 = true then operand_Check.j0 k true n a b i v w f t e n a b else g k)) else operand_Check.j0 k true n a b i v w f t e n a b)) r :=
    fun g r hr => Ev.bind (Check_is n a b ha hb) (Ev.pos h1 (Ev.neg h2 (Ev.bindV hx hr)))
  have w1 : wrap64 (40 - (a.size : Int)) = 40 - (a.size : Int) := wrap64_id (by omega) (by omega)
  by_cases h3 : x = true
  case pos => exact lift _ (fun r hr => up2 _ r (Ev.pos h3 hr)) (no true rfl (fun o => (ex.1 h3) o.trim))
  have h3' : rtrim (S b) = S b := by
    by_cases hh : rtrim (S b) = S b
    · exact hh
    · exact absurd (ex.2 hh) h3
  by_cases h4 : v < (b.size : Int)
  case pos => exact lift _ (fun r hr => up2 _ r (Ev.neg h3 (Ev.pos h4 hr))) (no true rfl (fun o => by have := o.v0; omega))
  by_cases h5 : v > wrap64 (40 - (a.size : Int))
  case pos => exact lift _ (fun r hr => up2 _ r (Ev.neg h3 (Ev.neg h4 (Ev.pos h5 hr)))) (no true rfl (fun o => by have := o.v1; omega))
  by_cases h6 : e < 0
  case pos => exact lift _ (fun r hr => up2 _ r (Ev.neg h3 (Ev.neg h4 (Ev.neg h5 (Ev.pos h6 hr))))) (no true rfl (fun o => by have := o.e0; omega))
  refine lift _ (fun r hr => up2 _ r (Ev.neg h3 (Ev.neg h4 (Ev.neg h5 (Ev.neg h6 hr))))) ?_
  by_cases h7 : e > 40
  case pos => exact no _ (by simpa using h7) (fun o => by have := o.e1; omega)
  -- the second half
  have w2 : wrap64 (v - (b.size : Int)) = ((v.toNat - b.size : Nat) : Int) := by rw [wrap64_id (by omega) (by omega)]; omega
  obtain ⟨z, hz, ez⟩ := Repeat_is (v.toNat - b.size) (by omega)
  have sz : z.size = v.toNat - b.size := by rw [← S_len, ez, List.length_replicate]
  have eS : S (b ++ z) = S b ++ List.replicate (v.toNat - b.size) 48 := by rw [S_append, ez]
  have fz : Fit (b ++ z) := Fit.of_len (n := 100) (by rw [eS, List.length_append, List.length_replicate, S_len]; omega) (by omega)
  obtain ⟨p, hp, ep⟩ := whole_is (b ++ z) fz
  obtain ⟨q, hq, eq_⟩ := whole_is b hb
  rw [eS] at ep
  have up : ∀ r, Ev (fun k => if i.toList = a.toList then (if w = (b.size : Int) then ((operand_whole.f k (b ++ z)).bind fun t976 => (if f.toList = t976.toList then ((operand_whole.f k b).bind fun t977 => (if t.toList = t977.toList then (some 0) else (some 40))) else (some 40))) else (some 40)) else (some 40)) r →
      Ev (fun k => operand_Check.j0 k (decide (e > 40)) n a b i v w f t e n a b) r := by
    intro r hr
    refine Ev.up (Ev.neg (by simpa using h7) ?_)
    rw [w2]
    exact Ev.bindV hz (Ev.pos (by omega) hr)
  have lift' : ∀ g : Nat → Option Int, (∀ r, Ev g r → Ev (fun k => operand_Check.j0 k (decide (e > 40)) n a b i v w f t e n a b) r) → ((OkO n a b i v w f t e → Ev g 0) ∧ (¬ OkO n a b i v w f t e → Ev g 40)) →
      ((OkO n a b i v w f t e → Ev (fun k => operand_Check.j0 k (decide (e > 40)) n a b i v w f t e n a b) 0) ∧ (¬ OkO n a b i v w f t e → Ev (fun k => operand_Check.j0 k (decide (e > 40)) n a b i v w f t e n a b) 40)) :=
    fun g hg h => ⟨fun o => hg _ (h.1 o), fun o => hg _ (h.2 o)⟩
  have never : ∀ h : ¬ OkO n a b i v w f t e, (OkO n a b i v w f t e → Ev (fun _ : Nat => some (40 : Int)) 0) ∧ (¬ OkO n a b i v w f t e → Ev (fun _ : Nat => some (40 : Int)) 40) :=
    fun h => ⟨fun h' => absurd h' h, fun _ => Ev.val rfl⟩
  by_cases g1 : i.toList = a.toList
  case neg => exact lift' _ (fun r hr => up r (Ev.neg g1 hr)) (never (fun o => g1 (by rw [o.i_])))
  by_cases g2 : w = (b.size : Int)
  case neg => exact lift' _ (fun r hr => up r (Ev.pos g1 (Ev.neg g2 hr))) (never (fun o => g2 o.w_))
  by_cases g3 : f.toList = p.toList
  case neg => exact lift' _ (fun r hr => up r (Ev.pos g1 (Ev.pos g2 (Ev.bind hp (Ev.neg g3 hr))))) (never (fun o => g3 (by rw [toList_S, ep, o.f_])))
  by_cases g4 : t.toList = q.toList
  case neg => exact lift' _ (fun r hr => up r (Ev.pos g1 (Ev.pos g2 (Ev.bind hp (Ev.pos g3 (Ev.bind hq (Ev.neg g4 hr))))))) (never (fun o => g4 (by rw [toList_S, eq_, o.t_])))
  have yes : OkO n a b i v w f t e := ⟨hF, by simpa using h2, h3', by omega, by omega, by omega, by omega, S_inj ((toList_S _ _).1 g1), g2, by rw [(toList_S _ _).1 g3, ep], by rw [(toList_S _ _).1 g4, eq_]⟩
  exact ⟨fun _ => up _ (Ev.pos g1 (Ev.pos g2 (Ev.bind hp (Ev.pos g3 (Ev.bind hq (Ev.pos g4 (Ev.val rfl))))))), fun h => absurd yes h⟩
theorem oawake_is : Ev (fun k => idiomlaw04_awake.f k) true := Ev.of (fun k => idiomlaw04_awake.mono k) (k := 60) (by decide +kernel)
theorem wf_int {x : Int} (h : (Lit.int .i64 x).wf = true) : -9223372036854775808 ≤ x ∧ x ≤ 9223372036854775807 := by
 simp [Lit.wf, IntKind.min, IntKind.max, IntKind.signed, IntKind.bits] at h
 exact h
end Go.Proofs.YtihjcaglhjepdaaDoor.Q
set_option linter.unusedVariables false
set_option linter.unusedSimpArgs false
namespace Go.Proofs.YtihjcaglhjepdaaDoor.Q
open Go.RowKit Go.Proofs.YtihjcaglhjepdaaDoorW.PrintWords Go.Proofs.YtihjcaglhjepdaaDoor.P
def numB (l : List Int) : Bool := !l.isEmpty && decide (l.length ≤ 40) && !(decide (1 < l.length) && rd l 0 == 48) && allD l
theorem dropW_nil {α : Type} (p : α → Bool) (l : List α) : l.dropWhile p = [] ↔ l.all p = true := by
 induction l with
 | nil => simp
 | cons x l ih =>
  rw [List.dropWhile_cons, List.all_cons]
  by_cases h : p x = true
  ·rw [if_pos h, ih, h, Bool.true_and]
  ·rw [if_neg h]
   simp [h]
theorem all_dropW {α : Type} (p : α → Bool) (l : List α) : (l.dropWhile p).all p = l.all p := by
 induction l with
 | nil => rfl
 | cons x l ih =>
  rw [List.dropWhile_cons]
  by_cases h : p x = true
  ·rw [if_pos h, ih, List.all_cons, h, Bool.true_and]
  ·rw [if_neg h]
theorem trimS_nil (l cs : List UInt8) : Lib.trimS l cs = [] ↔ l.all (cs.contains ·) = true := by
 unfold Lib.trimS Lib.trimLeftS Lib.trimRightS
 rw [dropW_nil, List.all_reverse, all_dropW, List.all_reverse]
theorem digit_in (b : UInt8) : ([48, 49, 50, 51, 52, 53, 54, 55, 56, 57] : List UInt8).contains b = isD (b.toNat : Int) := by
 have key : ∀ n : Fin 256, ([48, 49, 50, 51, 52, 53, 54, 55, 56, 57] : List UInt8).contains (UInt8.ofNat n.val) = isD (n.val : Int) := by decide +kernel
 have := key ⟨b.toNat, b.toNat_lt⟩
 simpa using this
theorem digits_in (l : List UInt8) : l.all (([48, 49, 50, 51, 52, 53, 54, 55, 56, 57] : List UInt8).contains ·) = allD (l.map fun b => (b.toNat : Int)) := by
 induction l with
 | nil => rfl
 | cons b l ih =>
  rw [List.all_cons, ih, digit_in]; rfl
theorem TrimD_is (s : ByteArray) (hs : Fit s) : ∃ t, strings_Trim.f s (⟨#[48, 49, 50, 51, 52, 53, 54, 55, 56, 57]⟩ : ByteArray) = some t ∧ (t.toList == ([] : List UInt8)) = allD (S s) := by
 unfold Fit at hs
 unfold strings_Trim.f
 rw [if_pos ⟨by omega, by decide, by decide⟩]
 refine ⟨_, rfl, ?_⟩
 rw [beq_lit]
 show decide ((Lib.trimS s.data.toList [48, 49, 50, 51, 52, 53, 54, 55, 56, 57]).map (fun b => (b.toNat : Int)) = []) = allD (S s)
 rw [Bool.eq_iff_iff, decide_eq_true_eq, List.map_eq_nil_iff, trimS_nil, digits_in]; rfl
theorem number_is (s : ByteArray) (hs : Fit s) : operand_number.f s = some (numB (S s)) := by
  have hl := S_len s
  obtain ⟨t, ht, et⟩ := TrimD_is s hs
  unfold operand_number.f
  by_cases h0 : s.toList = ([] : List UInt8)
  · rw [if_pos h0]
    have := (toList_nil s).1 h0
    simp [numB, this]
  rw [if_neg h0]
  rw [toList_nil] at h0
  have he : (S s).isEmpty = false := isEmpty_false h0
  by_cases h1 : (s.size : Int) > 40
  · rw [if_pos h1]
    have : ¬ (S s).length ≤ 40 := by omega
    simp [numB, this]
  rw [if_neg h1]
  have h1' : (S s).length ≤ 40 := by omega
  by_cases h2 : (s.size : Int) > 1
  · rw [if_pos h2, if_pos (by omega)]
    have h2' : 1 < (S s).length := by omega
    by_cases h3 : bt s 0 = 48
    · rw [if_pos h3]
      rw [bt_S] at h3
      simp [numB, h3, h2']
    · rw [if_neg h3, ht]
      show some (t.toList == ([] : List UInt8)) = _
      rw [bt_S] at h3
      rw [et]; simp [numB, he, h1', h3]
  · rw [if_neg h2, ht]
    show some (t.toList == ([] : List UInt8)) = _
    have h2' : ¬ 1 < (S s).length := by omega
    rw [et]; simp [numB, he, h1', h2']
theorem num_fine {l : List Int} (h : numB l = true) : Fine false l [] := by
 simp only [numB, Bool.and_eq_true, Bool.not_eq_true', decide_eq_true_eq, Bool.and_eq_false_iff, decide_eq_false_iff_not] at h
 obtain ⟨⟨⟨h1, h2⟩, h3⟩, h4⟩ := h
 refine Fine.mk' (by simpa using h2) (by intro e; rw [e] at h1; cases h1) h4 rfl ?_ (by intro h; cases h)
 intro hl e
 rcases h3 with h3 | h3
 ·exact h3 hl
 ·rw [e] at h3; cases h3
end Go.Proofs.YtihjcaglhjepdaaDoor.Q
set_option linter.unusedVariables false
set_option linter.unusedSimpArgs false
namespace Go.Proofs.YtihjcaglhjepdaaDoor.Q
open Go.RowKit Go.Proofs.YtihjcaglhjepdaaDoorW.PrintWords Go.Proofs.YtihjcaglhjepdaaDoor.P
theorem u8_48' (d : Nat) (h : d < 10) : (((UInt8.ofNat (48 + d)).toNat : Nat) : Int) = (d : Int) + 48 := by
 have : (UInt8.ofNat (48 + d)).toNat = 48 + d := by rw [UInt8.toNat_ofNat']; omega
 rw [this]; omega
theorem dec_tx' (u : Nat) : (Lib.decDigits u).map (fun b => (b.toNat : Int)) = tx u := by
  induction u using Nat.strongRecOn with
  | _ u ih =>
    rw [Lib.decDigits]
    by_cases h : u < 10
    · rw [dif_pos h]
      show [(((UInt8.ofNat (48 + u)).toNat : Nat) : Int)] = tx u
      rw [u8_48' u h, tx, txd]
      split
      · rename_i e; subst e; rfl
      · rename_i e
        rw [dg_pos e, show u / 10 = 0 by omega, dg_zero, show u % 10 = u by omega]; rfl
    · rw [dif_neg h, List.map_append, ih (u / 10) (by omega)]
      have e : txd u = txd (u / 10) ++ [((u % 10 : Nat) : Int)] := by
        unfold txd; rw [if_neg (by omega), if_neg (by omega), dg_pos (by omega)]
      rw [tx, tx, e, up48_append]
      congr 1
      show [(((UInt8.ofNat (48 + u % 10)).toNat : Nat) : Int)] = _
      rw [u8_48' _ (by omega)]; rfl
theorem fine_tx {u : Nat} (h : u < 10 ^ 39) : Fine false (tx u) [] := by
 have hl := length_dg_le h
 have e0 : (mk false u 0).err = 0 := by
  unfold mk; rw [if_neg]
  rw [padL_len_max]; omega
 obtain ⟨g1, g2, g3, g4⟩ := mk_good e0
 have g4' : (mk false u 0).neg = false := by rw [g4]; rfl
 have hb : (mk false u 0).b = [] := List.eq_nil_of_length_eq_zero g3
 rw [g4', hb] at g1
 rw [hb, num, List.append_nil] at g2
 have ha := canon g1.ne g1.da g1.head
 rw [g2] at ha
 rw [ha] at g1
 exact g1
theorem itoa_is (x : Int) (h0 : 0 ≤ x) (h1 : x ≤ 40) : ∃ t, strconv_Itoa.f x = some t ∧ Fine false (S t) [] := by
 unfold strconv_Itoa.f
 rw [if_pos ⟨by omega, by omega⟩]
 refine ⟨_, rfl, ?_⟩
 show Fine false ((Lib.itoa x).map fun b => (b.toNat : Int)) []
 rw [Lib.itoa, if_neg (by omega), dec_tx']
 exact fine_tx (Nat.lt_of_le_of_lt (show x.toNat ≤ 40 by omega) (by decide +kernel))
abbrev Dec4 := Bool × ByteArray × ByteArray × Int
def Well (r : Dec4) : Prop := (r.2.2.2 = 0 → Fine r.1 (S r.2.1) (S r.2.2.1)) ∧ (¬ r.2.2.2 = 0 → r = (false, (⟨#[]⟩ : ByteArray), (⟨#[]⟩ : ByteArray), r.2.2.2))
theorem Well.bad (e : Int) (h : ¬ e = 0) : Well (false, (⟨#[]⟩ : ByteArray), (⟨#[]⟩ : ByteArray), e) := ⟨fun h' => absurd h' h, fun _ => rfl⟩
theorem Well.good {n : Bool} {a b : ByteArray} (h : Fine n (S a) (S b)) : Well (n, a, b, 0) := ⟨fun _ => h, fun h' => absurd rfl h'⟩
theorem Snil : S (⟨#[]⟩ : ByteArray) = [] := rfl
theorem Well.int {a : ByteArray} (h : Fine false (S a) []) : Well (false, a, (⟨#[]⟩ : ByteArray), 0) := Well.good (by rw [Snil]; exact h)
theorem Fine.whole {n : Bool} {a b : List Int} (h : Fine n a b) : Fine false a [] := Fine.mk' (by have := h.len; simp; omega) h.ne h.da rfl h.head (by intro h; cases h)
end Go.Proofs.YtihjcaglhjepdaaDoor.Q
set_option linter.unusedVariables false
set_option linter.unusedSimpArgs false
namespace Go.Proofs.YtihjcaglhjepdaaDoor.Q
open Go.RowKit Go.Proofs.YtihjcaglhjepdaaDoorW.PrintWords Go.Proofs.YtihjcaglhjepdaaDoor.P
def okS (s : S60) : Bool := numB (S s.f0) && (numB (S s.f1) && decide (val (dn48 (S s.f0)) ≤ val (dn48 (S s.f1))))
def FitS (s : S60) : Prop := Fit s.f0 ∧ Fit s.f1
theorem numB_dig {l : List Int} (h : numB l = true) : Dig (dn48 l) := allD_dig (num_fine h).da
theorem numB_low {l : List Int} (h : numB l = true) (hl : 1 < l.length) : 10 ^ (l.length - 1) ≤ val (dn48 l) := by
  cases l with
  | nil => simp at hl
  | cons d tl =>
    have hd := (num_fine h).head hl
    have hD := numB_dig h
    have h0 : 0 ≤ d - 48 := hD.head.1
    have e : dn48 (d :: tl) = (d - 48) :: dn48 tl := rfl
    have hn : d - 48 ≠ 0 := by
      intro e
      apply hd
      show d = 48
      omega
    rw [e, val_cons, dn48_len, List.length_cons, Nat.add_sub_cancel]
    have : 1 ≤ (d - 48).toNat := by omega
    calc 10 ^ tl.length = 1 * 10 ^ tl.length := by rw [Nat.one_mul]
      _ ≤ (d - 48).toNat * 10 ^ tl.length := Nat.mul_le_mul_right _ this
      _ ≤ _ := Nat.le_add_right _ _
theorem num_short {l m : List Int} (hl : numB l = true) (hm : numB m = true) (h : l.length < m.length) : val (dn48 l) < val (dn48 m) := by
 have h1 := val_lt (numB_dig hl)
 rw [dn48_len] at h1
 have pos : 0 < l.length := List.length_pos_iff.2 (num_fine hl).ne
 have h2 := numB_low hm (by omega)
 exact Nat.lt_of_lt_of_le h1 (Nat.le_trans (Nat.pow_le_pow_right (by omega) (by omega)) h2)
theorem less_num {a b : ByteArray} (ha : numB (S a) = true) (hb : numB (S b) = true) (h : a.size = b.size) : Op.bytesLess a.toList b.toList = decide (val (dn48 (S a)) < val (dn48 (S b))) := by
 have e1 := lessL_up (dn48 (S a)) (dn48 (S b))
 rw [up_dn, up_dn] at e1
 rw [less_S, e1, lessL_val (numB_dig ha) (numB_dig hb) (by rw [dn48_len, dn48_len, S_len, S_len, h])]
theorem int_fine {a : ByteArray} (h : numB (S a) = true) : Fine false (S a) (S (⟨#[]⟩ : ByteArray)) := by rw [Snil]; exact num_fine h
theorem rdS (pre : List S60) (s : S60) (rest : List S60) : rd_T60 (pre ++ s :: rest) (pre.length : Int) = s := by
 rw [rd_T60, Int.toNat_natCast, List.getD_eq_getElem?_getD]; simp
section
variable (l : List S60) (o m : ByteArray) (nt wi : Bool) (x y z : Bool × ByteArray × ByteArray) (hl : ∀ s ∈ l, FitS s) (hn : l.length ≤ 64)
include hl hn
theorem prog_l0 {n : Bool} {a b : ByteArray} {R : Bool × Int} (h1 : (l.all okS = true) → Ev (fun k => operand_In.l1 k false l (l.length : Int) 0 o m nt wi l n a b) R) : ∀ (rest pre : List S60), l = pre ++ rest → pre.all okS = true →
    Ev (fun k => operand_In.l0 k l (l.length : Int) (pre.length : Int) o m nt wi l n a b) (if l.all okS = true then R else (false, 40)) := by
  intro rest
  induction rest with
  | nil =>
    intro pre h hp
    have hall : l.all okS = true := by rw [h, List.append_nil]; exact hp
    have hlen : pre.length = l.length := by rw [h, List.append_nil]
    rw [if_pos hall]
    exact Ev.up (Ev.neg (by omega) (h1 hall))
  | cons s rest ih =>
    intro pre h hp
    have hlen : l.length = pre.length + (rest.length + 1) := by rw [h]; simp
    have hs : FitS s := hl s (by rw [h]; simp)
    have hr : rd_T60 l (pre.length : Int) = s := by rw [h]; exact rdS pre s rest
    have hbad : okS s = false → ¬ l.all okS = true := by
      intro e h2
      rw [h, List.all_append, List.all_cons, e] at h2
      simp at h2
    have no : okS s = false → Ev (fun _ : Nat => some ((false, 40) : Bool × Int)) (if l.all okS = true then R else (false, 40)) := fun e => Ev.val (by rw [if_neg (hbad e)])
    have hw : wrap64 ((pre.length : Int) + 1) = ((pre ++ [s]).length : Int) := by rw [wrap64_id (by omega) (by omega)]; simp
    have yes : okS s = true → Ev (fun k => operand_In.l0 k l (l.length : Int) (wrap64 ((pre.length : Int) + 1)) o m nt wi l n a b) (if l.all okS = true then R else (false, 40)) := by
      intro e
      rw [hw]
      exact ih (pre ++ [s]) (by rw [h]; simp) (by rw [List.all_append, hp, List.all_cons, e]; rfl)
    refine Ev.up (Ev.pos (by omega) (Ev.pos (by omega) (Ev.pos (by omega) ?_)))
    rw [hr]
    have s0 := S_len s.f0
    have s1 := S_len s.f1
    refine Ev.bindV (number_is s.f0 hs.1) (Ev.split (fun g1 => ?_) (fun g1 => no ?_))
    · refine Ev.bindV (number_is s.f1 hs.2) (Ev.split (fun g2 => ?_) (fun g2 => no ?_))
      · refine Ev.split (fun g3 => no ?_) (fun g3 => Ev.split (fun g4 => Ev.split (fun g5 => no ?_) (fun g5 => yes ?_)) (fun g4 => yes ?_))
        · have := num_short g2 g1 (by omega)
          have h2 : ¬ val (dn48 (S s.f0)) ≤ val (dn48 (S s.f1)) := by omega
          simp [okS, h2]
        · rw [less_num g2 g1 (by omega), decide_eq_true_eq] at g5
          have h2 : ¬ val (dn48 (S s.f0)) ≤ val (dn48 (S s.f1)) := by omega
          simp [okS, h2]
        · rw [less_num g2 g1 (by omega), decide_eq_true_eq] at g5
          have h2 : val (dn48 (S s.f0)) ≤ val (dn48 (S s.f1)) := by omega
          simp [okS, h2, g1, g2]
        · have := num_short g1 g2 (by omega)
          have h2 : val (dn48 (S s.f0)) ≤ val (dn48 (S s.f1)) := by omega
          simp [okS, h2, g1, g2]
      · simp only [Bool.not_eq_true] at g2; simp [okS, g2]
    · simp only [Bool.not_eq_true] at g1; simp [okS, g1]
def inS (n : Bool) (a b : ByteArray) (s : S60) : Bool :=
  decide (sgI (al (zn false (S s.f0) (S (⟨#[]⟩ : ByteArray))) (⟨#[]⟩ : ByteArray).size b.size - al (zn n (S a) (S b)) b.size (⟨#[]⟩ : ByteArray).size) ≤ 0) &&
  decide (sgI (al (zn n (S a) (S b)) b.size (⟨#[]⟩ : ByteArray).size - al (zn false (S s.f1) (S (⟨#[]⟩ : ByteArray))) (⟨#[]⟩ : ByteArray).size b.size) ≤ 0)
omit hl in
theorem prog_l1 {n : Bool} {a b : ByteArray} (hF : Fine n (S a) (S b)) (hok : l.all okS = true) : ∀ (rest pre : List S60), l = pre ++ rest → ∀ acc : Bool,
    Ev (fun k => operand_In.l1 k acc l (l.length : Int) (pre.length : Int) o m nt wi l n a b) (((acc || rest.any (inS n a b)) && (wi || all0 (S b))) != nt, 0) := by
  intro rest
  induction rest with
  | nil =>
    intro pre h acc
    have hlen : pre.length = l.length := by rw [h, List.append_nil]
    refine Ev.up (Ev.neg (by omega) (Ev.split (fun h1 => Ev.val ?_) (fun h1 => ?_)))
    · rw [h1]; simp
    · simp only [Bool.not_eq_true] at h1
      obtain ⟨u, hu, eu⟩ := Trim_is b hF.fit.2.1
      refine Ev.bindV hu (Ev.split (fun h2 => Ev.val ?_) (fun h2 => Ev.val ?_))
      · rw [toList_nil, eu, trim_nil] at h2
        rw [h1, h2]; simp
      · rw [toList_nil, eu, trim_nil, Bool.not_eq_true] at h2
        rw [h1, h2]; simp
  | cons s rest ih =>
    intro pre h acc
    have hlen : l.length = pre.length + (rest.length + 1) := by rw [h]; simp
    have hr : rd_T60 l (pre.length : Int) = s := by rw [h]; exact rdS pre s rest
    have hw : wrap64 ((pre.length : Int) + 1) = ((pre ++ [s]).length : Int) := by rw [wrap64_id (by omega) (by omega)]; simp
    have hs : okS s = true := by
      have := hok
      rw [h, List.all_append, List.all_cons] at this
      simp only [Bool.and_eq_true] at this
      exact this.2.1
    simp only [okS, Bool.and_eq_true] at hs
    have go : ∀ acc' : Bool, acc' = (acc || inS n a b s) → Ev (fun k => operand_In.l1 k acc' l (l.length : Int) (wrap64 ((pre.length : Int) + 1)) o m nt wi l n a b) (((acc || (s :: rest).any (inS n a b)) && (wi || all0 (S b))) != nt, 0) := by
      intro acc' e
      subst e
      rw [hw]
      have := ih (pre ++ [s]) (by rw [h]; simp) (acc || inS n a b s)
      rw [Bool.or_assoc] at this
      exact this
    refine Ev.up (Ev.pos (by omega) (Ev.pos (by omega) (Ev.pos (by omega) ?_)))
    rw [hr]
    refine Ev.bind (cmp_f (int_fine hs.1) hF) (Ev.bind (cmp_f hF (int_fine hs.2.1)) (Ev.split (fun g1 => go true ?_) (fun g1 => Ev.split (fun g2 => go _ ?_) (fun g2 => go false ?_))))
    · rw [g1]; rfl
    · simp only [Bool.not_eq_true] at g1
      rw [g1, Bool.false_or, inS, decide_eq_true g2, Bool.true_and]
    · simp only [Bool.not_eq_true] at g1
      rw [g1, Bool.false_or, inS, decide_eq_false g2, Bool.false_and]
omit hl in
end
theorem copied_is (s m : ByteArray) (nt wi : Bool) (l : List S60) (h : l.length < 4398046511104) : idiomlaw04_copied.f s m nt wi l = some (s, m, nt, wi, l) := by
 unfold idiomlaw04_copied.f
 show (if ([] : List S60).length + l.length < 4398046511104 then some (s, m, nt, wi, ([] : List S60) ++ l) else none) = _
 rw [if_pos (by simpa using h)]; rfl
end Go.Proofs.YtihjcaglhjepdaaDoor.Q
set_option linter.unusedVariables false
set_option linter.unusedSimpArgs false
namespace Go.Proofs.YtihjcaglhjepdaaDoor.Q
open Go.RowKit Go.Proofs.YtihjcaglhjepdaaDoorW.PrintWords Go.Proofs.YtihjcaglhjepdaaDoor.P
theorem Get_prog (n : Bool) (a b i : ByteArray) (v w : Int) (f t : ByteArray) (e : Int) (s : ByteArray) (ha : Fit a) (hb : Fit b) (hv : -9223372036854775808 ≤ v ∧ v ≤ 9223372036854775807) :
    ∃ r, Ev (fun k => operand_Get.f k n a b i v w f t e s) r ∧ Well r := by
  by_cases o : OkO n a b i v w f t e
  case neg => exact ⟨_, Ev.bind ((Check_prog n a b i v w f t e ha hb hv).2 o) (Ev.neg (by decide) (Ev.val rfl)), Well.bad 40 (by decide)⟩
  have hp := (Check_prog n a b i v w f t e ha hb hv).1 o
  have hl := o.fine.fit.2.2
  have v0 := o.v0
  have v1 := o.v1
  have pos : 0 < a.size := by rw [← S_len]; exact List.length_pos_iff.2 o.fine.ne
  have get : ∀ r : Dec4, r.2.2.2 = 0 → operand_get.f n a b i v w f t e s = some (r.1, r.2.1, r.2.2.1, true) → Ev (fun k => operand_Get.f k n a b i v w f t e s) r := by
    intro r h0 h
    obtain ⟨r1, r2, r3, r4⟩ := r
    simp only at h0 h
    subst h0
    exact Ev.bind hp (Ev.pos rfl (Ev.bindV h (Ev.pos rfl (Ev.val rfl))))
  have fF : Fine false (S f) [] := by
    rw [o.f_]
    exact fine_wh (allD_append o.fine.db (allD_zeros _)) (by rw [List.length_append, List.length_replicate, S_len]; omega)
  have fT : Fine false (S t) [] := by
    rw [o.t_]
    exact fine_wh o.fine.db (by rw [S_len]; omega)
  by_cases g1 : s.toList = ([110] : List UInt8)
  case pos => exact ⟨(n, a, b, 0), get _ rfl (by unfold operand_get.f; rw [if_pos g1]), Well.good o.fine⟩
  by_cases g2 : s.toList = ([105] : List UInt8)
  case pos => exact ⟨(false, i, (⟨#[]⟩ : ByteArray), 0), get _ rfl (by unfold operand_get.f; rw [if_neg g1, if_pos g2]), Well.int (by rw [o.i_]; exact o.fine.whole)⟩
  by_cases g3 : s.toList = ([102] : List UInt8)
  case pos => exact ⟨(false, f, (⟨#[]⟩ : ByteArray), 0), get _ rfl (by unfold operand_get.f; rw [if_neg g1, if_neg g2, if_pos g3]), Well.int fF⟩
  by_cases g4 : s.toList = ([116] : List UInt8)
  case pos => exact ⟨(false, t, (⟨#[]⟩ : ByteArray), 0), get _ rfl (by unfold operand_get.f; rw [if_neg g1, if_neg g2, if_neg g3, if_pos g4]), Well.int fT⟩
  by_cases g5 : s.toList = ([118] : List UInt8)
  case pos =>
    obtain ⟨z, hz, hZ⟩ := itoa_is v (by omega) (by omega)
    exact ⟨(false, z, (⟨#[]⟩ : ByteArray), 0), get _ rfl (by unfold operand_get.f; rw [if_neg g1, if_neg g2, if_neg g3, if_neg g4, if_pos g5, hz]; rfl), Well.int hZ⟩
  by_cases g6 : s.toList = ([119] : List UInt8)
  case pos =>
    obtain ⟨z, hz, hZ⟩ := itoa_is w (by rw [o.w_]; omega) (by rw [o.w_]; omega)
    exact ⟨(false, z, (⟨#[]⟩ : ByteArray), 0), get _ rfl (by unfold operand_get.f; rw [if_neg g1, if_neg g2, if_neg g3, if_neg g4, if_neg g5, if_pos g6, hz]; rfl), Well.int hZ⟩
  obtain ⟨z, hz, hZ⟩ := itoa_is e o.e0 o.e1
  by_cases g7 : s.toList = ([99] : List UInt8)
  case pos => exact ⟨(false, z, (⟨#[]⟩ : ByteArray), 0), get _ rfl (by unfold operand_get.f; rw [if_neg g1, if_neg g2, if_neg g3, if_neg g4, if_neg g5, if_neg g6, if_pos g7, hz]; rfl), Well.int hZ⟩
  by_cases g8 : s.toList = ([101] : List UInt8)
  case pos => exact ⟨(false, z, (⟨#[]⟩ : ByteArray), 0), get _ rfl (by unfold operand_get.f; rw [if_neg g1, if_neg g2, if_neg g3, if_neg g4, if_neg g5, if_neg g6, if_neg g7, if_pos g8, hz]; rfl), Well.int hZ⟩
  refine ⟨_, Ev.bind hp (Ev.pos rfl (Ev.bindV (a := (false, (⟨#[]⟩ : ByteArray), (⟨#[]⟩ : ByteArray), false)) ?_ (Ev.neg (by decide) (Ev.val rfl)))), Well.bad 40 (by decide)⟩
  unfold operand_get.f
  rw [if_neg g1, if_neg g2, if_neg g3, if_neg g4, if_neg g5, if_neg g6, if_neg g7, if_neg g8]
theorem Rem_prog {n : Bool} {a b : ByteArray} {m : Bool} {c d : ByteArray} (h : Fine n (S a) (S b)) (h' : Fine m (S c) (S d)) : ∃ r, Ev (fun k => decimal_Rem.f k n a b m c d) r ∧ Well r := by
 obtain ⟨r, hr, hT⟩ := Rem_is n a b m c d h.fit.1 h.fit.2.1 h'.fit.1 h'.fit.2.1 _ _ rfl rfl
 refine ⟨r, hr, ?_⟩
 by_cases he : errD n (S a) (S b) m (S c) (S d) = 0
 ·rw [if_pos he] at hT
  refine ⟨fun e => ?_, fun e => ?_⟩
  ·obtain ⟨t1, t2, t3, t4⟩ := hT
   rw [e] at t4
   obtain ⟨g1, g2, g3, g4⟩ := mk_good t4.symm
   rw [t1, t2, t3]; exact g1
  ·have t4 := hT.2.2.2
   rw [t4] at e
   rw [mk_bad e] at hT
   rw [t4, mk_bad e]
   exact hT.eq (Tells.bad 3)
 ·rw [if_neg he] at hT
  have t4 := hT.2.2.2
  have e : ¬ r.2.2.2 = 0 := by rw [t4]; exact he
  refine ⟨fun h => absurd h e, fun _ => ?_⟩
  rw [t4]
  exact hT.eq (Tells.bad _)
theorem Mod_prog (n : Bool) (a b i : ByteArray) (v w : Int) (f t : ByteArray) (e : Int) (s m : ByteArray) (ha : Fit a) (hb : Fit b) (hv : -9223372036854775808 ≤ v ∧ v ≤ 9223372036854775807) (hm : Fit m) :
    ∃ r, Ev (fun k => operand_Mod.f k n a b i v w f t e s m) r ∧ Well r := by
 obtain ⟨⟨x, y, z, q⟩, hg, hW⟩ := Get_prog n a b i v w f t e s ha hb hv
 by_cases hq : q = 0
 case neg =>
  have e1 := hW.2 hq
  simp only [Prod.mk.injEq, and_true] at e1
  obtain ⟨rfl, rfl, rfl⟩ := e1
  exact ⟨_, Ev.bind hg (Ev.neg hq (Ev.val rfl)), hW⟩
 subst hq
 have hF : Fine x (S y) (S z) := hW.1 rfl
 by_cases h0 : m.toList = ([] : List UInt8)
 case pos => exact ⟨_, Ev.bind hg (Ev.pos rfl (Ev.pos h0 (Ev.val rfl))), hW⟩
 have hN := number_is m hm
 by_cases h1 : numB (S m) = true
 case neg => exact ⟨_, Ev.bind hg (Ev.pos rfl (Ev.neg h0 (Ev.bindV hN (Ev.neg h1 (Ev.val rfl))))), Well.bad 40 (by decide)⟩
 by_cases h2 : m.toList = ([48] : List UInt8)
 case pos => exact ⟨_, Ev.bind hg (Ev.pos rfl (Ev.neg h0 (Ev.bindV hN (Ev.pos h1 (Ev.pos h2 (Ev.val rfl)))))), Well.bad 40 (by decide)⟩
 obtain ⟨r, hr, hR⟩ := Rem_prog hF (show Fine false (S m) (S (⟨#[]⟩ : ByteArray)) by rw [Snil]; exact num_fine h1)
 exact ⟨r, Ev.bind hg (Ev.pos rfl (Ev.neg h0 (Ev.bindV hN (Ev.pos h1 (Ev.neg h2 (Ev.bind hr (Ev.val rfl))))))), hR⟩
section
variable {n : Bool} {a b i : ByteArray} {v w : Int} {f t : ByteArray} {e : Int} {s m : ByteArray} {x : Bool} {y z : ByteArray} {q : Int} (hg : Ev (fun k => operand_Mod.f k n a b i v w f t e s m) (x, y, z, q))
include hg
theorem In_err (hq : ¬ q = 0) (nt wi : Bool) (l : List S60) : Ev (fun k => operand_In.f k n a b i v w f t e s m nt wi l) (false, q) := Ev.bind hg (Ev.neg hq (Ev.val rfl))
theorem In_bad (hq : q = 0) (hF : Fine x (S y) (S z)) (nt wi : Bool) (l : List S60) (hl : ∀ s ∈ l, FitS s) (h : ¬ (1 ≤ l.length ∧ l.length ≤ 64 ∧ l.all okS = true)) : Ev (fun k => operand_In.f k n a b i v w f t e s m nt wi l) (false, 40) := by
 have no1 : ∀ u : Bool, u = true → Ev (fun k => operand_In.j0 k u s m nt wi l x y z) (false, 40) := fun u hu => Ev.up (Ev.pos hu (Ev.val rfl))
 by_cases h1 : (l.length : Int) < 1
 case pos => exact Ev.bind hg (Ev.pos hq (Ev.pos h1 (no1 _ rfl)))
 by_cases h2 : (l.length : Int) > 64
 case pos => exact Ev.bind hg (Ev.pos hq (Ev.neg h1 (no1 _ (decide_eq_true h2))))
 have hn : l.length ≤ 64 := by omega
 have h3 : ¬ l.all okS = true := fun h3 => h ⟨by omega, hn, h3⟩
 have P := prog_l0 l s m nt wi hl hn (n := x) (a := y) (b := z) (fun hok => prog_l1 l s m nt wi hn hF hok l [] rfl false) l [] rfl rfl
 rw [if_neg h3] at P
 have j1 : ∀ c : Bool, c = false → Ev (fun k => operand_In.j0 k c s m nt wi l x y z) (false, 40) := fun c hc => Ev.up (Ev.neg (by rw [hc]; exact Bool.false_ne_true) P)
 exact Ev.bind hg (Ev.pos hq (Ev.neg h1 (j1 _ (decide_eq_false h2))))
theorem In_good (hq : q = 0) (hF : Fine x (S y) (S z)) (nt wi : Bool) (l : List S60) (hl : ∀ s ∈ l, FitS s) (h0 : 1 ≤ l.length) (hn : l.length ≤ 64) (hok : l.all okS = true) :
    Ev (fun k => operand_In.f k n a b i v w f t e s m nt wi l) (((l.any (inS x y z) && (wi || all0 (S z))) != nt), 0) := by
 have P := prog_l0 l s m nt wi hl hn (n := x) (a := y) (b := z) (fun hok => prog_l1 l s m nt wi hn hF hok l [] rfl false) l [] rfl rfl
 rw [if_pos hok, Bool.false_or] at P
 have j1 : ∀ c : Bool, c = false → Ev (fun k => operand_In.j0 k c s m nt wi l x y z) (((l.any (inS x y z) && (wi || all0 (S z))) != nt), 0) := fun c hc => Ev.up (Ev.neg (by rw [hc]; exact Bool.false_ne_true) P)
 exact Ev.bind hg (Ev.pos hq (Ev.neg (by omega) (j1 _ (decide_eq_false (by omega)))))
end
theorem set_turn (pre : List S60) (s : S60) (rest : List S60) : ((pre ++ s :: rest).take ((pre ++ s :: rest).length - pre.length) ++ pre.reverse).set ((pre ++ s :: rest).length - 1 - pre.length) s = (pre ++ s :: rest).take ((pre ++ s :: rest).length - (pre ++ [s]).length) ++ (pre ++ [s]).reverse := by
 generalize hL : pre ++ s :: rest = L
 have hl : L.length = pre.length + (rest.length + 1) := by rw [← hL]; simp
 have e1 : L.length - pre.length = rest.length + 1 := by omega
 have e2 : L.length - 1 - pre.length = rest.length := by omega
 have e3 : L.length - (pre ++ [s]).length = rest.length := by simp; omega
 rw [e1, e2, e3, List.reverse_append, List.take_add_one]
 have h1 : (L.take rest.length).length = rest.length := by rw [List.length_take]; omega
 have h2 : ∃ u, L[rest.length]? = some u := ⟨_, List.getElem?_eq_getElem (by omega)⟩
 obtain ⟨u, hu⟩ := h2
 rw [hu]
 show (L.take rest.length ++ [u] ++ pre.reverse).set rest.length s = _
 rw [List.append_assoc, List.set_append_right _ _ (by omega), h1, Nat.sub_self]
 rfl
theorem any_turn {α : Type} (p : α → Bool) (l : List α) : l.reverse.any p = l.any p := by rw [List.any_reverse]
section
variable {n : Bool} {a b i : ByteArray} {v w : Int} {f t : ByteArray} {e : Int} {o m : ByteArray} {x : Bool} {y z : ByteArray} (hg : Ev (fun k => operand_Mod.f k n a b i v w f t e o m) (x, y, z, 0)) (hF : Fine x (S y) (S z))
  (nt wi : Bool) (l : List S60) (hl : ∀ s ∈ l, FitS s) (h0 : 1 ≤ l.length) (hn : l.length ≤ 64) (hok : l.all okS = true)
include hg hF hl h0 hn hok
theorem lists_l0 : ∀ (rest pre : List S60), l = pre ++ rest → ∀ acc : Bool, acc = (pre.any (inS x y z) && all0 (S z)) →
    Ev (fun k => idiomlaw04_OperandLists.l0 k (l.any (inS x y z) && all0 (S z)) acc (pre.length : Int) n a b i v w f t e o m nt wi l o m false false l o m false false (l.take (l.length - pre.length) ++ pre.reverse)) true := by
  intro rest
  induction rest with
  | nil =>
    intro pre h acc hacc
    have hlen : pre.length = l.length := by rw [h, List.append_nil]
    have hp : pre = l := by rw [h, List.append_nil]
    subst hp
    have e1 : pre.take (pre.length - pre.length) ++ pre.reverse = pre.reverse := by rw [Nat.sub_self]; rfl
    rw [e1]
    have G := In_good hg rfl hF false false pre.reverse (fun s hs => hl s (List.mem_reverse.1 hs)) (by rw [List.length_reverse]; exact h0) (by rw [List.length_reverse]; exact hn) (by rw [List.all_reverse]; exact hok)
    rw [any_turn] at G
    refine Ev.up (Ev.neg (by omega) (Ev.bind G (Ev.pos (by rw [hacc]; simp) (Ev.pos rfl (Ev.val (by simp))))))
  | cons s rest ih =>
    intro pre h acc hacc
    have hlen : l.length = pre.length + (rest.length + 1) := by rw [h]; simp
    have hr : rd_T60 l (pre.length : Int) = s := by rw [h]; exact rdS pre s rest
    have hs : FitS s := hl s (by rw [h]; simp)
    have hk : okS s = true := by
      have := hok
      rw [h, List.all_append, List.all_cons] at this
      simp only [Bool.and_eq_true] at this
      exact this.2.1
    have hw : wrap64 ((pre.length : Int) + 1) = ((pre ++ [s]).length : Int) := by rw [wrap64_id (by omega) (by omega)]; simp
    have w1 : wrap64 ((l.length : Int) - 1) = (l.length : Int) - 1 := wrap64_id (by omega) (by omega)
    have w2 : wrap64 (wrap64 ((l.length : Int) - 1) - (pre.length : Int)) = ((l.length - 1 - pre.length : Nat) : Int) := by rw [w1, wrap64_id (by omega) (by omega)]; omega
    have tl : (l.take (l.length - pre.length) ++ pre.reverse).length = l.length := by rw [List.length_append, List.length_take, List.length_reverse]; omega
    have st : (l.take (l.length - pre.length) ++ pre.reverse).set (l.length - 1 - pre.length) s = l.take (l.length - (pre ++ [s]).length) ++ (pre ++ [s]).reverse := by
      have := set_turn pre s rest
      rw [← h] at this
      exact this
    have G := In_good hg rfl hF false false [s] (fun u hu => by rw [List.mem_singleton.1 hu]; exact hs) (by simp) (by simp) (by rw [List.all_cons, hk]; rfl)
    have es : (⟨(rd_T60 l (pre.length : Int)).f0, (rd_T60 l (pre.length : Int)).f1⟩ : S60) = s := by rw [hr]
    have e2 : ([s] : List S60).any (inS x y z) = inS x y z s := by simp
    rw [e2, Bool.false_or, Bool.bne_false] at G
    have go : ∀ acc' : Bool, acc' = ((pre ++ [s]).any (inS x y z) && all0 (S z)) → Ev (fun k => idiomlaw04_OperandLists.l0 k (l.any (inS x y z) && all0 (S z)) acc' (wrap64 ((pre.length : Int) + 1)) n a b i v w f t e o m nt wi l o m false false l o m false false
        ((l.take (l.length - pre.length) ++ pre.reverse).set ((wrap64 (wrap64 ((l.length : Int) - 1) - (pre.length : Int))) : Int).toNat s)) true := by
      intro acc' ha'
      rw [hw, w2, Int.toNat_natCast, st]
      exact ih (pre ++ [s]) (by rw [h]; simp) acc' ha'
    have ea : (pre ++ [s]).any (inS x y z) = (pre.any (inS x y z) || inS x y z s) := by rw [List.any_append, e2]
    refine Ev.up (Ev.pos (by omega) (Ev.bindV (copied_is o m false false l (by omega)) (Ev.pos (by omega) ?_)))
    rw [es]
    refine Ev.bind G (Ev.pos rfl (Ev.split (fun h1 => ?_) (fun h1 => ?_)))
    · refine Ev.pos (by rw [w2]; omega) (Ev.pos (by rw [tl, w2]; omega) (go true ?_))
      rw [hacc, Bool.and_eq_true] at h1
      rw [ea, h1.1, h1.2]; rfl
    · refine Ev.pos (by rw [w2]; omega) (Ev.pos (by rw [tl, w2]; omega) (go _ ?_))
      simp only [Bool.not_eq_true] at h1
      rw [hacc] at h1
      rw [ea]
      revert h1
      cases pre.any (inS x y z) <;> cases all0 (S z) <;> cases inS x y z s <;> simp
end
theorem lists_law (n : Bool) (a b i : ByteArray) (v w : Int) (f t : ByteArray) (e : Int) (o m : ByteArray) (nt wi : Bool) (l : List S60) (ha : Fit a) (hb : Fit b) (hi : Fit i) (hv : (Lit.int .i64 v).wf = true) (hw : (Lit.int .i64 w).wf = true) (hf : Fit f) (ht : Fit t) (he : (Lit.int .i64 e).wf = true)
    (ho : Fit o) (hm : Fit m) (hl : ∀ s ∈ l, FitS s) (hN : l.length < 4398046511104) : ∃ k, idiomlaw04_OperandLists.f k n a b i v w f t e o m nt wi l = some true := by
  apply Ev.rounds
  have hv' := wf_int hv
  obtain ⟨⟨x, y, z, q⟩, hg, hW⟩ := Mod_prog n a b i v w f t e o m ha hb hv' hm
  have cp := copied_is o m nt wi l hN
  have cq := copied_is o m false false l hN
  have up : ∀ {A B C : Bool × Int}, Ev (fun k => operand_In.f k n a b i v w f t e o m false false l) A → Ev (fun k => operand_In.f k n a b i v w f t e o m true false l) B → Ev (fun k => operand_In.f k n a b i v w f t e o m false true l) C → A.2 = B.2 →
      (∀ u : Bool, u = (A.2 != C.2) → Ev (fun k => idiomlaw04_OperandLists.j0 k A.1 A.2 B.1 C.1 u n a b i v w f t e o m nt wi l o m false false l) true) → Ev (fun k => idiomlaw04_OperandLists.f k n a b i v w f t e o m nt wi l) true := by
    intro A B C hA hB hC h hj
    refine Ev.bind oawake_is (Ev.pos rfl (Ev.bindV cp (Ev.bindV cp (Ev.bindV cp ?_))))
    exact Ev.bindV cq (Ev.bind hA (Ev.bind hB (Ev.bind hC (Ev.pos h (hj _ rfl)))))
  have fail : ∀ c : Int, ¬ c = 0 → (∀ nt wi, Ev (fun k => operand_In.f k n a b i v w f t e o m nt wi l) (false, c)) → Ev (fun k => idiomlaw04_OperandLists.f k n a b i v w f t e o m nt wi l) true := by
    intro c hc h
    refine up (h false false) (h true false) (h false true) rfl (fun u hu => ?_)
    exact Ev.up (Ev.neg (by rw [hu]; simp) (Ev.neg hc (Ev.neg Bool.false_ne_true (Ev.neg Bool.false_ne_true (Ev.val rfl)))))
  by_cases hq : q = 0
  case neg => exact fail q hq (fun nt wi => In_err hg hq nt wi l)
  subst hq
  have hF : Fine x (S y) (S z) := hW.1 rfl
  by_cases hb3 : 1 ≤ l.length ∧ l.length ≤ 64 ∧ l.all okS = true
  case neg => exact fail 40 (by decide) (fun nt wi => In_bad hg rfl hF nt wi l hl hb3)
  obtain ⟨h1, h2, h3⟩ := hb3
  have gA := In_good hg rfl hF false false l hl h1 h2 h3
  have gB := In_good hg rfl hF true false l hl h1 h2 h3
  have gC := In_good hg rfl hF false true l hl h1 h2 h3
  rw [Bool.false_or, Bool.bne_false] at gA
  rw [Bool.false_or, Bool.bne_true] at gB
  rw [Bool.true_or, Bool.and_true, Bool.bne_false] at gC
  obtain ⟨u, hu, eu⟩ := trim_f hF
  have hz : (u.toList == ([] : List UInt8)) = all0 (S z) := by
    rw [Bool.eq_iff_iff, beq_iff_eq, toList_nil, eu, rtrim_nil]
  have j2 : ∀ c : Bool, c = false → Ev (fun k => idiomlaw04_OperandLists.j2 k (l.any (inS x y z) && all0 (S z)) c n a b i v w f t e o m nt wi l o m false false l) true := by
    intro c hc
    have L := lists_l0 hg hF nt wi l hl h1 h2 h3 l [] rfl false rfl
    have e1 : l.take (l.length - ([] : List S60).length) ++ ([] : List S60).reverse = l := by simp
    rw [e1] at L
    exact Ev.up (Ev.neg (by rw [hc]; exact Bool.false_ne_true) (Ev.bindV cq L))
  have j1 : ∀ c : Bool, c = false → Ev (fun k => idiomlaw04_OperandLists.j1 k (l.any (inS x y z) && all0 (S z)) (l.any (inS x y z)) c n a b i v w f t e o m nt wi l o m false false l) true := by
    intro c hc
    refine Ev.up (Ev.neg (by rw [hc]; exact Bool.false_ne_true) (Ev.bind hg (Ev.bind hu (Ev.pos rfl (Ev.pos rfl (Ev.split (fun g => j2 _ ?_) (fun g => j2 _ rfl)))))))
    rw [hz, g]; simp
  refine up gA gB gC rfl (fun c hc => ?_)
  refine Ev.up (Ev.neg (by rw [hc]; simp) (Ev.pos rfl (Ev.neg (by cases l.any (inS x y z) <;> cases all0 (S z) <;> simp) ?_)))
  refine Ev.split (fun g => j1 _ ?_) (fun g => j1 _ rfl)
  simp only [Bool.and_eq_true] at g
  rw [g.1]; rfl
end Go.Proofs.YtihjcaglhjepdaaDoor.Q
