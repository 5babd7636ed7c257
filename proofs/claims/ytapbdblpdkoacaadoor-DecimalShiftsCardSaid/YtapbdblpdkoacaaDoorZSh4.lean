/- A part of the proof. Part 5 of 6; its texts were written by programs, some out of the kit's print. -/
import Derived.Test.YtapbdblpdkoacaaDoorZSh3
import Derived.Lib.Bytes
import Derived.Sort.Walk0
set_option linter.unusedVariables false
set_option linter.unusedSimpArgs false
namespace Go.Proofs.YtapbdblpdkoacaaDoor.Q
open Go.RowKit Go.Proofs.YtapbdblpdkoacaaDoorW.PrintWords
def val (l : List Int) : Nat := l.foldl (fun n d => n * 10 + d.toNat) 0
def Dig (l : List Int) : Prop := ∀ d ∈ l, 0 ≤ d ∧ d ≤ 9
theorem foldl_val (l : List Int) : ∀ n : Nat, l.foldl (fun n d => n * 10 + d.toNat) n = n * 10 ^ l.length + val l := by
  induction l with
  | nil => intro n; simp [val]
  | cons d l ih =>
    intro n
    simp only [List.foldl_cons, val]
    rw [ih, ih (0 * 10 + d.toNat), List.length_cons, Nat.pow_succ, Nat.add_mul, Nat.zero_mul, Nat.zero_add, Nat.mul_assoc, Nat.mul_comm 10]
    omega
theorem val_append (l m : List Int) : val (l ++ m) = val l * 10 ^ m.length + val m := by
  rw [val, List.foldl_append, foldl_val]; rfl
theorem val_snoc (l : List Int) (d : Int) : val (l ++ [d]) = val l * 10 + d.toNat := by
  rw [val_append]; simp [val]
theorem val_cons (d : Int) (l : List Int) : val (d :: l) = d.toNat * 10 ^ l.length + val l := by
  rw [show d :: l = [d] ++ l from rfl, val_append]; simp [val]
theorem val_zeros (n : Nat) : val (List.replicate n 0) = 0 := by
  induction n with
  | zero => rfl
  | succ n ih => rw [List.replicate_succ, val_cons, ih]; simp
theorem val_up (l : List Int) (n : Nat) : val (l ++ List.replicate n 0) = val l * 10 ^ n := by
  rw [val_append, val_zeros, List.length_replicate, Nat.add_zero]
theorem Dig.nil : Dig [] := fun d h => by cases h
theorem Dig.append {l m : List Int} (h : Dig l) (k : Dig m) : Dig (l ++ m) := fun d hd => by
  rcases List.mem_append.1 hd with h1 | h1
  · exact h d h1
  · exact k d h1
theorem Dig.left {l m : List Int} (h : Dig (l ++ m)) : Dig l := fun d hd => h d (List.mem_append_left _ hd)
theorem Dig.right {l m : List Int} (h : Dig (l ++ m)) : Dig m := fun d hd => h d (List.mem_append_right _ hd)
theorem Dig.one {d : Int} (h0 : 0 ≤ d) (h1 : d ≤ 9) : Dig [d] := fun x hx => by rw [List.mem_singleton.1 hx]; exact ⟨h0, h1⟩
theorem Dig.head {d : Int} {l : List Int} (h : Dig (d :: l)) : 0 ≤ d ∧ d ≤ 9 := h d (List.mem_cons_self)
theorem Dig.tail {d : Int} {l : List Int} (h : Dig (d :: l)) : Dig l := fun x hx => h x (List.mem_cons_of_mem _ hx)
theorem Dig.zeros (n : Nat) : Dig (List.replicate n 0) := fun d hd => by rw [(List.mem_replicate.1 hd).2]; omega
theorem Dig.take {l : List Int} (h : Dig l) (n : Nat) : Dig (l.take n) := fun d hd => h d (List.mem_of_mem_take hd)
theorem Dig.drop {l : List Int} (h : Dig l) (n : Nat) : Dig (l.drop n) := fun d hd => h d (List.mem_of_mem_drop hd)
theorem val_lt {l : List Int} (h : Dig l) : val l < 10 ^ l.length := by
  induction l with
  | nil => simp [val]
  | cons d l ih =>
    have h1 := ih h.tail
    have h2 := h.head
    rw [val_cons, List.length_cons, Nat.pow_succ]
    have h3 : d.toNat * 10 ^ l.length ≤ 9 * 10 ^ l.length := Nat.mul_le_mul_right _ (by omega)
    omega
def dg (n : Nat) : List Int := if h : n = 0 then [] else dg (n / 10) ++ [((n % 10 : Nat) : Int)]
termination_by n
decreasing_by omega
theorem dg_zero : dg 0 = [] := by rw [dg]; simp
theorem dg_pos {n : Nat} (h : n ≠ 0) : dg n = dg (n / 10) ++ [((n % 10 : Nat) : Int)] := by rw [dg]; simp [h]
theorem val_dg (n : Nat) : val (dg n) = n := by
  induction n using Nat.strongRecOn with
  | _ n ih =>
    by_cases h : n = 0
    · subst h; rw [dg_zero]; rfl
    · rw [dg_pos h, val_snoc, ih (n / 10) (by omega)]; omega
theorem Dig_dg (n : Nat) : Dig (dg n) := by
  induction n using Nat.strongRecOn with
  | _ n ih =>
    by_cases h : n = 0
    · subst h; rw [dg_zero]; exact Dig.nil
    · rw [dg_pos h]; exact (ih (n / 10) (by omega)).append (Dig.one (by omega) (by omega))
theorem dg_eq_nil {n : Nat} : dg n = [] ↔ n = 0 := by
  constructor
  · intro h
    have := val_dg n
    rw [h] at this
    exact this.symm
  · rintro rfl; exact dg_zero
theorem dg_head {n : Nat} {d : Int} {l : List Int} (h : dg n = d :: l) : d ≠ 0 := by
  induction n using Nat.strongRecOn generalizing d l with
  | _ n ih =>
    by_cases h0 : n = 0
    · subst h0; rw [dg_zero] at h; cases h
    · rw [dg_pos h0] at h
      cases hx : dg (n / 10) with
      | nil =>
        rw [hx] at h
        have h1 := dg_eq_nil.1 hx
        simp only [List.nil_append, List.cons.injEq] at h
        omega
      | cons x m =>
        rw [hx] at h
        simp only [List.cons_append, List.cons.injEq] at h
        rw [← h.1]
        exact ih (n / 10) (by omega) hx
theorem dg_snoc {n : Nat} {d : Int} (h0 : 0 ≤ d) (h1 : d ≤ 9) (hn : n ≠ 0 ∨ d ≠ 0) : dg (n * 10 + d.toNat) = dg n ++ [d] := by
  rw [dg_pos (by omega), show (n * 10 + d.toNat) / 10 = n by omega, show (n * 10 + d.toNat) % 10 = d.toNat by omega]
  congr 2
  omega
theorem dg_val {l : List Int} (h : Dig l) (hh : ∀ d m, l = d :: m → d ≠ 0) : dg (val l) = l := by
  induction hn : l.length generalizing l with
  | zero => rw [List.eq_nil_of_length_eq_zero hn]; exact dg_zero
  | succ n ih =>
    have hne : l ≠ [] := by intro e; rw [e] at hn; simp at hn
    obtain ⟨m, d, rfl⟩ : ∃ m d, l = m ++ [d] := ⟨l.dropLast, l.getLast hne, (List.dropLast_concat_getLast hne).symm⟩
    have hd := h.right d (List.mem_singleton_self d)
    have hm : dg (val m) = m := ih h.left (fun x t e => hh x (t ++ [d]) (by rw [e]; rfl)) (by simpa using hn)
    rw [val_snoc, dg_snoc hd.1 hd.2, hm]
    cases m with
    | nil => right; exact hh d [] rfl
    | cons x t =>
      left
      intro e
      rw [e, dg_zero] at hm
      cases hm
theorem dg_lead {l : List Int} (h : Dig l) : dg (val l) = l.dropWhile (· == 0) := by
  induction l with
  | nil => exact dg_zero
  | cons d l ih =>
    by_cases hd : d = 0
    · subst hd
      rw [val_cons]
      simpa using ih h.tail
    · rw [List.dropWhile_cons_of_neg (by simpa using hd)]
      exact dg_val h (fun x m e => by injection e with e _; rw [← e]; exact hd)
theorem length_dg_le {n k : Nat} (h : n < 10 ^ k) : (dg n).length ≤ k := by
  induction k generalizing n with
  | zero => have : n = 0 := by simpa using h
            rw [this, dg_zero]; simp
  | succ k ih =>
    by_cases h0 : n = 0
    · rw [h0, dg_zero]; simp
    · rw [dg_pos h0, List.length_append, List.length_singleton]
      have := ih (n := n / 10) (by rw [Nat.pow_succ] at h; omega)
      omega
theorem lt_of_length_dg (n : Nat) : n < 10 ^ (dg n).length := by
  have := val_lt (Dig_dg n)
  rwa [val_dg] at this
theorem length_dg_iff (n k : Nat) : (dg n).length ≤ k ↔ n < 10 ^ k :=
  ⟨fun h => Nat.lt_of_lt_of_le (lt_of_length_dg n) (Nat.pow_le_pow_right (by omega) h), length_dg_le⟩
theorem dg_mul_pow (n k : Nat) : dg (n * 10 ^ k) = if n = 0 then [] else dg n ++ List.replicate k 0 := by
  by_cases h : n = 0
  · subst h; rw [Nat.zero_mul, dg_zero]; rfl
  · rw [if_neg h]
    induction k with
    | zero => simp
    | succ k ih =>
      have hp : 0 < 10 ^ k := Nat.pow_pos (by omega)
      have h1 : n * 10 ^ k ≠ 0 := by
        have := Nat.mul_pos (Nat.pos_of_ne_zero h) hp
        omega
      have h2 : n * 10 ^ (k + 1) = (n * 10 ^ k) * 10 + (0 : Int).toNat := by rw [Nat.pow_succ, ← Nat.mul_assoc]; rfl
      rw [h2, dg_snoc (by omega) (by omega) (.inl h1), ih, List.append_assoc, List.replicate_succ']
end Go.Proofs.YtapbdblpdkoacaaDoor.Q
set_option linter.unusedVariables false
set_option linter.unusedSimpArgs false
namespace Go.Proofs.YtapbdblpdkoacaaDoor.Q
open Go.RowKit Go.Proofs.YtapbdblpdkoacaaDoorW.PrintWords
def S (s : ByteArray) : List Int := s.data.toList.map fun b => (b.toNat : Int)
theorem S_len (s : ByteArray) : (S s).length = s.size := by
  rw [S, List.length_map, Array.length_toList]; rfl
theorem bt_S (s : ByteArray) (i : Int) : bt s i = rd (S s) i := by
  unfold bt rd S
  by_cases h : i.toNat < s.size
  · have h' : i.toNat < s.data.size := h
    rw [dif_pos h, List.getD_eq_getElem?_getD, List.getElem?_map, List.getElem?_eq_getElem (by simpa using h')]
    simp
    rfl
  · have h' : ¬ i.toNat < s.data.size := h
    rw [dif_neg h, List.getD_eq_getElem?_getD, List.getElem?_eq_none (by simpa using h')]
    rfl
theorem S_append (s t : ByteArray) : S (s ++ t) = S s ++ S t := by
  simp [S]
theorem S_extract (s : ByteArray) (a b : Nat) : S (s.extract a b) = ((S s).drop a).take (b - a) := by
  simp only [S, ByteArray.data_extract, Array.toList_extract, List.extract_eq_take_drop, List.map_take, List.map_drop]
theorem S_drop (s : ByteArray) (a : Nat) : S (s.extract a s.size) = (S s).drop a := by
  rw [S_extract]
  apply List.take_of_length_le
  rw [List.length_drop, S_len]
  omega
theorem S_take (s : ByteArray) (b : Nat) : S (s.extract 0 b) = (S s).take b := by
  rw [S_extract]; simp
theorem u8_ofNat (b : UInt8) : UInt8.ofNat ((b.toNat : Int).toNat) = b := by simp
theorem S_back (s : ByteArray) : strOfNums (S s) = s := by
  cases s with
  | mk d =>
    simp only [strOfNums, S, List.map_map, ByteArray.mk.injEq]
    have : (fun n : Int => UInt8.ofNat n.toNat) ∘ (fun b : UInt8 => (b.toNat : Int)) = id := by
      funext b; exact u8_ofNat b
    rw [this]; simp
theorem S_inj {s t : ByteArray} (h : S s = S t) : s = t := by rw [← S_back s, ← S_back t, h]
theorem S_str {l : List Int} (h : ∀ d ∈ l, 0 ≤ d ∧ d ≤ 255) : S (strOfNums l) = l := by
  simp only [S, strOfNums, List.map_map]
  conv => rhs; rw [← List.map_id l]
  apply List.map_congr_left
  intro d hd
  have := h d hd
  simp [UInt8.toNat_ofNat']
  omega
theorem toList_S (s t : ByteArray) : s.toList = t.toList ↔ S s = S t := by
  constructor
  · intro h
    rw [ByteArray.toList_eq, ByteArray.toList_eq] at h
    rw [S, S, h]
  · intro h; rw [S_inj h]
theorem toList_lit (s : ByteArray) (l : List UInt8) : s.toList = l ↔ S s = l.map (fun b => (b.toNat : Int)) := by
  have := toList_S s ⟨l.toArray⟩
  rw [ByteArray.toList_mk l] at this
  rw [this]; simp [S]
theorem toList_nil (s : ByteArray) : s.toList = ([] : List UInt8) ↔ S s = [] := toList_lit s []
theorem beq_lit (s : ByteArray) (l : List UInt8) : (s.toList == l) = decide (S s = l.map (fun b => (b.toNat : Int))) := by
  rw [Bool.eq_iff_iff]; simp [toList_lit]
theorem rd_nat (l : List Int) (i : Nat) : rd l (i : Int) = l.getD i 0 := by simp [rd]
theorem getD_append_mid (l : List Int) (d : Int) (m : List Int) : (l ++ d :: m).getD l.length 0 = d := by
  simp [List.getD_eq_getElem?_getD]
theorem set_append_mid (l : List Int) (d e : Int) (m : List Int) : (l ++ d :: m).set l.length e = l ++ e :: m := by
  simp [List.set_append]
theorem wrap64_id {x : Int} (h0 : -9223372036854775808 ≤ x) (h1 : x ≤ 9223372036854775807) : wrap64 x = x := by
  unfold wrap64; omega
def up48 (l : List Int) : List Int := l.map (· + 48)
theorem up48_len (l : List Int) : (up48 l).length = l.length := by simp [up48]
def dn48 (l : List Int) : List Int := l.map (· - 48)
theorem dn48_len (l : List Int) : (dn48 l).length = l.length := by simp [dn48]
theorem dn_up (l : List Int) : dn48 (up48 l) = l := by
  rw [up48, dn48, List.map_map]; conv => rhs; rw [← List.map_id l]
  apply List.map_congr_left; intro d _; show d + 48 - 48 = d; omega
end Go.Proofs.YtapbdblpdkoacaaDoor.Q
set_option linter.unusedVariables false
set_option linter.unusedSimpArgs false
namespace Go.Proofs.YtapbdblpdkoacaaDoorW.PrintWords
theorem Ev.pos {α : Type} {c : Prop} [Decidable c] {A B : Nat → Option α} {r : α} (h : c) (e : Ev A r) : Ev (fun k => if c then A k else B k) r :=
  Ev.congr (fun k => if_pos h) e
theorem Ev.neg {α : Type} {c : Prop} [Decidable c] {A B : Nat → Option α} {r : α} (h : ¬ c) (e : Ev B r) : Ev (fun k => if c then A k else B k) r :=
  Ev.congr (fun k => if_neg h) e
theorem Ev.split {α : Type} {c : Prop} [Decidable c] {A B : Nat → Option α} {r : α} (h : c → Ev A r) (h' : ¬ c → Ev B r) : Ev (fun k => if c then A k else B k) r := by
  by_cases hc : c
  · exact Ev.pos hc (h hc)
  · exact Ev.neg hc (h' hc)
theorem Ev.val {α : Type} {a r : α} (h : a = r) : Ev (fun _ => some a) r := by rw [h]; exact Ev.now r
theorem Ev.bindV {α β : Type} {g : Option α} {a : α} {F : Nat → α → Option β} {r : β} (hg : g = some a) (h : Ev (fun k => F k a) r) : Ev (fun k => g.bind (F k)) r := by
  rw [hg]; exact h
theorem Ev.tail {α : Type} {g : Nat → Option α} {a : α} (h : Ev g a) : Ev (fun k => (g k).bind fun t => some t) a := Ev.bind h (Ev.now a)
theorem Ev.eq {α : Type} {g : Nat → Option α} {a b : α} (h : Ev g a) (e : a = b) : Ev g b := e ▸ h
theorem Ev.up {α : Type} {g : Nat → Option α} {r : α} (k : Ev (fun n => g (n + 1)) r) : Ev g r := Ev.step (fun _ => rfl) k
end Go.Proofs.YtapbdblpdkoacaaDoorW.PrintWords
set_option linter.unusedVariables false
set_option linter.unusedSimpArgs false
namespace Go.Proofs.YtapbdblpdkoacaaDoor.Q
open Go.RowKit Go.Proofs.YtapbdblpdkoacaaDoorW.PrintWords Go.Proofs.YtapbdblpdkoacaaDoor.P
def isD (d : Int) : Bool := decide (48 ≤ d) && decide (d ≤ 57)
def allD (l : List Int) : Bool := l.all isD
def all0 (l : List Int) : Bool := l.all (· == 48)
def fm (neg : Bool) (a b : List Int) : Bool := !a.isEmpty && allD a && allD b && !(decide (1 < a.length) && rd a 0 == 48) && !(neg && (all0 a && all0 b))
def okD (neg : Bool) (a b : List Int) : Bool := decide (a.length + b.length ≤ 40) && fm neg a b
def chk (neg : Bool) (a b : List Int) : Int := if okD neg a b = true then 0 else 20
def Fit (s : ByteArray) : Prop := s.size ≤ 1000000000000000000
theorem all_loop (s : ByteArray) (hs : Fit s) : ∀ rest pre : List Int, S s = pre ++ rest → Ev (fun k => decimal_all.l0 k s (s.size : Int) (pre.length : Int)) (allD rest) := by
  unfold Fit at hs
  intro rest
  induction rest with
  | nil =>
    intro pre h
    have hl : s.size = pre.length := by rw [← S_len, h]; simp
    refine Ev.up (Ev.neg (by omega) (Ev.val rfl))
  | cons d rest ih =>
    intro pre h
    have hl : s.size = pre.length + (rest.length + 1) := by rw [← S_len, h]; simp
    have hb : bt s (pre.length : Int) = d := by rw [bt_S, h, rd_nat, getD_append_mid]
    refine Ev.up (Ev.pos (by omega) (Ev.pos (by omega) (Ev.pos (by omega) ?_)))
    rw [hb]
    refine Ev.split (fun h1 => Ev.val ?_) (fun h1 => Ev.split (fun h2 => Ev.val ?_) (fun h2 => ?_))
    · simp [allD, isD]; omega
    · simp [allD, isD]; omega
    · have h3 := ih (pre ++ [d]) (by rw [h]; simp)
      have h4 : wrap64 ((pre.length : Int) + 1) = ((pre ++ [d]).length : Int) := by rw [wrap64_id (by omega) (by omega)]; simp
      rw [h4]
      refine h3.eq ?_
      have : isD d = true := by simp [isD]; omega
      simp [allD, this]
theorem all_is (s : ByteArray) (hs : Fit s) : Ev (fun k => decimal_all.f k s) (allD (S s)) := all_loop s hs (S s) [] rfl
theorem digits_loop (s : ByteArray) (hs : Fit s) : ∀ rest pre : List Int, S s = pre ++ rest → Ev (fun k => idiomref02_Digits.l0 k s (pre.length : Int)) (allD rest) := by
  unfold Fit at hs
  intro rest
  induction rest with
  | nil =>
    intro pre h
    have hl : s.size = pre.length := by rw [← S_len, h]; simp
    refine Ev.up (Ev.neg (by omega) (Ev.val rfl))
  | cons d rest ih =>
    intro pre h
    have hl : s.size = pre.length + (rest.length + 1) := by rw [← S_len, h]; simp
    have hb : bt s (pre.length : Int) = d := by rw [bt_S, h, rd_nat, getD_append_mid]
    refine Ev.up (Ev.pos (by omega) (Ev.pos (by omega) ?_))
    rw [hb]
    refine Ev.bindV (a := isD d) ?_ ?_
    · unfold idiomref02_Digit.f isD
      by_cases h1 : d ≥ 48
      · simp [h1]
      · have : ¬ 48 ≤ d := h1
        simp [h1, this]
    refine Ev.split (fun h1 => ?_) (fun h1 => Ev.val ?_)
    · have h3 := ih (pre ++ [d]) (by rw [h]; simp)
      have h4 : wrap64 ((pre.length : Int) + 1) = ((pre ++ [d]).length : Int) := by rw [wrap64_id (by omega) (by omega)]; simp
      rw [h4]
      refine h3.eq ?_
      simp [allD, h1]
    · simp [allD, h1]
theorem digits_is (s : ByteArray) (hs : Fit s) : Ev (fun k => idiomref02_Digits.f k s) (allD (S s)) := digits_loop s hs (S s) [] rfl
theorem noughts_loop (s : ByteArray) (hs : Fit s) : ∀ rest pre : List Int, S s = pre ++ rest → Ev (fun k => idiomref02_noughts.l0 k s (pre.length : Int)) (all0 rest) := by
  unfold Fit at hs
  intro rest
  induction rest with
  | nil =>
    intro pre h
    have hl : s.size = pre.length := by rw [← S_len, h]; simp
    refine Ev.up (Ev.neg (by omega) (Ev.val rfl))
  | cons d rest ih =>
    intro pre h
    have hl : s.size = pre.length + (rest.length + 1) := by rw [← S_len, h]; simp
    have hb : bt s (pre.length : Int) = d := by rw [bt_S, h, rd_nat, getD_append_mid]
    refine Ev.up (Ev.pos (by omega) (Ev.pos (by omega) ?_))
    rw [hb]
    refine Ev.split (fun h1 => ?_) (fun h1 => Ev.val ?_)
    · have h3 := ih (pre ++ [d]) (by rw [h]; simp)
      have h4 : wrap64 ((pre.length : Int) + 1) = ((pre ++ [d]).length : Int) := by rw [wrap64_id (by omega) (by omega)]; simp
      rw [h4]
      refine h3.eq ?_
      simp [all0, h1]
    · simp [all0, h1]
theorem noughts_is (s : ByteArray) (hs : Fit s) : Ev (fun k => idiomref02_noughts.f k s) (all0 (S s)) := noughts_loop s hs (S s) [] rfl
theorem nought_is (n : Bool) (a b : ByteArray) (ha : Fit a) (hb : Fit b) : Ev (fun k => idiomref02_Nought.f k n a b) (all0 (S a) && all0 (S b)) := by
  refine Ev.bind (noughts_is a ha) (Ev.split (fun h => ?_) (fun h => Ev.val ?_))
  · rw [h]; exact (noughts_is b hb).tail
  · simp at h; simp [h]
def ltrim (l : List Int) : List Int := l.dropWhile (· == 48)
def rtrim (l : List Int) : List Int := (l.reverse.dropWhile (· == 48)).reverse
theorem ltrim_len (l : List Int) : (ltrim l).length ≤ l.length := by
  rw [ltrim, ← List.length_reverse]
  have := (List.dropWhile_suffix (l := l) (fun d : Int => d == 48)).length_le
  simpa using this
theorem ltrim_nil (l : List Int) : ltrim l = [] ↔ all0 l = true := by
  unfold ltrim all0
  induction l with
  | nil => simp
  | cons d l ih =>
    rw [List.dropWhile_cons]
    by_cases h : d = 48
    · simpa [h] using ih
    · simp [h]
theorem rtrim_snoc (l : List Int) (d : Int) : rtrim (l ++ [d]) = if d = 48 then rtrim l else l ++ [d] := by
  simp only [rtrim, List.reverse_append, List.reverse_cons, List.reverse_nil, List.nil_append, List.cons_append, List.dropWhile_cons]
  by_cases h : d = 48
  · simp [h]
  · simp [h]
theorem all0_ltrim (l : List Int) : all0 (ltrim l) = all0 l := by
  induction l with
  | nil => rfl
  | cons d l ih =>
    simp only [ltrim, List.dropWhile_cons]
    by_cases h : d = 48
    · simpa [h, all0, ltrim] using ih
    · simp [h]
theorem all0_rtrim (l : List Int) : all0 (rtrim l) = all0 l := by
  have h1 : all0 (rtrim l) = all0 (ltrim l.reverse) := by simp [all0, rtrim, ltrim]
  rw [h1, all0_ltrim]; simp [all0]
theorem trimLeft_is : ∀ (n : Nat) (s : ByteArray), s.size = n → Fit s → ∃ t, Ev (fun k => strings_trimLeftByte.f k s 48) t ∧ S t = ltrim (S s) := by
  intro n
  induction n with
  | zero =>
    intro s h _
    have h0 : S s = [] := List.eq_nil_of_length_eq_zero (by rw [S_len]; exact h)
    exact ⟨s, Ev.up (Ev.neg (by omega) (Ev.val rfl)), by rw [h0]; rfl⟩
  | succ n ih =>
    intro s h hf
    obtain ⟨d, m, e⟩ : ∃ d m, S s = d :: m := by
      cases he : S s with
      | nil => have := S_len s; rw [he] at this; simp at this; omega
      | cons d m => exact ⟨d, m, rfl⟩
    have hb : bt s 0 = d := by rw [bt_S, e]; rfl
    by_cases h1 : d = 48
    · have h2 : S (s.extract 1 s.size) = m := by rw [S_drop, e]; rfl
      have h3 : (s.extract 1 s.size).size = n := by rw [← S_len, h2]; have := S_len s; rw [e] at this; simp at this; omega
      obtain ⟨t, ht, hs⟩ := ih _ h3 (by unfold Fit at *; omega)
      refine ⟨t, Ev.up (Ev.pos (by omega) (Ev.pos (by omega) (Ev.pos (by rw [hb]; exact h1) (Ev.pos (by omega) ht)))), ?_⟩
      rw [hs, h2, e, ltrim, ltrim, List.dropWhile_cons]; simp [h1]
    · refine ⟨s, Ev.up (Ev.pos (by omega) (Ev.pos (by omega) (Ev.neg (by rw [hb]; exact h1) (Ev.val rfl)))), ?_⟩
      rw [e, ltrim, List.dropWhile_cons]; simp [h1]
theorem trimRight_is : ∀ (n : Nat) (s : ByteArray), s.size = n → Fit s → ∃ t, Ev (fun k => strings_trimRightByte.f k s 48) t ∧ S t = rtrim (S s) := by
  intro n
  induction n with
  | zero =>
    intro s h _
    have h0 : S s = [] := List.eq_nil_of_length_eq_zero (by rw [S_len]; exact h)
    exact ⟨s, Ev.up (Ev.neg (by omega) (Ev.val rfl)), by rw [h0]; rfl⟩
  | succ n ih =>
    intro s h hf
    have hl := S_len s
    obtain ⟨m, d, e⟩ : ∃ m d, S s = m ++ [d] := by
      have : S s ≠ [] := by intro he; rw [he] at hl; simp at hl; omega
      exact ⟨(S s).dropLast, (S s).getLast this, (List.dropLast_concat_getLast this).symm⟩
    have hm : m.length = n := by rw [e] at hl; simp at hl; omega
    have hf' := hf
    unfold Fit at hf'
    have hw : wrap64 ((s.size : Int) - 1) = (m.length : Int) := by rw [wrap64_id (by omega) (by omega)]; omega
    have hb : bt s (m.length : Int) = d := by rw [bt_S, e, rd_nat, getD_append_mid]
    by_cases h1 : d = 48
    · have h2 : S (s.extract 0 (m.length : Int).toNat) = m := by rw [S_take, e]; simp
      have h3 : (s.extract 0 (m.length : Int).toNat).size = n := by rw [← S_len, h2]; omega
      obtain ⟨t, ht, hs⟩ := ih _ h3 (by unfold Fit; omega)
      refine ⟨t, Ev.up (Ev.pos (by omega) ?_), by rw [hs, h2, e, rtrim_snoc, if_pos h1]⟩
      rw [hw, hb]
      exact Ev.pos (by omega) (Ev.pos (by omega) (Ev.pos h1 (Ev.pos (by omega) ht)))
    · refine ⟨s, Ev.up (Ev.pos (by omega) ?_), by rw [e, rtrim_snoc, if_neg h1]⟩
      rw [hw, hb]
      exact Ev.pos (by omega) (Ev.pos (by omega) (Ev.neg h1 (Ev.val rfl)))
theorem trim_nil_bytes (s : ByteArray) (h : s.toList = ([] : List UInt8)) : S s = [] := (toList_nil s).1 h
theorem size48 : (((⟨#[48]⟩ : ByteArray).size : Nat) : Int) = 1 := by decide
theorem bt48 : bt (⟨#[48]⟩ : ByteArray) 0 = 48 := by decide
theorem ne48 : ((⟨#[48]⟩ : ByteArray).toList == ([] : List UInt8)) = false := by rw [beq_lit]; rfl
theorem Fit.of_len {t : ByteArray} {n : Nat} (h : (S t).length ≤ n) (hn : n ≤ 1000000000000000000) : Fit t := by
  unfold Fit; rw [← S_len]; omega
theorem rtrim_len (l : List Int) : (rtrim l).length ≤ l.length := by
  have := ltrim_len l.reverse
  simp [rtrim, ltrim] at *
  exact this
theorem TrimLeft_go (s z : ByteArray) (hz : (z.size : Int) = 1) (hb : bt z 0 = 48) (hn : (z.toList == ([] : List UInt8)) = false) (h : ¬ s.toList = ([] : List UInt8))
    {t : ByteArray} (ht : Ev (fun k => strings_trimLeftByte.f k s 48) t) : Ev (fun k => strings_TrimLeft.f k s z) t := by
  have j1 : ∀ x : Bool, x = true → Ev (fun k => strings_TrimLeft.j1 k s z x) t := by
    intro x hx
    refine Ev.up (Ev.pos hx (Ev.pos (by omega) ?_))
    rw [hb]
    exact ht.tail
  have j0 : ∀ x : Bool, x = false → Ev (fun k => strings_TrimLeft.j0 k s z x) t := by
    intro x hx
    exact Ev.up (Ev.neg (by rw [hx]; exact Bool.false_ne_true) (Ev.pos hz (Ev.pos (by omega) (j1 _ (by rw [hb]; rfl)))))
  exact Ev.neg h (j0 _ hn)
theorem TrimLeft_none (s z : ByteArray) (h : s.toList = ([] : List UInt8)) : Ev (fun k => strings_TrimLeft.f k s z) s := by
  have j0 : ∀ x : Bool, x = true → Ev (fun k => strings_TrimLeft.j0 k s z x) s := fun x hx => Ev.up (Ev.pos hx (Ev.val rfl))
  exact Ev.pos h (j0 _ rfl)
theorem TrimLeft_is (s : ByteArray) (hs : Fit s) : ∃ t, Ev (fun k => strings_TrimLeft.f k s (⟨#[48]⟩ : ByteArray)) t ∧ S t = ltrim (S s) := by
  obtain ⟨t, ht, e⟩ := trimLeft_is _ s rfl hs
  by_cases h : s.toList = ([] : List UInt8)
  · exact ⟨s, TrimLeft_none s _ h, by rw [trim_nil_bytes s h]; rfl⟩
  · exact ⟨t, TrimLeft_go s _ size48 bt48 ne48 h ht, e⟩
theorem TrimRight_go (s z : ByteArray) (hz : (z.size : Int) = 1) (hb : bt z 0 = 48) (hn : (z.toList == ([] : List UInt8)) = false) (h : ¬ s.toList = ([] : List UInt8))
    {t : ByteArray} (ht : Ev (fun k => strings_trimRightByte.f k s 48) t) : Ev (fun k => strings_TrimRight.f k s z) t := by
  have j1 : ∀ x : Bool, x = true → Ev (fun k => strings_TrimRight.j1 k s z x) t := by
    intro x hx
    refine Ev.up (Ev.pos hx (Ev.pos (by omega) ?_))
    rw [hb]
    exact ht.tail
  have j0 : ∀ x : Bool, x = false → Ev (fun k => strings_TrimRight.j0 k s z x) t := by
    intro x hx
    exact Ev.up (Ev.neg (by rw [hx]; exact Bool.false_ne_true) (Ev.pos hz (Ev.pos (by omega) (j1 _ (by rw [hb]; rfl)))))
  exact Ev.neg h (j0 _ hn)
theorem TrimRight_none (s z : ByteArray) (h : s.toList = ([] : List UInt8)) : Ev (fun k => strings_TrimRight.f k s z) s := by
  have j0 : ∀ x : Bool, x = true → Ev (fun k => strings_TrimRight.j0 k s z x) s := fun x hx => Ev.up (Ev.pos hx (Ev.val rfl))
  exact Ev.pos h (j0 _ rfl)
theorem TrimRight_is (s : ByteArray) (hs : Fit s) : ∃ t, Ev (fun k => strings_TrimRight.f k s (⟨#[48]⟩ : ByteArray)) t ∧ S t = rtrim (S s) := by
  obtain ⟨t, ht, e⟩ := trimRight_is _ s rfl hs
  by_cases h : s.toList = ([] : List UInt8)
  · exact ⟨s, TrimRight_none s _ h, by rw [trim_nil_bytes s h]; rfl⟩
  · exact ⟨t, TrimRight_go s _ size48 bt48 ne48 h ht, e⟩
theorem Trim_go (s z : ByteArray) (hz : (z.size : Int) = 1) (hb : bt z 0 = 48) (hn : (z.toList == ([] : List UInt8)) = false) (h : ¬ s.toList = ([] : List UInt8))
    {t u : ByteArray} (ht : Ev (fun k => strings_trimRightByte.f k s 48) t) (hu : Ev (fun k => strings_trimLeftByte.f k t 48) u) : Ev (fun k => strings_Trim.f k s z) u := by
  have j1 : ∀ x : Bool, x = true → Ev (fun k => strings_Trim.j1 k s z x) u := by
    intro x hx
    refine Ev.up (Ev.pos hx (Ev.pos (by omega) ?_))
    rw [hb]
    exact Ev.bind ht (hu.tail)
  have j0 : ∀ x : Bool, x = false → Ev (fun k => strings_Trim.j0 k s z x) u := by
    intro x hx
    exact Ev.up (Ev.neg (by rw [hx]; exact Bool.false_ne_true) (Ev.pos hz (Ev.pos (by omega) (j1 _ (by rw [hb]; rfl)))))
  exact Ev.neg h (j0 _ hn)
theorem Trim_none (s z : ByteArray) (h : s.toList = ([] : List UInt8)) : Ev (fun k => strings_Trim.f k s z) s := by
  have j0 : ∀ x : Bool, x = true → Ev (fun k => strings_Trim.j0 k s z x) s := fun x hx => Ev.up (Ev.pos hx (Ev.val rfl))
  exact Ev.pos h (j0 _ rfl)
theorem Trim_is (s : ByteArray) (hs : Fit s) : ∃ t, Ev (fun k => strings_Trim.f k s (⟨#[48]⟩ : ByteArray)) t ∧ S t = ltrim (rtrim (S s)) := by
  obtain ⟨t, ht, e⟩ := trimRight_is _ s rfl hs
  obtain ⟨u, hu, e'⟩ := trimLeft_is _ t rfl (Fit.of_len (n := s.size) (by rw [e]; exact Nat.le_trans (rtrim_len _) (by rw [S_len]; omega)) hs)
  by_cases h : s.toList = ([] : List UInt8)
  · exact ⟨s, Trim_none s _ h, by rw [trim_nil_bytes s h]; rfl⟩
  · exact ⟨u, Trim_go s _ size48 bt48 ne48 h ht hu, by rw [e', e]⟩
theorem trim_nil (l : List Int) : ltrim (rtrim l) = [] ↔ all0 l = true := by rw [ltrim_nil, all0_rtrim]
theorem isEmpty_false {l : List Int} (h : l ≠ []) : l.isEmpty = false := by cases l with
  | nil => exact absurd rfl h
  | cons => rfl
theorem form_is (n : Bool) (a b : ByteArray) (ha : Fit a) (hb : Fit b) : Ev (fun k => decimal_form.f k n a b) (fm n (S a) (S b)) := by
  have hl := S_len a
  have key : ∀ x : Bool, (x = false → (!(S a).isEmpty && allD (S a) && allD (S b) && !(decide (1 < (S a).length) && rd (S a) 0 == 48)) = true) →
      (x = true → (!(S a).isEmpty && allD (S a) && allD (S b) && !(decide (1 < (S a).length) && rd (S a) 0 == 48)) = false) →
      Ev (fun k => decimal_form.j0 k x n a b) (fm n (S a) (S b)) := by
    intro x h0 h1
    unfold fm
    refine Ev.up (Ev.split (fun hx => Ev.val ?_) (fun hx => ?_))
    · rw [h1 hx]; rfl
    · rw [h0 (by simpa using hx), Bool.true_and]
      refine Ev.split (fun hn => ?_) (fun hn => Ev.val ?_)
      · obtain ⟨t, ht, et⟩ := Trim_is a ha
        obtain ⟨u, hu, eu⟩ := Trim_is b hb
        refine Ev.bind ht (Ev.split (fun h => ?_) (fun h => Ev.val ?_))
        · rw [toList_nil, et, trim_nil] at h
          refine Ev.bind hu (Ev.val ?_)
          rw [hn, h, Bool.eq_iff_iff]
          simp [toList_nil, eu, trim_nil]
        · rw [toList_nil, et, trim_nil] at h
          simp at h; simp [h]
      · simp at hn; simp [hn]
  refine Ev.split (fun h => key true (by simp) (fun _ => ?_)) (fun h => ?_)
  · rw [toList_nil] at h; simp [h]
  · rw [toList_nil] at h
    have hne : (S a).isEmpty = false := isEmpty_false h
    have hp : 0 < (S a).length := List.length_pos_iff.2 h
    refine Ev.bind (all_is a ha) (Ev.split (fun h1 => ?_) (fun h1 => key true (by simp) (fun _ => by simp at h1; simp [h1])))
    refine Ev.bind (all_is b hb) (Ev.split (fun h2 => ?_) (fun h2 => key true (by simp) (fun _ => by simp at h2; simp [h2])))
    refine Ev.split (fun h3 => Ev.pos (by omega) (key _ ?_ ?_)) (fun h3 => key _ ?_ ?_)
    · intro h4
      rw [bt_S] at h4
      simp [hne, h1, h2, h4]
    · intro h4
      rw [bt_S] at h4
      have : 1 < (S a).length := by omega
      simp [h4, this]
    · intro _
      have : ¬ 1 < (S a).length := by omega
      simp [hne, h1, h2, this]
    · simp
theorem Check_is (n : Bool) (a b : ByteArray) (ha : Fit a) (hb : Fit b) : Ev (fun k => decimal_Check.f k n a b) (chk n (S a) (S b)) := by
  have hl := S_len a
  have hl' := S_len b
  unfold chk okD Fit at *
  refine Ev.split (fun h => Ev.val ?_) (fun h => ?_)
  · have : ¬ (S a).length + (S b).length ≤ 40 := by omega
    simp [this]
  · have hw : wrap64 (40 - (a.size : Int)) = 40 - (a.size : Int) := wrap64_id (by omega) (by omega)
    rw [hw]
    refine Ev.split (fun h1 => Ev.val ?_) (fun h1 => ?_)
    · have : ¬ (S a).length + (S b).length ≤ 40 := by omega
      simp [this]
    · have : (S a).length + (S b).length ≤ 40 := by omega
      refine Ev.bind (form_is n a b ha hb) (Ev.split (fun h2 => Ev.val ?_) (fun h2 => Ev.val ?_))
      · simp [this, h2]
      · simp [h2]
theorem refCheck_is (n : Bool) (a b : ByteArray) (ha : Fit a) (hb : Fit b) : Ev (fun k => idiomref02_Check.f k n a b) (chk n (S a) (S b)) := by
  have hl := S_len a
  have hl' := S_len b
  have ha' := ha
  have hb' := hb
  unfold Fit at ha' hb'
  have bad : ∀ x : Bool, x = true → chk n (S a) (S b) = 20 → Ev (fun k => idiomref02_Check.j0 k x n a b) (chk n (S a) (S b)) := by
    intro x hx h
    rw [h]
    exact Ev.up (Ev.pos hx (Ev.val rfl))
  have big : ¬ (S a).length + (S b).length ≤ 40 → chk n (S a) (S b) = 20 := by
    intro h; simp [chk, okD, h]
  refine Ev.split (fun h => bad _ rfl ?_) (fun h => Ev.split (fun h1 => bad _ rfl (big (by omega))) (fun h1 => Ev.split (fun h2 => bad _ rfl (big (by omega))) (fun h2 => ?_)))
  · have : S a = [] := List.eq_nil_of_length_eq_zero (by omega)
    simp [chk, okD, fm, this]
  · have hw : wrap64 ((a.size : Int) + (b.size : Int)) = (a.size : Int) + (b.size : Int) := wrap64_id (by omega) (by omega)
    rw [hw]
    by_cases h3 : (a.size : Int) + (b.size : Int) > 40
    · exact bad _ (by simpa using h3) (big (by omega))
    have h3' : (S a).length + (S b).length ≤ 40 := by omega
    have hne : (S a).isEmpty = false := by
      cases he : S a with
      | nil => rw [he] at hl; simp at hl; omega
      | cons => rfl
    refine Ev.up (Ev.neg (by simpa using h3) ?_)
    refine Ev.bind (digits_is a ha) (Ev.split (fun h4 => ?_) (fun h4 => Ev.val ?_))
    · refine Ev.bind (digits_is b hb) (Ev.split (fun h5 => ?_) (fun h5 => Ev.val ?_))
      · have tl : (¬ (decide (1 < (S a).length) && rd (S a) 0 == 48) = true) → Ev (fun k => if n = true then (idiomref02_Nought.f k n a b).bind fun t => if t = true then some 20 else some 0 else some 0) (chk n (S a) (S b)) := by
          intro h6
          simp only [Bool.not_eq_true] at h6
          refine Ev.split (fun h7 => Ev.bind (nought_is n a b ha hb) (Ev.split (fun h8 => Ev.val ?_) (fun h8 => Ev.val ?_))) (fun h7 => Ev.val ?_)
          · simp only [chk, okD, fm, h7, h8]; simp
          · simp only [Bool.not_eq_true] at h8
            simp only [chk, okD, fm, h7, h8, h4, h5, h6, hne, h3']; simp
          · simp only [Bool.not_eq_true] at h7
            simp only [chk, okD, fm, h7, h4, h5, h6, hne, h3']; simp
        refine Ev.pos (by omega) ?_
        rw [bt_S]
        refine Ev.split (fun h6 => Ev.split (fun h7 => Ev.val ?_) (fun h7 => tl ?_)) (fun h6 => tl ?_)
        · have h8 : 1 < (S a).length := by omega
          simp [chk, okD, fm, h6, h8]
        · have h8 : ¬ 1 < (S a).length := by omega
          simp [h8]
        · simp [h6]
      · simp only [Bool.not_eq_true] at h5
        simp [chk, okD, fm, h5]
    · simp only [Bool.not_eq_true] at h4
      simp [chk, okD, fm, h4]
end Go.Proofs.YtapbdblpdkoacaaDoor.Q
set_option linter.unusedVariables false
set_option linter.unusedSimpArgs false
namespace Go.Proofs.YtapbdblpdkoacaaDoor.Q
open Go.RowKit Go.Proofs.YtapbdblpdkoacaaDoorW.PrintWords Go.Proofs.YtapbdblpdkoacaaDoor.P
theorem dn48_ltrim (l : List Int) : dn48 (ltrim l) = (dn48 l).dropWhile (· == 0) := by
  induction l with
  | nil => rfl
  | cons d l ih =>
    unfold ltrim at *
    rw [List.dropWhile_cons]
    by_cases h : d = 48
    · rw [if_pos (by simpa using h), ih]
      show _ = List.dropWhile (· == 0) ((d - 48) :: dn48 l)
      rw [List.dropWhile_cons, if_pos (by simp; omega)]
    · rw [if_neg (by simpa using h)]
      show _ = List.dropWhile (· == 0) ((d - 48) :: dn48 l)
      rw [List.dropWhile_cons, if_neg (by simp; omega)]
      rfl
theorem allD_dig {l : List Int} (h : allD l = true) : Dig (dn48 l) := by
  intro d hd
  obtain ⟨x, hx, rfl⟩ := List.mem_map.1 hd
  have := List.all_eq_true.1 h x hx
  simp [isD] at this
  omega
theorem allD_ltrim {l : List Int} (h : allD l = true) : allD (ltrim l) = true := by
  rw [allD, List.all_eq_true] at *
  intro d hd
  exact h d ((List.dropWhile_suffix _).subset hd)
theorem set_mid_zero (l : List Int) (v : Int) (n : Nat) : (l ++ List.replicate (n + 1) 0).set l.length v = (l ++ [v]) ++ List.replicate n 0 := by
  rw [List.replicate_succ, set_append_mid]; simp
theorem of_loop (s : ByteArray) (hs : Fit s) (hd : allD (S s) = true) : ∀ rest pre : List Int, S s = pre ++ rest →
    Ev (fun k => decimal_of.l0 k s (dn48 pre ++ List.replicate rest.length 0) (s.size : Int) (pre.length : Int)) (dn48 (S s)) := by
  unfold Fit at hs
  intro rest
  induction rest with
  | nil =>
    intro pre h
    have hl : s.size = pre.length := by rw [← S_len, h]; simp
    exact Ev.up (Ev.neg (by omega) (Ev.val (by rw [h]; simp)))
  | cons d rest ih =>
    intro pre h
    have hl : s.size = pre.length + (rest.length + 1) := by rw [← S_len, h]; simp
    have hb : bt s (pre.length : Int) = d := by rw [bt_S, h, rd_nat, getD_append_mid]
    have h3 := ih (pre ++ [d]) (by rw [h]; simp)
    have h4 : wrap64 ((pre.length : Int) + 1) = ((pre ++ [d]).length : Int) := by rw [wrap64_id (by omega) (by omega)]; simp
    have hdd : 48 ≤ d ∧ d ≤ 57 := by
      have := List.all_eq_true.1 hd d (by rw [h]; simp)
      simpa [isD] using this
    refine Ev.up (Ev.pos (by omega) (Ev.pos (by omega) (Ev.pos (by omega) (Ev.pos (by simp [dn48]; omega) ?_))))
    rw [hb, h4]
    have e : (dn48 pre ++ List.replicate (d :: rest).length 0).set (pre.length : Int).toNat ((d - 48) % 256) = dn48 (pre ++ [d]) ++ List.replicate rest.length 0 := by
      have : (pre.length : Int).toNat = (dn48 pre).length := by simp [dn48]
      rw [this, List.length_cons, set_mid_zero]
      have : (d - 48) % 256 = d - 48 := by omega
      rw [this]; simp [dn48]
    rw [e]
    exact h3
theorem of_is (s : ByteArray) (hs : s.size ≤ 100000) (hd : allD (S s) = true) : Ev (fun k => decimal_of.f k s) (dg (val (dn48 (S s)))) := by
  obtain ⟨t, ht, et⟩ := TrimLeft_is s (by unfold Fit; omega)
  have hl : t.size ≤ s.size := by rw [← S_len, ← S_len, et]; exact ltrim_len _
  have h1 : allD (S t) = true := by rw [et]; exact allD_ltrim hd
  have h2 := of_loop t (by unfold Fit; omega) h1 (S t) [] rfl
  have e : dn48 (S t) = dg (val (dn48 (S s))) := by rw [et, dn48_ltrim, dg_lead (allD_dig hd)]
  rw [← e]
  refine Ev.bind ht (Ev.pos (by omega) (Ev.pos (by omega) ?_))
  have e2 : ((t.size : Int)).toNat = (S t).length := by rw [S_len]; simp
  rw [e2]
  exact h2
theorem up_is (n c : Nat) (hn : (dg n).length ≤ 100000) (hc : c ≤ 100000) : decimal_digits_up.f (dg n) (c : Int) = some (dg (n * 10 ^ c)) := by
  unfold decimal_digits_up.f
  by_cases h : n = 0
  · subst h; simp [dg_zero]
  · have hl : (dg n).length ≠ 0 := by
      intro e; exact h (dg_eq_nil.1 (List.eq_nil_of_length_eq_zero e))
    have hw : wrap64 (((dg n).length : Int) + (c : Int)) = (((dg n).length + c : Nat) : Int) := by rw [wrap64_id (by omega) (by omega)]; omega
    rw [if_neg (by omega), hw, if_pos (by omega), if_pos (by omega), dg_mul_pow, if_neg h]
    have : (((dg n).length + c : Nat) : Int).toNat = (dg n).length + c := by omega
    rw [this]
    congr 1
    unfold copyAt
    rw [List.take_zero, List.nil_append, List.length_replicate]
    have h1 : min (dg n).length ((dg n).length + c - 0) = (dg n).length := by omega
    rw [h1, List.take_of_length_le (by omega), Nat.zero_add, List.drop_replicate]
    have : (dg n).length + c - (dg n).length = c := by omega
    rw [this]
def sgnc (m n : Nat) : Int := if m < n then -1 else if m = n then 0 else 1
theorem cmp_loop : ∀ (x y p : List Int) , Dig x → Dig y → x.length = y.length → p.length + x.length ≤ 100000 →
    Ev (fun k => decimal_digits_cmp.l0 k (p ++ x) (p ++ y) ((p ++ x).length : Int) (p.length : Int)) (sgnc (val x) (val y)) := by
  intro x
  induction x with
  | nil =>
    intro y p _ _ h _
    have : y = [] := List.eq_nil_of_length_eq_zero h.symm
    subst this
    exact Ev.up (Ev.neg (by simp) (Ev.val (by simp [sgnc])))
  | cons a x ih =>
    intro y p hx hy h hl
    cases y with
    | nil => simp at h
    | cons b y =>
      have h' : x.length = y.length := by simpa using h
      simp only [List.length_cons] at hl
      have ha : rd (p ++ a :: x) (p.length : Int) = a := by rw [rd_nat, getD_append_mid]
      have hb : rd (p ++ b :: y) (p.length : Int) = b := by rw [rd_nat, getD_append_mid]
      have vx := val_lt hx.tail
      have vy := val_lt hy.tail
      have a9 := hx.head
      have b9 := hy.head
      rw [h'] at vx
      refine Ev.up (Ev.pos (by simp; omega) (Ev.pos (by omega) (Ev.pos (by simp; omega) (Ev.pos (by simp; omega) ?_))))
      rw [ha, hb]
      refine Ev.split (fun e => ?_) (fun e => Ev.split (fun e2 => Ev.val ?_) (fun e2 => Ev.val ?_))
      · subst e
        have h3 := ih y (p ++ [a]) hx.tail hy.tail h' (by simp; omega)
        have h4 : wrap64 ((p.length : Int) + 1) = ((p ++ [a]).length : Int) := by rw [wrap64_id (by omega) (by omega)]; simp
        rw [h4]
        have e3 : sgnc (val (a :: x)) (val (a :: y)) = sgnc (val x) (val y) := by
          rw [val_cons, val_cons, h']
          unfold sgnc
          by_cases c1 : val x < val y
          · rw [if_pos c1, if_pos (by omega)]
          · rw [if_neg c1, if_neg (by omega)]
            by_cases c2 : val x = val y
            · rw [if_pos c2, if_pos (by omega)]
            · rw [if_neg c2, if_neg (by omega)]
        rw [e3]
        simpa using h3
      · have h5 : (a.toNat + 1) * 10 ^ y.length ≤ b.toNat * 10 ^ y.length := Nat.mul_le_mul_right _ (by omega)
        rw [Nat.add_mul] at h5
        rw [sgnc, if_pos (by rw [val_cons, val_cons, h']; omega)]
      · have h5 : (b.toNat + 1) * 10 ^ y.length ≤ a.toNat * 10 ^ y.length := Nat.mul_le_mul_right _ (by omega)
        rw [Nat.add_mul] at h5
        rw [sgnc, if_neg (by rw [val_cons, val_cons, h']; omega), if_neg (by rw [val_cons, val_cons, h']; omega)]
theorem length_lt_of {m n : Nat} (h : (dg m).length < (dg n).length) : m < n := by
  rcases Nat.lt_or_ge m n with h1 | h1
  · exact h1
  · have h2 : n < 10 ^ (dg m).length := Nat.lt_of_le_of_lt h1 (lt_of_length_dg m)
    have := (length_dg_iff n (dg m).length).2 h2
    omega
theorem cmp_is (m n : Nat) (hm : (dg m).length ≤ 100000) (hn : (dg n).length ≤ 100000) : Ev (fun k => decimal_digits_cmp.f k (dg m) (dg n)) (sgnc m n) := by
  refine Ev.split (fun h => ?_) (fun h => Ev.split (fun h1 => Ev.val ?_) (fun h1 => Ev.val ?_))
  · have := cmp_loop (dg m) (dg n) [] (Dig_dg m) (Dig_dg n) (by omega) (by simpa using hm)
    rw [val_dg, val_dg] at this
    exact this
  · have := length_lt_of (m := m) (n := n) (by omega)
    rw [sgnc, if_pos this]
  · have := length_lt_of (m := n) (n := m) (by omega)
    rw [sgnc, if_neg (by omega), if_neg (by omega)]
end Go.Proofs.YtapbdblpdkoacaaDoor.Q
set_option linter.unusedVariables false
set_option linter.unusedSimpArgs false
namespace Go.Proofs.YtapbdblpdkoacaaDoor.Q
open Go.RowKit Go.Proofs.YtapbdblpdkoacaaDoorW.PrintWords Go.Proofs.YtapbdblpdkoacaaDoor.P
def padL (w : Nat) (l : List Int) : List Int := List.replicate (w - l.length) 0 ++ l
theorem val_padL (w : Nat) (l : List Int) : val (padL w l) = val l := by rw [padL, val_append, val_zeros]; simp
theorem Dig_padL (w : Nat) {l : List Int} (h : Dig l) : Dig (padL w l) := (Dig.zeros _).append h
theorem snoc_cases (l : List Int) (h : l ≠ []) : ∃ m d, l = m ++ [d] := ⟨l.dropLast, l.getLast h, (List.dropLast_concat_getLast h).symm⟩
end Go.Proofs.YtapbdblpdkoacaaDoor.Q
set_option linter.unusedVariables false
set_option linter.unusedSimpArgs false
namespace Go.Proofs.YtapbdblpdkoacaaDoor.Q
open Go.RowKit Go.Proofs.YtapbdblpdkoacaaDoorW.PrintWords Go.Proofs.YtapbdblpdkoacaaDoor.P
theorem awake_is : Ev (fun k => idiomlaw02_awake.f k) true := Ev.of (fun k => idiomlaw02_awake.mono k) (k := 60) (by decide +kernel)
theorem chk_len {n : Bool} {a b : List Int} (h : chk n a b = 0) : a.length + b.length ≤ 40 := by
  unfold chk okD at h
  by_cases h1 : a.length + b.length ≤ 40
  · exact h1
  · simp [h1] at h
end Go.Proofs.YtapbdblpdkoacaaDoor.Q
set_option linter.unusedVariables false
set_option linter.unusedSimpArgs false
namespace Go.Proofs.YtapbdblpdkoacaaDoor.Q
open Go.RowKit Go.Proofs.YtapbdblpdkoacaaDoorW.PrintWords Go.Proofs.YtapbdblpdkoacaaDoor.P
structure Ans where
  neg : Bool
  a : List Int
  b : List Int
  err : Int
def bad (e : Int) : Ans := ⟨false, [], [], e⟩
def Tells (r : Bool × ByteArray × ByteArray × Int) (x : Ans) : Prop := r.1 = x.neg ∧ S r.2.1 = x.a ∧ S r.2.2.1 = x.b ∧ r.2.2.2 = x.err
theorem Tells.bad (e : Int) : Tells (false, (⟨#[]⟩ : ByteArray), (⟨#[]⟩ : ByteArray), e) (bad e) := ⟨rfl, rfl, rfl, rfl⟩
theorem Tells.eq {r r' : Bool × ByteArray × ByteArray × Int} {x : Ans} (h : Tells r x) (h' : Tells r' x) : r = r' := by
  obtain ⟨a, b, c, d⟩ := r
  obtain ⟨a', b', c', d'⟩ := r'
  obtain ⟨h1, h2, h3, h4⟩ := h
  obtain ⟨k1, k2, k3, k4⟩ := h'
  simp only at h1 h2 h3 h4 k1 k2 k3 k4
  rw [h1, S_inj (h2.trans k2.symm), S_inj (h3.trans k3.symm), h4, k1, k4]
end Go.Proofs.YtapbdblpdkoacaaDoor.Q
set_option linter.unusedVariables false
set_option linter.unusedSimpArgs false
namespace Go.Proofs.YtapbdblpdkoacaaDoor.Q
open Go.RowKit Go.Proofs.YtapbdblpdkoacaaDoorW.PrintWords Go.Proofs.YtapbdblpdkoacaaDoor.P
theorem padL_len_max (w : Nat) (l : List Int) : (padL w l).length = max w l.length := by simp [padL]; omega
def mk (neg : Bool) (N p : Nat) : Ans :=
  if 40 < (padL (p + 1) (dg N)).length then bad 3
  else ⟨neg && decide (N ≠ 0), (up48 (padL (p + 1) (dg N))).take ((padL (p + 1) (dg N)).length - p), (up48 (padL (p + 1) (dg N))).drop ((padL (p + 1) (dg N)).length - p), 0⟩
theorem up48_append (l m : List Int) : up48 (l ++ m) = up48 l ++ up48 m := by simp [up48]
theorem up48_zeros (n : Nat) : up48 (List.replicate n 0) = List.replicate n 48 := by simp [up48]
theorem Dig_up {l : List Int} (h : Dig l) : ∀ d ∈ up48 l, 0 ≤ d ∧ d ≤ 255 := by
  intro d hd
  obtain ⟨x, hx, rfl⟩ := List.mem_map.1 hd
  have := h x hx
  omega
theorem sub_take {l : List Int} {P : Int → Prop} (h : ∀ d ∈ l, P d) (n : Nat) : ∀ d ∈ l.take n, P d := fun d hd => h d (List.mem_of_mem_take hd)
theorem sub_drop {l : List Int} {P : Int → Prop} (h : ∀ d ∈ l, P d) (n : Nat) : ∀ d ∈ l.drop n, P d := fun d hd => h d (List.mem_of_mem_drop hd)
theorem made_l1 (neg : Bool) (l : List Int) (p : Nat) (dl : Dig l) (hl : l.length ≤ 100000) (hp : p ≤ 100000) (r : Bool × ByteArray × ByteArray × Int) : ∀ (rest pre acc : List Int), l = pre ++ rest → acc.length + rest.length ≤ 200000 →
    p ≤ acc.length + rest.length →
    r = (neg && decide (0 < l.length), strOfNums ((acc ++ up48 rest).take (acc.length + rest.length - p)), strOfNums ((acc ++ up48 rest).drop (acc.length + rest.length - p)), 0) →
    Ev (fun k => decimal_made.l1 k neg l (p : Int) acc l (l.length : Int) (pre.length : Int)) r := by
  intro rest
  induction rest with
  | nil =>
    intro pre acc h ha hpa hr
    have hl' : l.length = pre.length := by rw [h]; simp
    simp only [List.length_nil, Nat.add_zero] at ha hpa hr
    have hw : wrap64 ((acc.length : Int) - (p : Int)) = ((acc.length - p : Nat) : Int) := by rw [wrap64_id (by omega) (by omega)]; omega
    have hn : ((acc.length - p : Nat) : Int).toNat = acc.length - p := by omega
    refine Ev.up (Ev.neg (by omega) ?_)
    rw [hw, hn]
    simp only [up48, List.map_nil, List.append_nil] at hr
    refine Ev.split (fun h1 => Ev.pos (by omega) (Ev.pos (by omega) (Ev.val ?_))) (fun h1 => Ev.pos (by omega) (Ev.pos (by omega) (Ev.val ?_)))
    · rw [hr, h1, Bool.true_and]
      have : decide ((l.length : Int) > 0) = decide (0 < l.length) := by
        rw [decide_eq_decide]; omega
      rw [this]
    · rw [hr]
      simp only [Bool.not_eq_true] at h1
      rw [h1, Bool.false_and]
  | cons d rest ih =>
    intro pre acc h ha hpa hr
    have hl' : l.length = pre.length + (rest.length + 1) := by rw [h]; simp
    have hd : 0 ≤ d ∧ d ≤ 9 := dl d (by rw [h]; simp)
    have hrd : rd l (pre.length : Int) = d := by rw [rd_nat, h, getD_append_mid]
    have hi : wrap64 ((pre.length : Int) + 1) = (((pre ++ [d]).length : Nat) : Int) := by rw [wrap64_id (by omega) (by omega)]; simp
    simp only [List.length_cons] at ha hpa hr
    refine Ev.up (Ev.pos (by omega) (Ev.pos (by omega) (Ev.pos (by omega) (Ev.pos (by omega) ?_))))
    rw [hrd, hi]
    have e : (48 + d) % 256 = d + 48 := by omega
    rw [e]
    refine ih (pre ++ [d]) (acc ++ [d + 48]) (by rw [h]; simp) (by simp; omega) (by simp; omega) ?_
    rw [hr]
    have e1 : acc ++ [d + 48] ++ up48 rest = acc ++ up48 (d :: rest) := by simp [up48]
    have e2 : (acc ++ [d + 48]).length + rest.length = acc.length + (rest.length + 1) := by simp; omega
    rw [e1, e2]
theorem made_l0 (neg : Bool) (l : List Int) (p : Nat) (r : Bool × ByteArray × ByteArray × Int) (c : Int) (hc : c ≤ 100001) : ∀ (m i : Nat) (acc : List Int), c ≤ (i : Int) + m → (i : Int) + m ≤ max c i → acc.length + m ≤ 200000 →
    Ev (fun k => decimal_made.l1 k neg l (p : Int) (acc ++ List.replicate m 48) l (l.length : Int) 0) r →
    Ev (fun k => decimal_made.l0 k neg l (p : Int) acc c (i : Int)) r := by
  intro m
  induction m with
  | zero =>
    intro i acc h1 h2 ha h
    simp at h
    exact Ev.up (Ev.neg (by omega) h)
  | succ m ih =>
    intro i acc h1 h2 ha h
    have hi : wrap64 ((i : Int) + 1) = ((i + 1 : Nat) : Int) := by rw [wrap64_id (by omega) (by omega)]; omega
    refine Ev.up (Ev.pos (by omega) (Ev.pos (by omega) ?_))
    rw [hi]
    refine ih (i + 1) (acc ++ [48]) (by omega) (by omega) (by simp; omega) ?_
    have : acc ++ [48] ++ List.replicate m 48 = acc ++ List.replicate (m + 1) 48 := by rw [List.replicate_succ]; simp
    rw [this]; exact h
theorem mx_int (a b : Int) : mx a b = max a b := by unfold mx; split <;> omega
theorem made_is (neg : Bool) (N p : Nat) (hN : (dg N).length ≤ 100000) (hp : p ≤ 100000) : ∃ r, Ev (fun k => decimal_made.f k neg (dg N) (p : Int)) r ∧ Tells r (mk neg N p) := by
  have hw : wrap64 (((dg N).length : Int) - (p : Int)) = ((dg N).length : Int) - (p : Int) := wrap64_id (by omega) (by omega)
  have hL : (padL (p + 1) (dg N)).length = max (p + 1) (dg N).length := padL_len_max _ _
  have hw2 : wrap64 (mx (mx (wrap64 (((dg N).length : Int) - (p : Int))) 0) 1 + (p : Int)) = (max (p + 1) (dg N).length : Nat) := by
    rw [hw, mx_int, mx_int, wrap64_id (by omega) (by omega)]; omega
  unfold mk
  by_cases h : 40 < (padL (p + 1) (dg N)).length
  · rw [if_pos h]
    exact ⟨_, Ev.pos (by rw [hw2]; omega) (Ev.val rfl), Tells.bad 3⟩
  · rw [if_neg h]
    have hw3 : wrap64 (wrap64 ((p : Int) + 1) - ((dg N).length : Int)) = ((p : Int) + 1) - ((dg N).length : Int) := by
      rw [wrap64_id (x := (p : Int) + 1) (by omega) (by omega), wrap64_id (by omega) (by omega)]
    have e0 : List.replicate (p + 1 - (dg N).length) 48 ++ up48 (dg N) = up48 (padL (p + 1) (dg N)) := by rw [padL, up48_append, up48_zeros]
    have e1 : (List.replicate (p + 1 - (dg N).length) (48 : Int)).length + (dg N).length = (padL (p + 1) (dg N)).length := by rw [hL]; simp; omega
    refine ⟨(neg && decide (0 < (dg N).length), strOfNums ((up48 (padL (p + 1) (dg N))).take ((padL (p + 1) (dg N)).length - p)), strOfNums ((up48 (padL (p + 1) (dg N))).drop ((padL (p + 1) (dg N)).length - p)), 0), Ev.neg (by rw [hw2]; omega) (Ev.pos (by omega) ?_), ?_⟩
    · rw [hw3]
      refine made_l0 neg (dg N) p _ _ (by omega) (p + 1 - (dg N).length) 0 [] (by omega) (by omega) (by simp; omega) ?_
      refine made_l1 neg (dg N) p (Dig_dg N) hN hp _ (dg N) [] _ rfl ?_ ?_ ?_
      · rw [List.nil_append, e1]; omega
      · rw [List.nil_append, e1]; omega
      · rw [List.nil_append, e1, e0]
    · have dP := Dig_up (Dig_padL (p + 1) (Dig_dg N))
      have hne : decide (0 < (dg N).length) = decide (N ≠ 0) := by
        rw [decide_eq_decide, List.length_pos_iff, Ne, dg_eq_nil]
      refine ⟨by rw [hne], ?_, ?_, rfl⟩
      · exact S_str (sub_take dP _)
      · exact S_str (sub_drop dP _)
end Go.Proofs.YtapbdblpdkoacaaDoor.Q
set_option linter.unusedVariables false
set_option linter.unusedSimpArgs false
namespace Go.Proofs.YtapbdblpdkoacaaDoor.Q
open Go.RowKit Go.Proofs.YtapbdblpdkoacaaDoorW.PrintWords Go.Proofs.YtapbdblpdkoacaaDoor.P
theorem chk_fm {n : Bool} {a b : List Int} (h : chk n a b = 0) : fm n a b = true := by
  unfold chk okD at h
  by_cases h1 : fm n a b = true
  · exact h1
  · simp [h1] at h
theorem chk_of {n : Bool} {a b : List Int} (h : fm n a b = true) (hl : a.length + b.length ≤ 40) : chk n a b = 0 := by
  simp [chk, okD, h, hl]
theorem fm_parts {n : Bool} {a b : List Int} (h : fm n a b = true) : a ≠ [] ∧ allD a = true ∧ allD b = true := by
  simp only [fm, Bool.and_eq_true] at h
  refine ⟨?_, h.1.1.1.2, h.1.1.2⟩
  intro e
  rw [e] at h
  simp at h
end Go.Proofs.YtapbdblpdkoacaaDoor.Q
set_option linter.unusedVariables false
set_option linter.unusedSimpArgs false
namespace Go.Proofs.YtapbdblpdkoacaaDoor.Q
open Go.RowKit Go.Proofs.YtapbdblpdkoacaaDoorW.PrintWords Go.Proofs.YtapbdblpdkoacaaDoor.P
def num (a b : List Int) : Nat := val (dn48 (a ++ b))
theorem allD_append {a b : List Int} (ha : allD a = true) (hb : allD b = true) : allD (a ++ b) = true := by
  rw [allD, List.all_append]; rw [allD] at ha hb; simp [ha, hb]
structure Fine (n : Bool) (a b : List Int) : Prop where
  ok : chk n a b = 0
theorem Fine.len {n : Bool} {a b : List Int} (h : Fine n a b) : a.length + b.length ≤ 40 := chk_len h.ok
theorem Fine.digits {n : Bool} {a b : List Int} (h : Fine n a b) : allD (a ++ b) = true :=
  allD_append (fm_parts (chk_fm h.ok)).2.1 (fm_parts (chk_fm h.ok)).2.2
theorem Fine.lt {n : Bool} {a b : List Int} (h : Fine n a b) : num a b < 10 ^ (a.length + b.length) := by
  have := val_lt (allD_dig h.digits)
  rwa [dn48_len, List.length_append] at this
theorem num_len {n : Bool} {a b : List Int} (h : Fine n a b) (c : Nat) : (dg (num a b * 10 ^ c)).length ≤ 40 + c := by
  refine (length_dg_iff _ _).2 (Nat.lt_of_lt_of_le (Nat.mul_lt_mul_of_pos_right h.lt (Nat.pow_pos (by omega))) ?_)
  rw [← Nat.pow_add]
  exact Nat.pow_le_pow_right (by omega) (by have := h.len; omega)
theorem of_num (n : Bool) (a b : ByteArray) (h : Fine n (S a) (S b)) : Ev (fun k => decimal_of.f k (a ++ b)) (dg (num (S a) (S b))) := by
  have hl := h.len
  rw [S_len, S_len] at hl
  have := of_is (a ++ b) (by rw [ByteArray.size_append]; omega) (by rw [S_append]; exact h.digits)
  rw [S_append] at this
  exact this
theorem up_num (n : Bool) (a b : ByteArray) (h : Fine n (S a) (S b)) (c : Nat) (hc : c ≤ 1000) : decimal_digits_up.f (dg (num (S a) (S b))) (c : Int) = some (dg (num (S a) (S b) * 10 ^ c)) := by
  have := num_len h 0
  rw [Nat.pow_zero, Nat.mul_one] at this
  exact up_is _ c (by omega) (by omega)
theorem mx_nat (x y : Nat) : mx (x : Int) (y : Int) = ((max x y : Nat) : Int) := by rw [mx_int]; omega
theorem aligned_is (n : Bool) (a b : ByteArray) (m : Bool) (c d : ByteArray) (h : Fine n (S a) (S b)) (h' : Fine m (S c) (S d)) :
    Ev (fun k => decimal_aligned.f k n a b m c d) (dg (num (S a) (S b) * 10 ^ (max b.size d.size - b.size)), dg (num (S c) (S d) * 10 ^ (max b.size d.size - d.size)), ((max b.size d.size : Nat) : Int)) := by
  have hl := h.len
  have hl' := h'.len
  rw [S_len, S_len] at hl hl'
  have w1 : wrap64 (((max b.size d.size : Nat) : Int) - (b.size : Int)) = ((max b.size d.size - b.size : Nat) : Int) := by rw [wrap64_id (by omega) (by omega)]; omega
  have w2 : wrap64 (((max b.size d.size : Nat) : Int) - (d.size : Int)) = ((max b.size d.size - d.size : Nat) : Int) := by rw [wrap64_id (by omega) (by omega)]; omega
  refine Ev.pos (by omega) (Ev.bind (of_num n a b h) (Ev.bindV (a := dg (num (S a) (S b) * 10 ^ (max b.size d.size - b.size))) ?_ (Ev.pos (by omega) (Ev.bind (of_num m c d h') (Ev.bindV (a := dg (num (S c) (S d) * 10 ^ (max b.size d.size - d.size))) ?_ (Ev.val ?_))))))
  · rw [mx_nat, w1]; exact up_num n a b h _ (by omega)
  · rw [mx_nat, w2]; exact up_num m c d h' _ (by omega)
  · rw [mx_nat]
end Go.Proofs.YtapbdblpdkoacaaDoor.Q
set_option linter.unusedVariables false
set_option linter.unusedSimpArgs false
namespace Go.Proofs.YtapbdblpdkoacaaDoor.Q
open Go.RowKit Go.Proofs.YtapbdblpdkoacaaDoorW.PrintWords Go.Proofs.YtapbdblpdkoacaaDoor.P
def err2 (n : Bool) (a b : List Int) (m : Bool) (c d : List Int) : Int := if chk n a b = 0 then chk m c d else chk n a b
theorem err2_fine {n : Bool} {a b : List Int} {m : Bool} {c d : List Int} (h : err2 n a b m c d = 0) : Fine n a b ∧ Fine m c d := by
  unfold err2 at h
  by_cases h1 : chk n a b = 0
  · rw [if_pos h1] at h; exact ⟨⟨h1⟩, ⟨h⟩⟩
  · rw [if_neg h1] at h; exact absurd h h1
theorem both_is (n : Bool) (a b : ByteArray) (m : Bool) (c d : ByteArray) (ha : Fit a) (hb : Fit b) (hc : Fit c) (hd : Fit d) : Ev (fun k => decimal_both.f k n a b m c d) (err2 n (S a) (S b) m (S c) (S d)) := by
  unfold err2
  by_cases h : chk n (S a) (S b) = 0
  · rw [if_pos h]
    exact Ev.bind (Check_is n a b ha hb) (Ev.pos h (Check_is m c d hc hd).tail)
  · rw [if_neg h]
    exact Ev.bind (Check_is n a b ha hb) (Ev.neg h (Ev.val rfl))
def nA (b : ByteArray) (d : ByteArray) (x : Nat) : Nat := x * 10 ^ (max b.size d.size - b.size)
def nB (b : ByteArray) (d : ByteArray) (x : Nat) : Nat := x * 10 ^ (max b.size d.size - d.size)
def cmpA (n m : Bool) (A B : Nat) : Int := if (n && m) = true then sgnc B A else if n = true then -1 else if m = true then 1 else sgnc A B
section
theorem Compare_is (n : Bool) (a b : ByteArray) (m : Bool) (c d : ByteArray) (ha : Fit a) (hb : Fit b) (hc : Fit c) (hd : Fit d) (A B : Nat) (hA : A = nA b d (num (S a) (S b))) (hB : B = nB b d (num (S c) (S d))) :
    Ev (fun k => decimal_Compare.f k n a b m c d) (if err2 n (S a) (S b) m (S c) (S d) = 0 then (cmpA n m A B, 0) else (0, err2 n (S a) (S b) m (S c) (S d))) := by
  by_cases h : err2 n (S a) (S b) m (S c) (S d) = 0
  · obtain ⟨f1, f2⟩ := err2_fine h
    have l1 := f1.len
    have l2 := f2.len
    rw [S_len, S_len] at l1 l2
    have lA : (dg A).length ≤ 200 := by rw [hA, nA]; exact Nat.le_trans (num_len f1 _) (by omega)
    have lB : (dg B).length ≤ 200 := by rw [hB, nB]; exact Nat.le_trans (num_len f2 _) (by omega)
    have al := aligned_is n a b m c d f1 f2
    rw [← nA, ← nB, ← hA, ← hB] at al
    rw [if_pos h]
    have j0 : ∀ x : Bool, x = (n && m) → Ev (fun k => decimal_Compare.j0 k (dg A) (dg B) x n a b m c d) (cmpA n m A B, 0) := by
      intro x hx
      unfold cmpA
      refine Ev.up (Ev.split (fun h1 => ?_) (fun h1 => Ev.split (fun h2 => Ev.val ?_) (fun h2 => Ev.split (fun h3 => Ev.val ?_) (fun h3 => ?_))))
      · rw [← hx, if_pos h1]
        exact Ev.bind (cmp_is B A (by omega) (by omega)) (Ev.val rfl)
      · rw [← hx, if_neg h1, if_pos h2]
      · rw [← hx, if_neg h1, if_neg h2, if_pos h3]
      · rw [← hx, if_neg h1, if_neg h2, if_neg h3]
        exact Ev.bind (cmp_is A B (by omega) (by omega)) (Ev.val rfl)
    refine Ev.bind (both_is n a b m c d ha hb hc hd) (Ev.pos h (Ev.bind al (Ev.split (fun h1 => j0 _ ?_) (fun h1 => j0 _ ?_))))
    · rw [h1]; rfl
    · simp only [Bool.not_eq_true] at h1; rw [h1]; rfl
  · rw [if_neg h]
    exact Ev.bind (both_is n a b m c d ha hb hc hd) (Ev.neg h (Ev.val rfl))
end
end Go.Proofs.YtapbdblpdkoacaaDoor.Q
set_option linter.unusedVariables false
set_option linter.unusedSimpArgs false
namespace Go.Proofs.YtapbdblpdkoacaaDoor.Q
open Go.RowKit Go.Proofs.YtapbdblpdkoacaaDoorW.PrintWords Go.Proofs.YtapbdblpdkoacaaDoor.P
theorem num_len0 {n : Bool} {a b : List Int} (h : Fine n a b) : (dg (num a b)).length ≤ 40 := by
  have := num_len h 0
  rwa [Nat.pow_zero, Nat.mul_one] at this
end Go.Proofs.YtapbdblpdkoacaaDoor.Q
set_option linter.unusedVariables false
set_option linter.unusedSimpArgs false
namespace Go.Proofs.YtapbdblpdkoacaaDoor.Q
open Go.RowKit Go.Proofs.YtapbdblpdkoacaaDoorW.PrintWords Go.Proofs.YtapbdblpdkoacaaDoor.P
theorem val_zero {l : List Int} (h : Dig l) : val l = 0 ↔ l.all (· == 0) = true := by
  induction l with
  | nil => simp [val]
  | cons d l ih =>
    rw [val_cons, List.all_cons, Bool.and_eq_true, ← ih h.tail]
    have h0 := h.head
    have hp : 0 < 10 ^ l.length := Nat.pow_pos (by omega)
    constructor
    · intro e
      have h1 : d.toNat * 10 ^ l.length = 0 := by omega
      have h2 : d.toNat = 0 := by rcases Nat.mul_eq_zero.1 h1 with h | h <;> omega
      have h3 : d = 0 := by omega
      exact ⟨by rw [h3]; rfl, by omega⟩
    · rintro ⟨e1, e2⟩
      have h3 : d = 0 := by simpa using e1
      rw [h3, e2]; simp
theorem all0_dn (l : List Int) : all0 l = (dn48 l).all (· == 0) := by
  induction l with
  | nil => rfl
  | cons d l ih =>
    show ((d == 48) && all0 l) = ((d - 48 == 0) && (dn48 l).all (· == 0))
    rw [ih]; congr 1
    rw [Bool.eq_iff_iff]; simp; omega
theorem num_zero {n : Bool} {a b : List Int} (h : Fine n a b) : num a b = 0 ↔ (all0 a && all0 b) = true := by
  rw [num, val_zero (allD_dig h.digits), ← all0_dn]
  simp [all0]
theorem Fine.nz {n : Bool} {a b : List Int} (h : Fine n a b) (hn : n = true) : num a b ≠ 0 := by
  intro e
  have h1 := (num_zero h).1 e
  have h2 := chk_fm h.ok
  simp [fm, hn, h1] at h2
theorem Fine.head {n : Bool} {a b : List Int} (h : Fine n a b) : 1 < a.length → rd a 0 ≠ 48 := by
  intro hl e
  have h2 := chk_fm h.ok
  simp [fm, hl, e] at h2
theorem Fine.ne {n : Bool} {a b : List Int} (h : Fine n a b) : a ≠ [] := (fm_parts (chk_fm h.ok)).1
theorem Fine.da {n : Bool} {a b : List Int} (h : Fine n a b) : allD a = true := (fm_parts (chk_fm h.ok)).2.1
theorem Fine.db {n : Bool} {a b : List Int} (h : Fine n a b) : allD b = true := (fm_parts (chk_fm h.ok)).2.2
theorem Fine.mk' {n : Bool} {a b : List Int} (hl : a.length + b.length ≤ 40) (h0 : a ≠ []) (ha : allD a = true) (hb : allD b = true) (hh : 1 < a.length → rd a 0 ≠ 48) (hn : n = true → ¬ (all0 a && all0 b) = true) : Fine n a b := by
  refine ⟨chk_of ?_ hl⟩
  unfold fm
  rw [isEmpty_false h0, ha, hb]
  have h1 : (decide (1 < a.length) && rd a 0 == 48) = false := by
    by_cases h : 1 < a.length
    · have := hh h; simp [this]
    · simp [h]
  have h2 : (n && (all0 a && all0 b)) = false := by
    cases n with
    | false => rfl
    | true => have := hn rfl; simp only [Bool.not_eq_true] at this; rw [this]; rfl
  rw [h1, h2]; rfl
def Z (n : Bool) (N : Nat) : Int := if n = true then -(N : Int) else (N : Int)
def sgI (x : Int) : Int := if x < 0 then -1 else if x = 0 then 0 else 1
def mkI (z : Int) (p : Nat) : Ans := mk (decide (z < 0)) z.natAbs p
theorem Z_true (N : Nat) : Z true N = -(N : Int) := rfl
theorem Z_false (N : Nat) : Z false N = (N : Int) := rfl
theorem mk_mkI (n : Bool) (N p : Nat) : mk n N p = mkI (Z n N) p := by
  unfold mkI
  cases n with
  | false =>
    rw [Z_false, Int.natAbs_natCast]
    have : decide ((N : Int) < 0) = false := decide_eq_false (by omega)
    rw [this]
  | true =>
    rw [Z_true, Int.natAbs_neg, Int.natAbs_natCast]
    by_cases h : N = 0
    · subst h; unfold mk; rfl
    · have : decide (-(N : Int) < 0) = true := decide_eq_true (by omega)
      rw [this]
theorem sgnc_I (A B : Nat) : sgnc A B = sgI ((A : Int) - (B : Int)) := by
  unfold sgnc sgI
  split
  · rw [if_pos (by omega)]
  · split
    · rw [if_neg (by omega), if_pos (by omega)]
    · rw [if_neg (by omega), if_neg (by omega)]
theorem cmpA_I (n m : Bool) (A B : Nat) (hn : n = true → A ≠ 0) (hm : m = true → B ≠ 0) : cmpA n m A B = sgI (Z n A - Z m B) := by
  unfold cmpA
  cases n <;> cases m
  · rw [if_neg (by decide), if_neg (by decide), if_neg (by decide), sgnc_I]; rfl
  · have := hm rfl
    rw [if_neg (by decide), if_neg (by decide), if_pos rfl, Z_true, Z_false, sgI, if_neg (by omega), if_neg (by omega)]
  · have := hn rfl
    have e : -(A : Int) - (B : Int) < 0 := by omega
    rw [if_neg (by decide), if_pos rfl, Z_true, Z_false]; unfold sgI; rw [if_pos e]
  · rw [if_pos (show (true && true) = true from rfl), sgnc_I, Z_true, Z_true, show (B : Int) - (A : Int) = -(A : Int) - -(B : Int) by omega]
theorem Z_scale (n : Bool) (N t : Nat) : Z n (N * t) = Z n N * (t : Int) := by
  cases n
  · rw [Z_false, Z_false]; simp
  · rw [Z_true, Z_true]; simp [Int.neg_mul]
theorem allD_up {l : List Int} (h : Dig l) : allD (up48 l) = true := by
  rw [allD, List.all_eq_true]
  intro x hx
  obtain ⟨d, hd, rfl⟩ := List.mem_map.1 hx
  have := h d hd
  simp [isD]; omega
theorem up48_take (l : List Int) (n : Nat) : (up48 l).take n = up48 (l.take n) := by simp [up48, List.map_take]
theorem up48_drop (l : List Int) (n : Nat) : (up48 l).drop n = up48 (l.drop n) := by simp [up48, List.map_drop]
theorem rd_up (d : Int) (l : List Int) : rd (up48 (d :: l)) 0 = d + 48 := rfl
theorem mk_bad {n : Bool} {N p : Nat} (h : (mk n N p).err ≠ 0) : mk n N p = bad 3 := by
  unfold mk at *
  split
  · rfl
  · rename_i h1; rw [if_neg h1] at h; exact absurd rfl h
theorem mk_good {n : Bool} {N p : Nat} (h : (mk n N p).err = 0) :
    Fine (mk n N p).neg (mk n N p).a (mk n N p).b ∧ num (mk n N p).a (mk n N p).b = N ∧ (mk n N p).b.length = p ∧ (mk n N p).neg = (n && decide (N ≠ 0)) := by
  unfold mk at *
  split
  · rename_i h1; rw [if_pos h1] at h; exact absurd h (by show (3 : Int) ≠ 0; omega)
  · rename_i h1
    have hL : (padL (p + 1) (dg N)).length = max (p + 1) (dg N).length := padL_len_max _ _
    have dL : Dig (padL (p + 1) (dg N)) := Dig_padL _ (Dig_dg N)
    have vL : val (padL (p + 1) (dg N)) = N := by rw [val_padL, val_dg]
    have hhead : (p + 1) < (padL (p + 1) (dg N)).length → ∀ d m, padL (p + 1) (dg N) = d :: m → d ≠ 0 := by
      intro h2 d m e
      have h3 : padL (p + 1) (dg N) = dg N := by
        rw [padL, show p + 1 - (dg N).length = 0 by omega]; rfl
      rw [h3] at e
      exact dg_head e
    generalize padL (p + 1) (dg N) = L at *
    have hp : p < L.length := by omega
    have e1 : up48 (L.take (L.length - p)) ++ up48 (L.drop (L.length - p)) = up48 L := by rw [← up48_append, List.take_append_drop]
    have hnum : num (up48 (L.take (L.length - p))) (up48 (L.drop (L.length - p))) = N := by rw [num, e1, dn_up, vL]
    have la : (up48 (L.take (L.length - p))).length = L.length - p := by rw [up48_len, List.length_take]; omega
    have lb : (up48 (L.drop (L.length - p))).length = p := by rw [up48_len, List.length_drop]; omega
    have Da := allD_up (dL.take (L.length - p))
    have Db := allD_up (dL.drop (L.length - p))
    show Fine _ _ _ ∧ _
    dsimp only
    rw [up48_take, up48_drop]
    refine ⟨?_, hnum, lb, rfl⟩
    refine Fine.mk' (by rw [la, lb]; omega) (by intro e; rw [e] at la; simp at la; omega) Da Db ?_ ?_
    · intro hl
      rw [la] at hl
      have hpos : 0 < L.length - p := by omega
      cases L with
      | nil => simp at hp
      | cons d m =>
        have h3 := hhead (by omega) d m rfl
        obtain ⟨k, hk⟩ : ∃ k, (d :: m).length - p = k + 1 := ⟨(d :: m).length - p - 1, by omega⟩
        rw [hk, List.take_succ_cons, rd_up]
        omega
    · intro hn h0
      have hNz : N ≠ 0 := by simpa using (Bool.and_eq_true_iff.1 hn).2
      apply hNz
      rw [← hnum, num, val_zero (allD_dig (allD_append Da Db)), ← all0_dn]
      rw [← h0]; simp [all0]
theorem Z_sign (n : Bool) (N : Nat) : Z (n && decide (N ≠ 0)) N = Z n N := by
  by_cases h : N = 0
  · subst h; cases n <;> rfl
  · simp [h]
theorem Z_abs (z : Int) : Z (decide (z < 0)) z.natAbs = z := by
  by_cases h : z < 0
  · rw [decide_eq_true h, Z_true]; omega
  · rw [decide_eq_false h, Z_false]; omega
def zn (n : Bool) (a b : List Int) : Int := Z n (num a b)
theorem mkI_good {z : Int} {p : Nat} (h : (mkI z p).err = 0) :
    Fine (mkI z p).neg (mkI z p).a (mkI z p).b ∧ zn (mkI z p).neg (mkI z p).a (mkI z p).b = z ∧ (mkI z p).b.length = p := by
  obtain ⟨h1, h2, h3, h4⟩ := mk_good h
  refine ⟨h1, ?_, h3⟩
  show Z (mk (decide (z < 0)) z.natAbs p).neg (num (mk (decide (z < 0)) z.natAbs p).a (mk (decide (z < 0)) z.natAbs p).b) = z
  rw [h2, h4, Z_sign, Z_abs]
end Go.Proofs.YtapbdblpdkoacaaDoor.Q
set_option linter.unusedVariables false
set_option linter.unusedSimpArgs false
namespace Go.Proofs.YtapbdblpdkoacaaDoor.Q
open Go.RowKit Go.Proofs.YtapbdblpdkoacaaDoorW.PrintWords Go.Proofs.YtapbdblpdkoacaaDoor.P
theorem rtrim_spec (l : List Int) : ∃ k, l = rtrim l ++ List.replicate k 48 := by
  induction h : l.length generalizing l with
  | zero => exact ⟨0, by rw [List.eq_nil_of_length_eq_zero h]; rfl⟩
  | succ n ih =>
    obtain ⟨m, d, rfl⟩ := snoc_cases l (by intro e; rw [e] at h; simp at h)
    rw [rtrim_snoc]
    by_cases hd : d = 48
    · rw [if_pos hd]
      obtain ⟨k, hk⟩ := ih m (by simpa using h)
      refine ⟨k + 1, ?_⟩
      rw [List.replicate_succ', ← List.append_assoc, ← hk, hd]
    · rw [if_neg hd]
      exact ⟨0, by simp⟩
theorem rtrim_idem (l : List Int) : rtrim (rtrim l) = rtrim l := by
  induction h : l.length generalizing l with
  | zero => rw [List.eq_nil_of_length_eq_zero h]; rfl
  | succ n ih =>
    obtain ⟨m, d, rfl⟩ := snoc_cases l (by intro e; rw [e] at h; simp at h)
    rw [rtrim_snoc]
    by_cases hd : d = 48
    · rw [if_pos hd]; exact ih m (by simpa using h)
    · rw [if_neg hd, rtrim_snoc, if_neg hd]
theorem Fine.trim {n : Bool} {a b : List Int} (h : Fine n a b) : Fine n a (rtrim b) := by
  have hl := h.len
  have h1 := rtrim_len b
  refine Fine.mk' (by omega) h.ne h.da ?_ h.head ?_
  · obtain ⟨k, hk⟩ := rtrim_spec b
    have := h.db
    rw [hk, allD, List.all_append, Bool.and_eq_true] at this
    exact this.1
  · intro hn h0
    rw [all0_rtrim] at h0
    exact h.nz hn ((num_zero h).2 h0)
theorem num_trim (a b : List Int) : num a b = num a (rtrim b) * 10 ^ (b.length - (rtrim b).length) := by
  obtain ⟨k, hk⟩ := rtrim_spec b
  have h1 : b.length = (rtrim b).length + k := by
    have := congrArg List.length hk
    rwa [List.length_append, List.length_replicate] at this
  have h2 : dn48 (a ++ b) = dn48 (a ++ rtrim b) ++ List.replicate k 0 := by
    conv => lhs; rw [hk]
    simp [dn48]
  rw [num, h2, val_up, h1, num]
  congr 2; omega
theorem zn_trim (n : Bool) (a b : List Int) : zn n a b = zn n a (rtrim b) * ((10 ^ (b.length - (rtrim b).length) : Nat) : Int) := by
  rw [zn, num_trim, Z_scale]; rfl
def al (z : Int) (p q : Nat) : Int := z * ((10 ^ (max p q - p) : Nat) : Int)
theorem p10 (n : Nat) : (0 : Int) < ((10 ^ n : Nat) : Int) := by
  have : 0 < 10 ^ n := Nat.pow_pos (by omega)
  omega
def eqv (z : Int) (p : Nat) (w : Int) (q : Nat) : Prop := z * ((10 ^ q : Nat) : Int) = w * ((10 ^ p : Nat) : Int)
theorem pow_cast_add (a b : Nat) : ((10 ^ (a + b) : Nat) : Int) = ((10 ^ a : Nat) : Int) * ((10 ^ b : Nat) : Int) := by
  rw [Nat.pow_add]; simp
theorem al_up (z : Int) (p q r : Nat) (h : max p q ≤ r) : al z p q * ((10 ^ (r - max p q) : Nat) : Int) = z * ((10 ^ (r - p) : Nat) : Int) := by
  rw [al, Int.mul_assoc, ← pow_cast_add]; congr 3; omega
theorem al_sub_up (z : Int) (p : Nat) (w : Int) (q r : Nat) (h : max p q ≤ r) : (al z p q - al w q p) * ((10 ^ (r - max p q) : Nat) : Int) = z * ((10 ^ (r - p) : Nat) : Int) - w * ((10 ^ (r - q) : Nat) : Int) := by
  have h1 := al_up z p q r h
  have h2 := al_up w q p r (by omega)
  rw [Nat.max_comm q p] at h2
  rw [Int.sub_mul, h1, h2]
theorem al_eqv (z : Int) (p : Nat) (w : Int) (q : Nat) : al z p q - al w q p = 0 ↔ eqv z p w q := by
  have h := al_sub_up z p w q (p + q) (by omega)
  rw [show p + q - p = q by omega, show p + q - q = p by omega] at h
  unfold eqv
  have h10 := p10 (p + q - max p q)
  constructor
  · intro e
    rw [e, Int.zero_mul] at h
    omega
  · intro e
    have : (al z p q - al w q p) * ((10 ^ (p + q - max p q) : Nat) : Int) = 0 := by omega
    rcases Int.mul_eq_zero.1 this with h1 | h1
    · exact h1
    · omega
theorem trim_eqv (n : Bool) (a b : List Int) : eqv (zn n a (rtrim b)) (rtrim b).length (zn n a b) b.length := by
  unfold eqv
  have h := rtrim_len b
  rw [zn_trim n a b, Int.mul_assoc, ← pow_cast_add]
  congr 3; omega
end Go.Proofs.YtapbdblpdkoacaaDoor.Q
set_option linter.unusedVariables false
set_option linter.unusedSimpArgs false
namespace Go.Proofs.YtapbdblpdkoacaaDoor.Q
open Go.RowKit Go.Proofs.YtapbdblpdkoacaaDoorW.PrintWords Go.Proofs.YtapbdblpdkoacaaDoor.P
def trimA (n : Bool) (a b : List Int) : Ans := if chk n a b = 0 then ⟨n, a, rtrim b, 0⟩ else bad (chk n a b)
theorem Trimd_is (n : Bool) (a b : ByteArray) (ha : Fit a) (hb : Fit b) : ∃ r, Ev (fun k => decimal_Trim.f k n a b) r ∧ Tells r (trimA n (S a) (S b)) := by
  unfold trimA
  by_cases h : chk n (S a) (S b) = 0
  · obtain ⟨t, ht, et⟩ := TrimRight_is b hb
    rw [if_pos h]
    exact ⟨_, Ev.bind (Check_is n a b ha hb) (Ev.pos h (Ev.bind ht (Ev.val rfl))), rfl, rfl, et, rfl⟩
  · rw [if_neg h]
    exact ⟨_, Ev.bind (Check_is n a b ha hb) (Ev.neg h (Ev.val rfl)), Tells.bad _⟩
theorem Repeat_is (m : Nat) (hm : m ≤ 1000) : ∃ t, strings_Repeat.f (⟨#[48]⟩ : ByteArray) (m : Int) = some t ∧ S t = List.replicate m 48 := by
  have hs : ((⟨#[48]⟩ : ByteArray)).size = 1 := rfl
  unfold strings_Repeat.f
  rw [if_pos ⟨by omega, by omega, by rw [hs]; omega⟩]
  refine ⟨_, rfl, ?_⟩
  have h : ∀ k : Nat, (Lib.repeatL [(48 : UInt8)] k).map (fun b => (b.toNat : Int)) = List.replicate k 48 := by
    intro k
    induction k with
    | zero => rfl
    | succ k ih => rw [Lib.repeatL, List.map_append, ih, List.replicate_succ]; rfl
  simpa [S] using h m
def rng (k : Int) : Bool := decide (k < 0) || decide (k > 40)
def padA (n : Bool) (a b : List Int) (k : Int) : Ans :=
  if chk n a b = 0 then (if rng k = true then bad 1 else if 40 < a.length + max b.length k.toNat then bad 3 else ⟨n, a, b ++ List.replicate (k.toNat - b.length) 48, 0⟩) else bad (chk n a b)
theorem Pad_is (n : Bool) (a b : ByteArray) (ha : Fit a) (hb : Fit b) (k : Int) : ∃ r, Ev (fun f => decimal_Pad.f f n a b k) r ∧ Tells r (padA n (S a) (S b) k) := by
  by_cases h : chk n (S a) (S b) = 0
  · have hl := chk_len h
    rw [S_len, S_len] at hl
    have j0 : ∀ x : Bool, x = rng k → ∃ r, Ev (fun f => decimal_Pad.j0 f k x n a b) r ∧ Tells r (padA n (S a) (S b) k) := by
      intro x hx
      unfold padA
      rw [if_pos h]
      by_cases hr : rng k = true
      · rw [if_pos hr]
        exact ⟨_, Ev.up (Ev.pos (by rw [hx, hr]) (Ev.val rfl)), Tells.bad 1⟩
      · rw [if_neg hr]
        have hk : 0 ≤ k ∧ k ≤ 40 := by
          simp only [rng, Bool.or_eq_true, decide_eq_true_eq] at hr; omega
        have w1 : wrap64 (k - (b.size : Int)) = k - (b.size : Int) := wrap64_id (by omega) (by omega)
        have w2 : wrap64 ((a.size : Int) + k) = (a.size : Int) + k := wrap64_id (by omega) (by omega)
        have hx' : ¬ x = true := by rw [hx]; exact hr
        rw [S_len, S_len]
        by_cases h1 : k - (b.size : Int) > 0
        · by_cases h2 : (a.size : Int) + k > 40
          · rw [if_pos (by omega)]
            exact ⟨_, Ev.up (Ev.neg hx' (Ev.pos (by rw [w1]; exact h1) (Ev.pos (by rw [w2]; exact h2) (Ev.val rfl)))), Tells.bad 3⟩
          · rw [if_neg (by omega)]
            obtain ⟨t, ht, et⟩ := Repeat_is (k.toNat - b.size) (by omega)
            have w3 : wrap64 (k - (b.size : Int)) = ((k.toNat - b.size : Nat) : Int) := by rw [w1]; omega
            have st : t.size = k.toNat - b.size := by rw [← S_len, et, List.length_replicate]
            refine ⟨_, Ev.up (Ev.neg hx' (Ev.pos (by rw [w1]; exact h1) (Ev.neg (by rw [w2]; exact h2) (Ev.bindV (a := t) (by rw [w3]; exact ht) (Ev.pos (by omega) (Ev.val rfl)))))), rfl, rfl, ?_, rfl⟩
            show S (b ++ t) = _
            rw [S_append, et]
        · rw [if_neg (by omega)]
          refine ⟨_, Ev.up (Ev.neg hx' (Ev.neg (by rw [w1]; exact h1) (Ev.val rfl))), rfl, rfl, ?_, rfl⟩
          show S b = _
          rw [show k.toNat - b.size = 0 by omega]; simp
    by_cases hk : k < 0
    · obtain ⟨r, hr, hT⟩ := j0 true (by simp [rng, hk])
      exact ⟨r, Ev.bind (Check_is n a b ha hb) (Ev.pos h (Ev.pos hk hr)), hT⟩
    · obtain ⟨r, hr, hT⟩ := j0 (decide (k > 40)) (by simp [rng, hk])
      exact ⟨r, Ev.bind (Check_is n a b ha hb) (Ev.pos h (Ev.neg hk hr)), hT⟩
  · unfold padA
    rw [if_neg h]
    exact ⟨_, Ev.bind (Check_is n a b ha hb) (Ev.neg h (Ev.val rfl)), Tells.bad _⟩
def rngS (k : Int) : Bool := decide (k < -40) || decide (k > 40)
def shiftA (n : Bool) (a b : List Int) (k : Int) : Ans :=
  if chk n a b = 0 then (if rngS k = true then bad 1 else mk n (num a b * 10 ^ (k - (b.length : Int)).toNat) ((b.length : Int) - k).toNat) else bad (chk n a b)
theorem Shift_is (n : Bool) (a b : ByteArray) (ha : Fit a) (hb : Fit b) (k : Int) : ∃ r, Ev (fun f => decimal_Shift.f f n a b k) r ∧ Tells r (shiftA n (S a) (S b) k) := by
  by_cases h : chk n (S a) (S b) = 0
  · have hF : Fine n (S a) (S b) := ⟨h⟩
    have hl := chk_len h
    rw [S_len, S_len] at hl
    have j0 : ∀ x : Bool, x = rngS k → ∃ r, Ev (fun f => decimal_Shift.j0 f k x n a b) r ∧ Tells r (shiftA n (S a) (S b) k) := by
      intro x hx
      unfold shiftA
      rw [if_pos h]
      by_cases hr : rngS k = true
      · rw [if_pos hr]
        exact ⟨_, Ev.up (Ev.pos (by rw [hx, hr]) (Ev.val rfl)), Tells.bad 1⟩
      · rw [if_neg hr, S_len]
        have hk : -40 ≤ k ∧ k ≤ 40 := by
          simp only [rngS, Bool.or_eq_true, decide_eq_true_eq] at hr; omega
        have hx' : ¬ x = true := by rw [hx]; exact hr
        have w1 : wrap64 ((b.size : Int) - k) = (b.size : Int) - k := wrap64_id (by omega) (by omega)
        have ll := num_len hF (k - (b.size : Int)).toNat
        by_cases h1 : (b.size : Int) - k < 0
        · have w2 : wrap64 (-(wrap64 ((b.size : Int) - k))) = (((k - (b.size : Int)).toNat : Nat) : Int) := by rw [w1, wrap64_id (by omega) (by omega)]; omega
          obtain ⟨r, hr, hT⟩ := made_is n (num (S a) (S b) * 10 ^ (k - (b.size : Int)).toNat) 0 (Nat.le_trans ll (by omega)) (by omega)
          rw [show ((b.size : Int) - k).toNat = 0 by omega]
          refine ⟨r, Ev.up (Ev.neg hx' (Ev.pos (by omega) (Ev.bind (of_num n a b hF) (Ev.pos (by rw [w1]; exact h1) (Ev.bindV (a := dg (num (S a) (S b) * 10 ^ (k - (b.size : Int)).toNat)) ?_ (Ev.bind hr (Ev.val rfl))))))), hT⟩
          rw [w2]
          exact up_num n a b hF _ (by omega)
        · have w2 : wrap64 ((b.size : Int) - k) = ((((b.size : Int) - k).toNat : Nat) : Int) := by rw [w1]; omega
          rw [show (k - (b.size : Int)).toNat = 0 by omega, Nat.pow_zero, Nat.mul_one]
          obtain ⟨r, hr, hT⟩ := made_is n (num (S a) (S b)) ((b.size : Int) - k).toNat (Nat.le_trans (num_len0 hF) (by omega)) (by omega)
          rw [← w2] at hr
          exact ⟨r, Ev.up (Ev.neg hx' (Ev.pos (by omega) (Ev.bind (of_num n a b hF) (Ev.neg (by rw [w1]; exact h1) (Ev.bind hr (Ev.val rfl)))))), hT⟩
    by_cases hk : k < -40
    · obtain ⟨r, hr, hT⟩ := j0 true (by simp [rngS, hk])
      exact ⟨r, Ev.bind (Check_is n a b ha hb) (Ev.pos h (Ev.pos hk hr)), hT⟩
    · obtain ⟨r, hr, hT⟩ := j0 (decide (k > 40)) (by simp [rngS, hk])
      exact ⟨r, Ev.bind (Check_is n a b ha hb) (Ev.pos h (Ev.neg hk hr)), hT⟩
  · unfold shiftA
    rw [if_neg h]
    exact ⟨_, Ev.bind (Check_is n a b ha hb) (Ev.neg h (Ev.val rfl)), Tells.bad _⟩
end Go.Proofs.YtapbdblpdkoacaaDoor.Q
set_option linter.unusedVariables false
set_option linter.unusedSimpArgs false
namespace Go.Proofs.YtapbdblpdkoacaaDoor.Q
open Go.RowKit Go.Proofs.YtapbdblpdkoacaaDoorW.PrintWords Go.Proofs.YtapbdblpdkoacaaDoor.P
theorem Fine.fit {n : Bool} {a b : ByteArray} (h : Fine n (S a) (S b)) : Fit a ∧ Fit b ∧ a.size + b.size ≤ 40 := by
  have hl := h.len
  rw [S_len, S_len] at hl
  unfold Fit; omega
theorem err2_of {n : Bool} {a b : List Int} {m : Bool} {c d : List Int} (h : Fine n a b) (h' : Fine m c d) : err2 n a b m c d = 0 := by
  unfold err2; rw [if_pos h.ok]; exact h'.ok
theorem nA_Z (n : Bool) (a b d : ByteArray) : Z n (nA b d (num (S a) (S b))) = al (zn n (S a) (S b)) b.size d.size := by rw [nA, Z_scale]; rfl
theorem nB_Z (m : Bool) (b c d : ByteArray) : Z m (nB b d (num (S c) (S d))) = al (zn m (S c) (S d)) d.size b.size := by rw [nB, Z_scale, al, Nat.max_comm]; rfl
theorem scaled_ne {x t : Nat} (h : x ≠ 0) : x * 10 ^ t ≠ 0 := by
  have : 0 < 10 ^ t := Nat.pow_pos (by omega)
  intro e
  rcases Nat.mul_eq_zero.1 e with h1 | h1 <;> omega
section
variable {n : Bool} {a b : ByteArray} {m : Bool} {c d : ByteArray} (h : Fine n (S a) (S b)) (h' : Fine m (S c) (S d))
include h h'
theorem cmp_f : Ev (fun k => decimal_Compare.f k n a b m c d) (sgI (al (zn n (S a) (S b)) b.size d.size - al (zn m (S c) (S d)) d.size b.size), 0) := by
  have C := Compare_is n a b m c d h.fit.1 h.fit.2.1 h'.fit.1 h'.fit.2.1 _ _ rfl rfl
  have hn : n = true → nA b d (num (S a) (S b)) ≠ 0 := fun e => scaled_ne (h.nz e)
  have hm : m = true → nB b d (num (S c) (S d)) ≠ 0 := fun e => scaled_ne (h'.nz e)
  rw [if_pos (err2_of h h'), cmpA_I _ _ _ _ hn hm, nA_Z, nB_Z] at C
  exact C
theorem great_yes (e : eqv (zn n (S a) (S b)) b.size (zn m (S c) (S d)) d.size) : Ev (fun k => idiomlaw02_great.f k n a b m c d) true := by
  have C := cmp_f h h'
  rw [(al_eqv _ _ _ _).2 e] at C
  exact Ev.bind C (Ev.pos rfl (Ev.val rfl))
end
theorem trim_f {n : Bool} {a b : ByteArray} (h : Fine n (S a) (S b)) : ∃ t, Ev (fun k => decimal_Trim.f k n a b) (n, a, t, 0) ∧ S t = rtrim (S b) := by
  obtain ⟨r, hr, hT⟩ := Trimd_is n a b h.fit.1 h.fit.2.1
  obtain ⟨r1, r2, r3, r4⟩ := r
  unfold trimA at hT
  rw [if_pos h.ok] at hT
  obtain ⟨h1, h2, h3, h4⟩ := hT
  simp only at h1 h2 h3 h4
  obtain rfl := S_inj h2
  subst h1 h4
  exact ⟨r3, hr, h3⟩
theorem told_mkI {r : Bool × ByteArray × ByteArray × Int} {z : Int} {p : Nat} (h : Tells r (mkI z p)) (he : r.2.2.2 = 0) : Fine r.1 (S r.2.1) (S r.2.2.1) ∧ zn r.1 (S r.2.1) (S r.2.2.1) = z ∧ r.2.2.1.size = p := by
  obtain ⟨h1, h2, h3, h4⟩ := h
  rw [he] at h4
  have := mkI_good h4.symm
  rw [← h1, ← h2, ← h3, S_len] at this
  exact this
theorem fine_step (l : List S23) (i : Nat) (x : S23) (hi : i < l.length) (hl : l.length ≤ 1000) (hx : rd_T23 l (i : Int) = x) (ha : Fit x.f1) (hb : Fit x.f2) (r : Bool)
    (yes : chk x.f0 (S x.f1) (S x.f2) = 0 → Ev (fun k => idiomlaw02_fine.l0 k l ((i + 1 : Nat) : Int)) r) (no : ¬ chk x.f0 (S x.f1) (S x.f2) = 0 → false = r) : Ev (fun k => idiomlaw02_fine.l0 k l (i : Int)) r := by
  have hw : wrap64 ((i : Int) + 1) = ((i + 1 : Nat) : Int) := by rw [wrap64_id (by omega) (by omega)]; omega
  refine Ev.up (Ev.pos (by omega) (Ev.pos (by omega) ?_))
  rw [hx, hw]
  exact Ev.bind (refCheck_is x.f0 x.f1 x.f2 ha hb) (Ev.split (fun h => yes h) (fun h => Ev.val (no h)))
theorem fine_end (l : List S23) (i : Nat) (hi : i = l.length) : Ev (fun k => idiomlaw02_fine.l0 k l (i : Int)) true :=
  Ev.up (Ev.neg (by omega) (Ev.val rfl))
theorem fine1_is {n : Bool} {a b : ByteArray} (ha : Fit a) (hb : Fit b) : Ev (fun k => idiomlaw02_fine.f k [(⟨n, a, b⟩ : S23)]) (decide (chk n (S a) (S b) = 0)) :=
  fine_step _ 0 ⟨n, a, b⟩ (by show 0 < 1; omega) (by show 1 ≤ 1000; omega) rfl ha hb _ (fun h1 => (fine_end _ 1 rfl).eq (decide_eq_true h1).symm) (fun h1 => (decide_eq_false h1).symm)
end Go.Proofs.YtapbdblpdkoacaaDoor.Q
set_option linter.unusedVariables false
set_option linter.unusedSimpArgs false
namespace Go.Proofs.YtapbdblpdkoacaaDoor.Q
open Go.RowKit Go.Proofs.YtapbdblpdkoacaaDoorW.PrintWords Go.Proofs.YtapbdblpdkoacaaDoor.P
theorem allD_zeros (k : Nat) : allD (List.replicate k 48) = true := by
  rw [allD, List.all_eq_true]
  intro x hx
  rw [(List.mem_replicate.1 hx).2]; rfl
theorem num_pad (a b : List Int) (k : Nat) : num a (b ++ List.replicate k 48) = num a b * 10 ^ k := by
  have h2 : dn48 (a ++ (b ++ List.replicate k 48)) = dn48 (a ++ b) ++ List.replicate k 0 := by simp [dn48]
  rw [num, h2, val_up, num]
theorem Fine.pad {n : Bool} {a b : List Int} (h : Fine n a b) (k : Nat) (hl : a.length + (b.length + k) ≤ 40) : Fine n a (b ++ List.replicate k 48) := by
  have hd := allD_append h.db (allD_zeros k)
  have e := num_pad a b k
  refine Fine.mk' (by rw [List.length_append, List.length_replicate]; exact hl) h.ne h.da hd h.head ?_
  intro hn h0
  have h1 := h.nz hn
  have h2 : num a (b ++ List.replicate k 48) = 0 := by
    rw [num, val_zero (allD_dig (allD_append h.da hd)), ← all0_dn]
    rw [← h0]; simp [all0]
  rw [e] at h2
  exact scaled_ne h1 h2
theorem pad_eqv (n : Bool) (a b : List Int) (k : Nat) : eqv (zn n a (b ++ List.replicate k 48)) (b ++ List.replicate k 48).length (zn n a b) b.length := by
  unfold eqv
  rw [zn, num_pad, Z_scale, List.length_append, List.length_replicate, Int.mul_assoc, ← pow_cast_add, Nat.add_comm k]; rfl
theorem padd_f {n : Bool} {a b : ByteArray} (h : Fine n (S a) (S b)) (k : Int) {r : Bool × ByteArray × ByteArray × Int} (hT : Tells r (padA n (S a) (S b) k)) (he : r.2.2.2 = 0) :
    Ev (fun f => idiomlaw02_great.f f r.1 r.2.1 r.2.2.1 n a b) true ∧ (r.2.2.1.size : Int) = mx k (b.size : Int) := by
  unfold padA at hT
  rw [if_pos h.ok] at hT
  have hl := h.fit.2.2
  by_cases hr : rng k = true
  · rw [if_pos hr] at hT
    have := hT.2.2.2
    rw [he] at this
    exact absurd this (by show ¬ (0 : Int) = 1; omega)
  · rw [if_neg hr] at hT
    have hk : 0 ≤ k ∧ k ≤ 40 := by
      simp only [rng, Bool.or_eq_true, decide_eq_true_eq] at hr; omega
    rw [S_len, S_len] at hT
    by_cases h1 : 40 < a.size + max b.size k.toNat
    · rw [if_pos h1] at hT
      have := hT.2.2.2
      rw [he] at this
      exact absurd this (by show ¬ (0 : Int) = 3; omega)
    · rw [if_neg h1] at hT
      obtain ⟨e1, e2, e3, e4⟩ := hT
      obtain ⟨r1, r2, r3, r4⟩ := r
      simp only at e1 e2 e3 e4
      subst e1
      obtain rfl := S_inj e2
      have hp := h.pad (k.toNat - b.size) (by rw [S_len, S_len]; omega)
      have hq := pad_eqv r1 (S r2) (S b) (k.toNat - b.size)
      rw [← e3] at hp hq
      rw [S_len, S_len] at hq
      have hs : r3.size = b.size + (k.toNat - b.size) := by rw [← S_len, e3, List.length_append, List.length_replicate, S_len]
      refine ⟨great_yes hp h hq, ?_⟩
      show (r3.size : Int) = _
      rw [hs, mx_int]; omega
theorem shift_f {n : Bool} {a b : ByteArray} (h : Fine n (S a) (S b)) (k : Int) : ∃ r, Ev (fun f => decimal_Shift.f f n a b k) r ∧ (r.2.2.2 = 0 → -40 ≤ k ∧ k ≤ 40 ∧ Tells r (mkI (zn n (S a) (S b) * ((10 ^ (k - (b.size : Int)).toNat : Nat) : Int)) ((b.size : Int) - k).toNat)) ∧ (¬ r.2.2.2 = 0 → r = (false, (⟨#[]⟩ : ByteArray), (⟨#[]⟩ : ByteArray), r.2.2.2)) := by
  obtain ⟨r, hr, hT⟩ := Shift_is n a b h.fit.1 h.fit.2.1 k
  unfold shiftA at hT
  rw [if_pos h.ok] at hT
  refine ⟨r, hr, fun he => ?_, fun he => ?_⟩
  · by_cases hk : rngS k = true
    · rw [if_pos hk] at hT
      have := hT.2.2.2
      rw [he] at this
      exact absurd this (by show ¬ (0 : Int) = 1; omega)
    · rw [if_neg hk, mk_mkI, Z_scale, S_len] at hT
      simp only [rngS, Bool.or_eq_true, decide_eq_true_eq] at hk
      exact ⟨by omega, by omega, hT⟩
  · by_cases hk : rngS k = true
    · rw [if_pos hk] at hT
      have e := hT.2.2.2
      rw [e]
      exact Tells.eq hT (Tells.bad 1)
    · rw [if_neg hk] at hT
      have e := hT.2.2.2
      rw [e] at he
      rw [mk_bad he] at hT
      have e := hT.2.2.2
      rw [e]
      exact Tells.eq hT (Tells.bad 3)
theorem back_exp (k : Int) (p q : Nat) (hq : q = ((p : Int) - k).toNat) : (k - (p : Int)).toNat + ((-k) - (q : Int)).toNat + p = ((q : Int) - (-k)).toNat := by omega
theorem shift_back (z : Int) (k : Int) (p q : Nat) (hq : q = ((p : Int) - k).toNat) : eqv (z * ((10 ^ (k - (p : Int)).toNat : Nat) : Int) * ((10 ^ ((-k) - (q : Int)).toNat : Nat) : Int)) ((q : Int) - (-k)).toNat z p := by
  unfold eqv
  rw [Int.mul_assoc, ← pow_cast_add, Int.mul_assoc, ← pow_cast_add, ← Nat.add_assoc, back_exp k p q hq]
section
variable {n : Bool} {a b : ByteArray} (h : Fine n (S a) (S b))
include h
theorem shifts_j1 (k : Int) (y : Bool) (hy : y = false) : Ev (fun f => idiomlaw02_DecimalShifts.j1 f k y n a b) true := by
  obtain ⟨r, hr, hT, _⟩ := shift_f h k
  refine Ev.up (Ev.neg (by rw [hy]; exact Bool.false_ne_true) (Ev.bind hr (Ev.split (fun he => ?_) (fun he => Ev.val rfl))))
  obtain ⟨k0, k1, hT⟩ := hT he
  obtain ⟨f1, f2, f3⟩ := told_mkI hT he
  have hw : wrap64 (-k) = -k := wrap64_id (by omega) (by omega)
  rw [hw]
  obtain ⟨s, hs, hU, _⟩ := shift_f f1 (-k)
  refine Ev.bind hs (Ev.split (fun hf => ?_) (fun hf => Ev.val rfl))
  obtain ⟨_, _, hU⟩ := hU hf
  obtain ⟨g1, g2, g3⟩ := told_mkI hU hf
  refine (great_yes g1 h ?_).tail
  rw [g2, g3, f2, f3]
  exact shift_back _ k b.size _ rfl
theorem shifts_j0 (k l : Int) (y : Bool) (hy : y = false) : Ev (fun f => idiomlaw02_DecimalShifts.j0 f k l y n a b) true := by
  obtain ⟨r, hr, hT⟩ := Pad_is n a b h.fit.1 h.fit.2.1 l
  refine Ev.up (Ev.neg (by rw [hy]; exact Bool.false_ne_true) (Ev.bind hr (Ev.split (fun he => ?_) (fun he => shifts_j1 h k _ rfl))))
  obtain ⟨g, e⟩ := padd_f h l hT he
  refine Ev.bind g (Ev.pos rfl (shifts_j1 h k _ ?_))
  rw [e]; simp
end
theorem shifts_law (n : Bool) (a b : ByteArray) (k l : Int) (ha : Fit a) (hb : Fit b) {w w' : Prop} (_ : w) (_ : w') : ∃ f, idiomlaw02_DecimalShifts.f f n a b k l = some true := by
  apply Ev.rounds
  refine Ev.bind awake_is (Ev.pos rfl ?_)
  by_cases hc : chk n (S a) (S b) = 0
  · have h : Fine n (S a) (S b) := ⟨hc⟩
    obtain ⟨t, ht, et⟩ := trim_f h
    have h2 : Fine n (S a) (S t) := by rw [et]; exact h.trim
    obtain ⟨u, hu, eu⟩ := trim_f h2
    have hut : u = t := S_inj (by rw [eu, et, rtrim_idem])
    subst hut
    have q := trim_eqv n (S a) (S b)
    rw [← et, S_len, S_len] at q
    refine Ev.bind ht (Ev.pos rfl (Ev.bind hu (Ev.pos rfl (Ev.neg ?_ (Ev.bind (great_yes h2 h q) (shifts_j0 h k l _ rfl))))))
    simp
  · obtain ⟨r, hr, hT⟩ := Trimd_is n a b ha hb
    unfold trimA at hT
    rw [if_neg hc] at hT
    refine Ev.bind hr (Ev.neg (by rw [hT.2.2.2]; exact hc) (Ev.bind (fine1_is ha hb) (Ev.val ?_)))
    rw [decide_eq_false hc]; rfl
end Go.Proofs.YtapbdblpdkoacaaDoor.Q
