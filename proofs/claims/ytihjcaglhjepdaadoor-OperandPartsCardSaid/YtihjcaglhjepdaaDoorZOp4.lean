/- A part of the proof. Part 5 of 6; its texts were written by programs, some out of the kit's print. -/
import Derived.Test.YtihjcaglhjepdaaDoorZOp3
import Derived.Lib.Bytes
import Derived.Sort.Walk0
set_option linter.unusedVariables false
set_option linter.unusedSimpArgs false
namespace Go.Proofs.YtihjcaglhjepdaaDoor.Q
open Go.RowKit Go.Proofs.YtihjcaglhjepdaaDoorW.PrintWords
def val (l : List Int) : Nat := l.foldl (fun n d => n * 10 + d.toNat) 0
def Dig (l : List Int) : Prop := ∀ d ∈ l, 0 ≤ d ∧ d ≤ 9
theorem foldl_val (l : List Int) : ∀ n : Nat, l.foldl (fun n d => n * 10 + d.toNat) n = n * 10 ^ l.length + val l := by
  induction l with
  | nil => intro n; simp [val]
  | cons d l ih =>
    intro n
    simp only [List.foldl_cons, val]
    rw [ih, ih (0 * 10 + d.toNat), List.length_cons, Nat.pow_succ, Nat.add_mul, Nat.zero_mul, Nat.zero_add, Nat.mul_assoc, Nat.mul_comm 10]
    omega
theorem val_append (l m : List Int) : val (l ++ m) = val l * 10 ^ m.length + val m := by
  rw [val, List.foldl_append, foldl_val]; rfl
theorem val_snoc (l : List Int) (d : Int) : val (l ++ [d]) = val l * 10 + d.toNat := by
  rw [val_append]; simp [val]
theorem val_cons (d : Int) (l : List Int) : val (d :: l) = d.toNat * 10 ^ l.length + val l := by
  rw [show d :: l = [d] ++ l from rfl, val_append]; simp [val]
theorem val_zeros (n : Nat) : val (List.replicate n 0) = 0 := by
  induction n with
  | zero => rfl
  | succ n ih => rw [List.replicate_succ, val_cons, ih]; simp
theorem val_up (l : List Int) (n : Nat) : val (l ++ List.replicate n 0) = val l * 10 ^ n := by
  rw [val_append, val_zeros, List.length_replicate, Nat.add_zero]
theorem Dig.nil : Dig [] := fun d h => by cases h
theorem Dig.append {l m : List Int} (h : Dig l) (k : Dig m) : Dig (l ++ m) := fun d hd => by
  rcases List.mem_append.1 hd with h1 | h1
  · exact h d h1
  · exact k d h1
theorem Dig.left {l m : List Int} (h : Dig (l ++ m)) : Dig l := fun d hd => h d (List.mem_append_left _ hd)
theorem Dig.right {l m : List Int} (h : Dig (l ++ m)) : Dig m := fun d hd => h d (List.mem_append_right _ hd)
theorem Dig.one {d : Int} (h0 : 0 ≤ d) (h1 : d ≤ 9) : Dig [d] := fun x hx => by rw [List.mem_singleton.1 hx]; exact ⟨h0, h1⟩
theorem Dig.head {d : Int} {l : List Int} (h : Dig (d :: l)) : 0 ≤ d ∧ d ≤ 9 := h d (List.mem_cons_self)
theorem Dig.tail {d : Int} {l : List Int} (h : Dig (d :: l)) : Dig l := fun x hx => h x (List.mem_cons_of_mem _ hx)
theorem Dig.zeros (n : Nat) : Dig (List.replicate n 0) := fun d hd => by rw [(List.mem_replicate.1 hd).2]; omega
theorem Dig.take {l : List Int} (h : Dig l) (n : Nat) : Dig (l.take n) := fun d hd => h d (List.mem_of_mem_take hd)
theorem Dig.drop {l : List Int} (h : Dig l) (n : Nat) : Dig (l.drop n) := fun d hd => h d (List.mem_of_mem_drop hd)
theorem val_lt {l : List Int} (h : Dig l) : val l < 10 ^ l.length := by
  induction l with
  | nil => simp [val]
  | cons d l ih =>
    have h1 := ih h.tail
    have h2 := h.head
    rw [val_cons, List.length_cons, Nat.pow_succ]
    have h3 : d.toNat * 10 ^ l.length ≤ 9 * 10 ^ l.length := Nat.mul_le_mul_right _ (by omega)
    omega
def dg (n : Nat) : List Int := if h : n = 0 then [] else dg (n / 10) ++ [((n % 10 : Nat) : Int)]
termination_by n
decreasing_by omega
theorem dg_zero : dg 0 = [] := by rw [dg]; simp
theorem dg_pos {n : Nat} (h : n ≠ 0) : dg n = dg (n / 10) ++ [((n % 10 : Nat) : Int)] := by rw [dg]; simp [h]
theorem val_dg (n : Nat) : val (dg n) = n := by
  induction n using Nat.strongRecOn with
  | _ n ih =>
    by_cases h : n = 0
    · subst h; rw [dg_zero]; rfl
    · rw [dg_pos h, val_snoc, ih (n / 10) (by omega)]; omega
theorem Dig_dg (n : Nat) : Dig (dg n) := by
  induction n using Nat.strongRecOn with
  | _ n ih =>
    by_cases h : n = 0
    · subst h; rw [dg_zero]; exact Dig.nil
    · rw [dg_pos h]; exact (ih (n / 10) (by omega)).append (Dig.one (by omega) (by omega))
theorem dg_eq_nil {n : Nat} : dg n = [] ↔ n = 0 := by
  constructor
  · intro h
    have := val_dg n
    rw [h] at this
    exact this.symm
  · rintro rfl; exact dg_zero
theorem dg_head {n : Nat} {d : Int} {l : List Int} (h : dg n = d :: l) : d ≠ 0 := by
  induction n using Nat.strongRecOn generalizing d l with
  | _ n ih =>
    by_cases h0 : n = 0
    · subst h0; rw [dg_zero] at h; cases h
    · rw [dg_pos h0] at h
      cases hx : dg (n / 10) with
      | nil =>
        rw [hx] at h
        have h1 := dg_eq_nil.1 hx
        simp only [List.nil_append, List.cons.injEq] at h
        omega
      | cons x m =>
        rw [hx] at h
        simp only [List.cons_append, List.cons.injEq] at h
        rw [← h.1]
        exact ih (n / 10) (by omega) hx
theorem dg_snoc {n : Nat} {d : Int} (h0 : 0 ≤ d) (h1 : d ≤ 9) (hn : n ≠ 0 ∨ d ≠ 0) : dg (n * 10 + d.toNat) = dg n ++ [d] := by
  rw [dg_pos (by omega), show (n * 10 + d.toNat) / 10 = n by omega, show (n * 10 + d.toNat) % 10 = d.toNat by omega]
  congr 2
  omega
theorem dg_val {l : List Int} (h : Dig l) (hh : ∀ d m, l = d :: m → d ≠ 0) : dg (val l) = l := by
  induction hn : l.length generalizing l with
  | zero => rw [List.eq_nil_of_length_eq_zero hn]; exact dg_zero
  | succ n ih =>
    have hne : l ≠ [] := by intro e; rw [e] at hn; simp at hn
    obtain ⟨m, d, rfl⟩ : ∃ m d, l = m ++ [d] := ⟨l.dropLast, l.getLast hne, (List.dropLast_concat_getLast hne).symm⟩
    have hd := h.right d (List.mem_singleton_self d)
    have hm : dg (val m) = m := ih h.left (fun x t e => hh x (t ++ [d]) (by rw [e]; rfl)) (by simpa using hn)
    rw [val_snoc, dg_snoc hd.1 hd.2, hm]
    cases m with
    | nil => right; exact hh d [] rfl
    | cons x t =>
      left
      intro e
      rw [e, dg_zero] at hm
      cases hm
theorem dg_lead {l : List Int} (h : Dig l) : dg (val l) = l.dropWhile (· == 0) := by
  induction l with
  | nil => exact dg_zero
  | cons d l ih =>
    by_cases hd : d = 0
    · subst hd
      rw [val_cons]
      simpa using ih h.tail
    · rw [List.dropWhile_cons_of_neg (by simpa using hd)]
      exact dg_val h (fun x m e => by injection e with e _; rw [← e]; exact hd)
theorem length_dg_le {n k : Nat} (h : n < 10 ^ k) : (dg n).length ≤ k := by
  induction k generalizing n with
  | zero => have : n = 0 := by simpa using h
            rw [this, dg_zero]; simp
  | succ k ih =>
    by_cases h0 : n = 0
    · rw [h0, dg_zero]; simp
    · rw [dg_pos h0, List.length_append, List.length_singleton]
      have := ih (n := n / 10) (by rw [Nat.pow_succ] at h; omega)
      omega
theorem lt_of_length_dg (n : Nat) : n < 10 ^ (dg n).length := by
  have := val_lt (Dig_dg n)
  rwa [val_dg] at this
theorem length_dg_iff (n k : Nat) : (dg n).length ≤ k ↔ n < 10 ^ k :=
  ⟨fun h => Nat.lt_of_lt_of_le (lt_of_length_dg n) (Nat.pow_le_pow_right (by omega) h), length_dg_le⟩
theorem dg_mul_pow (n k : Nat) : dg (n * 10 ^ k) = if n = 0 then [] else dg n ++ List.replicate k 0 := by
  by_cases h : n = 0
  · subst h; rw [Nat.zero_mul, dg_zero]; rfl
  · rw [if_neg h]
    induction k with
    | zero => simp
    | succ k ih =>
      have hp : 0 < 10 ^ k := Nat.pow_pos (by omega)
      have h1 : n * 10 ^ k ≠ 0 := by
        have := Nat.mul_pos (Nat.pos_of_ne_zero h) hp
        omega
      have h2 : n * 10 ^ (k + 1) = (n * 10 ^ k) * 10 + (0 : Int).toNat := by rw [Nat.pow_succ, ← Nat.mul_assoc]; rfl
      rw [h2, dg_snoc (by omega) (by omega) (.inl h1), ih, List.append_assoc, List.replicate_succ']
end Go.Proofs.YtihjcaglhjepdaaDoor.Q
set_option linter.unusedVariables false
set_option linter.unusedSimpArgs false
namespace Go.Proofs.YtihjcaglhjepdaaDoor.Q
open Go.RowKit Go.Proofs.YtihjcaglhjepdaaDoorW.PrintWords
def S (s : ByteArray) : List Int := s.data.toList.map fun b => (b.toNat : Int)
theorem S_len (s : ByteArray) : (S s).length = s.size := by
  rw [S, List.length_map, Array.length_toList]; rfl
theorem bt_S (s : ByteArray) (i : Int) : bt s i = rd (S s) i := by
  unfold bt rd S
  by_cases h : i.toNat < s.size
  · have h' : i.toNat < s.data.size := h
    rw [dif_pos h, List.getD_eq_getElem?_getD, List.getElem?_map, List.getElem?_eq_getElem (by simpa using h')]
    simp
    rfl
  · have h' : ¬ i.toNat < s.data.size := h
    rw [dif_neg h, List.getD_eq_getElem?_getD, List.getElem?_eq_none (by simpa using h')]
    rfl
theorem S_append (s t : ByteArray) : S (s ++ t) = S s ++ S t := by
  simp [S]
theorem S_extract (s : ByteArray) (a b : Nat) : S (s.extract a b) = ((S s).drop a).take (b - a) := by
  simp only [S, ByteArray.data_extract, Array.toList_extract, List.extract_eq_take_drop, List.map_take, List.map_drop]
theorem S_drop (s : ByteArray) (a : Nat) : S (s.extract a s.size) = (S s).drop a := by
  rw [S_extract]
  apply List.take_of_length_le
  rw [List.length_drop, S_len]
  omega
theorem S_take (s : ByteArray) (b : Nat) : S (s.extract 0 b) = (S s).take b := by
  rw [S_extract]; simp
theorem u8_ofNat (b : UInt8) : UInt8.ofNat ((b.toNat : Int).toNat) = b := by simp
theorem S_back (s : ByteArray) : strOfNums (S s) = s := by
  cases s with
  | mk d =>
    simp only [strOfNums, S, List.map_map, ByteArray.mk.injEq]
    have : (fun n : Int => UInt8.ofNat n.toNat) ∘ (fun b : UInt8 => (b.toNat : Int)) = id := by
      funext b; exact u8_ofNat b
    rw [this]; simp
theorem S_inj {s t : ByteArray} (h : S s = S t) : s = t := by rw [← S_back s, ← S_back t, h]
theorem S_str {l : List Int} (h : ∀ d ∈ l, 0 ≤ d ∧ d ≤ 255) : S (strOfNums l) = l := by
  simp only [S, strOfNums, List.map_map]
  conv => rhs; rw [← List.map_id l]
  apply List.map_congr_left
  intro d hd
  have := h d hd
  simp [UInt8.toNat_ofNat']
  omega
theorem toList_S (s t : ByteArray) : s.toList = t.toList ↔ S s = S t := by
  constructor
  · intro h
    rw [ByteArray.toList_eq, ByteArray.toList_eq] at h
    rw [S, S, h]
  · intro h; rw [S_inj h]
theorem toList_lit (s : ByteArray) (l : List UInt8) : s.toList = l ↔ S s = l.map (fun b => (b.toNat : Int)) := by
  have := toList_S s ⟨l.toArray⟩
  rw [ByteArray.toList_mk l] at this
  rw [this]; simp [S]
theorem toList_nil (s : ByteArray) : s.toList = ([] : List UInt8) ↔ S s = [] := toList_lit s []
theorem beq_lit (s : ByteArray) (l : List UInt8) : (s.toList == l) = decide (S s = l.map (fun b => (b.toNat : Int))) := by
  rw [Bool.eq_iff_iff]; simp [toList_lit]
theorem rd_nat (l : List Int) (i : Nat) : rd l (i : Int) = l.getD i 0 := by simp [rd]
theorem getD_append_mid (l : List Int) (d : Int) (m : List Int) : (l ++ d :: m).getD l.length 0 = d := by
  simp [List.getD_eq_getElem?_getD]
theorem set_append_mid (l : List Int) (d e : Int) (m : List Int) : (l ++ d :: m).set l.length e = l ++ e :: m := by
  simp [List.set_append]
theorem wrap64_id {x : Int} (h0 : -9223372036854775808 ≤ x) (h1 : x ≤ 9223372036854775807) : wrap64 x = x := by
  unfold wrap64; omega
def up48 (l : List Int) : List Int := l.map (· + 48)
theorem up48_len (l : List Int) : (up48 l).length = l.length := by simp [up48]
def dn48 (l : List Int) : List Int := l.map (· - 48)
theorem dn48_len (l : List Int) : (dn48 l).length = l.length := by simp [dn48]
theorem up_dn (l : List Int) : up48 (dn48 l) = l := by
  rw [up48, dn48, List.map_map]; conv => rhs; rw [← List.map_id l]
  apply List.map_congr_left; intro d _; show d - 48 + 48 = d; omega
theorem dn_up (l : List Int) : dn48 (up48 l) = l := by
  rw [up48, dn48, List.map_map]; conv => rhs; rw [← List.map_id l]
  apply List.map_congr_left; intro d _; show d + 48 - 48 = d; omega
end Go.Proofs.YtihjcaglhjepdaaDoor.Q
set_option linter.unusedVariables false
set_option linter.unusedSimpArgs false
namespace Go.Proofs.YtihjcaglhjepdaaDoorW.PrintWords
theorem Ev.pos {α : Type} {c : Prop} [Decidable c] {A B : Nat → Option α} {r : α} (h : c) (e : Ev A r) : Ev (fun k => if c then A k else B k) r :=
  Ev.congr (fun k => if_pos h) e
theorem Ev.neg {α : Type} {c : Prop} [Decidable c] {A B : Nat → Option α} {r : α} (h : ¬ c) (e : Ev B r) : Ev (fun k => if c then A k else B k) r :=
  Ev.congr (fun k => if_neg h) e
theorem Ev.split {α : Type} {c : Prop} [Decidable c] {A B : Nat → Option α} {r : α} (h : c → Ev A r) (h' : ¬ c → Ev B r) : Ev (fun k => if c then A k else B k) r := by
  by_cases hc : c
  · exact Ev.pos hc (h hc)
  · exact Ev.neg hc (h' hc)
theorem Ev.val {α : Type} {a r : α} (h : a = r) : Ev (fun _ => some a) r := by rw [h]; exact Ev.now r
theorem Ev.bindS {α β : Type} {a : α} {F : Nat → α → Option β} {r : β} (h : Ev (fun k => F k a) r) : Ev (fun k => (some a).bind (F k)) r := h
theorem Ev.bindV {α β : Type} {g : Option α} {a : α} {F : Nat → α → Option β} {r : β} (hg : g = some a) (h : Ev (fun k => F k a) r) : Ev (fun k => g.bind (F k)) r := by
  rw [hg]; exact h
theorem Ev.tail {α : Type} {g : Nat → Option α} {a : α} (h : Ev g a) : Ev (fun k => (g k).bind fun t => some t) a := Ev.bind h (Ev.now a)
theorem Ev.eq {α : Type} {g : Nat → Option α} {a b : α} (h : Ev g a) (e : a = b) : Ev g b := e ▸ h
theorem Ev.up {α : Type} {g : Nat → Option α} {r : α} (k : Ev (fun n => g (n + 1)) r) : Ev g r := Ev.step (fun _ => rfl) k
theorem Ev.inj {α : Type} {g : Nat → Option α} {a b : α} (h : Ev g a) (h' : Ev g b) : a = b := by
  obtain ⟨K, h⟩ := h
  obtain ⟨K', h'⟩ := h'
  have e1 := h (max K K') (by omega)
  have e2 := h' (max K K') (by omega)
  rw [e1] at e2
  exact Option.some.inj e2
end Go.Proofs.YtihjcaglhjepdaaDoorW.PrintWords
set_option linter.unusedVariables false
set_option linter.unusedSimpArgs false
namespace Go.Proofs.YtihjcaglhjepdaaDoor.Q
open Go.RowKit Go.Proofs.YtihjcaglhjepdaaDoorW.PrintWords Go.Proofs.YtihjcaglhjepdaaDoor.P
def isD (d : Int) : Bool := decide (48 ≤ d) && decide (d ≤ 57)
def allD (l : List Int) : Bool := l.all isD
def all0 (l : List Int) : Bool := l.all (· == 48)
def fm (neg : Bool) (a b : List Int) : Bool := !a.isEmpty && allD a && allD b && !(decide (1 < a.length) && rd a 0 == 48) && !(neg && (all0 a && all0 b))
def okD (neg : Bool) (a b : List Int) : Bool := decide (a.length + b.length ≤ 40) && fm neg a b
def chk (neg : Bool) (a b : List Int) : Int := if okD neg a b = true then 0 else 20
def Fit (s : ByteArray) : Prop := s.size ≤ 1000000000000000000
theorem all_loop (s : ByteArray) (hs : Fit s) : ∀ rest pre : List Int, S s = pre ++ rest → Ev (fun k => decimal_all.l0 k s (s.size : Int) (pre.length : Int)) (allD rest) := by
  unfold Fit at hs
  intro rest
  induction rest with
  | nil =>
    intro pre h
    have hl : s.size = pre.length := by rw [← S_len, h]; simp
    refine Ev.up (Ev.neg (by omega) (Ev.val rfl))
  | cons d rest ih =>
    intro pre h
    have hl : s.size = pre.length + (rest.length + 1) := by rw [← S_len, h]; simp
    have hb : bt s (pre.length : Int) = d := by rw [bt_S, h, rd_nat, getD_append_mid]
    refine Ev.up (Ev.pos (by omega) (Ev.pos (by omega) (Ev.pos (by omega) ?_)))
    rw [hb]
    refine Ev.split (fun h1 => Ev.val ?_) (fun h1 => Ev.split (fun h2 => Ev.val ?_) (fun h2 => ?_))
    · simp [allD, isD]; omega
    · simp [allD, isD]; omega
    · have h3 := ih (pre ++ [d]) (by rw [h]; simp)
      have h4 : wrap64 ((pre.length : Int) + 1) = ((pre ++ [d]).length : Int) := by rw [wrap64_id (by omega) (by omega)]; simp
      rw [h4]
      refine h3.eq ?_
      have : isD d = true := by simp [isD]; omega
      simp [allD, this]
theorem all_is (s : ByteArray) (hs : Fit s) : Ev (fun k => decimal_all.f k s) (allD (S s)) := all_loop s hs (S s) [] rfl
theorem digits_loop (s : ByteArray) (hs : Fit s) : ∀ rest pre : List Int, S s = pre ++ rest → Ev (fun k => idiomref02_Digits.l0 k s (pre.length : Int)) (allD rest) := by
  unfold Fit at hs
  intro rest
  induction rest with
  | nil =>
    intro pre h
    have hl : s.size = pre.length := by rw [← S_len, h]; simp
    refine Ev.up (Ev.neg (by omega) (Ev.val rfl))
  | cons d rest ih =>
    intro pre h
    have hl : s.size = pre.length + (rest.length + 1) := by rw [← S_len, h]; simp
    have hb : bt s (pre.length : Int) = d := by rw [bt_S, h, rd_nat, getD_append_mid]
    refine Ev.up (Ev.pos (by omega) (Ev.pos (by omega) ?_))
    rw [hb]
    refine Ev.bindV (a := isD d) ?_ ?_
    · unfold idiomref02_Digit.f isD
      by_cases h1 : d ≥ 48
      · simp [h1]
      · have : ¬ 48 ≤ d := h1
        simp [h1, this]
    refine Ev.split (fun h1 => ?_) (fun h1 => Ev.val ?_)
    · have h3 := ih (pre ++ [d]) (by rw [h]; simp)
      have h4 : wrap64 ((pre.length : Int) + 1) = ((pre ++ [d]).length : Int) := by rw [wrap64_id (by omega) (by omega)]; simp
      rw [h4]
      refine h3.eq ?_
      simp [allD, h1]
    · simp [allD, h1]
theorem digits_is (s : ByteArray) (hs : Fit s) : Ev (fun k => idiomref02_Digits.f k s) (allD (S s)) := digits_loop s hs (S s) [] rfl
theorem noughts_loop (s : ByteArray) (hs : Fit s) : ∀ rest pre : List Int, S s = pre ++ rest → Ev (fun k => idiomref02_noughts.l0 k s (pre.length : Int)) (all0 rest) := by
  unfold Fit at hs
  intro rest
  induction rest with
  | nil =>
    intro pre h
    have hl : s.size = pre.length := by rw [← S_len, h]; simp
    refine Ev.up (Ev.neg (by omega) (Ev.val rfl))
  | cons d rest ih =>
    intro pre h
    have hl : s.size = pre.length + (rest.length + 1) := by rw [← S_len, h]; simp
    have hb : bt s (pre.length : Int) = d := by rw [bt_S, h, rd_nat, getD_append_mid]
    refine Ev.up (Ev.pos (by omega) (Ev.pos (by omega) ?_))
    rw [hb]
    refine Ev.split (fun h1 => ?_) (fun h1 => Ev.val ?_)
    · have h3 := ih (pre ++ [d]) (by rw [h]; simp)
      have h4 : wrap64 ((pre.length : Int) + 1) = ((pre ++ [d]).length : Int) := by rw [wrap64_id (by omega) (by omega)]; simp
      rw [h4]
      refine h3.eq ?_
      simp [all0, h1]
    · simp [all0, h1]
theorem noughts_is (s : ByteArray) (hs : Fit s) : Ev (fun k => idiomref02_noughts.f k s) (all0 (S s)) := noughts_loop s hs (S s) [] rfl
theorem nought_is (n : Bool) (a b : ByteArray) (ha : Fit a) (hb : Fit b) : Ev (fun k => idiomref02_Nought.f k n a b) (all0 (S a) && all0 (S b)) := by
  refine Ev.bind (noughts_is a ha) (Ev.split (fun h => ?_) (fun h => Ev.val ?_))
  · rw [h]; exact (noughts_is b hb).tail
  · simp at h; simp [h]
def ltrim (l : List Int) : List Int := l.dropWhile (· == 48)
def rtrim (l : List Int) : List Int := (l.reverse.dropWhile (· == 48)).reverse
theorem ltrim_len (l : List Int) : (ltrim l).length ≤ l.length := by
  rw [ltrim, ← List.length_reverse]
  have := (List.dropWhile_suffix (l := l) (fun d : Int => d == 48)).length_le
  simpa using this
theorem ltrim_nil (l : List Int) : ltrim l = [] ↔ all0 l = true := by
  unfold ltrim all0
  induction l with
  | nil => simp
  | cons d l ih =>
    rw [List.dropWhile_cons]
    by_cases h : d = 48
    · simpa [h] using ih
    · simp [h]
theorem rtrim_snoc (l : List Int) (d : Int) : rtrim (l ++ [d]) = if d = 48 then rtrim l else l ++ [d] := by
  simp only [rtrim, List.reverse_append, List.reverse_cons, List.reverse_nil, List.nil_append, List.cons_append, List.dropWhile_cons]
  by_cases h : d = 48
  · simp [h]
  · simp [h]
theorem all0_ltrim (l : List Int) : all0 (ltrim l) = all0 l := by
  induction l with
  | nil => rfl
  | cons d l ih =>
    simp only [ltrim, List.dropWhile_cons]
    by_cases h : d = 48
    · simpa [h, all0, ltrim] using ih
    · simp [h]
theorem all0_rtrim (l : List Int) : all0 (rtrim l) = all0 l := by
  have h1 : all0 (rtrim l) = all0 (ltrim l.reverse) := by simp [all0, rtrim, ltrim]
  rw [h1, all0_ltrim]; simp [all0]
theorem trimLeft_is : ∀ (n : Nat) (s : ByteArray), s.size = n → Fit s → ∃ t, Ev (fun k => strings_trimLeftByte.f k s 48) t ∧ S t = ltrim (S s) := by
  intro n
  induction n with
  | zero =>
    intro s h _
    have h0 : S s = [] := List.eq_nil_of_length_eq_zero (by rw [S_len]; exact h)
    exact ⟨s, Ev.up (Ev.neg (by omega) (Ev.val rfl)), by rw [h0]; rfl⟩
  | succ n ih =>
    intro s h hf
    obtain ⟨d, m, e⟩ : ∃ d m, S s = d :: m := by
      cases he : S s with
      | nil => have := S_len s; rw [he] at this; simp at this; omega
      | cons d m => exact ⟨d, m, rfl⟩
    have hb : bt s 0 = d := by rw [bt_S, e]; rfl
    by_cases h1 : d = 48
    · have h2 : S (s.extract 1 s.size) = m := by rw [S_drop, e]; rfl
      have h3 : (s.extract 1 s.size).size = n := by rw [← S_len, h2]; have := S_len s; rw [e] at this; simp at this; omega
      obtain ⟨t, ht, hs⟩ := ih _ h3 (by unfold Fit at *; omega)
      refine ⟨t, Ev.up (Ev.pos (by omega) (Ev.pos (by omega) (Ev.pos (by rw [hb]; exact h1) (Ev.pos (by omega) ht)))), ?_⟩
      rw [hs, h2, e, ltrim, ltrim, List.dropWhile_cons]; simp [h1]
    · refine ⟨s, Ev.up (Ev.pos (by omega) (Ev.pos (by omega) (Ev.neg (by rw [hb]; exact h1) (Ev.val rfl)))), ?_⟩
      rw [e, ltrim, List.dropWhile_cons]; simp [h1]
theorem trimRight_is : ∀ (n : Nat) (s : ByteArray), s.size = n → Fit s → ∃ t, Ev (fun k => strings_trimRightByte.f k s 48) t ∧ S t = rtrim (S s) := by
  intro n
  induction n with
  | zero =>
    intro s h _
    have h0 : S s = [] := List.eq_nil_of_length_eq_zero (by rw [S_len]; exact h)
    exact ⟨s, Ev.up (Ev.neg (by omega) (Ev.val rfl)), by rw [h0]; rfl⟩
  | succ n ih =>
    intro s h hf
    have hl := S_len s
    obtain ⟨m, d, e⟩ : ∃ m d, S s = m ++ [d] := by
      have : S s ≠ [] := by intro he; rw [he] at hl; simp at hl; omega
      exact ⟨(S s).dropLast, (S s).getLast this, (List.dropLast_concat_getLast this).symm⟩
    have hm : m.length = n := by rw [e] at hl; simp at hl; omega
    have hf' := hf
    unfold Fit at hf'
    have hw : wrap64 ((s.size : Int) - 1) = (m.length : Int) := by rw [wrap64_id (by omega) (by omega)]; omega
    have hb : bt s (m.length : Int) = d := by rw [bt_S, e, rd_nat, getD_append_mid]
    by_cases h1 : d = 48
    · have h2 : S (s.extract 0 (m.length : Int).toNat) = m := by rw [S_take, e]; simp
      have h3 : (s.extract 0 (m.length : Int).toNat).size = n := by rw [← S_len, h2]; omega
      obtain ⟨t, ht, hs⟩ := ih _ h3 (by unfold Fit; omega)
      refine ⟨t, Ev.up (Ev.pos (by omega) ?_), by rw [hs, h2, e, rtrim_snoc, if_pos h1]⟩
      rw [hw, hb]
      exact Ev.pos (by omega) (Ev.pos (by omega) (Ev.pos h1 (Ev.pos (by omega) ht)))
    · refine ⟨s, Ev.up (Ev.pos (by omega) ?_), by rw [e, rtrim_snoc, if_neg h1]⟩
      rw [hw, hb]
      exact Ev.pos (by omega) (Ev.pos (by omega) (Ev.neg h1 (Ev.val rfl)))
theorem trim_nil_bytes (s : ByteArray) (h : s.toList = ([] : List UInt8)) : S s = [] := (toList_nil s).1 h
theorem size48 : (((⟨#[48]⟩ : ByteArray).size : Nat) : Int) = 1 := by decide
theorem bt48 : bt (⟨#[48]⟩ : ByteArray) 0 = 48 := by decide
theorem ne48 : ((⟨#[48]⟩ : ByteArray).toList == ([] : List UInt8)) = false := by rw [beq_lit]; rfl
theorem Fit.of_len {t : ByteArray} {n : Nat} (h : (S t).length ≤ n) (hn : n ≤ 1000000000000000000) : Fit t := by
  unfold Fit; rw [← S_len]; omega
theorem rtrim_len (l : List Int) : (rtrim l).length ≤ l.length := by
  have := ltrim_len l.reverse
  simp [rtrim, ltrim] at *
  exact this
theorem TrimLeft_go (s z : ByteArray) (hz : (z.size : Int) = 1) (hb : bt z 0 = 48) (hn : (z.toList == ([] : List UInt8)) = false) (h : ¬ s.toList = ([] : List UInt8))
    {t : ByteArray} (ht : Ev (fun k => strings_trimLeftByte.f k s 48) t) : Ev (fun k => strings_TrimLeft.f k s z) t := by
  have j1 : ∀ x : Bool, x = true → Ev (fun k => strings_TrimLeft.j1 k s z x) t := by
    intro x hx
    refine Ev.up (Ev.pos hx (Ev.pos (by omega) ?_))
    rw [hb]
    exact ht.tail
  have j0 : ∀ x : Bool, x = false → Ev (fun k => strings_TrimLeft.j0 k s z x) t := by
    intro x hx
    exact Ev.up (Ev.neg (by rw [hx]; exact Bool.false_ne_true) (Ev.pos hz (Ev.pos (by omega) (j1 _ (by rw [hb]; rfl)))))
  exact Ev.neg h (j0 _ hn)
theorem TrimLeft_none (s z : ByteArray) (h : s.toList = ([] : List UInt8)) : Ev (fun k => strings_TrimLeft.f k s z) s := by
  have j0 : ∀ x : Bool, x = true → Ev (fun k => strings_TrimLeft.j0 k s z x) s := fun x hx => Ev.up (Ev.pos hx (Ev.val rfl))
  exact Ev.pos h (j0 _ rfl)
theorem TrimLeft_is (s : ByteArray) (hs : Fit s) : ∃ t, Ev (fun k => strings_TrimLeft.f k s (⟨#[48]⟩ : ByteArray)) t ∧ S t = ltrim (S s) := by
  obtain ⟨t, ht, e⟩ := trimLeft_is _ s rfl hs
  by_cases h : s.toList = ([] : List UInt8)
  · exact ⟨s, TrimLeft_none s _ h, by rw [trim_nil_bytes s h]; rfl⟩
  · exact ⟨t, TrimLeft_go s _ size48 bt48 ne48 h ht, e⟩
theorem TrimRight_go (s z : ByteArray) (hz : (z.size : Int) = 1) (hb : bt z 0 = 48) (hn : (z.toList == ([] : List UInt8)) = false) (h : ¬ s.toList = ([] : List UInt8))
    {t : ByteArray} (ht : Ev (fun k => strings_trimRightByte.f k s 48) t) : Ev (fun k => strings_TrimRight.f k s z) t := by
  have j1 : ∀ x : Bool, x = true → Ev (fun k => strings_TrimRight.j1 k s z x) t := by
    intro x hx
    refine Ev.up (Ev.pos hx (Ev.pos (by omega) ?_))
    rw [hb]
    exact ht.tail
  have j0 : ∀ x : Bool, x = false → Ev (fun k => strings_TrimRight.j0 k s z x) t := by
    intro x hx
    exact Ev.up (Ev.neg (by rw [hx]; exact Bool.false_ne_true) (Ev.pos hz (Ev.pos (by omega) (j1 _ (by rw [hb]; rfl)))))
  exact Ev.neg h (j0 _ hn)
theorem TrimRight_none (s z : ByteArray) (h : s.toList = ([] : List UInt8)) : Ev (fun k => strings_TrimRight.f k s z) s := by
  have j0 : ∀ x : Bool, x = true → Ev (fun k => strings_TrimRight.j0 k s z x) s := fun x hx => Ev.up (Ev.pos hx (Ev.val rfl))
  exact Ev.pos h (j0 _ rfl)
theorem TrimRight_is (s : ByteArray) (hs : Fit s) : ∃ t, Ev (fun k => strings_TrimRight.f k s (⟨#[48]⟩ : ByteArray)) t ∧ S t = rtrim (S s) := by
  obtain ⟨t, ht, e⟩ := trimRight_is _ s rfl hs
  by_cases h : s.toList = ([] : List UInt8)
  · exact ⟨s, TrimRight_none s _ h, by rw [trim_nil_bytes s h]; rfl⟩
  · exact ⟨t, TrimRight_go s _ size48 bt48 ne48 h ht, e⟩
theorem any48 (b : UInt8) : ([(48 : UInt8)].contains b) = ((b.toNat : Int) == 48) := by
  rw [Lib.contains_one, Bool.eq_iff_iff, beq_iff_eq, beq_iff_eq]
  constructor
  · rintro rfl; rfl
  · intro h
    have h1 : b.toNat = 48 := by omega
    exact UInt8.toNat_inj.1 h1
theorem map_dropW (l : List UInt8) : (l.dropWhile ([(48 : UInt8)].contains ·)).map (fun b => (b.toNat : Int)) = (l.map (fun b => (b.toNat : Int))).dropWhile (· == 48) := by
  induction l with
  | nil => rfl
  | cons b l ih =>
    rw [List.dropWhile_cons, List.map_cons, List.dropWhile_cons, any48]
    by_cases h : ((b.toNat : Int) == 48) = true
    · rw [if_pos h, if_pos h, ih]
    · rw [if_neg h, if_neg h, List.map_cons]
theorem Trim_is (s : ByteArray) (hs : Fit s) : ∃ t, strings_Trim.f s (⟨#[48]⟩ : ByteArray) = some t ∧ S t = ltrim (rtrim (S s)) := by
  unfold Fit at hs
  unfold strings_Trim.f
  rw [if_pos ⟨by omega, by decide, by decide⟩]
  refine ⟨_, rfl, ?_⟩
  show (Lib.trimS s.data.toList [(48 : UInt8)]).map (fun b => (b.toNat : Int)) = _
  unfold Lib.trimS Lib.trimLeftS Lib.trimRightS ltrim rtrim S
  rw [map_dropW, List.map_reverse, map_dropW, List.map_reverse]
theorem trim_nil (l : List Int) : ltrim (rtrim l) = [] ↔ all0 l = true := by rw [ltrim_nil, all0_rtrim]
theorem isEmpty_false {l : List Int} (h : l ≠ []) : l.isEmpty = false := by cases l with
  | nil => exact absurd rfl h
  | cons => rfl
theorem form_is (n : Bool) (a b : ByteArray) (ha : Fit a) (hb : Fit b) : Ev (fun k => decimal_form.f k n a b) (fm n (S a) (S b)) := by
  have hl := S_len a
  have key : ∀ x : Bool, (x = false → (!(S a).isEmpty && allD (S a) && allD (S b) && !(decide (1 < (S a).length) && rd (S a) 0 == 48)) = true) →
      (x = true → (!(S a).isEmpty && allD (S a) && allD (S b) && !(decide (1 < (S a).length) && rd (S a) 0 == 48)) = false) →
      Ev (fun k => decimal_form.j0 k x n a b) (fm n (S a) (S b)) := by
    intro x h0 h1
    unfold fm
    refine Ev.up (Ev.split (fun hx => Ev.val ?_) (fun hx => ?_))
    · rw [h1 hx]; rfl
    · rw [h0 (by simpa using hx), Bool.true_and]
      refine Ev.split (fun hn => ?_) (fun hn => Ev.val ?_)
      · obtain ⟨t, ht, et⟩ := Trim_is a ha
        obtain ⟨u, hu, eu⟩ := Trim_is b hb
        refine Ev.bindV ht (Ev.split (fun h => ?_) (fun h => Ev.val ?_))
        · rw [toList_nil, et, trim_nil] at h
          refine Ev.bindV hu (Ev.val ?_)
          rw [hn, h, Bool.eq_iff_iff]
          simp [toList_nil, eu, trim_nil]
        · rw [toList_nil, et, trim_nil] at h
          simp at h; simp [h]
      · simp at hn; simp [hn]
  refine Ev.split (fun h => key true (by simp) (fun _ => ?_)) (fun h => ?_)
  · rw [toList_nil] at h; simp [h]
  · rw [toList_nil] at h
    have hne : (S a).isEmpty = false := isEmpty_false h
    have hp : 0 < (S a).length := List.length_pos_iff.2 h
    refine Ev.bind (all_is a ha) (Ev.split (fun h1 => ?_) (fun h1 => key true (by simp) (fun _ => by simp at h1; simp [h1])))
    refine Ev.bind (all_is b hb) (Ev.split (fun h2 => ?_) (fun h2 => key true (by simp) (fun _ => by simp at h2; simp [h2])))
    refine Ev.split (fun h3 => Ev.pos (by omega) (key _ ?_ ?_)) (fun h3 => key _ ?_ ?_)
    · intro h4
      rw [bt_S] at h4
      simp [hne, h1, h2, h4]
    · intro h4
      rw [bt_S] at h4
      have : 1 < (S a).length := by omega
      simp [h4, this]
    · intro _
      have : ¬ 1 < (S a).length := by omega
      simp [hne, h1, h2, this]
    · simp
theorem Check_is (n : Bool) (a b : ByteArray) (ha : Fit a) (hb : Fit b) : Ev (fun k => decimal_Check.f k n a b) (chk n (S a) (S b)) := by
  have hl := S_len a
  have hl' := S_len b
  unfold chk okD Fit at *
  refine Ev.split (fun h => Ev.val ?_) (fun h => ?_)
  · have : ¬ (S a).length + (S b).length ≤ 40 := by omega
    simp [this]
  · have hw : wrap64 (40 - (a.size : Int)) = 40 - (a.size : Int) := wrap64_id (by omega) (by omega)
    rw [hw]
    refine Ev.split (fun h1 => Ev.val ?_) (fun h1 => ?_)
    · have : ¬ (S a).length + (S b).length ≤ 40 := by omega
      simp [this]
    · have : (S a).length + (S b).length ≤ 40 := by omega
      refine Ev.bind (form_is n a b ha hb) (Ev.split (fun h2 => Ev.val ?_) (fun h2 => Ev.val ?_))
      · simp [this, h2]
      · simp [h2]
theorem refCheck_is (n : Bool) (a b : ByteArray) (ha : Fit a) (hb : Fit b) : Ev (fun k => idiomref02_Check.f k n a b) (chk n (S a) (S b)) := by
  have hl := S_len a
  have hl' := S_len b
  have ha' := ha
  have hb' := hb
  unfold Fit at ha' hb'
  have bad : ∀ x : Bool, x = true → chk n (S a) (S b) = 20 → Ev (fun k => idiomref02_Check.j0 k x n a b) (chk n (S a) (S b)) := by
    intro x hx h
    rw [h]
    exact Ev.up (Ev.pos hx (Ev.val rfl))
  have big : ¬ (S a).length + (S b).length ≤ 40 → chk n (S a) (S b) = 20 := by
    intro h; simp [chk, okD, h]
  refine Ev.split (fun h => bad _ rfl ?_) (fun h => Ev.split (fun h1 => bad _ rfl (big (by omega))) (fun h1 => Ev.split (fun h2 => bad _ rfl (big (by omega))) (fun h2 => ?_)))
  · have : S a = [] := List.eq_nil_of_length_eq_zero (by omega)
    simp [chk, okD, fm, this]
  · have hw : wrap64 ((a.size : Int) + (b.size : Int)) = (a.size : Int) + (b.size : Int) := wrap64_id (by omega) (by omega)
    rw [hw]
    by_cases h3 : (a.size : Int) + (b.size : Int) > 40
    · exact bad _ (by simpa using h3) (big (by omega))
    have h3' : (S a).length + (S b).length ≤ 40 := by omega
    have hne : (S a).isEmpty = false := by
      cases he : S a with
      | nil => rw [he] at hl; simp at hl; omega
      | cons => rfl
    refine Ev.up (Ev.neg (by simpa using h3) ?_)
    refine Ev.bind (digits_is a ha) (Ev.split (fun h4 => ?_) (fun h4 => Ev.val ?_))
    · refine Ev.bind (digits_is b hb) (Ev.split (fun h5 => ?_) (fun h5 => Ev.val ?_))
      · have tl : (¬ (decide (1 < (S a).length) && rd (S a) 0 == 48) = true) → Ev (fun k => if n = true then (idiomref02_Nought.f k n a b).bind fun t => if t = true then some 20 else some 0 else some 0) (chk n (S a) (S b)) := by
          intro h6
          simp only [Bool.not_eq_true] at h6
          refine Ev.split (fun h7 => Ev.bind (nought_is n a b ha hb) (Ev.split (fun h8 => Ev.val ?_) (fun h8 => Ev.val ?_))) (fun h7 => Ev.val ?_)
          · simp only [chk, okD, fm, h7, h8]; simp
          · simp only [Bool.not_eq_true] at h8
            simp only [chk, okD, fm, h7, h8, h4, h5, h6, hne, h3']; simp
          · simp only [Bool.not_eq_true] at h7
            simp only [chk, okD, fm, h7, h4, h5, h6, hne, h3']; simp
        refine Ev.pos (by omega) ?_
        rw [bt_S]
        refine Ev.split (fun h6 => Ev.split (fun h7 => Ev.val ?_) (fun h7 => tl ?_)) (fun h6 => tl ?_)
        · have h8 : 1 < (S a).length := by omega
          simp [chk, okD, fm, h6, h8]
        · have h8 : ¬ 1 < (S a).length := by omega
          simp [h8]
        · simp [h6]
      · simp only [Bool.not_eq_true] at h5
        simp [chk, okD, fm, h5]
    · simp only [Bool.not_eq_true] at h4
      simp [chk, okD, fm, h4]
end Go.Proofs.YtihjcaglhjepdaaDoor.Q
set_option linter.unusedVariables false
set_option linter.unusedSimpArgs false
namespace Go.Proofs.YtihjcaglhjepdaaDoor.Q
open Go.RowKit Go.Proofs.YtihjcaglhjepdaaDoorW.PrintWords Go.Proofs.YtihjcaglhjepdaaDoor.P
theorem dn48_ltrim (l : List Int) : dn48 (ltrim l) = (dn48 l).dropWhile (· == 0) := by
  induction l with
  | nil => rfl
  | cons d l ih =>
    unfold ltrim at *
    rw [List.dropWhile_cons]
    by_cases h : d = 48
    · rw [if_pos (by simpa using h), ih]
      show _ = List.dropWhile (· == 0) ((d - 48) :: dn48 l)
      rw [List.dropWhile_cons, if_pos (by simp; omega)]
    · rw [if_neg (by simpa using h)]
      show _ = List.dropWhile (· == 0) ((d - 48) :: dn48 l)
      rw [List.dropWhile_cons, if_neg (by simp; omega)]
      rfl
theorem allD_dig {l : List Int} (h : allD l = true) : Dig (dn48 l) := by
  intro d hd
  obtain ⟨x, hx, rfl⟩ := List.mem_map.1 hd
  have := List.all_eq_true.1 h x hx
  simp [isD] at this
  omega
theorem allD_ltrim {l : List Int} (h : allD l = true) : allD (ltrim l) = true := by
  rw [allD, List.all_eq_true] at *
  intro d hd
  exact h d ((List.dropWhile_suffix _).subset hd)
theorem set_mid_zero (l : List Int) (v : Int) (n : Nat) : (l ++ List.replicate (n + 1) 0).set l.length v = (l ++ [v]) ++ List.replicate n 0 := by
  rw [List.replicate_succ, set_append_mid]; simp
theorem of_loop (s : ByteArray) (hs : Fit s) (hd : allD (S s) = true) : ∀ rest pre : List Int, S s = pre ++ rest →
    Ev (fun k => decimal_of.l0 k s (dn48 pre ++ List.replicate rest.length 0) (s.size : Int) (pre.length : Int)) (dn48 (S s)) := by
  unfold Fit at hs
  intro rest
  induction rest with
  | nil =>
    intro pre h
    have hl : s.size = pre.length := by rw [← S_len, h]; simp
    exact Ev.up (Ev.neg (by omega) (Ev.val (by rw [h]; simp)))
  | cons d rest ih =>
    intro pre h
    have hl : s.size = pre.length + (rest.length + 1) := by rw [← S_len, h]; simp
    have hb : bt s (pre.length : Int) = d := by rw [bt_S, h, rd_nat, getD_append_mid]
    have h3 := ih (pre ++ [d]) (by rw [h]; simp)
    have h4 : wrap64 ((pre.length : Int) + 1) = ((pre ++ [d]).length : Int) := by rw [wrap64_id (by omega) (by omega)]; simp
    have hdd : 48 ≤ d ∧ d ≤ 57 := by
      have := List.all_eq_true.1 hd d (by rw [h]; simp)
      simpa [isD] using this
    refine Ev.up (Ev.pos (by omega) (Ev.pos (by omega) (Ev.pos (by omega) (Ev.pos (by simp [dn48]; omega) ?_))))
    rw [hb, h4]
    have e : (dn48 pre ++ List.replicate (d :: rest).length 0).set (pre.length : Int).toNat ((d - 48) % 256) = dn48 (pre ++ [d]) ++ List.replicate rest.length 0 := by
      have : (pre.length : Int).toNat = (dn48 pre).length := by simp [dn48]
      rw [this, List.length_cons, set_mid_zero]
      have : (d - 48) % 256 = d - 48 := by omega
      rw [this]; simp [dn48]
    rw [e]
    exact h3
theorem of_is (s : ByteArray) (hs : s.size ≤ 100000) (hd : allD (S s) = true) : Ev (fun k => decimal_of.f k s) (dg (val (dn48 (S s)))) := by
  obtain ⟨t, ht, et⟩ := TrimLeft_is s (by unfold Fit; omega)
  have hl : t.size ≤ s.size := by rw [← S_len, ← S_len, et]; exact ltrim_len _
  have h1 : allD (S t) = true := by rw [et]; exact allD_ltrim hd
  have h2 := of_loop t (by unfold Fit; omega) h1 (S t) [] rfl
  have e : dn48 (S t) = dg (val (dn48 (S s))) := by rw [et, dn48_ltrim, dg_lead (allD_dig hd)]
  rw [← e]
  refine Ev.bind ht (Ev.pos (by omega) (Ev.pos (by omega) ?_))
  have e2 : ((t.size : Int)).toNat = (S t).length := by rw [S_len]; simp
  rw [e2]
  exact h2
theorem up_is (n c : Nat) (hn : (dg n).length ≤ 100000) (hc : c ≤ 100000) : decimal_digits_up.f (dg n) (c : Int) = some (dg (n * 10 ^ c)) := by
  unfold decimal_digits_up.f
  by_cases h : n = 0
  · subst h; simp [dg_zero]
  · have hl : (dg n).length ≠ 0 := by
      intro e; exact h (dg_eq_nil.1 (List.eq_nil_of_length_eq_zero e))
    have hw : wrap64 (((dg n).length : Int) + (c : Int)) = (((dg n).length + c : Nat) : Int) := by rw [wrap64_id (by omega) (by omega)]; omega
    rw [if_neg (by omega), hw, if_pos (by omega), if_pos (by omega), dg_mul_pow, if_neg h]
    have : (((dg n).length + c : Nat) : Int).toNat = (dg n).length + c := by omega
    rw [this]
    congr 1
    unfold copyAt
    rw [List.take_zero, List.nil_append, List.length_replicate]
    have h1 : min (dg n).length ((dg n).length + c - 0) = (dg n).length := by omega
    rw [h1, List.take_of_length_le (by omega), Nat.zero_add, List.drop_replicate]
    have : (dg n).length + c - (dg n).length = c := by omega
    rw [this]
end Go.Proofs.YtihjcaglhjepdaaDoor.Q
set_option linter.unusedVariables false
set_option linter.unusedSimpArgs false
namespace Go.Proofs.YtihjcaglhjepdaaDoor.Q
open Go.RowKit Go.Proofs.YtihjcaglhjepdaaDoorW.PrintWords Go.Proofs.YtihjcaglhjepdaaDoor.P
def padL (w : Nat) (l : List Int) : List Int := List.replicate (w - l.length) 0 ++ l
theorem val_padL (w : Nat) (l : List Int) : val (padL w l) = val l := by rw [padL, val_append, val_zeros]; simp
theorem Dig_padL (w : Nat) {l : List Int} (h : Dig l) : Dig (padL w l) := (Dig.zeros _).append h
theorem snoc_cases (l : List Int) (h : l ≠ []) : ∃ m d, l = m ++ [d] := ⟨l.dropLast, l.getLast h, (List.dropLast_concat_getLast h).symm⟩
end Go.Proofs.YtihjcaglhjepdaaDoor.Q
set_option linter.unusedVariables false
set_option linter.unusedSimpArgs false
namespace Go.Proofs.YtihjcaglhjepdaaDoor.Q
open Go.RowKit Go.Proofs.YtihjcaglhjepdaaDoorW.PrintWords Go.Proofs.YtihjcaglhjepdaaDoor.P
def txd (n : Nat) : List Int := if n = 0 then [0] else dg n
def tx (n : Nat) : List Int := up48 (txd n)
theorem Dig_txd (n : Nat) : Dig (txd n) := by
  unfold txd; split
  · exact Dig.one (by omega) (by omega)
  · exact Dig_dg n
theorem val_txd (n : Nat) : val (txd n) = n := by
  unfold txd; split
  · rename_i h; rw [h]; rfl
  · exact val_dg n
theorem txd_len (n : Nat) : (txd n).length = max 1 (dg n).length := by
  unfold txd; split
  · rename_i h; rw [h, dg_zero]; rfl
  · rename_i h
    have : (dg n).length ≠ 0 := fun e => h (dg_eq_nil.1 (List.eq_nil_of_length_eq_zero e))
    omega
theorem tx_len (n : Nat) : (tx n).length = max 1 (dg n).length := by rw [tx, up48_len, txd_len]
theorem txd_val {d : Int} {l : List Int} (h : Dig (d :: l)) (hd : d ≠ 0 ∨ l = []) : txd (val (d :: l)) = d :: l := by
  have h9 := h.head
  by_cases h0 : d = 0
  · rcases hd with hd | hd
    · exact absurd h0 hd
    · subst hd h0; rfl
  · have hp : val (d :: l) ≠ 0 := by
      rw [val_cons]
      have : 1 * 10 ^ l.length ≤ d.toNat * 10 ^ l.length := Nat.mul_le_mul_right _ (by omega)
      have : 0 < 10 ^ l.length := Nat.pow_pos (by omega)
      omega
    unfold txd
    rw [if_neg hp]
    exact dg_val h (fun e m he => by rw [← (List.cons.inj he).1]; exact h0)
theorem Lead_is : ∀ (L : List Int) (s : ByteArray), S s = up48 L → Dig L → L.length ≤ 1000000 → ∃ t, Ev (fun k => idiomref02_Lead.f k s) t ∧ S t = tx (val L) := by
  intro L
  induction L with
  | nil =>
    intro s hS _ _
    have h0 : s.size = 0 := by rw [← S_len, hS]; rfl
    have hn : s.toList = ([] : List UInt8) := (toList_nil s).2 hS
    exact ⟨⟨#[48]⟩, Ev.up (Ev.neg (by omega) (Ev.pos hn (Ev.val rfl))), rfl⟩
  | cons d L ih =>
    intro s hS hD hl
    simp only [List.length_cons] at hl
    have hz : s.size = L.length + 1 := by rw [← S_len, hS, up48_len]; simp
    have hn : ¬ s.toList = ([] : List UInt8) := by
      rw [toList_nil, hS]; simp [up48]
    have hb : bt s 0 = d + 48 := by rw [bt_S, hS]; rfl
    by_cases h1 : (s.size : Int) > 1
    · by_cases hd : d = 0
      · have e : S (s.extract 1 s.size) = up48 L := by rw [S_drop, hS]; rfl
        obtain ⟨t, ht, et⟩ := ih _ e hD.tail (by omega)
        refine ⟨t, Ev.up (Ev.pos h1 (Ev.pos (by omega) (Ev.pos (by rw [hb]; omega) (Ev.pos (by omega) ht)))), ?_⟩
        rw [et, val_cons, hd]; simp
      · refine ⟨s, Ev.up (Ev.pos h1 (Ev.pos (by omega) (Ev.neg (by rw [hb]; omega) (Ev.neg hn (Ev.val rfl))))), ?_⟩
        rw [hS, tx, txd_val hD (.inl hd)]
    · have hL : L = [] := List.eq_nil_of_length_eq_zero (by omega)
      refine ⟨s, Ev.up (Ev.neg h1 (Ev.neg hn (Ev.val rfl))), ?_⟩
      rw [hS, tx, txd_val hD (.inr hL)]
theorem Zeros_loop (n : Nat) (hn : n ≤ 1000000) : ∀ m i : Nat, i + m = n → Ev (fun k => idiomref02_Zeros.l0 k (n : Int) (List.replicate i 48 ++ List.replicate m 0) (i : Int)) (strOfNums (List.replicate n 48)) := by
  intro m
  induction m with
  | zero =>
    intro i h
    have : i = n := by omega
    subst this
    exact Ev.up (Ev.neg (by omega) (Ev.val (by simp)))
  | succ m ih =>
    intro i h
    have hw : wrap64 ((i : Int) + 1) = ((i + 1 : Nat) : Int) := by rw [wrap64_id (by omega) (by omega)]; omega
    have hs : (List.replicate i 48 ++ List.replicate (m + 1) 0 : List Int).set (i : Int).toNat 48 = List.replicate (i + 1) 48 ++ List.replicate m 0 := by
      have : (i : Int).toNat = (List.replicate i (48 : Int)).length := by simp
      rw [this, List.replicate_succ, set_append_mid, List.replicate_succ']; simp
    refine Ev.up (Ev.pos (by omega) (Ev.pos (by omega) (Ev.pos (by simp; omega) ?_)))
    rw [hw, hs]
    exact ih (i + 1) (by omega)
theorem Zeros_is (n : Nat) (hn : n ≤ 1000000) : ∃ t, Ev (fun k => idiomref02_Zeros.f k (n : Int)) t ∧ S t = List.replicate n 48 := by
  refine ⟨_, Ev.pos (by omega) (Ev.pos (by omega) ?_), S_str (l := List.replicate n 48) (fun d hd => by rw [(List.mem_replicate.1 hd).2]; omega)⟩
  have := Zeros_loop n hn n 0 (by omega)
  have e : ((n : Int)).toNat = n := by simp
  rw [e]
  simpa using this
theorem tx_inj {m n : Nat} (h : tx m = tx n) : m = n := by
  have := congrArg (fun l => val (dn48 l)) h
  simpa [tx, dn_up, val_txd] using this
end Go.Proofs.YtihjcaglhjepdaaDoor.Q
set_option linter.unusedVariables false
set_option linter.unusedSimpArgs false
namespace Go.Proofs.YtihjcaglhjepdaaDoor.Q
open Go.RowKit Go.Proofs.YtihjcaglhjepdaaDoorW.PrintWords Go.Proofs.YtihjcaglhjepdaaDoor.P
theorem chk_len {n : Bool} {a b : List Int} (h : chk n a b = 0) : a.length + b.length ≤ 40 := by
  unfold chk okD at h
  by_cases h1 : a.length + b.length ≤ 40
  · exact h1
  · simp [h1] at h
end Go.Proofs.YtihjcaglhjepdaaDoor.Q
set_option linter.unusedVariables false
set_option linter.unusedSimpArgs false
namespace Go.Proofs.YtihjcaglhjepdaaDoor.Q
open Go.RowKit Go.Proofs.YtihjcaglhjepdaaDoorW.PrintWords Go.Proofs.YtihjcaglhjepdaaDoor.P
structure Ans where
  neg : Bool
  a : List Int
  b : List Int
  err : Int
def bad (e : Int) : Ans := ⟨false, [], [], e⟩
def Tells (r : Bool × ByteArray × ByteArray × Int) (x : Ans) : Prop := r.1 = x.neg ∧ S r.2.1 = x.a ∧ S r.2.2.1 = x.b ∧ r.2.2.2 = x.err
theorem Tells.bad (e : Int) : Tells (false, (⟨#[]⟩ : ByteArray), (⟨#[]⟩ : ByteArray), e) (bad e) := ⟨rfl, rfl, rfl, rfl⟩
theorem Tells.eq {r r' : Bool × ByteArray × ByteArray × Int} {x : Ans} (h : Tells r x) (h' : Tells r' x) : r = r' := by
  obtain ⟨a, b, c, d⟩ := r
  obtain ⟨a', b', c', d'⟩ := r'
  obtain ⟨h1, h2, h3, h4⟩ := h
  obtain ⟨k1, k2, k3, k4⟩ := h'
  simp only at h1 h2 h3 h4 k1 k2 k3 k4
  rw [h1, S_inj (h2.trans k2.symm), S_inj (h3.trans k3.symm), h4, k1, k4]
end Go.Proofs.YtihjcaglhjepdaaDoor.Q
set_option linter.unusedVariables false
set_option linter.unusedSimpArgs false
namespace Go.Proofs.YtihjcaglhjepdaaDoor.Q
open Go.RowKit Go.Proofs.YtihjcaglhjepdaaDoorW.PrintWords Go.Proofs.YtihjcaglhjepdaaDoor.P
theorem padL_len_max (w : Nat) (l : List Int) : (padL w l).length = max w l.length := by simp [padL]; omega
def mk (neg : Bool) (N p : Nat) : Ans :=
  if 40 < (padL (p + 1) (dg N)).length then bad 3
  else ⟨neg && decide (N ≠ 0), (up48 (padL (p + 1) (dg N))).take ((padL (p + 1) (dg N)).length - p), (up48 (padL (p + 1) (dg N))).drop ((padL (p + 1) (dg N)).length - p), 0⟩
theorem up48_append (l m : List Int) : up48 (l ++ m) = up48 l ++ up48 m := by simp [up48]
theorem up48_zeros (n : Nat) : up48 (List.replicate n 0) = List.replicate n 48 := by simp [up48]
theorem Dig_up {l : List Int} (h : Dig l) : ∀ d ∈ up48 l, 0 ≤ d ∧ d ≤ 255 := by
  intro d hd
  obtain ⟨x, hx, rfl⟩ := List.mem_map.1 hd
  have := h x hx
  omega
theorem sub_take {l : List Int} {P : Int → Prop} (h : ∀ d ∈ l, P d) (n : Nat) : ∀ d ∈ l.take n, P d := fun d hd => h d (List.mem_of_mem_take hd)
theorem sub_drop {l : List Int} {P : Int → Prop} (h : ∀ d ∈ l, P d) (n : Nat) : ∀ d ∈ l.drop n, P d := fun d hd => h d (List.mem_of_mem_drop hd)
theorem made_l1 (neg : Bool) (l : List Int) (p : Nat) (dl : Dig l) (hl : l.length ≤ 100000) (hp : p ≤ 100000) (r : Bool × ByteArray × ByteArray × Int) : ∀ (rest pre acc : List Int), l = pre ++ rest → acc.length + rest.length ≤ 200000 →
    p ≤ acc.length + rest.length →
    r = (neg && decide (0 < l.length), strOfNums ((acc ++ up48 rest).take (acc.length + rest.length - p)), strOfNums ((acc ++ up48 rest).drop (acc.length + rest.length - p)), 0) →
    Ev (fun k => decimal_made.l1 k neg l (p : Int) acc l (l.length : Int) (pre.length : Int)) r := by
  intro rest
  induction rest with
  | nil =>
    intro pre acc h ha hpa hr
    have hl' : l.length = pre.length := by rw [h]; simp
    simp only [List.length_nil, Nat.add_zero] at ha hpa hr
    have hw : wrap64 ((acc.length : Int) - (p : Int)) = ((acc.length - p : Nat) : Int) := by rw [wrap64_id (by omega) (by omega)]; omega
    have hn : ((acc.length - p : Nat) : Int).toNat = acc.length - p := by omega
    refine Ev.up (Ev.neg (by omega) ?_)
    rw [hw, hn]
    simp only [up48, List.map_nil, List.append_nil] at hr
    refine Ev.split (fun h1 => Ev.pos (by omega) (Ev.pos (by omega) (Ev.val ?_))) (fun h1 => Ev.pos (by omega) (Ev.pos (by omega) (Ev.val ?_)))
    · rw [hr, h1, Bool.true_and]
      have : decide ((l.length : Int) > 0) = decide (0 < l.length) := by
        rw [decide_eq_decide]; omega
      rw [this]
    · rw [hr]
      simp only [Bool.not_eq_true] at h1
      rw [h1, Bool.false_and]
  | cons d rest ih =>
    intro pre acc h ha hpa hr
    have hl' : l.length = pre.length + (rest.length + 1) := by rw [h]; simp
    have hd : 0 ≤ d ∧ d ≤ 9 := dl d (by rw [h]; simp)
    have hrd : rd l (pre.length : Int) = d := by rw [rd_nat, h, getD_append_mid]
    have hi : wrap64 ((pre.length : Int) + 1) = (((pre ++ [d]).length : Nat) : Int) := by rw [wrap64_id (by omega) (by omega)]; simp
    simp only [List.length_cons] at ha hpa hr
    refine Ev.up (Ev.pos (by omega) (Ev.pos (by omega) (Ev.pos (by omega) (Ev.pos (by omega) ?_))))
    rw [hrd, hi]
    have e : (48 + d) % 256 = d + 48 := by omega
    rw [e]
    refine ih (pre ++ [d]) (acc ++ [d + 48]) (by rw [h]; simp) (by simp; omega) (by simp; omega) ?_
    rw [hr]
    have e1 : acc ++ [d + 48] ++ up48 rest = acc ++ up48 (d :: rest) := by simp [up48]
    have e2 : (acc ++ [d + 48]).length + rest.length = acc.length + (rest.length + 1) := by simp; omega
    rw [e1, e2]
theorem made_l0 (neg : Bool) (l : List Int) (p : Nat) (r : Bool × ByteArray × ByteArray × Int) (c : Int) (hc : c ≤ 100001) : ∀ (m i : Nat) (acc : List Int), c ≤ (i : Int) + m → (i : Int) + m ≤ max c i → acc.length + m ≤ 200000 →
    Ev (fun k => decimal_made.l1 k neg l (p : Int) (acc ++ List.replicate m 48) l (l.length : Int) 0) r →
    Ev (fun k => decimal_made.l0 k neg l (p : Int) acc c (i : Int)) r := by
  intro m
  induction m with
  | zero =>
    intro i acc h1 h2 ha h
    simp at h
    exact Ev.up (Ev.neg (by omega) h)
  | succ m ih =>
    intro i acc h1 h2 ha h
    have hi : wrap64 ((i : Int) + 1) = ((i + 1 : Nat) : Int) := by rw [wrap64_id (by omega) (by omega)]; omega
    refine Ev.up (Ev.pos (by omega) (Ev.pos (by omega) ?_))
    rw [hi]
    refine ih (i + 1) (acc ++ [48]) (by omega) (by omega) (by simp; omega) ?_
    have : acc ++ [48] ++ List.replicate m 48 = acc ++ List.replicate (m + 1) 48 := by rw [List.replicate_succ]; simp
    rw [this]; exact h
theorem mx_int (a b : Int) : mx a b = max a b := by unfold mx; split <;> omega
theorem made_is (neg : Bool) (N p : Nat) (hN : (dg N).length ≤ 100000) (hp : p ≤ 100000) : ∃ r, Ev (fun k => decimal_made.f k neg (dg N) (p : Int)) r ∧ Tells r (mk neg N p) := by
  have hw : wrap64 (((dg N).length : Int) - (p : Int)) = ((dg N).length : Int) - (p : Int) := wrap64_id (by omega) (by omega)
  have hL : (padL (p + 1) (dg N)).length = max (p + 1) (dg N).length := padL_len_max _ _
  have hw2 : wrap64 (mx (mx (wrap64 (((dg N).length : Int) - (p : Int))) 0) 1 + (p : Int)) = (max (p + 1) (dg N).length : Nat) := by
    rw [hw, mx_int, mx_int, wrap64_id (by omega) (by omega)]; omega
  unfold mk
  by_cases h : 40 < (padL (p + 1) (dg N)).length
  · rw [if_pos h]
    exact ⟨_, Ev.pos (by rw [hw2]; omega) (Ev.val rfl), Tells.bad 3⟩
  · rw [if_neg h]
    have hw3 : wrap64 (wrap64 ((p : Int) + 1) - ((dg N).length : Int)) = ((p : Int) + 1) - ((dg N).length : Int) := by
      rw [wrap64_id (x := (p : Int) + 1) (by omega) (by omega), wrap64_id (by omega) (by omega)]
    have e0 : List.replicate (p + 1 - (dg N).length) 48 ++ up48 (dg N) = up48 (padL (p + 1) (dg N)) := by rw [padL, up48_append, up48_zeros]
    have e1 : (List.replicate (p + 1 - (dg N).length) (48 : Int)).length + (dg N).length = (padL (p + 1) (dg N)).length := by rw [hL]; simp; omega
    refine ⟨(neg && decide (0 < (dg N).length), strOfNums ((up48 (padL (p + 1) (dg N))).take ((padL (p + 1) (dg N)).length - p)), strOfNums ((up48 (padL (p + 1) (dg N))).drop ((padL (p + 1) (dg N)).length - p)), 0), Ev.neg (by rw [hw2]; omega) (Ev.pos (by omega) ?_), ?_⟩
    · rw [hw3]
      refine made_l0 neg (dg N) p _ _ (by omega) (p + 1 - (dg N).length) 0 [] (by omega) (by omega) (by simp; omega) ?_
      refine made_l1 neg (dg N) p (Dig_dg N) hN hp _ (dg N) [] _ rfl ?_ ?_ ?_
      · rw [List.nil_append, e1]; omega
      · rw [List.nil_append, e1]; omega
      · rw [List.nil_append, e1, e0]
    · have dP := Dig_up (Dig_padL (p + 1) (Dig_dg N))
      have hne : decide (0 < (dg N).length) = decide (N ≠ 0) := by
        rw [decide_eq_decide, List.length_pos_iff, Ne, dg_eq_nil]
      refine ⟨by rw [hne], ?_, ?_, rfl⟩
      · exact S_str (sub_take dP _)
      · exact S_str (sub_drop dP _)
end Go.Proofs.YtihjcaglhjepdaaDoor.Q
set_option linter.unusedVariables false
set_option linter.unusedSimpArgs false
namespace Go.Proofs.YtihjcaglhjepdaaDoor.Q
open Go.RowKit Go.Proofs.YtihjcaglhjepdaaDoorW.PrintWords Go.Proofs.YtihjcaglhjepdaaDoor.P
def lit (x : List Int) : Nat := val (dn48 x.reverse)
theorem lit_nil : lit [] = 0 := rfl
end Go.Proofs.YtihjcaglhjepdaaDoor.Q
set_option linter.unusedVariables false
set_option linter.unusedSimpArgs false
namespace Go.Proofs.YtihjcaglhjepdaaDoor.Q
open Go.RowKit Go.Proofs.YtihjcaglhjepdaaDoorW.PrintWords Go.Proofs.YtihjcaglhjepdaaDoor.P
theorem tx_small {v B : Nat} (h : v < 10 ^ B) : (tx v).length ≤ B + 1 := by
  have := (length_dg_iff v B).2 h
  rw [tx_len]; omega
theorem size_tx {s : ByteArray} {v B : Nat} (e : S s = tx v) (h : v < 10 ^ B) (hB : B ≤ 10000) : s.size ≤ 100000 := by
  have := tx_small h
  rw [← e, S_len] at this
  omega
end Go.Proofs.YtihjcaglhjepdaaDoor.Q
set_option linter.unusedVariables false
set_option linter.unusedSimpArgs false
namespace Go.Proofs.YtihjcaglhjepdaaDoor.Q
open Go.RowKit Go.Proofs.YtihjcaglhjepdaaDoorW.PrintWords Go.Proofs.YtihjcaglhjepdaaDoor.P
theorem padL_txd (p N : Nat) : padL (p + 1) (txd N) = padL (p + 1) (dg N) := by
  unfold txd; split
  · rename_i h
    subst h
    rw [dg_zero, padL, padL]
    show List.replicate p 0 ++ [0] = List.replicate (p + 1) 0 ++ []
    rw [List.replicate_succ']; simp
  · rfl
theorem Make_cut (neg : Bool) (N p : Nat) (nz : neg = true → N ≠ 0) (y : ByteArray) (hy : S y = up48 (padL (p + 1) (dg N))) (hp : p ≤ 100000) (hyl : y.size ≤ 1000000) (e0 : Bool) (he0 : e0 = (neg && decide (N ≠ 0))) :
    ∃ r, Ev (fun _ => if (y.size : Int) > 40 then (some (false, (⟨#[]⟩ : ByteArray), (⟨#[]⟩ : ByteArray), (3 : Int))) else (if 0 ≤ (wrap64 ((y.size : Int) - (p : Int))) then (if (wrap64 ((y.size : Int) - (p : Int))) ≤ (y.size : Int) then (some (e0, (y.extract 0 ((wrap64 ((y.size : Int) - (p : Int))) : Int).toNat), (y.extract ((wrap64 ((y.size : Int) - (p : Int))) : Int).toNat y.size), 0)) else (none)) else (none))) r ∧ Tells r (mk neg N p) := by
  have hL : (padL (p + 1) (dg N)).length = max (p + 1) (dg N).length := padL_len_max _ _
  have hz : y.size = (padL (p + 1) (dg N)).length := by rw [← S_len, hy, up48_len]
  have hw : wrap64 ((y.size : Int) - (p : Int)) = ((y.size - p : Nat) : Int) := by rw [wrap64_id (by omega) (by omega)]; omega
  have hn : ((y.size - p : Nat) : Int).toNat = y.size - p := by omega
  unfold mk
  by_cases h : 40 < (padL (p + 1) (dg N)).length
  · rw [if_pos h]
    exact ⟨_, Ev.pos (by omega) (Ev.val rfl), Tells.bad 3⟩
  · rw [if_neg h, hw, hn]
    refine ⟨_, Ev.neg (by omega) (Ev.pos (by omega) (Ev.pos (by omega) (Ev.val rfl))), he0, ?_, ?_, rfl⟩
    · show S (y.extract 0 (y.size - p)) = _
      rw [S_take, hy, hz]
    · show S (y.extract (y.size - p) y.size) = _
      rw [S_drop, hy, hz]
theorem Make_is (neg : Bool) (N p : Nat) (a : ByteArray) (L : List Int) (ha : S a = up48 L) (hD : Dig L) (hv : val L = N) (hl : L.length ≤ 100000) (hp : p ≤ 100000) :
    ∃ r, Ev (fun k => idiomref02_Make.f k neg a (p : Int)) r ∧ Tells r (mk neg N p) := by
  obtain ⟨t, ht, et⟩ := Lead_is L a ha hD (by omega)
  rw [hv] at et
  have htl : t.size ≤ 100001 := by
    have h1 : N < 10 ^ L.length := by rw [← hv]; exact val_lt hD
    have h2 := tx_small h1
    rw [← et, S_len] at h2
    omega
  have j0 : ∀ x : Bool, x = (neg && decide (N ≠ 0)) → ∃ r, Ev (fun k => idiomref02_Make.j0 k x t (p : Int)) r ∧ Tells r (mk neg N p) := by
    intro x hx
    have hz : t.size = (txd N).length := by rw [← S_len, et, tx, up48_len]
    by_cases h : (t.size : Int) ≤ (p : Int)
    · have hw : wrap64 (wrap64 ((p : Int) + 1) - (t.size : Int)) = ((p + 1 - t.size : Nat) : Int) := by
        rw [wrap64_id (x := (p : Int) + 1) (by omega) (by omega), wrap64_id (by omega) (by omega)]; omega
      obtain ⟨u, hu, eu⟩ := Zeros_is (p + 1 - t.size) (by omega)
      have hul : u.size = p + 1 - t.size := by rw [← S_len, eu]; simp
      have ey : S (u ++ t) = up48 (padL (p + 1) (dg N)) := by
        rw [S_append, eu, et, ← padL_txd, padL, up48_append, up48_zeros, hz]; rfl
      have hyl : (u ++ t).size ≤ 1000000 := by rw [ByteArray.size_append]; omega
      have key : ∀ neg' : Bool, ∃ r, Ev (fun _ => if ((u ++ t).size : Int) > 40 then (some (false, (⟨#[]⟩ : ByteArray), (⟨#[]⟩ : ByteArray), (3 : Int))) else (if 0 ≤ (wrap64 (((u ++ t).size : Int) - (p : Int))) then (if (wrap64 (((u ++ t).size : Int) - (p : Int))) ≤ ((u ++ t).size : Int) then (some (x, ((u ++ t).extract 0 ((wrap64 (((u ++ t).size : Int) - (p : Int))) : Int).toNat), ((u ++ t).extract ((wrap64 (((u ++ t).size : Int) - (p : Int))) : Int).toNat (u ++ t).size), 0)) else (none)) else (none))) r ∧ Tells r (mk neg N p) := by
        intro _
        by_cases hN : N = 0
        · have := Make_cut false N p (by simp) (u ++ t) ey hp hyl x (by rw [hx, hN]; simp)
          rwa [show mk false N p = mk neg N p by unfold mk; rw [hN]; simp] at this
        · exact Make_cut neg N p (fun _ => hN) (u ++ t) ey hp hyl x hx
      obtain ⟨r, hr, hT⟩ := key neg
      refine ⟨r, Ev.up (Ev.pos h ?_), hT⟩
      rw [hw]
      exact Ev.bind hu (Ev.pos (by omega) (Ev.bindS hr))
    · have ey : S t = up48 (padL (p + 1) (dg N)) := by
        rw [et, ← padL_txd, padL, show p + 1 - (txd N).length = 0 by omega]; rfl
      have key : ∃ r, Ev (fun _ => if (t.size : Int) > 40 then (some (false, (⟨#[]⟩ : ByteArray), (⟨#[]⟩ : ByteArray), (3 : Int))) else (if 0 ≤ (wrap64 ((t.size : Int) - (p : Int))) then (if (wrap64 ((t.size : Int) - (p : Int))) ≤ (t.size : Int) then (some (x, (t.extract 0 ((wrap64 ((t.size : Int) - (p : Int))) : Int).toNat), (t.extract ((wrap64 ((t.size : Int) - (p : Int))) : Int).toNat t.size), 0)) else (none)) else (none))) r ∧ Tells r (mk neg N p) := by
        by_cases hN : N = 0
        · have := Make_cut false N p (by simp) t ey hp (by omega) x (by rw [hx, hN]; simp)
          rwa [show mk false N p = mk neg N p by unfold mk; rw [hN]; simp] at this
        · exact Make_cut neg N p (fun _ => hN) t ey hp (by omega) x hx
      obtain ⟨r, hr, hT⟩ := key
      exact ⟨r, Ev.up (Ev.neg h hr), hT⟩
  by_cases hn : neg = true
  · obtain ⟨r, hr, hT⟩ := j0 (t.toList != ([48] : List UInt8)) (by
      rw [hn, Bool.true_and, bne, beq_lit, et]
      have : (tx N = [48]) ↔ N = 0 := ⟨fun e => tx_inj (n := 0) (by rw [e]; rfl), fun e => by rw [e]; rfl⟩
      by_cases hN : N = 0
      · subst hN; rfl
      · have h2 : ¬ tx N = [48] := fun e => hN (this.1 e)
        have h3 : decide (tx N = List.map (fun b : UInt8 => (b.toNat : Int)) [48]) = false := decide_eq_false h2
        rw [h3]; simp [hN])
    exact ⟨r, Ev.bind ht (Ev.pos hn hr), hT⟩
  · obtain ⟨r, hr, hT⟩ := j0 false (by simp only [Bool.not_eq_true] at hn; rw [hn]; rfl)
    exact ⟨r, Ev.bind ht (Ev.neg hn hr), hT⟩
end Go.Proofs.YtihjcaglhjepdaaDoor.Q
set_option linter.unusedVariables false
set_option linter.unusedSimpArgs false
namespace Go.Proofs.YtihjcaglhjepdaaDoor.Q
open Go.RowKit Go.Proofs.YtihjcaglhjepdaaDoorW.PrintWords Go.Proofs.YtihjcaglhjepdaaDoor.P
theorem chk_fm {n : Bool} {a b : List Int} (h : chk n a b = 0) : fm n a b = true := by
  unfold chk okD at h
  by_cases h1 : fm n a b = true
  · exact h1
  · simp [h1] at h
theorem chk_of {n : Bool} {a b : List Int} (h : fm n a b = true) (hl : a.length + b.length ≤ 40) : chk n a b = 0 := by
  simp [chk, okD, h, hl]
theorem fm_parts {n : Bool} {a b : List Int} (h : fm n a b = true) : a ≠ [] ∧ allD a = true ∧ allD b = true := by
  simp only [fm, Bool.and_eq_true] at h
  refine ⟨?_, h.1.1.1.2, h.1.1.2⟩
  intro e
  rw [e] at h
  simp at h
end Go.Proofs.YtihjcaglhjepdaaDoor.Q
set_option linter.unusedVariables false
set_option linter.unusedSimpArgs false
namespace Go.Proofs.YtihjcaglhjepdaaDoor.Q
open Go.RowKit Go.Proofs.YtihjcaglhjepdaaDoorW.PrintWords Go.Proofs.YtihjcaglhjepdaaDoor.P
def num (a b : List Int) : Nat := val (dn48 (a ++ b))
theorem allD_append {a b : List Int} (ha : allD a = true) (hb : allD b = true) : allD (a ++ b) = true := by
  rw [allD, List.all_append]; rw [allD] at ha hb; simp [ha, hb]
structure Fine (n : Bool) (a b : List Int) : Prop where
  ok : chk n a b = 0
theorem Fine.len {n : Bool} {a b : List Int} (h : Fine n a b) : a.length + b.length ≤ 40 := chk_len h.ok
theorem Fine.digits {n : Bool} {a b : List Int} (h : Fine n a b) : allD (a ++ b) = true :=
  allD_append (fm_parts (chk_fm h.ok)).2.1 (fm_parts (chk_fm h.ok)).2.2
theorem Fine.lt {n : Bool} {a b : List Int} (h : Fine n a b) : num a b < 10 ^ (a.length + b.length) := by
  have := val_lt (allD_dig h.digits)
  rwa [dn48_len, List.length_append] at this
theorem num_len {n : Bool} {a b : List Int} (h : Fine n a b) (c : Nat) : (dg (num a b * 10 ^ c)).length ≤ 40 + c := by
  refine (length_dg_iff _ _).2 (Nat.lt_of_lt_of_le (Nat.mul_lt_mul_of_pos_right h.lt (Nat.pow_pos (by omega))) ?_)
  rw [← Nat.pow_add]
  exact Nat.pow_le_pow_right (by omega) (by have := h.len; omega)
theorem of_num (n : Bool) (a b : ByteArray) (h : Fine n (S a) (S b)) : Ev (fun k => decimal_of.f k (a ++ b)) (dg (num (S a) (S b))) := by
  have hl := h.len
  rw [S_len, S_len] at hl
  have := of_is (a ++ b) (by rw [ByteArray.size_append]; omega) (by rw [S_append]; exact h.digits)
  rw [S_append] at this
  exact this
theorem up_num (n : Bool) (a b : ByteArray) (h : Fine n (S a) (S b)) (c : Nat) (hc : c ≤ 1000) : decimal_digits_up.f (dg (num (S a) (S b))) (c : Int) = some (dg (num (S a) (S b) * 10 ^ c)) := by
  have := num_len h 0
  rw [Nat.pow_zero, Nat.mul_one] at this
  exact up_is _ c (by omega) (by omega)
theorem Num_is (n : Bool) (a b : ByteArray) (h : Fine n (S a) (S b)) : ∃ t, Ev (fun k => idiomref02_Num.f k n a b) t ∧ S t = tx (num (S a) (S b)) := by
  have hl := h.len
  rw [S_len, S_len] at hl
  obtain ⟨t, ht, et⟩ := Lead_is (dn48 (S a ++ S b)) (a ++ b) (by rw [S_append, up_dn]) (allD_dig h.digits) (by rw [dn48_len, List.length_append, S_len, S_len]; omega)
  exact ⟨t, Ev.pos (by omega) ht.tail, et⟩
theorem First_is (x y : Int) : Ev (fun k => idiomref02_First.f k [x, y]) (if x = 0 then y else x) := by
  refine ⟨3, fun k hk => ?_⟩
  obtain ⟨j, rfl⟩ : ∃ j, k = j + 1 + 1 + 1 := ⟨k - 3, by omega⟩
  have e1 : wrap64 (0 + 1) = 1 := by rw [wrap64_id (by omega) (by omega)]; rfl
  have e2 : wrap64 (1 + 1) = 2 := by rw [wrap64_id (by omega) (by omega)]; rfl
  have r0 : rd [x, y] 0 = x := rfl
  have r1 : rd [x, y] 1 = y := rfl
  have l2 : (([x, y] : List Int).length : Int) = 2 := rfl
  show idiomref02_First.l0 (j + 1 + 1 + 1) [x, y] 0 = _
  rw [idiomref02_First.l0, l2, if_pos (by omega), if_pos (by omega), r0]
  by_cases hx : x = 0
  · rw [if_pos hx, if_pos hx, e1, idiomref02_First.l0, l2, if_pos (by omega), if_pos (by omega), r1]
    by_cases hy : y = 0
    · rw [if_pos hy, e2, idiomref02_First.l0, l2, if_neg (by omega), hy]
    · rw [if_neg hy]
  · rw [if_neg hx, if_neg hx]
end Go.Proofs.YtihjcaglhjepdaaDoor.Q
set_option linter.unusedVariables false
set_option linter.unusedSimpArgs false
namespace Go.Proofs.YtihjcaglhjepdaaDoor.Q
open Go.RowKit Go.Proofs.YtihjcaglhjepdaaDoorW.PrintWords Go.Proofs.YtihjcaglhjepdaaDoor.P
section
theorem txd_small {s : ByteArray} {v B : Nat} (e : S s = tx v) (h : v < 10 ^ B) (hB : B ≤ 10000) : (txd v).length ≤ 100000 := by
  have := size_tx e h hB
  rw [← S_len, e, tx, up48_len] at this
  exact this
theorem Make_tx (neg : Bool) (N p : Nat) (a : ByteArray) (ha : S a = tx N) (h : N < 10 ^ 250) (hp : p ≤ 100000) : ∃ r, Ev (fun k => idiomref02_Make.f k neg a (p : Int)) r ∧ Tells r (mk neg N p) :=
  Make_is neg N p a (txd N) ha (Dig_txd N) (val_txd N) (txd_small ha h (by omega)) hp
end
end Go.Proofs.YtihjcaglhjepdaaDoor.Q
set_option linter.unusedVariables false
set_option linter.unusedSimpArgs false
namespace Go.Proofs.YtihjcaglhjepdaaDoor.Q
open Go.RowKit Go.Proofs.YtihjcaglhjepdaaDoorW.PrintWords Go.Proofs.YtihjcaglhjepdaaDoor.P
theorem num_len0 {n : Bool} {a b : List Int} (h : Fine n a b) : (dg (num a b)).length ≤ 40 := by
  have := num_len h 0
  rwa [Nat.pow_zero, Nat.mul_one] at this
end Go.Proofs.YtihjcaglhjepdaaDoor.Q
set_option linter.unusedVariables false
set_option linter.unusedSimpArgs false
namespace Go.Proofs.YtihjcaglhjepdaaDoor.Q
open Go.RowKit Go.Proofs.YtihjcaglhjepdaaDoorW.PrintWords Go.Proofs.YtihjcaglhjepdaaDoor.P
theorem val_zero {l : List Int} (h : Dig l) : val l = 0 ↔ l.all (· == 0) = true := by
  induction l with
  | nil => simp [val]
  | cons d l ih =>
    rw [val_cons, List.all_cons, Bool.and_eq_true, ← ih h.tail]
    have h0 := h.head
    have hp : 0 < 10 ^ l.length := Nat.pow_pos (by omega)
    constructor
    · intro e
      have h1 : d.toNat * 10 ^ l.length = 0 := by omega
      have h2 : d.toNat = 0 := by rcases Nat.mul_eq_zero.1 h1 with h | h <;> omega
      have h3 : d = 0 := by omega
      exact ⟨by rw [h3]; rfl, by omega⟩
    · rintro ⟨e1, e2⟩
      have h3 : d = 0 := by simpa using e1
      rw [h3, e2]; simp
theorem all0_dn (l : List Int) : all0 l = (dn48 l).all (· == 0) := by
  induction l with
  | nil => rfl
  | cons d l ih =>
    show ((d == 48) && all0 l) = ((d - 48 == 0) && (dn48 l).all (· == 0))
    rw [ih]; congr 1
    rw [Bool.eq_iff_iff]; simp; omega
theorem num_zero {n : Bool} {a b : List Int} (h : Fine n a b) : num a b = 0 ↔ (all0 a && all0 b) = true := by
  rw [num, val_zero (allD_dig h.digits), ← all0_dn]
  simp [all0]
theorem Fine.nz {n : Bool} {a b : List Int} (h : Fine n a b) (hn : n = true) : num a b ≠ 0 := by
  intro e
  have h1 := (num_zero h).1 e
  have h2 := chk_fm h.ok
  simp [fm, hn, h1] at h2
theorem Fine.head {n : Bool} {a b : List Int} (h : Fine n a b) : 1 < a.length → rd a 0 ≠ 48 := by
  intro hl e
  have h2 := chk_fm h.ok
  simp [fm, hl, e] at h2
theorem Fine.ne {n : Bool} {a b : List Int} (h : Fine n a b) : a ≠ [] := (fm_parts (chk_fm h.ok)).1
theorem Fine.da {n : Bool} {a b : List Int} (h : Fine n a b) : allD a = true := (fm_parts (chk_fm h.ok)).2.1
theorem Fine.db {n : Bool} {a b : List Int} (h : Fine n a b) : allD b = true := (fm_parts (chk_fm h.ok)).2.2
theorem Fine.mk' {n : Bool} {a b : List Int} (hl : a.length + b.length ≤ 40) (h0 : a ≠ []) (ha : allD a = true) (hb : allD b = true) (hh : 1 < a.length → rd a 0 ≠ 48) (hn : n = true → ¬ (all0 a && all0 b) = true) : Fine n a b := by
  refine ⟨chk_of ?_ hl⟩
  unfold fm
  rw [isEmpty_false h0, ha, hb]
  have h1 : (decide (1 < a.length) && rd a 0 == 48) = false := by
    by_cases h : 1 < a.length
    · have := hh h; simp [this]
    · simp [h]
  have h2 : (n && (all0 a && all0 b)) = false := by
    cases n with
    | false => rfl
    | true => have := hn rfl; simp only [Bool.not_eq_true] at this; rw [this]; rfl
  rw [h1, h2]; rfl
def Z (n : Bool) (N : Nat) : Int := if n = true then -(N : Int) else (N : Int)
def mkI (z : Int) (p : Nat) : Ans := mk (decide (z < 0)) z.natAbs p
theorem Z_true (N : Nat) : Z true N = -(N : Int) := rfl
theorem Z_false (N : Nat) : Z false N = (N : Int) := rfl
theorem mk_mkI (n : Bool) (N p : Nat) : mk n N p = mkI (Z n N) p := by
  unfold mkI
  cases n with
  | false =>
    rw [Z_false, Int.natAbs_natCast]
    have : decide ((N : Int) < 0) = false := decide_eq_false (by omega)
    rw [this]
  | true =>
    rw [Z_true, Int.natAbs_neg, Int.natAbs_natCast]
    by_cases h : N = 0
    · subst h; unfold mk; rfl
    · have : decide (-(N : Int) < 0) = true := decide_eq_true (by omega)
      rw [this]
theorem Z_scale (n : Bool) (N t : Nat) : Z n (N * t) = Z n N * (t : Int) := by
  cases n
  · rw [Z_false, Z_false]; simp
  · rw [Z_true, Z_true]; simp [Int.neg_mul]
theorem allD_up {l : List Int} (h : Dig l) : allD (up48 l) = true := by
  rw [allD, List.all_eq_true]
  intro x hx
  obtain ⟨d, hd, rfl⟩ := List.mem_map.1 hx
  have := h d hd
  simp [isD]; omega
theorem up48_take (l : List Int) (n : Nat) : (up48 l).take n = up48 (l.take n) := by simp [up48, List.map_take]
theorem up48_drop (l : List Int) (n : Nat) : (up48 l).drop n = up48 (l.drop n) := by simp [up48, List.map_drop]
theorem rd_up (d : Int) (l : List Int) : rd (up48 (d :: l)) 0 = d + 48 := rfl
theorem mk_bad {n : Bool} {N p : Nat} (h : (mk n N p).err ≠ 0) : mk n N p = bad 3 := by
  unfold mk at *
  split
  · rfl
  · rename_i h1; rw [if_neg h1] at h; exact absurd rfl h
theorem mk_good {n : Bool} {N p : Nat} (h : (mk n N p).err = 0) :
    Fine (mk n N p).neg (mk n N p).a (mk n N p).b ∧ num (mk n N p).a (mk n N p).b = N ∧ (mk n N p).b.length = p ∧ (mk n N p).neg = (n && decide (N ≠ 0)) := by
  unfold mk at *
  split
  · rename_i h1; rw [if_pos h1] at h; exact absurd h (by show (3 : Int) ≠ 0; omega)
  · rename_i h1
    have hL : (padL (p + 1) (dg N)).length = max (p + 1) (dg N).length := padL_len_max _ _
    have dL : Dig (padL (p + 1) (dg N)) := Dig_padL _ (Dig_dg N)
    have vL : val (padL (p + 1) (dg N)) = N := by rw [val_padL, val_dg]
    have hhead : (p + 1) < (padL (p + 1) (dg N)).length → ∀ d m, padL (p + 1) (dg N) = d :: m → d ≠ 0 := by
      intro h2 d m e
      have h3 : padL (p + 1) (dg N) = dg N := by
        rw [padL, show p + 1 - (dg N).length = 0 by omega]; rfl
      rw [h3] at e
      exact dg_head e
    generalize padL (p + 1) (dg N) = L at *
    have hp : p < L.length := by omega
    have e1 : up48 (L.take (L.length - p)) ++ up48 (L.drop (L.length - p)) = up48 L := by rw [← up48_append, List.take_append_drop]
    have hnum : num (up48 (L.take (L.length - p))) (up48 (L.drop (L.length - p))) = N := by rw [num, e1, dn_up, vL]
    have la : (up48 (L.take (L.length - p))).length = L.length - p := by rw [up48_len, List.length_take]; omega
    have lb : (up48 (L.drop (L.length - p))).length = p := by rw [up48_len, List.length_drop]; omega
    have Da := allD_up (dL.take (L.length - p))
    have Db := allD_up (dL.drop (L.length - p))
    show Fine _ _ _ ∧ _
    dsimp only
    rw [up48_take, up48_drop]
    refine ⟨?_, hnum, lb, rfl⟩
    refine Fine.mk' (by rw [la, lb]; omega) (by intro e; rw [e] at la; simp at la; omega) Da Db ?_ ?_
    · intro hl
      rw [la] at hl
      have hpos : 0 < L.length - p := by omega
      cases L with
      | nil => simp at hp
      | cons d m =>
        have h3 := hhead (by omega) d m rfl
        obtain ⟨k, hk⟩ : ∃ k, (d :: m).length - p = k + 1 := ⟨(d :: m).length - p - 1, by omega⟩
        rw [hk, List.take_succ_cons, rd_up]
        omega
    · intro hn h0
      have hNz : N ≠ 0 := by simpa using (Bool.and_eq_true_iff.1 hn).2
      apply hNz
      rw [← hnum, num, val_zero (allD_dig (allD_append Da Db)), ← all0_dn]
      rw [← h0]; simp [all0]
theorem Z_sign (n : Bool) (N : Nat) : Z (n && decide (N ≠ 0)) N = Z n N := by
  by_cases h : N = 0
  · subst h; cases n <;> rfl
  · simp [h]
theorem Z_abs (z : Int) : Z (decide (z < 0)) z.natAbs = z := by
  by_cases h : z < 0
  · rw [decide_eq_true h, Z_true]; omega
  · rw [decide_eq_false h, Z_false]; omega
def zn (n : Bool) (a b : List Int) : Int := Z n (num a b)
theorem mkI_good {z : Int} {p : Nat} (h : (mkI z p).err = 0) :
    Fine (mkI z p).neg (mkI z p).a (mkI z p).b ∧ zn (mkI z p).neg (mkI z p).a (mkI z p).b = z ∧ (mkI z p).b.length = p := by
  obtain ⟨h1, h2, h3, h4⟩ := mk_good h
  refine ⟨h1, ?_, h3⟩
  show Z (mk (decide (z < 0)) z.natAbs p).neg (num (mk (decide (z < 0)) z.natAbs p).a (mk (decide (z < 0)) z.natAbs p).b) = z
  rw [h2, h4, Z_sign, Z_abs]
end Go.Proofs.YtihjcaglhjepdaaDoor.Q
set_option linter.unusedVariables false
set_option linter.unusedSimpArgs false
namespace Go.Proofs.YtihjcaglhjepdaaDoor.Q
open Go.RowKit Go.Proofs.YtihjcaglhjepdaaDoorW.PrintWords Go.Proofs.YtihjcaglhjepdaaDoor.P
theorem rtrim_spec (l : List Int) : ∃ k, l = rtrim l ++ List.replicate k 48 := by
  induction h : l.length generalizing l with
  | zero => exact ⟨0, by rw [List.eq_nil_of_length_eq_zero h]; rfl⟩
  | succ n ih =>
    obtain ⟨m, d, rfl⟩ := snoc_cases l (by intro e; rw [e] at h; simp at h)
    rw [rtrim_snoc]
    by_cases hd : d = 48
    · rw [if_pos hd]
      obtain ⟨k, hk⟩ := ih m (by simpa using h)
      refine ⟨k + 1, ?_⟩
      rw [List.replicate_succ', ← List.append_assoc, ← hk, hd]
    · rw [if_neg hd]
      exact ⟨0, by simp⟩
theorem Fine.trim {n : Bool} {a b : List Int} (h : Fine n a b) : Fine n a (rtrim b) := by
  have hl := h.len
  have h1 := rtrim_len b
  refine Fine.mk' (by omega) h.ne h.da ?_ h.head ?_
  · obtain ⟨k, hk⟩ := rtrim_spec b
    have := h.db
    rw [hk, allD, List.all_append, Bool.and_eq_true] at this
    exact this.1
  · intro hn h0
    rw [all0_rtrim] at h0
    exact h.nz hn ((num_zero h).2 h0)
end Go.Proofs.YtihjcaglhjepdaaDoor.Q
set_option linter.unusedVariables false
set_option linter.unusedSimpArgs false
namespace Go.Proofs.YtihjcaglhjepdaaDoor.Q
open Go.RowKit Go.Proofs.YtihjcaglhjepdaaDoorW.PrintWords Go.Proofs.YtihjcaglhjepdaaDoor.P
def trimA (n : Bool) (a b : List Int) : Ans := if chk n a b = 0 then ⟨n, a, rtrim b, 0⟩ else bad (chk n a b)
theorem Trimd_is (n : Bool) (a b : ByteArray) (ha : Fit a) (hb : Fit b) : ∃ r, Ev (fun k => decimal_Trim.f k n a b) r ∧ Tells r (trimA n (S a) (S b)) := by
  unfold trimA
  by_cases h : chk n (S a) (S b) = 0
  · obtain ⟨t, ht, et⟩ := TrimRight_is b hb
    rw [if_pos h]
    exact ⟨_, Ev.bind (Check_is n a b ha hb) (Ev.pos h (Ev.bind ht (Ev.val rfl))), rfl, rfl, et, rfl⟩
  · rw [if_neg h]
    exact ⟨_, Ev.bind (Check_is n a b ha hb) (Ev.neg h (Ev.val rfl)), Tells.bad _⟩
theorem refTrim_l0 (x : Bool) (a : ByteArray) : ∀ (n : Nat) (s : ByteArray), s.size = n → Fit s → ∃ t, Ev (fun k => idiomref02_Trim.l0 k x a s) (x, a, t, 0) ∧ S t = rtrim (S s) := by
  intro n
  induction n with
  | zero =>
    intro s h _
    have h0 : S s = [] := List.eq_nil_of_length_eq_zero (by rw [S_len]; exact h)
    exact ⟨s, Ev.up (Ev.pos ((toList_nil s).2 h0) (Ev.val rfl)), by rw [h0]; rfl⟩
  | succ n ih =>
    intro s h hf
    have hl := S_len s
    obtain ⟨m, d, e⟩ := snoc_cases (S s) (by intro he; rw [he] at hl; simp at hl; omega)
    have hne : ¬ s.toList = ([] : List UInt8) := by rw [toList_nil, e]; simp
    have hm : m.length = n := by rw [e] at hl; simp at hl; omega
    have hF := hf
    unfold Fit at hf
    have hw : wrap64 ((s.size : Int) - 1) = (n : Int) := by rw [wrap64_id (by omega) (by omega)]; omega
    have hb : bt s (n : Int) = d := by rw [bt_S, e, rd_nat, ← hm, getD_append_mid]
    by_cases h1 : d = 48
    · have h2 : S (s.extract 0 n) = m := by rw [S_take, e, ← hm]; simp
      have h3 : (s.extract 0 n).size = n := by rw [← S_len, h2, hm]
      obtain ⟨t, ht, hs⟩ := ih _ h3 (by unfold Fit; omega)
      refine ⟨t, Ev.up (Ev.neg hne ?_), ?_⟩
      · rw [hw]
        exact Ev.pos (by omega) (Ev.pos (by omega) (Ev.pos (by rw [hb]; exact h1) (Ev.pos (by omega) ht)))
      · rw [hs, h2, e, rtrim_snoc, if_pos h1]
    · refine ⟨s, Ev.up (Ev.neg hne ?_), ?_⟩
      · rw [hw]
        exact Ev.pos (by omega) (Ev.pos (by omega) (Ev.neg (by rw [hb]; exact h1) (Ev.val rfl)))
      · rw [e, rtrim_snoc, if_neg h1]
theorem refTrim_is (n : Bool) (a b : ByteArray) (ha : Fit a) (hb : Fit b) : ∃ r, Ev (fun k => idiomref02_Trim.f k n a b) r ∧ Tells r (trimA n (S a) (S b)) := by
  unfold trimA
  by_cases h : chk n (S a) (S b) = 0
  · obtain ⟨t, ht, et⟩ := refTrim_l0 n a _ b rfl hb
    rw [if_pos h]
    exact ⟨_, Ev.bind (refCheck_is n a b ha hb) (Ev.pos h ht), rfl, rfl, et, rfl⟩
  · rw [if_neg h]
    exact ⟨_, Ev.bind (refCheck_is n a b ha hb) (Ev.neg h (Ev.val rfl)), Tells.bad _⟩
theorem Repeat_is (m : Nat) (hm : m ≤ 1000) : ∃ t, strings_Repeat.f (⟨#[48]⟩ : ByteArray) (m : Int) = some t ∧ S t = List.replicate m 48 := by
  have hs : ((⟨#[48]⟩ : ByteArray)).size = 1 := rfl
  unfold strings_Repeat.f
  rw [if_pos ⟨by omega, by omega, by rw [hs]; omega⟩]
  refine ⟨_, rfl, ?_⟩
  have h : ∀ k : Nat, (Lib.repeatL [(48 : UInt8)] k).map (fun b => (b.toNat : Int)) = List.replicate k 48 := by
    intro k
    induction k with
    | zero => rfl
    | succ k ih => rw [Lib.repeatL, List.map_append, ih, List.replicate_succ]; rfl
  simpa [S] using h m
def rng (k : Int) : Bool := decide (k < 0) || decide (k > 40)
def padA (n : Bool) (a b : List Int) (k : Int) : Ans :=
  if chk n a b = 0 then (if rng k = true then bad 1 else if 40 < a.length + max b.length k.toNat then bad 3 else ⟨n, a, b ++ List.replicate (k.toNat - b.length) 48, 0⟩) else bad (chk n a b)
theorem Pad_is (n : Bool) (a b : ByteArray) (ha : Fit a) (hb : Fit b) (k : Int) : ∃ r, Ev (fun f => decimal_Pad.f f n a b k) r ∧ Tells r (padA n (S a) (S b) k) := by
  by_cases h : chk n (S a) (S b) = 0
  · have hl := chk_len h
    rw [S_len, S_len] at hl
    have j0 : ∀ x : Bool, x = rng k → ∃ r, Ev (fun f => decimal_Pad.j0 f k x n a b) r ∧ Tells r (padA n (S a) (S b) k) := by
      intro x hx
      unfold padA
      rw [if_pos h]
      by_cases hr : rng k = true
      · rw [if_pos hr]
        exact ⟨_, Ev.up (Ev.pos (by rw [hx, hr]) (Ev.val rfl)), Tells.bad 1⟩
      · rw [if_neg hr]
        have hk : 0 ≤ k ∧ k ≤ 40 := by
          simp only [rng, Bool.or_eq_true, decide_eq_true_eq] at hr; omega
        have w1 : wrap64 (k - (b.size : Int)) = k - (b.size : Int) := wrap64_id (by omega) (by omega)
        have w2 : wrap64 ((a.size : Int) + k) = (a.size : Int) + k := wrap64_id (by omega) (by omega)
        have hx' : ¬ x = true := by rw [hx]; exact hr
        rw [S_len, S_len]
        by_cases h1 : k - (b.size : Int) > 0
        · by_cases h2 : (a.size : Int) + k > 40
          · rw [if_pos (by omega)]
            exact ⟨_, Ev.up (Ev.neg hx' (Ev.pos (by rw [w1]; exact h1) (Ev.pos (by rw [w2]; exact h2) (Ev.val rfl)))), Tells.bad 3⟩
          · rw [if_neg (by omega)]
            obtain ⟨t, ht, et⟩ := Repeat_is (k.toNat - b.size) (by omega)
            have w3 : wrap64 (k - (b.size : Int)) = ((k.toNat - b.size : Nat) : Int) := by rw [w1]; omega
            have st : t.size = k.toNat - b.size := by rw [← S_len, et, List.length_replicate]
            refine ⟨_, Ev.up (Ev.neg hx' (Ev.pos (by rw [w1]; exact h1) (Ev.neg (by rw [w2]; exact h2) (Ev.bindV (a := t) (by rw [w3]; exact ht) (Ev.pos (by omega) (Ev.val rfl)))))), rfl, rfl, ?_, rfl⟩
            show S (b ++ t) = _
            rw [S_append, et]
        · rw [if_neg (by omega)]
          refine ⟨_, Ev.up (Ev.neg hx' (Ev.neg (by rw [w1]; exact h1) (Ev.val rfl))), rfl, rfl, ?_, rfl⟩
          show S b = _
          rw [show k.toNat - b.size = 0 by omega]; simp
    by_cases hk : k < 0
    · obtain ⟨r, hr, hT⟩ := j0 true (by simp [rng, hk])
      exact ⟨r, Ev.bind (Check_is n a b ha hb) (Ev.pos h (Ev.pos hk hr)), hT⟩
    · obtain ⟨r, hr, hT⟩ := j0 (decide (k > 40)) (by simp [rng, hk])
      exact ⟨r, Ev.bind (Check_is n a b ha hb) (Ev.pos h (Ev.neg hk hr)), hT⟩
  · unfold padA
    rw [if_neg h]
    exact ⟨_, Ev.bind (Check_is n a b ha hb) (Ev.neg h (Ev.val rfl)), Tells.bad _⟩
theorem If_is (x : Bool) (e : Int) : idiomref02_If.f x e = some (if x = true then e else 0) := by
  unfold idiomref02_If.f
  cases x <;> rfl
def rngS (k : Int) : Bool := decide (k < -40) || decide (k > 40)
def shiftA (n : Bool) (a b : List Int) (k : Int) : Ans :=
  if chk n a b = 0 then (if rngS k = true then bad 1 else mk n (num a b * 10 ^ (k - (b.length : Int)).toNat) ((b.length : Int) - k).toNat) else bad (chk n a b)
theorem Shift_is (n : Bool) (a b : ByteArray) (ha : Fit a) (hb : Fit b) (k : Int) : ∃ r, Ev (fun f => decimal_Shift.f f n a b k) r ∧ Tells r (shiftA n (S a) (S b) k) := by
  by_cases h : chk n (S a) (S b) = 0
  · have hF : Fine n (S a) (S b) := ⟨h⟩
    have hl := chk_len h
    rw [S_len, S_len] at hl
    have j0 : ∀ x : Bool, x = rngS k → ∃ r, Ev (fun f => decimal_Shift.j0 f k x n a b) r ∧ Tells r (shiftA n (S a) (S b) k) := by
      intro x hx
      unfold shiftA
      rw [if_pos h]
      by_cases hr : rngS k = true
      · rw [if_pos hr]
        exact ⟨_, Ev.up (Ev.pos (by rw [hx, hr]) (Ev.val rfl)), Tells.bad 1⟩
      · rw [if_neg hr, S_len]
        have hk : -40 ≤ k ∧ k ≤ 40 := by
          simp only [rngS, Bool.or_eq_true, decide_eq_true_eq] at hr; omega
        have hx' : ¬ x = true := by rw [hx]; exact hr
        have w1 : wrap64 ((b.size : Int) - k) = (b.size : Int) - k := wrap64_id (by omega) (by omega)
        have ll := num_len hF (k - (b.size : Int)).toNat
        by_cases h1 : (b.size : Int) - k < 0
        · have w2 : wrap64 (-(wrap64 ((b.size : Int) - k))) = (((k - (b.size : Int)).toNat : Nat) : Int) := by rw [w1, wrap64_id (by omega) (by omega)]; omega
          obtain ⟨r, hr, hT⟩ := made_is n (num (S a) (S b) * 10 ^ (k - (b.size : Int)).toNat) 0 (Nat.le_trans ll (by omega)) (by omega)
          rw [show ((b.size : Int) - k).toNat = 0 by omega]
          refine ⟨r, Ev.up (Ev.neg hx' (Ev.pos (by omega) (Ev.bind (of_num n a b hF) (Ev.pos (by rw [w1]; exact h1) (Ev.bindV (a := dg (num (S a) (S b) * 10 ^ (k - (b.size : Int)).toNat)) ?_ (Ev.bind hr (Ev.val rfl))))))), hT⟩
          rw [w2]
          exact up_num n a b hF _ (by omega)
        · have w2 : wrap64 ((b.size : Int) - k) = ((((b.size : Int) - k).toNat : Nat) : Int) := by rw [w1]; omega
          rw [show (k - (b.size : Int)).toNat = 0 by omega, Nat.pow_zero, Nat.mul_one]
          obtain ⟨r, hr, hT⟩ := made_is n (num (S a) (S b)) ((b.size : Int) - k).toNat (Nat.le_trans (num_len0 hF) (by omega)) (by omega)
          rw [← w2] at hr
          exact ⟨r, Ev.up (Ev.neg hx' (Ev.pos (by omega) (Ev.bind (of_num n a b hF) (Ev.neg (by rw [w1]; exact h1) (Ev.bind hr (Ev.val rfl)))))), hT⟩
    by_cases hk : k < -40
    · obtain ⟨r, hr, hT⟩ := j0 true (by simp [rngS, hk])
      exact ⟨r, Ev.bind (Check_is n a b ha hb) (Ev.pos h (Ev.pos hk hr)), hT⟩
    · obtain ⟨r, hr, hT⟩ := j0 (decide (k > 40)) (by simp [rngS, hk])
      exact ⟨r, Ev.bind (Check_is n a b ha hb) (Ev.pos h (Ev.neg hk hr)), hT⟩
  · unfold shiftA
    rw [if_neg h]
    exact ⟨_, Ev.bind (Check_is n a b ha hb) (Ev.neg h (Ev.val rfl)), Tells.bad _⟩
theorem refShift_is (n : Bool) (a b : ByteArray) (ha : Fit a) (hb : Fit b) (k : Int) : ∃ r, Ev (fun f => idiomref02_Shift.f f n a b k) r ∧ Tells r (shiftA n (S a) (S b) k) := by
  have j0 : ∀ e : Int, e = (if chk n (S a) (S b) = 0 then (if rngS k = true then 1 else 0) else chk n (S a) (S b)) → ∃ r, Ev (fun f => idiomref02_Shift.j0 f k e n a b) r ∧ Tells r (shiftA n (S a) (S b) k) := by
    intro e he
    unfold shiftA
    by_cases h : chk n (S a) (S b) = 0
    · rw [if_pos h] at he ⊢
      have hF : Fine n (S a) (S b) := ⟨h⟩
      have hl := chk_len h
      rw [S_len, S_len] at hl
      by_cases hr : rngS k = true
      · rw [if_pos hr] at he ⊢
        refine ⟨_, Ev.up (Ev.neg (by omega) (Ev.val rfl)), ?_⟩
        rw [he]; exact Tells.bad 1
      · rw [if_neg hr] at he ⊢
        rw [S_len]
        have hk : -40 ≤ k ∧ k ≤ 40 := by
          simp only [rngS, Bool.or_eq_true, decide_eq_true_eq] at hr; omega
        obtain ⟨t, ht, et⟩ := Num_is n a b hF
        have hN : num (S a) (S b) < 10 ^ 40 := (length_dg_iff _ 40).1 (num_len0 hF)
        have st : (txd (num (S a) (S b))).length ≤ 1000 := by rw [txd_len]; have := num_len0 hF; omega
        have zt : t.size ≤ 1000 := by rw [← S_len, et, tx, up48_len]; exact st
        by_cases h1 : k > (b.size : Int)
        · have w2 : wrap64 (k - (b.size : Int)) = (((k - (b.size : Int)).toNat : Nat) : Int) := by rw [wrap64_id (by omega) (by omega)]; omega
          obtain ⟨u, hu, eu⟩ := Zeros_is (k - (b.size : Int)).toNat (by omega)
          have su : u.size = (k - (b.size : Int)).toNat := by rw [← S_len, eu, List.length_replicate]
          rw [← w2] at hu
          obtain ⟨r, hr, hT⟩ := Make_is n (num (S a) (S b) * 10 ^ (k - (b.size : Int)).toNat) 0 (t ++ u) (txd (num (S a) (S b)) ++ List.replicate (k - (b.size : Int)).toNat 0) (by rw [S_append, et, eu, up48_append, up48_zeros]; rfl)
            ((Dig_txd _).append (Dig.zeros _)) (by rw [val_up, val_txd]) (by rw [List.length_append, List.length_replicate]; omega) (by omega)
          rw [show ((b.size : Int) - k).toNat = 0 by omega]
          exact ⟨r, Ev.up (Ev.pos he (Ev.pos h1 (Ev.bind ht (Ev.bind hu (Ev.pos (by omega) (Ev.bind hr (Ev.val rfl))))))), hT⟩
        · have w2 : wrap64 ((b.size : Int) - k) = ((((b.size : Int) - k).toNat : Nat) : Int) := by rw [wrap64_id (by omega) (by omega)]; omega
          rw [show (k - (b.size : Int)).toNat = 0 by omega, Nat.pow_zero, Nat.mul_one]
          obtain ⟨r, hr, hT⟩ := Make_tx n (num (S a) (S b)) ((b.size : Int) - k).toNat t et (Nat.lt_of_lt_of_le hN (Nat.pow_le_pow_right (by omega) (by omega))) (by omega)
          rw [← w2] at hr
          exact ⟨r, Ev.up (Ev.pos he (Ev.neg h1 (Ev.bind ht (Ev.bind hr (Ev.val rfl))))), hT⟩
    · rw [if_neg h] at he ⊢
      refine ⟨_, Ev.up (Ev.neg (by rw [he]; exact h) (Ev.val rfl)), ?_⟩
      rw [he]; exact Tells.bad _
  by_cases hk : k < -40
  · obtain ⟨r, hr, hT⟩ := j0 _ (by rw [show rngS k = true by simp [rngS, hk]])
    exact ⟨r, Ev.bind (refCheck_is n a b ha hb) (Ev.pos hk (Ev.bindV (If_is true 1) (Ev.bind (First_is _ _) hr))), hT⟩
  · obtain ⟨r, hr, hT⟩ := j0 _ (by rw [show rngS k = decide (k > 40) by simp [rngS, hk]])
    exact ⟨r, Ev.bind (refCheck_is n a b ha hb) (Ev.neg hk (Ev.bindV (If_is (decide (k > 40)) 1) (Ev.bind (First_is _ _) hr))), hT⟩
end Go.Proofs.YtihjcaglhjepdaaDoor.Q
set_option linter.unusedVariables false
set_option linter.unusedSimpArgs false
namespace Go.Proofs.YtihjcaglhjepdaaDoor.Q
open Go.RowKit Go.Proofs.YtihjcaglhjepdaaDoorW.PrintWords Go.Proofs.YtihjcaglhjepdaaDoor.P
theorem Fine.fit {n : Bool} {a b : ByteArray} (h : Fine n (S a) (S b)) : Fit a ∧ Fit b ∧ a.size + b.size ≤ 40 := by
  have hl := h.len
  rw [S_len, S_len] at hl
  unfold Fit; omega
theorem trim_f {n : Bool} {a b : ByteArray} (h : Fine n (S a) (S b)) : ∃ t, Ev (fun k => decimal_Trim.f k n a b) (n, a, t, 0) ∧ S t = rtrim (S b) := by
  obtain ⟨r, hr, hT⟩ := Trimd_is n a b h.fit.1 h.fit.2.1
  obtain ⟨r1, r2, r3, r4⟩ := r
  unfold trimA at hT
  rw [if_pos h.ok] at hT
  obtain ⟨h1, h2, h3, h4⟩ := hT
  simp only at h1 h2 h3 h4
  obtain rfl := S_inj h2
  subst h1 h4
  exact ⟨r3, hr, h3⟩
theorem told_mkI {r : Bool × ByteArray × ByteArray × Int} {z : Int} {p : Nat} (h : Tells r (mkI z p)) (he : r.2.2.2 = 0) : Fine r.1 (S r.2.1) (S r.2.2.1) ∧ zn r.1 (S r.2.1) (S r.2.2.1) = z ∧ r.2.2.1.size = p := by
  obtain ⟨h1, h2, h3, h4⟩ := h
  rw [he] at h4
  have := mkI_good h4.symm
  rw [← h1, ← h2, ← h3, S_len] at this
  exact this
theorem S48 : S (⟨#[48]⟩ : ByteArray) = [48] := rfl
end Go.Proofs.YtihjcaglhjepdaaDoor.Q
set_option linter.unusedVariables false
set_option linter.unusedSimpArgs false
namespace Go.Proofs.YtihjcaglhjepdaaDoor.Q
open Go.RowKit Go.Proofs.YtihjcaglhjepdaaDoorW.PrintWords Go.Proofs.YtihjcaglhjepdaaDoor.P
theorem shift_f {n : Bool} {a b : ByteArray} (h : Fine n (S a) (S b)) (k : Int) : ∃ r, Ev (fun f => decimal_Shift.f f n a b k) r ∧ (r.2.2.2 = 0 → -40 ≤ k ∧ k ≤ 40 ∧ Tells r (mkI (zn n (S a) (S b) * ((10 ^ (k - (b.size : Int)).toNat : Nat) : Int)) ((b.size : Int) - k).toNat)) ∧ (¬ r.2.2.2 = 0 → r = (false, (⟨#[]⟩ : ByteArray), (⟨#[]⟩ : ByteArray), r.2.2.2)) := by
  obtain ⟨r, hr, hT⟩ := Shift_is n a b h.fit.1 h.fit.2.1 k
  unfold shiftA at hT
  rw [if_pos h.ok] at hT
  refine ⟨r, hr, fun he => ?_, fun he => ?_⟩
  · by_cases hk : rngS k = true
    · rw [if_pos hk] at hT
      have := hT.2.2.2
      rw [he] at this
      exact absurd this (by show ¬ (0 : Int) = 1; omega)
    · rw [if_neg hk, mk_mkI, Z_scale, S_len] at hT
      simp only [rngS, Bool.or_eq_true, decide_eq_true_eq] at hk
      exact ⟨by omega, by omega, hT⟩
  · by_cases hk : rngS k = true
    · rw [if_pos hk] at hT
      have e := hT.2.2.2
      rw [e]
      exact Tells.eq hT (Tells.bad 1)
    · rw [if_neg hk] at hT
      have e := hT.2.2.2
      rw [e] at he
      rw [mk_bad he] at hT
      have e := hT.2.2.2
      rw [e]
      exact Tells.eq hT (Tells.bad 3)
end Go.Proofs.YtihjcaglhjepdaaDoor.Q
set_option linter.unusedVariables false
set_option linter.unusedSimpArgs false
namespace Go.Proofs.YtihjcaglhjepdaaDoor.Q
open Go.RowKit Go.Proofs.YtihjcaglhjepdaaDoorW.PrintWords Go.Proofs.YtihjcaglhjepdaaDoor.P
def wh (l : List Int) : List Int := if ltrim l = [] then [48] else ltrim l
def unwh (s : List Int) : List Int := if s = [48] then [] else s
def part (s : List Int) (p : Nat) : List Int := List.replicate (p - (unwh s).length) 48 ++ unwh s
theorem ltrim_cons (d : Int) (l : List Int) : ltrim (d :: l) = if d = 48 then ltrim l else d :: l := by
  unfold ltrim
  rw [List.dropWhile_cons]
  by_cases h : d = 48 <;> simp [h]
theorem ltrim_head {l m : List Int} {d : Int} (h : ltrim l = d :: m) : d ≠ 48 := by
  induction l with
  | nil => simp [ltrim] at h
  | cons x l ih =>
    rw [ltrim_cons] at h
    by_cases hx : x = 48
    · rw [if_pos hx] at h; exact ih h
    · rw [if_neg hx] at h
      simp only [List.cons.injEq] at h
      rw [← h.1]; exact hx
theorem ltrim_spec (l : List Int) : l = List.replicate (l.length - (ltrim l).length) 48 ++ ltrim l := by
  induction l with
  | nil => rfl
  | cons x l ih =>
    rw [ltrim_cons]
    by_cases hx : x = 48
    · rw [if_pos hx]
      have hl := ltrim_len l
      rw [List.length_cons, show l.length + 1 - (ltrim l).length = (l.length - (ltrim l).length) + 1 by omega, List.replicate_succ, List.cons_append, ← ih, hx]
    · rw [if_neg hx]; simp
theorem unwh_wh (l : List Int) : unwh (wh l) = ltrim l := by
  unfold unwh wh
  by_cases h : ltrim l = []
  · rw [if_pos h, if_pos rfl, h]
  · rw [if_neg h, if_neg]
    intro e
    exact ltrim_head e rfl
theorem part_wh (l : List Int) : part (wh l) l.length = l := by
  unfold part
  rw [unwh_wh]
  exact (ltrim_spec l).symm
theorem rtrim_pad (l : List Int) : rtrim l ++ List.replicate (l.length - (rtrim l).length) 48 = l := by
  obtain ⟨k, hk⟩ := rtrim_spec l
  have h1 : l.length = (rtrim l).length + k := by
    have := congrArg List.length hk
    rwa [List.length_append, List.length_replicate] at this
  rw [show l.length - (rtrim l).length = k by omega]
  exact hk.symm
theorem wh_len (l : List Int) : (wh l).length ≤ l.length + 1 := by
  unfold wh
  have := ltrim_len l
  by_cases h : ltrim l = []
  · rw [if_pos h]; simp
  · rw [if_neg h]; omega
theorem Fine.abs {n : Bool} {a b : List Int} (h : Fine n a b) : Fine false a b := Fine.mk' h.len h.ne h.da h.db h.head (by intro h; cases h)
end Go.Proofs.YtihjcaglhjepdaaDoor.Q
set_option linter.unusedVariables false
set_option linter.unusedSimpArgs false
namespace Go.Proofs.YtihjcaglhjepdaaDoor.Q
open Go.RowKit Go.Proofs.YtihjcaglhjepdaaDoorW.PrintWords Go.Proofs.YtihjcaglhjepdaaDoor.P
theorem whole_is (s : ByteArray) (hs : Fit s) : ∃ t, Ev (fun k => operand_whole.f k s) t ∧ S t = wh (S s) := by
  obtain ⟨t, ht, et⟩ := TrimLeft_is s hs
  unfold wh
  by_cases h : ltrim (S s) = []
  · rw [if_pos h]
    exact ⟨(⟨#[48]⟩ : ByteArray), Ev.bind ht (Ev.pos (by rw [toList_nil, et, h]) (Ev.val rfl)), rfl⟩
  · rw [if_neg h]
    exact ⟨t, Ev.bind ht (Ev.neg (by rw [toList_nil, et]; exact h) (Ev.val rfl)), et⟩
theorem wh_zero (l : List Int) : wh (48 :: l) = wh l := by
  unfold wh; rw [ltrim_cons, if_pos rfl]
theorem Number_is : ∀ (n : Nat) (s : ByteArray), s.size = n → Fit s → ∃ t, Ev (fun k => idiomref04_Number.f k s) t ∧ S t = wh (S s) := by
  intro n
  induction n with
  | zero =>
    intro s h _
    have h0 : S s = [] := List.eq_nil_of_length_eq_zero (by rw [S_len]; exact h)
    refine ⟨(⟨#[48]⟩ : ByteArray), Ev.up (Ev.neg (by omega) (Ev.pos ((toList_nil s).2 h0) (Ev.val rfl))), ?_⟩
    rw [h0]; rfl
  | succ n ih =>
    intro s h hf
    obtain ⟨d, m, e⟩ : ∃ d m, S s = d :: m := by
      cases he : S s with
      | nil => have := S_len s; rw [he] at this; simp at this; omega
      | cons d m => exact ⟨d, m, rfl⟩
    have hb : bt s 0 = d := by rw [bt_S, e]; rfl
    have hne : ¬ s.toList = ([] : List UInt8) := by rw [toList_nil, e]; simp
    by_cases h1 : d = 48
    · have h2 : S (s.extract 1 s.size) = m := by rw [S_drop, e]; rfl
      have h3 : (s.extract 1 s.size).size = n := by rw [← S_len, h2]; have := S_len s; rw [e] at this; simp at this; omega
      obtain ⟨t, ht, hs⟩ := ih _ h3 (by unfold Fit at *; omega)
      refine ⟨t, Ev.up (Ev.pos (by omega) (Ev.pos (by omega) (Ev.pos (by rw [hb]; exact h1) (Ev.pos (by omega) ht)))), ?_⟩
      rw [hs, h2, e, h1, wh_zero]
    · refine ⟨s, Ev.up (Ev.pos (by omega) (Ev.pos (by omega) (Ev.neg (by rw [hb]; exact h1) (Ev.neg hne (Ev.val rfl))))), ?_⟩
      rw [e, wh, ltrim_cons, if_neg h1, if_neg (by simp)]
theorem refTrim_f {n : Bool} {a b : ByteArray} (h : Fine n (S a) (S b)) : ∃ t, Ev (fun k => idiomref02_Trim.f k n a b) (n, a, t, 0) ∧ S t = rtrim (S b) := by
  obtain ⟨r, hr, hT⟩ := refTrim_is n a b h.fit.1 h.fit.2.1
  obtain ⟨r1, r2, r3, r4⟩ := r
  unfold trimA at hT
  rw [if_pos h.ok] at hT
  obtain ⟨h1, h2, h3, h4⟩ := hT
  simp only at h1 h2 h3 h4
  obtain rfl := S_inj h2
  subst h1 h4
  exact ⟨r3, hr, h3⟩
theorem pad_fit {n : Bool} {a b : ByteArray} (h : Fine n (S a) (S b)) (v : Int) (h0 : (b.size : Int) ≤ v) (h1 : v ≤ 40 - a.size) :
    padA n (S a) (S b) v = ⟨n, S a, S b ++ List.replicate (v.toNat - b.size) 48, 0⟩ := by
  unfold padA
  have hr : ¬ rng v = true := by simp only [rng, Bool.or_eq_true, decide_eq_true_eq]; omega
  rw [if_pos h.ok, if_neg hr, S_len, S_len, if_neg (by omega)]
theorem pad_g {n : Bool} {a b : ByteArray} (h : Fine n (S a) (S b)) (v : Int) (h0 : (b.size : Int) ≤ v) (h1 : v ≤ 40 - a.size) :
    ∃ u, Ev (fun k => decimal_Pad.f k n a b v) (n, a, u, 0) ∧ S u = S b ++ List.replicate (v.toNat - b.size) 48 := by
  obtain ⟨r, hr, hT⟩ := Pad_is n a b h.fit.1 h.fit.2.1 v
  rw [pad_fit h v h0 h1] at hT
  obtain ⟨r1, r2, r3, r4⟩ := r
  obtain ⟨q1, q2, q3, q4⟩ := hT
  simp only at q1 q2 q3 q4
  obtain rfl := S_inj q2
  subst q1 q4
  exact ⟨r3, hr, q3⟩
abbrev Tup := Bool × ByteArray × ByteArray × ByteArray × Int × Int × ByteArray × ByteArray × Int × Int
def zeroT (e : Int) : Tup := (false, (⟨#[]⟩ : ByteArray), (⟨#[]⟩ : ByteArray), (⟨#[]⟩ : ByteArray), 0, 0, (⟨#[]⟩ : ByteArray), (⟨#[]⟩ : ByteArray), 0, e)
theorem shown_g {n : Bool} {c d : ByteArray} (h : Fine n (S c) (S d)) (t f g : ByteArray) (e : Int) (ht : S t = rtrim (S d)) (hf : S f = wh (S d)) (hg : S g = wh (S t)) :
    Ev (fun k => idiomref04_shown.f k n c d e) (n, c, t, c, (d.size : Int), (t.size : Int), f, g, e) := by
  obtain ⟨t', hr, et⟩ := refTrim_f h
  obtain rfl : t' = t := S_inj (by rw [et, ht])
  have hd := h.fit.2.1
  obtain ⟨f', hf', ef⟩ := Number_is _ d rfl hd
  obtain rfl : f' = f := S_inj (by rw [ef, hf])
  obtain ⟨g', hg', eg⟩ := Number_is _ t' rfl (Fit.of_len (n := d.size) (by rw [et]; exact Nat.le_trans (rtrim_len _) (by rw [S_len]; omega)) hd)
  obtain rfl : g' = g := S_inj (by rw [eg, hg])
  exact Ev.bind hr (Ev.bind hf' (Ev.bind hg' (Ev.val rfl)))
inductive OfSays (n : Bool) (a b : ByteArray) (k : Int) (R : Tup) : Prop
  | good (s : Bool) (c d t f g : ByteArray) (hS : Ev (fun j => decimal_Shift.f j n a b k) (s, c, d, 0)) (hF : Fine s (S c) (S d)) (h0 : Fine n (S a) (S b)) (hk : 0 ≤ k ∧ k ≤ 40)
      (ht : S t = rtrim (S d)) (hf : S f = wh (S d)) (hg : S g = wh (S t)) (hR : R = (false, c, t, c, (d.size : Int), (t.size : Int), f, g, k, 0)) : OfSays n a b k R
  | fail (e : Int) (he : e ≠ 0) (hR : R = zeroT e) (hw : (¬ chk n (S a) (S b) = 0 ∧ e = chk n (S a) (S b)) ∨ (Fine n (S a) (S b) ∧ ((rng k = true ∧ e = 1) ∨ (rng k = false ∧ Ev (fun j => decimal_Shift.f j n a b k) (false, (⟨#[]⟩ : ByteArray), (⟨#[]⟩ : ByteArray), e))))) : OfSays n a b k R
theorem shift_both {n : Bool} {a b : ByteArray} (h : Fine n (S a) (S b)) (k : Int) : ∃ r, Ev (fun j => decimal_Shift.f j n a b k) r ∧ Ev (fun j => idiomref02_Shift.f j n a b k) r ∧
    (r.2.2.2 = 0 → Fine r.1 (S r.2.1) (S r.2.2.1)) ∧ (¬ r.2.2.2 = 0 → r = (false, (⟨#[]⟩ : ByteArray), (⟨#[]⟩ : ByteArray), r.2.2.2)) := by
  obtain ⟨r, hr, h1, h2⟩ := shift_f h k
  obtain ⟨r', hr', t'⟩ := refShift_is n a b h.fit.1 h.fit.2.1 k
  obtain ⟨r'', hr'', t''⟩ := Shift_is n a b h.fit.1 h.fit.2.1 k
  obtain rfl := Tells.eq t' t''
  obtain rfl := Ev.inj hr hr''
  exact ⟨r, hr, hr', fun e => (told_mkI (h1 e).2.2 e).1, h2⟩
theorem Of_both (n : Bool) (a b : ByteArray) (k : Int) (ha : Fit a) (hb : Fit b) : ∃ R, Ev (fun j => operand_Of.f j n a b k) R ∧ Ev (fun j => idiomref04_Of.f j n a b k) R ∧ OfSays n a b k R := by
  -- the document's ways up to its join
  have ref : ∀ R : Tup, (∀ e : Int, e = (if chk n (S a) (S b) = 0 then (if rng k = true then 1 else 0) else chk n (S a) (S b)) → Ev (fun j => idiomref04_Of.j0 j k e n a b) R) → Ev (fun j => idiomref04_Of.f j n a b k) R := by
    intro R hR
    by_cases hk : k < 0
    · refine Ev.bind (refCheck_is n a b ha hb) (Ev.pos hk (Ev.bindV (If_is true 1) (Ev.bind (First_is _ _) (hR _ ?_))))
      rw [show rng k = true by simp [rng, hk]]
    · refine Ev.bind (refCheck_is n a b ha hb) (Ev.neg hk (Ev.bindV (If_is (decide (k > 40)) 1) (Ev.bind (First_is _ _) (hR _ ?_))))
      rw [show rng k = decide (k > 40) by simp [rng, hk]]
  by_cases h : chk n (S a) (S b) = 0
  · have hF : Fine n (S a) (S b) := ⟨h⟩
    have prog : ∀ R : Tup, (∀ x : Bool, x = rng k → Ev (fun j => operand_Of.j0 j k x n a b) R) → Ev (fun j => operand_Of.f j n a b k) R := by
      intro R hR
      by_cases hk : k < 0
      · exact Ev.bind (Check_is n a b ha hb) (Ev.pos h (Ev.pos hk (hR _ (by simp [rng, hk]))))
      · exact Ev.bind (Check_is n a b ha hb) (Ev.pos h (Ev.neg hk (hR _ (by simp [rng, hk]))))
    by_cases hr : rng k = true
    · refine ⟨zeroT 1, prog _ (fun x hx => Ev.up (Ev.pos (by rw [hx, hr]) (Ev.val rfl))), ref _ (fun e he => ?_), .fail 1 (by omega) rfl (.inr ⟨hF, .inl ⟨hr, rfl⟩⟩)⟩
      rw [if_pos h, if_pos hr] at he
      exact Ev.up (Ev.neg (by omega) (Ev.val (by rw [he]; rfl)))
    · have hk : 0 ≤ k ∧ k ≤ 40 := by
        simp only [rng, Bool.or_eq_true, decide_eq_true_eq] at hr; omega
      obtain ⟨⟨s, c, d, e⟩, hs, hs', hg, hbad⟩ := shift_both hF k
      simp only at hg hbad
      by_cases he : e = 0
      · subst he
        have hG := hg rfl
        obtain ⟨t, ht, et⟩ := trim_f hG.abs
        have hd := hG.fit.2.1
        have htf : Fit t := Fit.of_len (n := d.size) (by rw [et]; exact Nat.le_trans (rtrim_len _) (by rw [S_len]; omega)) hd
        obtain ⟨f, hf, ef⟩ := whole_is d hd
        obtain ⟨g, hg', eg⟩ := whole_is t htf
        refine ⟨_, prog _ (fun x hx => ?_), ref _ (fun e he => ?_), .good s c d t f g hs hG hF hk et ef eg rfl⟩
        · exact Ev.up (Ev.neg (by rw [hx]; exact hr) (Ev.bind hs (Ev.pos rfl (Ev.bind ht (Ev.pos rfl (Ev.bind hf (Ev.bind hg' (Ev.val rfl))))))))
        · rw [if_pos h, if_neg hr] at he
          exact Ev.up (Ev.pos he (Ev.bind hs' (Ev.pos rfl (Ev.bind (shown_g hG.abs t f g k et ef eg) (Ev.val rfl)))))
      · have hz := hbad he
        simp only [Prod.mk.injEq, and_true] at hz
        obtain ⟨rfl, rfl, rfl⟩ := hz
        refine ⟨zeroT e, prog _ (fun x hx => ?_), ref _ (fun e' he' => ?_), .fail e he rfl (.inr ⟨hF, .inr ⟨by simpa using hr, hs⟩⟩)⟩
        · exact Ev.up (Ev.neg (by rw [hx]; exact hr) (Ev.bind hs (Ev.neg he (Ev.val rfl))))
        · rw [if_pos h, if_neg hr] at he'
          exact Ev.up (Ev.pos he' (Ev.bind hs' (Ev.neg he (Ev.val rfl))))
  · refine ⟨zeroT (chk n (S a) (S b)), Ev.bind (Check_is n a b ha hb) (Ev.neg h (Ev.val rfl)), ref _ (fun e he => ?_), .fail _ h rfl (.inl ⟨h, rfl⟩)⟩
    rw [if_neg h] at he
    exact Ev.up (Ev.neg (by rw [he]; exact h) (Ev.val (by rw [he]; rfl)))
theorem oawake_is : Ev (fun k => idiomlaw04_awake.f k) true := Ev.of (fun k => idiomlaw04_awake.mono k) (k := 60) (by decide +kernel)
end Go.Proofs.YtihjcaglhjepdaaDoor.Q
set_option linter.unusedVariables false
set_option linter.unusedSimpArgs false
namespace Go.Proofs.YtihjcaglhjepdaaDoor.Q
open Go.RowKit Go.Proofs.YtihjcaglhjepdaaDoorW.PrintWords Go.Proofs.YtihjcaglhjepdaaDoor.P
theorem part_loop (p : Nat) (hp : p ≤ 1000) : ∀ (g : Nat) (s : ByteArray), p - s.size = g → s.size ≤ 1000 → ∃ t, Ev (fun k => idiomlaw04_part.l0 k s (p : Int)) t ∧ S t = List.replicate (p - s.size) 48 ++ S s := by
  intro g
  induction g with
  | zero =>
    intro s hg _
    exact ⟨s, Ev.up (Ev.neg (by omega) (Ev.val rfl)), by rw [hg]; rfl⟩
  | succ g ih =>
    intro s hg hs
    have sz : ((⟨#[48]⟩ : ByteArray) ++ s).size = s.size + 1 := by rw [ByteArray.size_append]; show 1 + s.size = _; omega
    obtain ⟨t, ht, et⟩ := ih ((⟨#[48]⟩ : ByteArray) ++ s) (by omega) (by omega)
    refine ⟨t, Ev.up (Ev.pos (by omega) (Ev.pos (by omega) ht)), ?_⟩
    rw [et, sz, S_append, show p - s.size = (p - (s.size + 1)) + 1 by omega, List.replicate_succ']
    simp [S48]
theorem part_is (s : ByteArray) (p : Nat) (hp : p ≤ 1000) (hs : s.size ≤ 1000) : ∃ t, Ev (fun k => idiomlaw04_part.f k s (p : Int)) t ∧ S t = part (S s) p := by
  unfold part unwh
  by_cases h : S s = [48]
  · obtain ⟨t, ht, et⟩ := part_loop p hp _ (⟨#[]⟩ : ByteArray) rfl (by show 0 ≤ 1000; omega)
    rw [if_pos h]
    exact ⟨t, Ev.pos ((toList_lit s [48]).2 h) (Ev.up ht), et⟩
  · obtain ⟨t, ht, et⟩ := part_loop p hp _ s rfl hs
    rw [if_neg h, S_len]
    exact ⟨t, Ev.neg (fun e => h ((toList_lit s [48]).1 e)) (Ev.up ht), et⟩
theorem part_back {d f : ByteArray} (hd : d.size ≤ 40) (hf : S f = wh (S d)) : Ev (fun k => idiomlaw04_part.f k f (d.size : Int)) d := by
  have hl := wh_len (S d)
  rw [← hf, S_len, S_len] at hl
  obtain ⟨t, ht, et⟩ := part_is f d.size (by omega) (by omega)
  refine ht.eq (S_inj ?_)
  rw [et, hf, ← S_len d, part_wh]
theorem parts_law (n : Bool) (a b : ByteArray) (j : Int) (ha : Fit a) (hb : Fit b) {w : Prop} (_ : w) : ∃ k, idiomlaw04_OperandParts.f k n a b j = some true := by
  apply Ev.rounds
  obtain ⟨R, hr, _, s1⟩ := Of_both n a b j ha hb
  cases s1 with
  | fail e he hR hw =>
    subst hR
    exact Ev.bind oawake_is (Ev.pos rfl (Ev.bind hr (Ev.neg he (Ev.val (by simp only [zeroT]; decide +kernel)))))
  | good s c d t f g hS hF h0 hk ht hf hg hR =>
    subst hR
    have hl := hF.fit.2.2
    have tl : t.size ≤ d.size := by
      have := rtrim_len (S d)
      rwa [← ht, S_len, S_len] at this
    have hFt : Fine false (S c) (S t) := by rw [ht]; exact hF.abs.trim
    have j0 : ∀ x : Bool, x = false → Ev (fun k => idiomlaw04_OperandParts.j0 k j x n a b false c t c (d.size : Int) (t.size : Int) f g j) true := by
      intro x hx
      obtain ⟨u, hu, eu⟩ := pad_g hFt (d.size : Int) (by omega) (by have := hFt.fit.2.2; omega)
      have hud : u = d := S_inj (by
        have := rtrim_pad (S d)
        rw [← ht, S_len, S_len] at this
        rw [eu, Int.toNat_natCast, this])
      subst hud
      exact Ev.up (Ev.neg (by rw [hx]; exact Bool.false_ne_true) (Ev.bind hS (Ev.pos rfl (Ev.bind (part_back (by omega) hf) (Ev.neg (by simp) (Ev.bind (part_back (by omega) hg) (Ev.neg (by simp) (Ev.bind hu (Ev.pos rfl (Ev.val (by simp)))))))))))
    refine Ev.bind oawake_is (Ev.pos rfl (Ev.bind hr (Ev.pos rfl (Ev.neg (by show ¬ (d.size : Int) < (t.size : Int); omega) (Ev.neg (by show ¬ (t.size : Int) < 0; omega) (Ev.neg (by show ¬ (d.size : Int) > 40; omega) (Ev.split (fun h => j0 _ ?_) (fun h => j0 _ rfl))))))))
    have h' : (d.size : Int) = (t.size : Int) := h
    have e1 : t = d := S_inj (by
      have := rtrim_pad (S d)
      rw [← ht, S_len, S_len, show d.size - t.size = 0 by omega] at this
      simpa using this)
    subst e1
    obtain rfl : f = g := S_inj (by rw [hf, hg])
    simp
end Go.Proofs.YtihjcaglhjepdaaDoor.Q
