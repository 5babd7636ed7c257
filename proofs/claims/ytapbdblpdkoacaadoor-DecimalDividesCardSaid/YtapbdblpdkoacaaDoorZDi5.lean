/- A part of the proof. Part 6 of 7; its texts were written by programs, some out of the kit's print. -/
import Derived.Test.YtapbdblpdkoacaaDoorZDi4
import Derived.Lib.Bytes
import Derived.Sort.Walk0
set_option linter.unusedVariables false
set_option linter.unusedSimpArgs false
namespace Go.Proofs.YtapbdblpdkoacaaDoor.Q
open Go.RowKit Go.Proofs.YtapbdblpdkoacaaDoorW.PrintWords
def val (l : List Int) : Nat := l.foldl (fun n d => n * 10 + d.toNat) 0
def Dig (l : List Int) : Prop := ∀ d ∈ l, 0 ≤ d ∧ d ≤ 9
theorem foldl_val (l : List Int) : ∀ n : Nat, l.foldl (fun n d => n * 10 + d.toNat) n = n * 10 ^ l.length + val l := by
  induction l with
  | nil => intro n; simp [val]
  | cons d l ih =>
    intro n
    simp only [List.foldl_cons, val]
    rw [ih, ih (0 * 10 + d.toNat), List.length_cons, Nat.pow_succ, Nat.add_mul, Nat.zero_mul, Nat.zero_add, Nat.mul_assoc, Nat.mul_comm 10]
    omega
theorem val_nil : val [] = 0 := rfl
theorem val_append (l m : List Int) : val (l ++ m) = val l * 10 ^ m.length + val m := by
  rw [val, List.foldl_append, foldl_val]; rfl
theorem val_snoc (l : List Int) (d : Int) : val (l ++ [d]) = val l * 10 + d.toNat := by
  rw [val_append]; simp [val]
theorem val_cons (d : Int) (l : List Int) : val (d :: l) = d.toNat * 10 ^ l.length + val l := by
  rw [show d :: l = [d] ++ l from rfl, val_append]; simp [val]
theorem val_zeros (n : Nat) : val (List.replicate n 0) = 0 := by
  induction n with
  | zero => rfl
  | succ n ih => rw [List.replicate_succ, val_cons, ih]; simp
theorem val_up (l : List Int) (n : Nat) : val (l ++ List.replicate n 0) = val l * 10 ^ n := by
  rw [val_append, val_zeros, List.length_replicate, Nat.add_zero]
theorem Dig.nil : Dig [] := fun d h => by cases h
theorem Dig.append {l m : List Int} (h : Dig l) (k : Dig m) : Dig (l ++ m) := fun d hd => by
  rcases List.mem_append.1 hd with h1 | h1
  · exact h d h1
  · exact k d h1
theorem Dig.left {l m : List Int} (h : Dig (l ++ m)) : Dig l := fun d hd => h d (List.mem_append_left _ hd)
theorem Dig.right {l m : List Int} (h : Dig (l ++ m)) : Dig m := fun d hd => h d (List.mem_append_right _ hd)
theorem Dig.one {d : Int} (h0 : 0 ≤ d) (h1 : d ≤ 9) : Dig [d] := fun x hx => by rw [List.mem_singleton.1 hx]; exact ⟨h0, h1⟩
theorem Dig.head {d : Int} {l : List Int} (h : Dig (d :: l)) : 0 ≤ d ∧ d ≤ 9 := h d (List.mem_cons_self)
theorem Dig.tail {d : Int} {l : List Int} (h : Dig (d :: l)) : Dig l := fun x hx => h x (List.mem_cons_of_mem _ hx)
theorem Dig.cons {d : Int} {l : List Int} (h0 : 0 ≤ d) (h1 : d ≤ 9) (h : Dig l) : Dig (d :: l) := fun x hx => by
  rcases List.mem_cons.1 hx with rfl | hx
  · exact ⟨h0, h1⟩
  · exact h x hx
theorem Dig.zeros (n : Nat) : Dig (List.replicate n 0) := fun d hd => by rw [(List.mem_replicate.1 hd).2]; omega
theorem val_lt {l : List Int} (h : Dig l) : val l < 10 ^ l.length := by
  induction l with
  | nil => simp [val]
  | cons d l ih =>
    have h1 := ih h.tail
    have h2 := h.head
    rw [val_cons, List.length_cons, Nat.pow_succ]
    have h3 : d.toNat * 10 ^ l.length ≤ 9 * 10 ^ l.length := Nat.mul_le_mul_right _ (by omega)
    omega
def dg (n : Nat) : List Int := if h : n = 0 then [] else dg (n / 10) ++ [((n % 10 : Nat) : Int)]
termination_by n
decreasing_by omega
theorem dg_zero : dg 0 = [] := by rw [dg]; simp
theorem dg_pos {n : Nat} (h : n ≠ 0) : dg n = dg (n / 10) ++ [((n % 10 : Nat) : Int)] := by rw [dg]; simp [h]
theorem val_dg (n : Nat) : val (dg n) = n := by
  induction n using Nat.strongRecOn with
  | _ n ih =>
    by_cases h : n = 0
    · subst h; rw [dg_zero]; rfl
    · rw [dg_pos h, val_snoc, ih (n / 10) (by omega)]; omega
theorem Dig_dg (n : Nat) : Dig (dg n) := by
  induction n using Nat.strongRecOn with
  | _ n ih =>
    by_cases h : n = 0
    · subst h; rw [dg_zero]; exact Dig.nil
    · rw [dg_pos h]; exact (ih (n / 10) (by omega)).append (Dig.one (by omega) (by omega))
theorem dg_eq_nil {n : Nat} : dg n = [] ↔ n = 0 := by
  constructor
  · intro h
    have := val_dg n
    rw [h] at this
    exact this.symm
  · rintro rfl; exact dg_zero
theorem dg_snoc {n : Nat} {d : Int} (h0 : 0 ≤ d) (h1 : d ≤ 9) (hn : n ≠ 0 ∨ d ≠ 0) : dg (n * 10 + d.toNat) = dg n ++ [d] := by
  rw [dg_pos (by omega), show (n * 10 + d.toNat) / 10 = n by omega, show (n * 10 + d.toNat) % 10 = d.toNat by omega]
  congr 2
  omega
theorem dg_val {l : List Int} (h : Dig l) (hh : ∀ d m, l = d :: m → d ≠ 0) : dg (val l) = l := by
  induction hn : l.length generalizing l with
  | zero => rw [List.eq_nil_of_length_eq_zero hn]; exact dg_zero
  | succ n ih =>
    have hne : l ≠ [] := by intro e; rw [e] at hn; simp at hn
    obtain ⟨m, d, rfl⟩ : ∃ m d, l = m ++ [d] := ⟨l.dropLast, l.getLast hne, (List.dropLast_concat_getLast hne).symm⟩
    have hd := h.right d (List.mem_singleton_self d)
    have hm : dg (val m) = m := ih h.left (fun x t e => hh x (t ++ [d]) (by rw [e]; rfl)) (by simpa using hn)
    rw [val_snoc, dg_snoc hd.1 hd.2, hm]
    cases m with
    | nil => right; exact hh d [] rfl
    | cons x t =>
      left
      intro e
      rw [e, dg_zero] at hm
      cases hm
theorem dg_lead {l : List Int} (h : Dig l) : dg (val l) = l.dropWhile (· == 0) := by
  induction l with
  | nil => exact dg_zero
  | cons d l ih =>
    by_cases hd : d = 0
    · subst hd
      rw [val_cons]
      simpa using ih h.tail
    · rw [List.dropWhile_cons_of_neg (by simpa using hd)]
      exact dg_val h (fun x m e => by injection e with e _; rw [← e]; exact hd)
theorem length_dg_le {n k : Nat} (h : n < 10 ^ k) : (dg n).length ≤ k := by
  induction k generalizing n with
  | zero => have : n = 0 := by simpa using h
            rw [this, dg_zero]; simp
  | succ k ih =>
    by_cases h0 : n = 0
    · rw [h0, dg_zero]; simp
    · rw [dg_pos h0, List.length_append, List.length_singleton]
      have := ih (n := n / 10) (by rw [Nat.pow_succ] at h; omega)
      omega
theorem lt_of_length_dg (n : Nat) : n < 10 ^ (dg n).length := by
  have := val_lt (Dig_dg n)
  rwa [val_dg] at this
theorem length_dg_iff (n k : Nat) : (dg n).length ≤ k ↔ n < 10 ^ k :=
  ⟨fun h => Nat.lt_of_lt_of_le (lt_of_length_dg n) (Nat.pow_le_pow_right (by omega) h), length_dg_le⟩
theorem dg_mul_pow (n k : Nat) : dg (n * 10 ^ k) = if n = 0 then [] else dg n ++ List.replicate k 0 := by
  by_cases h : n = 0
  · subst h; rw [Nat.zero_mul, dg_zero]; rfl
  · rw [if_neg h]
    induction k with
    | zero => simp
    | succ k ih =>
      have hp : 0 < 10 ^ k := Nat.pow_pos (by omega)
      have h1 : n * 10 ^ k ≠ 0 := by
        have := Nat.mul_pos (Nat.pos_of_ne_zero h) hp
        omega
      have h2 : n * 10 ^ (k + 1) = (n * 10 ^ k) * 10 + (0 : Int).toNat := by rw [Nat.pow_succ, ← Nat.mul_assoc]; rfl
      rw [h2, dg_snoc (by omega) (by omega) (.inl h1), ih, List.append_assoc, List.replicate_succ']
end Go.Proofs.YtapbdblpdkoacaaDoor.Q
set_option linter.unusedVariables false
set_option linter.unusedSimpArgs false
namespace Go.Proofs.YtapbdblpdkoacaaDoor.Q
open Go.RowKit Go.Proofs.YtapbdblpdkoacaaDoorW.PrintWords
def S (s : ByteArray) : List Int := s.data.toList.map fun b => (b.toNat : Int)
theorem S_len (s : ByteArray) : (S s).length = s.size := by
  rw [S, List.length_map, Array.length_toList]; rfl
theorem bt_S (s : ByteArray) (i : Int) : bt s i = rd (S s) i := by
  unfold bt rd S
  by_cases h : i.toNat < s.size
  · have h' : i.toNat < s.data.size := h
    rw [dif_pos h, List.getD_eq_getElem?_getD, List.getElem?_map, List.getElem?_eq_getElem (by simpa using h')]
    simp
    rfl
  · have h' : ¬ i.toNat < s.data.size := h
    rw [dif_neg h, List.getD_eq_getElem?_getD, List.getElem?_eq_none (by simpa using h')]
    rfl
theorem S_append (s t : ByteArray) : S (s ++ t) = S s ++ S t := by
  simp [S]
theorem S_extract (s : ByteArray) (a b : Nat) : S (s.extract a b) = ((S s).drop a).take (b - a) := by
  simp only [S, ByteArray.data_extract, Array.toList_extract, List.extract_eq_take_drop, List.map_take, List.map_drop]
theorem S_drop (s : ByteArray) (a : Nat) : S (s.extract a s.size) = (S s).drop a := by
  rw [S_extract]
  apply List.take_of_length_le
  rw [List.length_drop, S_len]
  omega
theorem S_take (s : ByteArray) (b : Nat) : S (s.extract 0 b) = (S s).take b := by
  rw [S_extract]; simp
theorem u8_ofNat (b : UInt8) : UInt8.ofNat ((b.toNat : Int).toNat) = b := by simp
theorem S_back (s : ByteArray) : strOfNums (S s) = s := by
  cases s with
  | mk d =>
    simp only [strOfNums, S, List.map_map, ByteArray.mk.injEq]
    have : (fun n : Int => UInt8.ofNat n.toNat) ∘ (fun b : UInt8 => (b.toNat : Int)) = id := by
      funext b; exact u8_ofNat b
    rw [this]; simp
theorem S_inj {s t : ByteArray} (h : S s = S t) : s = t := by rw [← S_back s, ← S_back t, h]
theorem S_str {l : List Int} (h : ∀ d ∈ l, 0 ≤ d ∧ d ≤ 255) : S (strOfNums l) = l := by
  simp only [S, strOfNums, List.map_map]
  conv => rhs; rw [← List.map_id l]
  apply List.map_congr_left
  intro d hd
  have := h d hd
  simp [UInt8.toNat_ofNat']
  omega
theorem toList_S (s t : ByteArray) : s.toList = t.toList ↔ S s = S t := by
  constructor
  · intro h
    rw [ByteArray.toList_eq, ByteArray.toList_eq] at h
    rw [S, S, h]
  · intro h; rw [S_inj h]
theorem toList_lit (s : ByteArray) (l : List UInt8) : s.toList = l ↔ S s = l.map (fun b => (b.toNat : Int)) := by
  have := toList_S s ⟨l.toArray⟩
  rw [ByteArray.toList_mk l] at this
  rw [this]; simp [S]
theorem toList_nil (s : ByteArray) : s.toList = ([] : List UInt8) ↔ S s = [] := toList_lit s []
theorem beq_lit (s : ByteArray) (l : List UInt8) : (s.toList == l) = decide (S s = l.map (fun b => (b.toNat : Int))) := by
  rw [Bool.eq_iff_iff]; simp [toList_lit]
theorem u8_lt (a b : UInt8) : a < b ↔ (a.toNat : Int) < (b.toNat : Int) := by
  rw [UInt8.lt_iff_toNat_lt]; omega
def lessL : List Int → List Int → Bool
  | _, [] => false
  | [], _ :: _ => true
  | a :: x, b :: y => decide (a < b) || (decide (a = b) && lessL x y)
theorem less_S (s t : ByteArray) : Op.bytesLess s.toList t.toList = lessL (S s) (S t) := by
  rw [ByteArray.toList_eq, ByteArray.toList_eq, S, S]
  generalize s.data.toList = x
  generalize t.data.toList = y
  induction x generalizing y with
  | nil => cases y <;> rfl
  | cons a x ih =>
    cases y with
    | nil => rfl
    | cons b y =>
      simp only [Op.bytesLess, List.map_cons, lessL]
      rw [ih]
      have h1 : (decide (a < b)) = decide ((a.toNat : Int) < (b.toNat : Int)) := decide_eq_decide.2 (u8_lt a b)
      have h2 : (a == b) = decide ((a.toNat : Int) = (b.toNat : Int)) := by
        rw [Bool.eq_iff_iff]
        simp only [beq_iff_eq, decide_eq_true_eq]
        rw [← UInt8.toNat_inj]; omega
      rw [← h1, ← h2]
theorem lessL_val : ∀ {l m : List Int}, Dig l → Dig m → l.length = m.length → lessL l m = decide (val l < val m)
  | [], [], _, _, _ => by simp [lessL]
  | [], _ :: _, _, _, h => by simp at h
  | _ :: _, [], _, _, h => by simp at h
  | a :: x, b :: y, hl, hm, h => by
    have hx := val_lt hl.tail
    have hy := val_lt hm.tail
    have h' : x.length = y.length := by simpa using h
    have ha := hl.head
    have hb := hm.head
    rw [lessL, lessL_val hl.tail hm.tail h', val_cons, val_cons, h', Bool.eq_iff_iff]
    rw [h'] at hx
    simp only [Bool.or_eq_true, Bool.and_eq_true, decide_eq_true_eq]
    constructor
    · rintro (h1 | ⟨h1, h2⟩)
      · have h3 : (a.toNat + 1) * 10 ^ y.length ≤ b.toNat * 10 ^ y.length := Nat.mul_le_mul_right _ (by omega)
        rw [Nat.add_mul] at h3
        omega
      · subst h1; omega
    · intro h1
      rcases Int.lt_trichotomy a b with h2 | h2 | h2
      · exact .inl h2
      · subst h2; exact .inr ⟨rfl, by omega⟩
      · have h3 : (b.toNat + 1) * 10 ^ y.length ≤ a.toNat * 10 ^ y.length := Nat.mul_le_mul_right _ (by omega)
        rw [Nat.add_mul] at h3
        omega
theorem rd_nat (l : List Int) (i : Nat) : rd l (i : Int) = l.getD i 0 := by simp [rd]
theorem getD_append_left (l m : List Int) (i : Nat) (h : i < l.length) : (l ++ m).getD i 0 = l.getD i 0 := by
  simp [List.getD_eq_getElem?_getD, List.getElem?_append_left h]
theorem getD_append_mid (l : List Int) (d : Int) (m : List Int) : (l ++ d :: m).getD l.length 0 = d := by
  simp [List.getD_eq_getElem?_getD]
theorem set_append_mid (l : List Int) (d e : Int) (m : List Int) : (l ++ d :: m).set l.length e = l ++ e :: m := by
  simp [List.set_append]
theorem wrap64_id {x : Int} (h0 : -9223372036854775808 ≤ x) (h1 : x ≤ 9223372036854775807) : wrap64 x = x := by
  unfold wrap64; omega
def up48 (l : List Int) : List Int := l.map (· + 48)
theorem up48_len (l : List Int) : (up48 l).length = l.length := by simp [up48]
def dn48 (l : List Int) : List Int := l.map (· - 48)
theorem dn48_len (l : List Int) : (dn48 l).length = l.length := by simp [dn48]
theorem up_dn (l : List Int) : up48 (dn48 l) = l := by
  rw [up48, dn48, List.map_map]; conv => rhs; rw [← List.map_id l]
  apply List.map_congr_left; intro d _; show d - 48 + 48 = d; omega
theorem dn_up (l : List Int) : dn48 (up48 l) = l := by
  rw [up48, dn48, List.map_map]; conv => rhs; rw [← List.map_id l]
  apply List.map_congr_left; intro d _; show d + 48 - 48 = d; omega
end Go.Proofs.YtapbdblpdkoacaaDoor.Q
set_option linter.unusedVariables false
set_option linter.unusedSimpArgs false
namespace Go.Proofs.YtapbdblpdkoacaaDoorW.PrintWords
theorem Ev.pos {α : Type} {c : Prop} [Decidable c] {A B : Nat → Option α} {r : α} (h : c) (e : Ev A r) : Ev (fun k => if c then A k else B k) r :=
  Ev.congr (fun k => if_pos h) e
theorem Ev.neg {α : Type} {c : Prop} [Decidable c] {A B : Nat → Option α} {r : α} (h : ¬ c) (e : Ev B r) : Ev (fun k => if c then A k else B k) r :=
  Ev.congr (fun k => if_neg h) e
theorem Ev.split {α : Type} {c : Prop} [Decidable c] {A B : Nat → Option α} {r : α} (h : c → Ev A r) (h' : ¬ c → Ev B r) : Ev (fun k => if c then A k else B k) r := by
  by_cases hc : c
  · exact Ev.pos hc (h hc)
  · exact Ev.neg hc (h' hc)
theorem Ev.val {α : Type} {a r : α} (h : a = r) : Ev (fun _ => some a) r := by rw [h]; exact Ev.now r
theorem Ev.bindS {α β : Type} {a : α} {F : Nat → α → Option β} {r : β} (h : Ev (fun k => F k a) r) : Ev (fun k => (some a).bind (F k)) r := h
theorem Ev.bindV {α β : Type} {g : Option α} {a : α} {F : Nat → α → Option β} {r : β} (hg : g = some a) (h : Ev (fun k => F k a) r) : Ev (fun k => g.bind (F k)) r := by
  rw [hg]; exact h
theorem Ev.tail {α : Type} {g : Nat → Option α} {a : α} (h : Ev g a) : Ev (fun k => (g k).bind fun t => some t) a := Ev.bind h (Ev.now a)
theorem Ev.eq {α : Type} {g : Nat → Option α} {a b : α} (h : Ev g a) (e : a = b) : Ev g b := e ▸ h
theorem Ev.up {α : Type} {g : Nat → Option α} {r : α} (k : Ev (fun n => g (n + 1)) r) : Ev g r := Ev.step (fun _ => rfl) k
end Go.Proofs.YtapbdblpdkoacaaDoorW.PrintWords
set_option linter.unusedVariables false
set_option linter.unusedSimpArgs false
namespace Go.Proofs.YtapbdblpdkoacaaDoor.Q
open Go.RowKit Go.Proofs.YtapbdblpdkoacaaDoorW.PrintWords Go.Proofs.YtapbdblpdkoacaaDoor.P
def isD (d : Int) : Bool := decide (48 ≤ d) && decide (d ≤ 57)
def allD (l : List Int) : Bool := l.all isD
def all0 (l : List Int) : Bool := l.all (· == 48)
def fm (neg : Bool) (a b : List Int) : Bool := !a.isEmpty && allD a && allD b && !(decide (1 < a.length) && rd a 0 == 48) && !(neg && (all0 a && all0 b))
def okD (neg : Bool) (a b : List Int) : Bool := decide (a.length + b.length ≤ 40) && fm neg a b
def chk (neg : Bool) (a b : List Int) : Int := if okD neg a b = true then 0 else 20
def Fit (s : ByteArray) : Prop := s.size ≤ 1000000000000000000
theorem all_loop (s : ByteArray) (hs : Fit s) : ∀ rest pre : List Int, S s = pre ++ rest → Ev (fun k => decimal_all.l0 k s (s.size : Int) (pre.length : Int)) (allD rest) := by
  unfold Fit at hs
  intro rest
  induction rest with
  | nil =>
    intro pre h
    have hl : s.size = pre.length := by rw [← S_len, h]; simp
    refine Ev.up (Ev.neg (by omega) (Ev.val rfl))
  | cons d rest ih =>
    intro pre h
    have hl : s.size = pre.length + (rest.length + 1) := by rw [← S_len, h]; simp
    have hb : bt s (pre.length : Int) = d := by rw [bt_S, h, rd_nat, getD_append_mid]
    refine Ev.up (Ev.pos (by omega) (Ev.pos (by omega) (Ev.pos (by omega) ?_)))
    rw [hb]
    refine Ev.split (fun h1 => Ev.val ?_) (fun h1 => Ev.split (fun h2 => Ev.val ?_) (fun h2 => ?_))
    · simp [allD, isD]; omega
    · simp [allD, isD]; omega
    · have h3 := ih (pre ++ [d]) (by rw [h]; simp)
      have h4 : wrap64 ((pre.length : Int) + 1) = ((pre ++ [d]).length : Int) := by rw [wrap64_id (by omega) (by omega)]; simp
      rw [h4]
      refine h3.eq ?_
      have : isD d = true := by simp [isD]; omega
      simp [allD, this]
theorem all_is (s : ByteArray) (hs : Fit s) : Ev (fun k => decimal_all.f k s) (allD (S s)) := all_loop s hs (S s) [] rfl
theorem digits_loop (s : ByteArray) (hs : Fit s) : ∀ rest pre : List Int, S s = pre ++ rest → Ev (fun k => idiomref02_Digits.l0 k s (pre.length : Int)) (allD rest) := by
  unfold Fit at hs
  intro rest
  induction rest with
  | nil =>
    intro pre h
    have hl : s.size = pre.length := by rw [← S_len, h]; simp
    refine Ev.up (Ev.neg (by omega) (Ev.val rfl))
  | cons d rest ih =>
    intro pre h
    have hl : s.size = pre.length + (rest.length + 1) := by rw [← S_len, h]; simp
    have hb : bt s (pre.length : Int) = d := by rw [bt_S, h, rd_nat, getD_append_mid]
    refine Ev.up (Ev.pos (by omega) (Ev.pos (by omega) ?_))
    rw [hb]
    refine Ev.bindV (a := isD d) ?_ ?_
    · unfold idiomref02_Digit.f isD
      by_cases h1 : d ≥ 48
      · simp [h1]
      · have : ¬ 48 ≤ d := h1
        simp [h1, this]
    refine Ev.split (fun h1 => ?_) (fun h1 => Ev.val ?_)
    · have h3 := ih (pre ++ [d]) (by rw [h]; simp)
      have h4 : wrap64 ((pre.length : Int) + 1) = ((pre ++ [d]).length : Int) := by rw [wrap64_id (by omega) (by omega)]; simp
      rw [h4]
      refine h3.eq ?_
      simp [allD, h1]
    · simp [allD, h1]
theorem digits_is (s : ByteArray) (hs : Fit s) : Ev (fun k => idiomref02_Digits.f k s) (allD (S s)) := digits_loop s hs (S s) [] rfl
theorem noughts_loop (s : ByteArray) (hs : Fit s) : ∀ rest pre : List Int, S s = pre ++ rest → Ev (fun k => idiomref02_noughts.l0 k s (pre.length : Int)) (all0 rest) := by
  unfold Fit at hs
  intro rest
  induction rest with
  | nil =>
    intro pre h
    have hl : s.size = pre.length := by rw [← S_len, h]; simp
    refine Ev.up (Ev.neg (by omega) (Ev.val rfl))
  | cons d rest ih =>
    intro pre h
    have hl : s.size = pre.length + (rest.length + 1) := by rw [← S_len, h]; simp
    have hb : bt s (pre.length : Int) = d := by rw [bt_S, h, rd_nat, getD_append_mid]
    refine Ev.up (Ev.pos (by omega) (Ev.pos (by omega) ?_))
    rw [hb]
    refine Ev.split (fun h1 => ?_) (fun h1 => Ev.val ?_)
    · have h3 := ih (pre ++ [d]) (by rw [h]; simp)
      have h4 : wrap64 ((pre.length : Int) + 1) = ((pre ++ [d]).length : Int) := by rw [wrap64_id (by omega) (by omega)]; simp
      rw [h4]
      refine h3.eq ?_
      simp [all0, h1]
    · simp [all0, h1]
theorem noughts_is (s : ByteArray) (hs : Fit s) : Ev (fun k => idiomref02_noughts.f k s) (all0 (S s)) := noughts_loop s hs (S s) [] rfl
theorem nought_is (n : Bool) (a b : ByteArray) (ha : Fit a) (hb : Fit b) : Ev (fun k => idiomref02_Nought.f k n a b) (all0 (S a) && all0 (S b)) := by
  refine Ev.bind (noughts_is a ha) (Ev.split (fun h => ?_) (fun h => Ev.val ?_))
  · rw [h]; exact (noughts_is b hb).tail
  · simp at h; simp [h]
def ltrim (l : List Int) : List Int := l.dropWhile (· == 48)
def rtrim (l : List Int) : List Int := (l.reverse.dropWhile (· == 48)).reverse
theorem ltrim_len (l : List Int) : (ltrim l).length ≤ l.length := by
  rw [ltrim, ← List.length_reverse]
  have := (List.dropWhile_suffix (l := l) (fun d : Int => d == 48)).length_le
  simpa using this
theorem ltrim_nil (l : List Int) : ltrim l = [] ↔ all0 l = true := by
  unfold ltrim all0
  induction l with
  | nil => simp
  | cons d l ih =>
    rw [List.dropWhile_cons]
    by_cases h : d = 48
    · simpa [h] using ih
    · simp [h]
theorem rtrim_snoc (l : List Int) (d : Int) : rtrim (l ++ [d]) = if d = 48 then rtrim l else l ++ [d] := by
  simp only [rtrim, List.reverse_append, List.reverse_cons, List.reverse_nil, List.nil_append, List.cons_append, List.dropWhile_cons]
  by_cases h : d = 48
  · simp [h]
  · simp [h]
theorem all0_ltrim (l : List Int) : all0 (ltrim l) = all0 l := by
  induction l with
  | nil => rfl
  | cons d l ih =>
    simp only [ltrim, List.dropWhile_cons]
    by_cases h : d = 48
    · simpa [h, all0, ltrim] using ih
    · simp [h]
theorem all0_rtrim (l : List Int) : all0 (rtrim l) = all0 l := by
  have h1 : all0 (rtrim l) = all0 (ltrim l.reverse) := by simp [all0, rtrim, ltrim]
  rw [h1, all0_ltrim]; simp [all0]
theorem trimLeft_is : ∀ (n : Nat) (s : ByteArray), s.size = n → Fit s → ∃ t, Ev (fun k => strings_trimLeftByte.f k s 48) t ∧ S t = ltrim (S s) := by
  intro n
  induction n with
  | zero =>
    intro s h _
    have h0 : S s = [] := List.eq_nil_of_length_eq_zero (by rw [S_len]; exact h)
    exact ⟨s, Ev.up (Ev.neg (by omega) (Ev.val rfl)), by rw [h0]; rfl⟩
  | succ n ih =>
    intro s h hf
    obtain ⟨d, m, e⟩ : ∃ d m, S s = d :: m := by
      cases he : S s with
      | nil => have := S_len s; rw [he] at this; simp at this; omega
      | cons d m => exact ⟨d, m, rfl⟩
    have hb : bt s 0 = d := by rw [bt_S, e]; rfl
    by_cases h1 : d = 48
    · have h2 : S (s.extract 1 s.size) = m := by rw [S_drop, e]; rfl
      have h3 : (s.extract 1 s.size).size = n := by rw [← S_len, h2]; have := S_len s; rw [e] at this; simp at this; omega
      obtain ⟨t, ht, hs⟩ := ih _ h3 (by unfold Fit at *; omega)
      refine ⟨t, Ev.up (Ev.pos (by omega) (Ev.pos (by omega) (Ev.pos (by rw [hb]; exact h1) (Ev.pos (by omega) ht)))), ?_⟩
      rw [hs, h2, e, ltrim, ltrim, List.dropWhile_cons]; simp [h1]
    · refine ⟨s, Ev.up (Ev.pos (by omega) (Ev.pos (by omega) (Ev.neg (by rw [hb]; exact h1) (Ev.val rfl)))), ?_⟩
      rw [e, ltrim, List.dropWhile_cons]; simp [h1]
theorem trimRight_is : ∀ (n : Nat) (s : ByteArray), s.size = n → Fit s → ∃ t, Ev (fun k => strings_trimRightByte.f k s 48) t ∧ S t = rtrim (S s) := by
  intro n
  induction n with
  | zero =>
    intro s h _
    have h0 : S s = [] := List.eq_nil_of_length_eq_zero (by rw [S_len]; exact h)
    exact ⟨s, Ev.up (Ev.neg (by omega) (Ev.val rfl)), by rw [h0]; rfl⟩
  | succ n ih =>
    intro s h hf
    have hl := S_len s
    obtain ⟨m, d, e⟩ : ∃ m d, S s = m ++ [d] := by
      have : S s ≠ [] := by intro he; rw [he] at hl; simp at hl; omega
      exact ⟨(S s).dropLast, (S s).getLast this, (List.dropLast_concat_getLast this).symm⟩
    have hm : m.length = n := by rw [e] at hl; simp at hl; omega
    have hf' := hf
    unfold Fit at hf'
    have hw : wrap64 ((s.size : Int) - 1) = (m.length : Int) := by rw [wrap64_id (by omega) (by omega)]; omega
    have hb : bt s (m.length : Int) = d := by rw [bt_S, e, rd_nat, getD_append_mid]
    by_cases h1 : d = 48
    · have h2 : S (s.extract 0 (m.length : Int).toNat) = m := by rw [S_take, e]; simp
      have h3 : (s.extract 0 (m.length : Int).toNat).size = n := by rw [← S_len, h2]; omega
      obtain ⟨t, ht, hs⟩ := ih _ h3 (by unfold Fit; omega)
      refine ⟨t, Ev.up (Ev.pos (by omega) ?_), by rw [hs, h2, e, rtrim_snoc, if_pos h1]⟩
      rw [hw, hb]
      exact Ev.pos (by omega) (Ev.pos (by omega) (Ev.pos h1 (Ev.pos (by omega) ht)))
    · refine ⟨s, Ev.up (Ev.pos (by omega) ?_), by rw [e, rtrim_snoc, if_neg h1]⟩
      rw [hw, hb]
      exact Ev.pos (by omega) (Ev.pos (by omega) (Ev.neg h1 (Ev.val rfl)))
theorem trim_nil_bytes (s : ByteArray) (h : s.toList = ([] : List UInt8)) : S s = [] := (toList_nil s).1 h
theorem size48 : (((⟨#[48]⟩ : ByteArray).size : Nat) : Int) = 1 := by decide
theorem bt48 : bt (⟨#[48]⟩ : ByteArray) 0 = 48 := by decide
theorem ne48 : ((⟨#[48]⟩ : ByteArray).toList == ([] : List UInt8)) = false := by rw [beq_lit]; rfl
theorem Fit.of_len {t : ByteArray} {n : Nat} (h : (S t).length ≤ n) (hn : n ≤ 1000000000000000000) : Fit t := by
  unfold Fit; rw [← S_len]; omega
theorem rtrim_len (l : List Int) : (rtrim l).length ≤ l.length := by
  have := ltrim_len l.reverse
  simp [rtrim, ltrim] at *
  exact this
theorem TrimLeft_go (s z : ByteArray) (hz : (z.size : Int) = 1) (hb : bt z 0 = 48) (hn : (z.toList == ([] : List UInt8)) = false) (h : ¬ s.toList = ([] : List UInt8))
    {t : ByteArray} (ht : Ev (fun k => strings_trimLeftByte.f k s 48) t) : Ev (fun k => strings_TrimLeft.f k s z) t := by
  have j1 : ∀ x : Bool, x = true → Ev (fun k => strings_TrimLeft.j1 k s z x) t := by
    intro x hx
    refine Ev.up (Ev.pos hx (Ev.pos (by omega) ?_))
    rw [hb]
    exact ht.tail
  have j0 : ∀ x : Bool, x = false → Ev (fun k => strings_TrimLeft.j0 k s z x) t := by
    intro x hx
    exact Ev.up (Ev.neg (by rw [hx]; exact Bool.false_ne_true) (Ev.pos hz (Ev.pos (by omega) (j1 _ (by rw [hb]; rfl)))))
  exact Ev.neg h (j0 _ hn)
theorem TrimLeft_none (s z : ByteArray) (h : s.toList = ([] : List UInt8)) : Ev (fun k => strings_TrimLeft.f k s z) s := by
  have j0 : ∀ x : Bool, x = true → Ev (fun k => strings_TrimLeft.j0 k s z x) s := fun x hx => Ev.up (Ev.pos hx (Ev.val rfl))
  exact Ev.pos h (j0 _ rfl)
theorem TrimLeft_is (s : ByteArray) (hs : Fit s) : ∃ t, Ev (fun k => strings_TrimLeft.f k s (⟨#[48]⟩ : ByteArray)) t ∧ S t = ltrim (S s) := by
  obtain ⟨t, ht, e⟩ := trimLeft_is _ s rfl hs
  by_cases h : s.toList = ([] : List UInt8)
  · exact ⟨s, TrimLeft_none s _ h, by rw [trim_nil_bytes s h]; rfl⟩
  · exact ⟨t, TrimLeft_go s _ size48 bt48 ne48 h ht, e⟩
theorem Trim_go (s z : ByteArray) (hz : (z.size : Int) = 1) (hb : bt z 0 = 48) (hn : (z.toList == ([] : List UInt8)) = false) (h : ¬ s.toList = ([] : List UInt8))
    {t u : ByteArray} (ht : Ev (fun k => strings_trimRightByte.f k s 48) t) (hu : Ev (fun k => strings_trimLeftByte.f k t 48) u) : Ev (fun k => strings_Trim.f k s z) u := by
  have j1 : ∀ x : Bool, x = true → Ev (fun k => strings_Trim.j1 k s z x) u := by
    intro x hx
    refine Ev.up (Ev.pos hx (Ev.pos (by omega) ?_))
    rw [hb]
    exact Ev.bind ht (hu.tail)
  have j0 : ∀ x : Bool, x = false → Ev (fun k => strings_Trim.j0 k s z x) u := by
    intro x hx
    exact Ev.up (Ev.neg (by rw [hx]; exact Bool.false_ne_true) (Ev.pos hz (Ev.pos (by omega) (j1 _ (by rw [hb]; rfl)))))
  exact Ev.neg h (j0 _ hn)
theorem Trim_none (s z : ByteArray) (h : s.toList = ([] : List UInt8)) : Ev (fun k => strings_Trim.f k s z) s := by
  have j0 : ∀ x : Bool, x = true → Ev (fun k => strings_Trim.j0 k s z x) s := fun x hx => Ev.up (Ev.pos hx (Ev.val rfl))
  exact Ev.pos h (j0 _ rfl)
theorem Trim_is (s : ByteArray) (hs : Fit s) : ∃ t, Ev (fun k => strings_Trim.f k s (⟨#[48]⟩ : ByteArray)) t ∧ S t = ltrim (rtrim (S s)) := by
  obtain ⟨t, ht, e⟩ := trimRight_is _ s rfl hs
  obtain ⟨u, hu, e'⟩ := trimLeft_is _ t rfl (Fit.of_len (n := s.size) (by rw [e]; exact Nat.le_trans (rtrim_len _) (by rw [S_len]; omega)) hs)
  by_cases h : s.toList = ([] : List UInt8)
  · exact ⟨s, Trim_none s _ h, by rw [trim_nil_bytes s h]; rfl⟩
  · exact ⟨u, Trim_go s _ size48 bt48 ne48 h ht hu, by rw [e', e]⟩
theorem trim_nil (l : List Int) : ltrim (rtrim l) = [] ↔ all0 l = true := by rw [ltrim_nil, all0_rtrim]
theorem isEmpty_false {l : List Int} (h : l ≠ []) : l.isEmpty = false := by cases l with
  | nil => exact absurd rfl h
  | cons => rfl
theorem form_is (n : Bool) (a b : ByteArray) (ha : Fit a) (hb : Fit b) : Ev (fun k => decimal_form.f k n a b) (fm n (S a) (S b)) := by
  have hl := S_len a
  have key : ∀ x : Bool, (x = false → (!(S a).isEmpty && allD (S a) && allD (S b) && !(decide (1 < (S a).length) && rd (S a) 0 == 48)) = true) →
      (x = true → (!(S a).isEmpty && allD (S a) && allD (S b) && !(decide (1 < (S a).length) && rd (S a) 0 == 48)) = false) →
      Ev (fun k => decimal_form.j0 k x n a b) (fm n (S a) (S b)) := by
    intro x h0 h1
    unfold fm
    refine Ev.up (Ev.split (fun hx => Ev.val ?_) (fun hx => ?_))
    · rw [h1 hx]; rfl
    · rw [h0 (by simpa using hx), Bool.true_and]
      refine Ev.split (fun hn => ?_) (fun hn => Ev.val ?_)
      · obtain ⟨t, ht, et⟩ := Trim_is a ha
        obtain ⟨u, hu, eu⟩ := Trim_is b hb
        refine Ev.bind ht (Ev.split (fun h => ?_) (fun h => Ev.val ?_))
        · rw [toList_nil, et, trim_nil] at h
          refine Ev.bind hu (Ev.val ?_)
          rw [hn, h, Bool.eq_iff_iff]
          simp [toList_nil, eu, trim_nil]
        · rw [toList_nil, et, trim_nil] at h
          simp at h; simp [h]
      · simp at hn; simp [hn]
  refine Ev.split (fun h => key true (by simp) (fun _ => ?_)) (fun h => ?_)
  · rw [toList_nil] at h; simp [h]
  · rw [toList_nil] at h
    have hne : (S a).isEmpty = false := isEmpty_false h
    have hp : 0 < (S a).length := List.length_pos_iff.2 h
    refine Ev.bind (all_is a ha) (Ev.split (fun h1 => ?_) (fun h1 => key true (by simp) (fun _ => by simp at h1; simp [h1])))
    refine Ev.bind (all_is b hb) (Ev.split (fun h2 => ?_) (fun h2 => key true (by simp) (fun _ => by simp at h2; simp [h2])))
    refine Ev.split (fun h3 => Ev.pos (by omega) (key _ ?_ ?_)) (fun h3 => key _ ?_ ?_)
    · intro h4
      rw [bt_S] at h4
      simp [hne, h1, h2, h4]
    · intro h4
      rw [bt_S] at h4
      have : 1 < (S a).length := by omega
      simp [h4, this]
    · intro _
      have : ¬ 1 < (S a).length := by omega
      simp [hne, h1, h2, this]
    · simp
theorem Check_is (n : Bool) (a b : ByteArray) (ha : Fit a) (hb : Fit b) : Ev (fun k => decimal_Check.f k n a b) (chk n (S a) (S b)) := by
  have hl := S_len a
  have hl' := S_len b
  unfold chk okD Fit at *
  refine Ev.split (fun h => Ev.val ?_) (fun h => ?_)
  · have : ¬ (S a).length + (S b).length ≤ 40 := by omega
    simp [this]
  · have hw : wrap64 (40 - (a.size : Int)) = 40 - (a.size : Int) := wrap64_id (by omega) (by omega)
    rw [hw]
    refine Ev.split (fun h1 => Ev.val ?_) (fun h1 => ?_)
    · have : ¬ (S a).length + (S b).length ≤ 40 := by omega
      simp [this]
    · have : (S a).length + (S b).length ≤ 40 := by omega
      refine Ev.bind (form_is n a b ha hb) (Ev.split (fun h2 => Ev.val ?_) (fun h2 => Ev.val ?_))
      · simp [this, h2]
      · simp [h2]
theorem refCheck_is (n : Bool) (a b : ByteArray) (ha : Fit a) (hb : Fit b) : Ev (fun k => idiomref02_Check.f k n a b) (chk n (S a) (S b)) := by
  have hl := S_len a
  have hl' := S_len b
  have ha' := ha
  have hb' := hb
  unfold Fit at ha' hb'
  have bad : ∀ x : Bool, x = true → chk n (S a) (S b) = 20 → Ev (fun k => idiomref02_Check.j0 k x n a b) (chk n (S a) (S b)) := by
    intro x hx h
    rw [h]
    exact Ev.up (Ev.pos hx (Ev.val rfl))
  have big : ¬ (S a).length + (S b).length ≤ 40 → chk n (S a) (S b) = 20 := by
    intro h; simp [chk, okD, h]
  refine Ev.split (fun h => bad _ rfl ?_) (fun h => Ev.split (fun h1 => bad _ rfl (big (by omega))) (fun h1 => Ev.split (fun h2 => bad _ rfl (big (by omega))) (fun h2 => ?_)))
  · have : S a = [] := List.eq_nil_of_length_eq_zero (by omega)
    simp [chk, okD, fm, this]
  · have hw : wrap64 ((a.size : Int) + (b.size : Int)) = (a.size : Int) + (b.size : Int) := wrap64_id (by omega) (by omega)
    rw [hw]
    by_cases h3 : (a.size : Int) + (b.size : Int) > 40
    · exact bad _ (by simpa using h3) (big (by omega))
    have h3' : (S a).length + (S b).length ≤ 40 := by omega
    have hne : (S a).isEmpty = false := by
      cases he : S a with
      | nil => rw [he] at hl; simp at hl; omega
      | cons => rfl
    refine Ev.up (Ev.neg (by simpa using h3) ?_)
    refine Ev.bind (digits_is a ha) (Ev.split (fun h4 => ?_) (fun h4 => Ev.val ?_))
    · refine Ev.bind (digits_is b hb) (Ev.split (fun h5 => ?_) (fun h5 => Ev.val ?_))
      · have tl : (¬ (decide (1 < (S a).length) && rd (S a) 0 == 48) = true) → Ev (fun k => if n = true then (idiomref02_Nought.f k n a b).bind fun t => if t = true then some 20 else some 0 else some 0) (chk n (S a) (S b)) := by
          intro h6
          simp only [Bool.not_eq_true] at h6
          refine Ev.split (fun h7 => Ev.bind (nought_is n a b ha hb) (Ev.split (fun h8 => Ev.val ?_) (fun h8 => Ev.val ?_))) (fun h7 => Ev.val ?_)
          · simp only [chk, okD, fm, h7, h8]; simp
          · simp only [Bool.not_eq_true] at h8
            simp only [chk, okD, fm, h7, h8, h4, h5, h6, hne, h3']; simp
          · simp only [Bool.not_eq_true] at h7
            simp only [chk, okD, fm, h7, h4, h5, h6, hne, h3']; simp
        refine Ev.pos (by omega) ?_
        rw [bt_S]
        refine Ev.split (fun h6 => Ev.split (fun h7 => Ev.val ?_) (fun h7 => tl ?_)) (fun h6 => tl ?_)
        · have h8 : 1 < (S a).length := by omega
          simp [chk, okD, fm, h6, h8]
        · have h8 : ¬ 1 < (S a).length := by omega
          simp [h8]
        · simp [h6]
      · simp only [Bool.not_eq_true] at h5
        simp [chk, okD, fm, h5]
    · simp only [Bool.not_eq_true] at h4
      simp [chk, okD, fm, h4]
end Go.Proofs.YtapbdblpdkoacaaDoor.Q
set_option linter.unusedVariables false
set_option linter.unusedSimpArgs false
namespace Go.Proofs.YtapbdblpdkoacaaDoor.Q
open Go.RowKit Go.Proofs.YtapbdblpdkoacaaDoorW.PrintWords Go.Proofs.YtapbdblpdkoacaaDoor.P
theorem lead_is : ∀ (l : List Int), Dig l → l.length ≤ 1000000000000000000 → Ev (fun k => decimal_digits_lead.f k l) (dg (val l)) := by
  intro l
  induction l with
  | nil =>
    intro _ _
    exact Ev.up (Ev.val (by rw [val_nil, dg_zero]))
  | cons d l ih =>
    intro h hl
    simp only [List.length_cons] at hl
    have hr : rd (d :: l) 0 = d := rfl
    by_cases hd : d = 0
    · have h2 := ih h.tail (by omega)
      have e : val (d :: l) = val l := by rw [val_cons, hd]; simp
      rw [e]
      exact Ev.up (Ev.pos (by simp) (Ev.pos (by simp) (Ev.pos (by rw [hr]; exact hd) (Ev.pos (by simp; omega) h2))))
    · refine Ev.up (Ev.pos (by simp) (Ev.pos (by simp) (Ev.neg (by rw [hr]; exact hd) (Ev.val ?_))))
      rw [dg_lead h, List.dropWhile_cons, if_neg (by simpa using hd)]
theorem dn48_ltrim (l : List Int) : dn48 (ltrim l) = (dn48 l).dropWhile (· == 0) := by
  induction l with
  | nil => rfl
  | cons d l ih =>
    unfold ltrim at *
    rw [List.dropWhile_cons]
    by_cases h : d = 48
    · rw [if_pos (by simpa using h), ih]
      show _ = List.dropWhile (· == 0) ((d - 48) :: dn48 l)
      rw [List.dropWhile_cons, if_pos (by simp; omega)]
    · rw [if_neg (by simpa using h)]
      show _ = List.dropWhile (· == 0) ((d - 48) :: dn48 l)
      rw [List.dropWhile_cons, if_neg (by simp; omega)]
      rfl
theorem allD_dig {l : List Int} (h : allD l = true) : Dig (dn48 l) := by
  intro d hd
  obtain ⟨x, hx, rfl⟩ := List.mem_map.1 hd
  have := List.all_eq_true.1 h x hx
  simp [isD] at this
  omega
theorem allD_ltrim {l : List Int} (h : allD l = true) : allD (ltrim l) = true := by
  rw [allD, List.all_eq_true] at *
  intro d hd
  exact h d ((List.dropWhile_suffix _).subset hd)
theorem set_mid_zero (l : List Int) (v : Int) (n : Nat) : (l ++ List.replicate (n + 1) 0).set l.length v = (l ++ [v]) ++ List.replicate n 0 := by
  rw [List.replicate_succ, set_append_mid]; simp
theorem of_loop (s : ByteArray) (hs : Fit s) (hd : allD (S s) = true) : ∀ rest pre : List Int, S s = pre ++ rest →
    Ev (fun k => decimal_of.l0 k s (dn48 pre ++ List.replicate rest.length 0) (s.size : Int) (pre.length : Int)) (dn48 (S s)) := by
  unfold Fit at hs
  intro rest
  induction rest with
  | nil =>
    intro pre h
    have hl : s.size = pre.length := by rw [← S_len, h]; simp
    exact Ev.up (Ev.neg (by omega) (Ev.val (by rw [h]; simp)))
  | cons d rest ih =>
    intro pre h
    have hl : s.size = pre.length + (rest.length + 1) := by rw [← S_len, h]; simp
    have hb : bt s (pre.length : Int) = d := by rw [bt_S, h, rd_nat, getD_append_mid]
    have h3 := ih (pre ++ [d]) (by rw [h]; simp)
    have h4 : wrap64 ((pre.length : Int) + 1) = ((pre ++ [d]).length : Int) := by rw [wrap64_id (by omega) (by omega)]; simp
    have hdd : 48 ≤ d ∧ d ≤ 57 := by
      have := List.all_eq_true.1 hd d (by rw [h]; simp)
      simpa [isD] using this
    refine Ev.up (Ev.pos (by omega) (Ev.pos (by omega) (Ev.pos (by omega) (Ev.pos (by simp [dn48]; omega) ?_))))
    rw [hb, h4]
    have e : (dn48 pre ++ List.replicate (d :: rest).length 0).set (pre.length : Int).toNat ((d - 48) % 256) = dn48 (pre ++ [d]) ++ List.replicate rest.length 0 := by
      have : (pre.length : Int).toNat = (dn48 pre).length := by simp [dn48]
      rw [this, List.length_cons, set_mid_zero]
      have : (d - 48) % 256 = d - 48 := by omega
      rw [this]; simp [dn48]
    rw [e]
    exact h3
theorem of_is (s : ByteArray) (hs : s.size ≤ 100000) (hd : allD (S s) = true) : Ev (fun k => decimal_of.f k s) (dg (val (dn48 (S s)))) := by
  obtain ⟨t, ht, et⟩ := TrimLeft_is s (by unfold Fit; omega)
  have hl : t.size ≤ s.size := by rw [← S_len, ← S_len, et]; exact ltrim_len _
  have h1 : allD (S t) = true := by rw [et]; exact allD_ltrim hd
  have h2 := of_loop t (by unfold Fit; omega) h1 (S t) [] rfl
  have e : dn48 (S t) = dg (val (dn48 (S s))) := by rw [et, dn48_ltrim, dg_lead (allD_dig hd)]
  rw [← e]
  refine Ev.bind ht (Ev.pos (by omega) (Ev.pos (by omega) ?_))
  have e2 : ((t.size : Int)).toNat = (S t).length := by rw [S_len]; simp
  rw [e2]
  exact h2
theorem up_is (n c : Nat) (hn : (dg n).length ≤ 100000) (hc : c ≤ 100000) : decimal_digits_up.f (dg n) (c : Int) = some (dg (n * 10 ^ c)) := by
  unfold decimal_digits_up.f
  by_cases h : n = 0
  · subst h; simp [dg_zero]
  · have hl : (dg n).length ≠ 0 := by
      intro e; exact h (dg_eq_nil.1 (List.eq_nil_of_length_eq_zero e))
    have hw : wrap64 (((dg n).length : Int) + (c : Int)) = (((dg n).length + c : Nat) : Int) := by rw [wrap64_id (by omega) (by omega)]; omega
    rw [if_neg (by omega), hw, if_pos (by omega), if_pos (by omega), dg_mul_pow, if_neg h]
    have : (((dg n).length + c : Nat) : Int).toNat = (dg n).length + c := by omega
    rw [this]
    congr 1
    unfold copyAt
    rw [List.take_zero, List.nil_append, List.length_replicate]
    have h1 : min (dg n).length ((dg n).length + c - 0) = (dg n).length := by omega
    rw [h1, List.take_of_length_le (by omega), Nat.zero_add, List.drop_replicate]
    have : (dg n).length + c - (dg n).length = c := by omega
    rw [this]
def sgnc (m n : Nat) : Int := if m < n then -1 else if m = n then 0 else 1
theorem cmp_loop : ∀ (x y p : List Int) , Dig x → Dig y → x.length = y.length → p.length + x.length ≤ 100000 →
    Ev (fun k => decimal_digits_cmp.l0 k (p ++ x) (p ++ y) ((p ++ x).length : Int) (p.length : Int)) (sgnc (val x) (val y)) := by
  intro x
  induction x with
  | nil =>
    intro y p _ _ h _
    have : y = [] := List.eq_nil_of_length_eq_zero h.symm
    subst this
    exact Ev.up (Ev.neg (by simp) (Ev.val (by simp [sgnc])))
  | cons a x ih =>
    intro y p hx hy h hl
    cases y with
    | nil => simp at h
    | cons b y =>
      have h' : x.length = y.length := by simpa using h
      simp only [List.length_cons] at hl
      have ha : rd (p ++ a :: x) (p.length : Int) = a := by rw [rd_nat, getD_append_mid]
      have hb : rd (p ++ b :: y) (p.length : Int) = b := by rw [rd_nat, getD_append_mid]
      have vx := val_lt hx.tail
      have vy := val_lt hy.tail
      have a9 := hx.head
      have b9 := hy.head
      rw [h'] at vx
      refine Ev.up (Ev.pos (by simp; omega) (Ev.pos (by omega) (Ev.pos (by simp; omega) (Ev.pos (by simp; omega) ?_))))
      rw [ha, hb]
      refine Ev.split (fun e => ?_) (fun e => Ev.split (fun e2 => Ev.val ?_) (fun e2 => Ev.val ?_))
      · subst e
        have h3 := ih y (p ++ [a]) hx.tail hy.tail h' (by simp; omega)
        have h4 : wrap64 ((p.length : Int) + 1) = ((p ++ [a]).length : Int) := by rw [wrap64_id (by omega) (by omega)]; simp
        rw [h4]
        have e3 : sgnc (val (a :: x)) (val (a :: y)) = sgnc (val x) (val y) := by
          rw [val_cons, val_cons, h']
          unfold sgnc
          by_cases c1 : val x < val y
          · rw [if_pos c1, if_pos (by omega)]
          · rw [if_neg c1, if_neg (by omega)]
            by_cases c2 : val x = val y
            · rw [if_pos c2, if_pos (by omega)]
            · rw [if_neg c2, if_neg (by omega)]
        rw [e3]
        simpa using h3
      · have h5 : (a.toNat + 1) * 10 ^ y.length ≤ b.toNat * 10 ^ y.length := Nat.mul_le_mul_right _ (by omega)
        rw [Nat.add_mul] at h5
        rw [sgnc, if_pos (by rw [val_cons, val_cons, h']; omega)]
      · have h5 : (b.toNat + 1) * 10 ^ y.length ≤ a.toNat * 10 ^ y.length := Nat.mul_le_mul_right _ (by omega)
        rw [Nat.add_mul] at h5
        rw [sgnc, if_neg (by rw [val_cons, val_cons, h']; omega), if_neg (by rw [val_cons, val_cons, h']; omega)]
theorem length_lt_of {m n : Nat} (h : (dg m).length < (dg n).length) : m < n := by
  rcases Nat.lt_or_ge m n with h1 | h1
  · exact h1
  · have h2 : n < 10 ^ (dg m).length := Nat.lt_of_le_of_lt h1 (lt_of_length_dg m)
    have := (length_dg_iff n (dg m).length).2 h2
    omega
theorem cmp_is (m n : Nat) (hm : (dg m).length ≤ 100000) (hn : (dg n).length ≤ 100000) : Ev (fun k => decimal_digits_cmp.f k (dg m) (dg n)) (sgnc m n) := by
  refine Ev.split (fun h => ?_) (fun h => Ev.split (fun h1 => Ev.val ?_) (fun h1 => Ev.val ?_))
  · have := cmp_loop (dg m) (dg n) [] (Dig_dg m) (Dig_dg n) (by omega) (by simpa using hm)
    rw [val_dg, val_dg] at this
    exact this
  · have := length_lt_of (m := m) (n := n) (by omega)
    rw [sgnc, if_pos this]
  · have := length_lt_of (m := n) (n := m) (by omega)
    rw [sgnc, if_neg (by omega), if_neg (by omega)]
end Go.Proofs.YtapbdblpdkoacaaDoor.Q
set_option linter.unusedVariables false
set_option linter.unusedSimpArgs false
namespace Go.Proofs.YtapbdblpdkoacaaDoor.Q
open Go.RowKit Go.Proofs.YtapbdblpdkoacaaDoorW.PrintWords Go.Proofs.YtapbdblpdkoacaaDoor.P
def padL (w : Nat) (l : List Int) : List Int := List.replicate (w - l.length) 0 ++ l
theorem padL_len (w : Nat) (l : List Int) (h : l.length ≤ w) : (padL w l).length = w := by simp [padL]; omega
theorem val_padL (w : Nat) (l : List Int) : val (padL w l) = val l := by rw [padL, val_append, val_zeros]; simp
theorem Dig_padL (w : Nat) {l : List Int} (h : Dig l) : Dig (padL w l) := (Dig.zeros _).append h
theorem getD_append_right (l m : List Int) (i : Nat) : (l ++ m).getD (l.length + i) 0 = m.getD i 0 := by
  simp [List.getD_eq_getElem?_getD, List.getElem?_append_right]
theorem padL_at {w : Nat} {l B P : List Int} {y : Int} (hl : l.length ≤ w) (e : padL w l = B ++ y :: P) :
    (P.length < l.length → rd l ((l.length - 1 - P.length : Nat) : Int) = y) ∧ (l.length ≤ P.length → y = 0) := by
  have hw : w = B.length + (P.length + 1) := by rw [← padL_len w l hl, e]; simp
  have hy : (padL w l).getD B.length 0 = y := by rw [e, getD_append_mid]
  constructor
  · intro h
    have : B.length = (List.replicate (w - l.length) (0 : Int)).length + (l.length - 1 - P.length) := by simp; omega
    rw [padL, this, getD_append_right] at hy
    rw [rd_nat]; exact hy
  · intro h
    rw [padL, getD_append_left _ _ _ (by simp; omega)] at hy
    have hlt : B.length < w - l.length := by omega
    rw [List.getD_eq_getElem?_getD, List.getElem?_replicate, if_pos hlt] at hy
    exact hy.symm
theorem snoc_cases (l : List Int) (h : l ≠ []) : ∃ m d, l = m ++ [d] := ⟨l.dropLast, l.getLast h, (List.dropLast_concat_getLast h).symm⟩
theorem minus_loop (Y : List Int) (w : Nat) (hY : Dig Y) (hYw : Y.length ≤ w) (hw : w ≤ 100000) : ∀ (n : Nat) (A B P X' lo : List Int) (c : Int), A.length = n → B.length = n → padL w Y = B ++ P → n + P.length = w → lo.length = P.length →
    Dig A → Dig lo → X'.length = P.length → 0 ≤ c → c ≤ 1 → val lo + val P = val X' + c.toNat * 10 ^ lo.length → val Y ≤ val (A ++ X') →
    Ev (fun k => decimal_digits_minus.l0 k Y (A ++ lo) c (w : Int) (P.length : Int)) (dg (val (A ++ X') - val Y)) := by
  intro n
  induction n with
  | zero =>
    intro A B P X' lo c hA hB e hP hlo dA dlo hX c0 c1 hv hle
    have hA' : A = [] := List.eq_nil_of_length_eq_zero hA
    have hB' : B = [] := List.eq_nil_of_length_eq_zero hB
    subst hA' hB'
    refine Ev.up (Ev.neg (by omega) ?_)
    have hvl := val_lt dlo
    rw [← val_padL w Y, e, List.nil_append] at hle ⊢
    rw [List.nil_append] at hle ⊢
    have hc : c = 0 := by
      rcases Int.lt_or_le c 1 with h | h
      · omega
      · have : c = 1 := by omega
        subst this
        simp at hv
        omega
    subst hc
    have := lead_is lo dlo (by omega)
    have ev : val lo = val X' - val P := by simp at hv; omega
    rw [ev] at this
    exact this.tail
  | succ n ih =>
    intro A B P X' lo c hA hB e hP hlo dA dlo hX c0 c1 hv hle
    obtain ⟨A0, x, rfl⟩ := snoc_cases A (by intro h; rw [h] at hA; simp at hA)
    obtain ⟨B0, y, rfl⟩ := snoc_cases B (by intro h; rw [h] at hB; simp at hB)
    have hA0 : A0.length = n := by simpa using hA
    have hB0 : B0.length = n := by simpa using hB
    have dP := Dig_padL w hY
    have e' : padL w Y = B0 ++ y :: P := by rw [e]; simp
    obtain ⟨pa, pb⟩ := padL_at hYw e'
    have hy : 0 ≤ y ∧ y ≤ 9 := by
      rw [e'] at dP
      exact dP y (by simp)
    have hx : 0 ≤ x ∧ x ≤ 9 := dA x (by simp)
    have hl5 : (A0 ++ [x] ++ lo).length = w := by simp; omega
    have hj : wrap64 (wrap64 (((A0 ++ [x] ++ lo).length : Int) - 1) - (P.length : Int)) = ((n : Nat) : Int) := by
      rw [hl5, wrap64_id (x := (w : Int) - 1) (by omega) (by omega), wrap64_id (by omega) (by omega)]; omega
    have hform : (A0 ++ [x] ++ lo : List Int) = A0 ++ x :: lo := by simp
    have hrd : ∀ v, rd (A0 ++ v :: lo) ((n : Nat) : Int) = v := by
      intro v
      rw [rd_nat, ← hA0]
      exact getD_append_mid A0 v lo
    have hset : ∀ u v, (A0 ++ u :: lo : List Int).set ((n : Nat) : Int).toNat v = A0 ++ v :: lo := by
      intro u v
      have : ((n : Nat) : Int).toNat = A0.length := by omega
      rw [this]
      exact set_append_mid A0 u v lo
    have hi : wrap64 ((P.length : Int) + 1) = (((y :: P).length : Nat) : Int) := by rw [wrap64_id (by omega) (by omega)]; simp
    have step : ∀ (v q : Int), 0 ≤ v → v ≤ 9 → 0 ≤ q → q ≤ 1 → v + c + y = x + q * 10 →
        Ev (fun k => decimal_digits_minus.l0 k Y (A0 ++ v :: lo) q (w : Int) ((y :: P).length : Int)) (dg (val (A0 ++ [x] ++ X') - val Y)) := by
      intro v q v0 v9 q0 q1 hq
      have hform' : A0 ++ [x] ++ X' = A0 ++ x :: X' := by simp
      have h3 := ih A0 B0 (y :: P) (x :: X') (v :: lo) q hA0 hB0 e' (by simp; omega) (by simp [hlo]) (fun d hd => dA d (by simp [hd]))
        (Dig.cons v0 v9 dlo) (by simp [hX]) q0 q1 (by
          rw [val_cons, val_cons, val_cons, List.length_cons, hX, Nat.pow_succ]
          rw [hlo] at hv ⊢
          have hvn : v.toNat + c.toNat + y.toNat = x.toNat + q.toNat * 10 := by omega
          have : q.toNat * (10 ^ P.length * 10) = (q.toNat * 10) * 10 ^ P.length := by rw [Nat.mul_comm (10 ^ P.length) 10, Nat.mul_assoc]
          rw [this]
          have h2 : (v.toNat + c.toNat + y.toNat) * 10 ^ P.length = (x.toNat + q.toNat * 10) * 10 ^ P.length := by rw [hvn]
          rw [Nat.add_mul, Nat.add_mul, Nat.add_mul] at h2
          omega) (by rw [← hform']; exact hle)
      rw [hform']
      exact h3
    refine Ev.up (Ev.pos (by omega) ?_)
    rw [hj, hi, hform]
    simp only [hrd, hset]
    have hlen : ((A0 ++ x :: lo).length : Int) = (w : Int) := by rw [← hform, hl5]
    refine Ev.split (fun h => ?_) (fun h => ?_)
    · have hlt : P.length < Y.length := by omega
      have hj2 : wrap64 (wrap64 ((Y.length : Int) - 1) - (P.length : Int)) = ((Y.length - 1 - P.length : Nat) : Int) := by
        rw [wrap64_id (x := (Y.length : Int) - 1) (by omega) (by omega), wrap64_id (by omega) (by omega)]; omega
      rw [hj2, pa hlt]
      refine Ev.pos (by omega) (Ev.pos (by omega) (Ev.pos (by omega) (Ev.pos (by omega) (Ev.split (fun h2 => Ev.bindS ?_) (fun h2 => ?_)))))
      · simp only [hrd, hset]
        exact step _ 1 (by omega) (by omega) (by omega) (by omega) (by omega)
      · exact step _ 0 (by omega) (by omega) (by omega) (by omega) (by omega)
    · have hy0 := pb (by omega)
      refine Ev.pos (by omega) (Ev.pos (by omega) (Ev.split (fun h2 => Ev.bindS ?_) (fun h2 => ?_)))
      · simp only [hrd, hset]
        exact step _ 1 (by omega) (by omega) (by omega) (by omega) (by omega)
      · exact step _ 0 (by omega) (by omega) (by omega) (by omega) (by omega)
theorem minus_is (m n : Nat) (h : n ≤ m) (hm : (dg m).length ≤ 100000) : Ev (fun k => decimal_digits_minus.f k (dg m) (dg n)) (dg (m - n)) := by
  have hln : (dg n).length ≤ (dg m).length := (length_dg_iff n _).2 (Nat.lt_of_le_of_lt h (lt_of_length_dg m))
  have hc : copyAt 0 (List.replicate (dg m).length (0 : Int)) (dg m) = dg m := by
    rw [copyAt]
    simp
  have hn1 : (((dg m).length : Nat) : Int).toNat = (dg m).length := by omega
  refine Ev.pos (by omega) (Ev.pos (by omega) (Ev.bindS ?_))
  rw [hn1, hc, List.length_replicate]
  have := minus_loop (dg n) (dg m).length (Dig_dg n) hln hm (dg m).length (dg m) (padL (dg m).length (dg n)) [] [] [] 0 rfl (padL_len _ _ hln) (by simp) (by simp) rfl (Dig_dg m) Dig.nil rfl (by omega) (by omega) (by simp [val]) (by rw [val_dg, List.append_nil, val_dg]; exact h)
  rw [List.append_nil, val_dg, val_dg] at this
  exact this
end Go.Proofs.YtapbdblpdkoacaaDoor.Q
set_option linter.unusedVariables false
set_option linter.unusedSimpArgs false
namespace Go.Proofs.YtapbdblpdkoacaaDoor.Q
open Go.RowKit Go.Proofs.YtapbdblpdkoacaaDoorW.PrintWords Go.Proofs.YtapbdblpdkoacaaDoor.P
def txd (n : Nat) : List Int := if n = 0 then [0] else dg n
def tx (n : Nat) : List Int := up48 (txd n)
theorem Dig_txd (n : Nat) : Dig (txd n) := by
  unfold txd; split
  · exact Dig.one (by omega) (by omega)
  · exact Dig_dg n
theorem val_txd (n : Nat) : val (txd n) = n := by
  unfold txd; split
  · rename_i h; rw [h]; rfl
  · exact val_dg n
theorem txd_len (n : Nat) : (txd n).length = max 1 (dg n).length := by
  unfold txd; split
  · rename_i h; rw [h, dg_zero]; rfl
  · rename_i h
    have : (dg n).length ≠ 0 := fun e => h (dg_eq_nil.1 (List.eq_nil_of_length_eq_zero e))
    omega
theorem tx_len (n : Nat) : (tx n).length = max 1 (dg n).length := by rw [tx, up48_len, txd_len]
theorem txd_val {d : Int} {l : List Int} (h : Dig (d :: l)) (hd : d ≠ 0 ∨ l = []) : txd (val (d :: l)) = d :: l := by
  have h9 := h.head
  by_cases h0 : d = 0
  · rcases hd with hd | hd
    · exact absurd h0 hd
    · subst hd h0; rfl
  · have hp : val (d :: l) ≠ 0 := by
      rw [val_cons]
      have : 1 * 10 ^ l.length ≤ d.toNat * 10 ^ l.length := Nat.mul_le_mul_right _ (by omega)
      have : 0 < 10 ^ l.length := Nat.pow_pos (by omega)
      omega
    unfold txd
    rw [if_neg hp]
    exact dg_val h (fun e m he => by rw [← (List.cons.inj he).1]; exact h0)
theorem Lead_is : ∀ (L : List Int) (s : ByteArray), S s = up48 L → Dig L → L.length ≤ 1000000 → ∃ t, Ev (fun k => idiomref02_Lead.f k s) t ∧ S t = tx (val L) := by
  intro L
  induction L with
  | nil =>
    intro s hS _ _
    have h0 : s.size = 0 := by rw [← S_len, hS]; rfl
    have hn : s.toList = ([] : List UInt8) := (toList_nil s).2 hS
    exact ⟨⟨#[48]⟩, Ev.up (Ev.neg (by omega) (Ev.pos hn (Ev.val rfl))), rfl⟩
  | cons d L ih =>
    intro s hS hD hl
    simp only [List.length_cons] at hl
    have hz : s.size = L.length + 1 := by rw [← S_len, hS, up48_len]; simp
    have hn : ¬ s.toList = ([] : List UInt8) := by
      rw [toList_nil, hS]; simp [up48]
    have hb : bt s 0 = d + 48 := by rw [bt_S, hS]; rfl
    by_cases h1 : (s.size : Int) > 1
    · by_cases hd : d = 0
      · have e : S (s.extract 1 s.size) = up48 L := by rw [S_drop, hS]; rfl
        obtain ⟨t, ht, et⟩ := ih _ e hD.tail (by omega)
        refine ⟨t, Ev.up (Ev.pos h1 (Ev.pos (by omega) (Ev.pos (by rw [hb]; omega) (Ev.pos (by omega) ht)))), ?_⟩
        rw [et, val_cons, hd]; simp
      · refine ⟨s, Ev.up (Ev.pos h1 (Ev.pos (by omega) (Ev.neg (by rw [hb]; omega) (Ev.neg hn (Ev.val rfl))))), ?_⟩
        rw [hS, tx, txd_val hD (.inl hd)]
    · have hL : L = [] := List.eq_nil_of_length_eq_zero (by omega)
      refine ⟨s, Ev.up (Ev.neg h1 (Ev.neg hn (Ev.val rfl))), ?_⟩
      rw [hS, tx, txd_val hD (.inr hL)]
theorem Zeros_loop (n : Nat) (hn : n ≤ 1000000) : ∀ m i : Nat, i + m = n → Ev (fun k => idiomref02_Zeros.l0 k (n : Int) (List.replicate i 48 ++ List.replicate m 0) (i : Int)) (strOfNums (List.replicate n 48)) := by
  intro m
  induction m with
  | zero =>
    intro i h
    have : i = n := by omega
    subst this
    exact Ev.up (Ev.neg (by omega) (Ev.val (by simp)))
  | succ m ih =>
    intro i h
    have hw : wrap64 ((i : Int) + 1) = ((i + 1 : Nat) : Int) := by rw [wrap64_id (by omega) (by omega)]; omega
    have hs : (List.replicate i 48 ++ List.replicate (m + 1) 0 : List Int).set (i : Int).toNat 48 = List.replicate (i + 1) 48 ++ List.replicate m 0 := by
      have : (i : Int).toNat = (List.replicate i (48 : Int)).length := by simp
      rw [this, List.replicate_succ, set_append_mid, List.replicate_succ']; simp
    refine Ev.up (Ev.pos (by omega) (Ev.pos (by omega) (Ev.pos (by simp; omega) ?_)))
    rw [hw, hs]
    exact ih (i + 1) (by omega)
theorem Zeros_is (n : Nat) (hn : n ≤ 1000000) : ∃ t, Ev (fun k => idiomref02_Zeros.f k (n : Int)) t ∧ S t = List.replicate n 48 := by
  refine ⟨_, Ev.pos (by omega) (Ev.pos (by omega) ?_), S_str (l := List.replicate n 48) (fun d hd => by rw [(List.mem_replicate.1 hd).2]; omega)⟩
  have := Zeros_loop n hn n 0 (by omega)
  have e : ((n : Int)).toNat = n := by simp
  rw [e]
  simpa using this
theorem lessL_up : ∀ l m : List Int, lessL (up48 l) (up48 m) = lessL l m
  | [], [] => rfl
  | [], _ :: _ => rfl
  | _ :: _, [] => rfl
  | a :: l, b :: m => by
    show (decide (a + 48 < b + 48) || (decide (a + 48 = b + 48) && lessL (up48 l) (up48 m))) = _
    rw [lessL_up l m, lessL]
    have h1 : decide (a + 48 < b + 48) = decide (a < b) := by rw [decide_eq_decide]; omega
    have h2 : decide (a + 48 = b + 48) = decide (a = b) := by rw [decide_eq_decide]; omega
    rw [h1, h2]
theorem tx_inj {m n : Nat} (h : tx m = tx n) : m = n := by
  have := congrArg (fun l => val (dn48 l)) h
  simpa [tx, dn_up, val_txd] using this
theorem Cmp_is (m n : Nat) (a b : ByteArray) (ha : S a = tx m) (hb : S b = tx n) : Ev (fun k => idiomref02_Cmp.f k a b) (sgnc m n) := by
  have la : a.size = max 1 (dg m).length := by rw [← S_len, ha, tx_len]
  have lb : b.size = max 1 (dg n).length := by rw [← S_len, hb, tx_len]
  have j : ∀ x : Bool, x = decide (m < n) → Ev (fun k => idiomref02_Cmp.j0 k a b x) (sgnc m n) := by
    intro x hx
    refine Ev.up (Ev.split (fun h => Ev.val ?_) (fun h => Ev.split (fun h2 => Ev.val ?_) (fun h2 => Ev.val ?_)))
    · rw [hx, decide_eq_true_eq] at h; rw [sgnc, if_pos h]
    · rw [hx, decide_eq_true_eq] at h
      rw [toList_S, ha, hb] at h2
      rw [sgnc, if_neg h, if_pos (tx_inj h2)]
    · rw [hx, decide_eq_true_eq] at h
      rw [toList_S, ha, hb] at h2
      rw [sgnc, if_neg h, if_neg (fun e => h2 (by rw [e]))]
  refine Ev.split (fun h => j _ ?_) (fun h => Ev.split (fun h1 => j _ ?_) (fun h1 => j _ ?_))
  · have : m < n := length_lt_of (by omega)
    simp [this]
  · rw [less_S, ha, hb, tx, tx, lessL_up, lessL_val (Dig_txd m) (Dig_txd n) (by rw [txd_len, txd_len]; omega), val_txd, val_txd]
  · have : n < m := length_lt_of (by omega)
    have : ¬ m < n := by omega
    simp [this]
theorem digit_at {A B : List Int} {d : Int} (h : Dig (A ++ d :: B)) : (val (A ++ d :: B) / 10 ^ B.length) % 10 = d.toNat := by
  have hd := h d (by simp)
  have hB := val_lt (h.right.tail)
  have hp : 0 < 10 ^ B.length := Nat.pow_pos (by omega)
  rw [val_append, val_cons, List.length_cons, Nat.pow_succ]
  have e : val A * (10 ^ B.length * 10) + (d.toNat * 10 ^ B.length + val B) = 10 ^ B.length * (val A * 10 + d.toNat) + val B := by
    rw [Nat.mul_add, Nat.mul_comm (10 ^ B.length) (val A * 10), Nat.mul_comm (10 ^ B.length) d.toNat, Nat.mul_assoc, Nat.mul_comm 10]
    omega
  rw [e, Nat.mul_add_div hp, Nat.div_eq_of_lt hB]
  omega
theorem at_is (s : ByteArray) (L : List Int) (hS : S s = up48 L) (hD : Dig L) (hl : L.length ≤ 1000000) (i : Nat) (hi : i ≤ 1000000) :
    idiomref02_at.f s (i : Int) = some (((val L / 10 ^ i) % 10 : Nat) : Int) := by
  have hz : s.size = L.length := by rw [← S_len, hS, up48_len]
  unfold idiomref02_at.f
  by_cases h : (i : Int) ≥ (s.size : Int)
  · rw [if_pos h]
    have : val L < 10 ^ i := Nat.lt_of_lt_of_le (val_lt hD) (Nat.pow_le_pow_right (by omega) (by omega))
    rw [Nat.div_eq_of_lt this]; rfl
  · have hw : wrap64 (wrap64 ((s.size : Int) - 1) - (i : Int)) = ((s.size - 1 - i : Nat) : Int) := by
      rw [wrap64_id (x := (s.size : Int) - 1) (by omega) (by omega), wrap64_id (by omega) (by omega)]; omega
    rw [if_neg h, hw, if_pos (by omega), if_pos (by omega)]
    obtain ⟨A, d, B, e, hA⟩ : ∃ A d B, L = A ++ d :: B ∧ A.length = s.size - 1 - i :=
      ⟨L.take (s.size - 1 - i), L[s.size - 1 - i]'(by omega), L.drop (s.size - 1 - i + 1), by rw [← List.drop_eq_getElem_cons, List.take_append_drop], by rw [List.length_take]; omega⟩
    have hB : B.length = i := by
      have : L.length = A.length + (B.length + 1) := by rw [e]; simp
      omega
    have hd := hD d (by rw [e]; simp)
    have hb : bt s ((s.size - 1 - i : Nat) : Int) = d + 48 := by
      rw [bt_S, hS, rd_nat, ← hA, e]
      have : up48 (A ++ d :: B) = up48 A ++ (d + 48) :: up48 B := by simp [up48]
      rw [this, ← up48_len A, getD_append_mid]
    rw [hb, ← hB, e, digit_at (by rw [← e]; exact hD)]
    congr 1
    omega
end Go.Proofs.YtapbdblpdkoacaaDoor.Q
set_option linter.unusedVariables false
set_option linter.unusedSimpArgs false
namespace Go.Proofs.YtapbdblpdkoacaaDoor.Q
open Go.RowKit Go.Proofs.YtapbdblpdkoacaaDoorW.PrintWords Go.Proofs.YtapbdblpdkoacaaDoor.P
theorem awake_is : Ev (fun k => idiomlaw02_awake.f k) true := Ev.of (fun k => idiomlaw02_awake.mono k) (k := 60) (by decide +kernel)
theorem chk_len {n : Bool} {a b : List Int} (h : chk n a b = 0) : a.length + b.length ≤ 40 := by
  unfold chk okD at h
  by_cases h1 : a.length + b.length ≤ 40
  · exact h1
  · simp [h1] at h
end Go.Proofs.YtapbdblpdkoacaaDoor.Q
set_option linter.unusedVariables false
set_option linter.unusedSimpArgs false
namespace Go.Proofs.YtapbdblpdkoacaaDoor.Q
open Go.RowKit Go.Proofs.YtapbdblpdkoacaaDoorW.PrintWords Go.Proofs.YtapbdblpdkoacaaDoor.P
structure Ans where
  neg : Bool
  a : List Int
  b : List Int
  err : Int
def bad (e : Int) : Ans := ⟨false, [], [], e⟩
def Tells (r : Bool × ByteArray × ByteArray × Int) (x : Ans) : Prop := r.1 = x.neg ∧ S r.2.1 = x.a ∧ S r.2.2.1 = x.b ∧ r.2.2.2 = x.err
theorem Tells.bad (e : Int) : Tells (false, (⟨#[]⟩ : ByteArray), (⟨#[]⟩ : ByteArray), e) (bad e) := ⟨rfl, rfl, rfl, rfl⟩
theorem Tells.eq {r r' : Bool × ByteArray × ByteArray × Int} {x : Ans} (h : Tells r x) (h' : Tells r' x) : r = r' := by
  obtain ⟨a, b, c, d⟩ := r
  obtain ⟨a', b', c', d'⟩ := r'
  obtain ⟨h1, h2, h3, h4⟩ := h
  obtain ⟨k1, k2, k3, k4⟩ := h'
  simp only at h1 h2 h3 h4 k1 k2 k3 k4
  rw [h1, S_inj (h2.trans k2.symm), S_inj (h3.trans k3.symm), h4, k1, k4]
end Go.Proofs.YtapbdblpdkoacaaDoor.Q
set_option linter.unusedVariables false
set_option linter.unusedSimpArgs false
namespace Go.Proofs.YtapbdblpdkoacaaDoor.Q
open Go.RowKit Go.Proofs.YtapbdblpdkoacaaDoorW.PrintWords Go.Proofs.YtapbdblpdkoacaaDoor.P
theorem padL_len_max (w : Nat) (l : List Int) : (padL w l).length = max w l.length := by simp [padL]; omega
def mk (neg : Bool) (N p : Nat) : Ans :=
  if 40 < (padL (p + 1) (dg N)).length then bad 3
  else ⟨neg && decide (N ≠ 0), (up48 (padL (p + 1) (dg N))).take ((padL (p + 1) (dg N)).length - p), (up48 (padL (p + 1) (dg N))).drop ((padL (p + 1) (dg N)).length - p), 0⟩
theorem up48_append (l m : List Int) : up48 (l ++ m) = up48 l ++ up48 m := by simp [up48]
theorem up48_zeros (n : Nat) : up48 (List.replicate n 0) = List.replicate n 48 := by simp [up48]
theorem Dig_up {l : List Int} (h : Dig l) : ∀ d ∈ up48 l, 0 ≤ d ∧ d ≤ 255 := by
  intro d hd
  obtain ⟨x, hx, rfl⟩ := List.mem_map.1 hd
  have := h x hx
  omega
theorem sub_take {l : List Int} {P : Int → Prop} (h : ∀ d ∈ l, P d) (n : Nat) : ∀ d ∈ l.take n, P d := fun d hd => h d (List.mem_of_mem_take hd)
theorem sub_drop {l : List Int} {P : Int → Prop} (h : ∀ d ∈ l, P d) (n : Nat) : ∀ d ∈ l.drop n, P d := fun d hd => h d (List.mem_of_mem_drop hd)
theorem made_l1 (neg : Bool) (l : List Int) (p : Nat) (dl : Dig l) (hl : l.length ≤ 100000) (hp : p ≤ 100000) (r : Bool × ByteArray × ByteArray × Int) : ∀ (rest pre acc : List Int), l = pre ++ rest → acc.length + rest.length ≤ 200000 →
    p ≤ acc.length + rest.length →
    r = (neg && decide (0 < l.length), strOfNums ((acc ++ up48 rest).take (acc.length + rest.length - p)), strOfNums ((acc ++ up48 rest).drop (acc.length + rest.length - p)), 0) →
    Ev (fun k => decimal_made.l1 k neg l (p : Int) acc l (l.length : Int) (pre.length : Int)) r := by
  intro rest
  induction rest with
  | nil =>
    intro pre acc h ha hpa hr
    have hl' : l.length = pre.length := by rw [h]; simp
    simp only [List.length_nil, Nat.add_zero] at ha hpa hr
    have hw : wrap64 ((acc.length : Int) - (p : Int)) = ((acc.length - p : Nat) : Int) := by rw [wrap64_id (by omega) (by omega)]; omega
    have hn : ((acc.length - p : Nat) : Int).toNat = acc.length - p := by omega
    refine Ev.up (Ev.neg (by omega) ?_)
    rw [hw, hn]
    simp only [up48, List.map_nil, List.append_nil] at hr
    refine Ev.split (fun h1 => Ev.pos (by omega) (Ev.pos (by omega) (Ev.val ?_))) (fun h1 => Ev.pos (by omega) (Ev.pos (by omega) (Ev.val ?_)))
    · rw [hr, h1, Bool.true_and]
      have : decide ((l.length : Int) > 0) = decide (0 < l.length) := by
        rw [decide_eq_decide]; omega
      rw [this]
    · rw [hr]
      simp only [Bool.not_eq_true] at h1
      rw [h1, Bool.false_and]
  | cons d rest ih =>
    intro pre acc h ha hpa hr
    have hl' : l.length = pre.length + (rest.length + 1) := by rw [h]; simp
    have hd : 0 ≤ d ∧ d ≤ 9 := dl d (by rw [h]; simp)
    have hrd : rd l (pre.length : Int) = d := by rw [rd_nat, h, getD_append_mid]
    have hi : wrap64 ((pre.length : Int) + 1) = (((pre ++ [d]).length : Nat) : Int) := by rw [wrap64_id (by omega) (by omega)]; simp
    simp only [List.length_cons] at ha hpa hr
    refine Ev.up (Ev.pos (by omega) (Ev.pos (by omega) (Ev.pos (by omega) (Ev.pos (by omega) ?_))))
    rw [hrd, hi]
    have e : (48 + d) % 256 = d + 48 := by omega
    rw [e]
    refine ih (pre ++ [d]) (acc ++ [d + 48]) (by rw [h]; simp) (by simp; omega) (by simp; omega) ?_
    rw [hr]
    have e1 : acc ++ [d + 48] ++ up48 rest = acc ++ up48 (d :: rest) := by simp [up48]
    have e2 : (acc ++ [d + 48]).length + rest.length = acc.length + (rest.length + 1) := by simp; omega
    rw [e1, e2]
theorem made_l0 (neg : Bool) (l : List Int) (p : Nat) (r : Bool × ByteArray × ByteArray × Int) (c : Int) (hc : c ≤ 100001) : ∀ (m i : Nat) (acc : List Int), c ≤ (i : Int) + m → (i : Int) + m ≤ max c i → acc.length + m ≤ 200000 →
    Ev (fun k => decimal_made.l1 k neg l (p : Int) (acc ++ List.replicate m 48) l (l.length : Int) 0) r →
    Ev (fun k => decimal_made.l0 k neg l (p : Int) acc c (i : Int)) r := by
  intro m
  induction m with
  | zero =>
    intro i acc h1 h2 ha h
    simp at h
    exact Ev.up (Ev.neg (by omega) h)
  | succ m ih =>
    intro i acc h1 h2 ha h
    have hi : wrap64 ((i : Int) + 1) = ((i + 1 : Nat) : Int) := by rw [wrap64_id (by omega) (by omega)]; omega
    refine Ev.up (Ev.pos (by omega) (Ev.pos (by omega) ?_))
    rw [hi]
    refine ih (i + 1) (acc ++ [48]) (by omega) (by omega) (by simp; omega) ?_
    have : acc ++ [48] ++ List.replicate m 48 = acc ++ List.replicate (m + 1) 48 := by rw [List.replicate_succ]; simp
    rw [this]; exact h
theorem mx_int (a b : Int) : mx a b = max a b := by unfold mx; split <;> omega
theorem made_is (neg : Bool) (N p : Nat) (hN : (dg N).length ≤ 100000) (hp : p ≤ 100000) : ∃ r, Ev (fun k => decimal_made.f k neg (dg N) (p : Int)) r ∧ Tells r (mk neg N p) := by
  have hw : wrap64 (((dg N).length : Int) - (p : Int)) = ((dg N).length : Int) - (p : Int) := wrap64_id (by omega) (by omega)
  have hL : (padL (p + 1) (dg N)).length = max (p + 1) (dg N).length := padL_len_max _ _
  have hw2 : wrap64 (mx (mx (wrap64 (((dg N).length : Int) - (p : Int))) 0) 1 + (p : Int)) = (max (p + 1) (dg N).length : Nat) := by
    rw [hw, mx_int, mx_int, wrap64_id (by omega) (by omega)]; omega
  unfold mk
  by_cases h : 40 < (padL (p + 1) (dg N)).length
  · rw [if_pos h]
    exact ⟨_, Ev.pos (by rw [hw2]; omega) (Ev.val rfl), Tells.bad 3⟩
  · rw [if_neg h]
    have hw3 : wrap64 (wrap64 ((p : Int) + 1) - ((dg N).length : Int)) = ((p : Int) + 1) - ((dg N).length : Int) := by
      rw [wrap64_id (x := (p : Int) + 1) (by omega) (by omega), wrap64_id (by omega) (by omega)]
    have e0 : List.replicate (p + 1 - (dg N).length) 48 ++ up48 (dg N) = up48 (padL (p + 1) (dg N)) := by rw [padL, up48_append, up48_zeros]
    have e1 : (List.replicate (p + 1 - (dg N).length) (48 : Int)).length + (dg N).length = (padL (p + 1) (dg N)).length := by rw [hL]; simp; omega
    refine ⟨(neg && decide (0 < (dg N).length), strOfNums ((up48 (padL (p + 1) (dg N))).take ((padL (p + 1) (dg N)).length - p)), strOfNums ((up48 (padL (p + 1) (dg N))).drop ((padL (p + 1) (dg N)).length - p)), 0), Ev.neg (by rw [hw2]; omega) (Ev.pos (by omega) ?_), ?_⟩
    · rw [hw3]
      refine made_l0 neg (dg N) p _ _ (by omega) (p + 1 - (dg N).length) 0 [] (by omega) (by omega) (by simp; omega) ?_
      refine made_l1 neg (dg N) p (Dig_dg N) hN hp _ (dg N) [] _ rfl ?_ ?_ ?_
      · rw [List.nil_append, e1]; omega
      · rw [List.nil_append, e1]; omega
      · rw [List.nil_append, e1, e0]
    · have dP := Dig_up (Dig_padL (p + 1) (Dig_dg N))
      have hne : decide (0 < (dg N).length) = decide (N ≠ 0) := by
        rw [decide_eq_decide, List.length_pos_iff, Ne, dg_eq_nil]
      refine ⟨by rw [hne], ?_, ?_, rfl⟩
      · exact S_str (sub_take dP _)
      · exact S_str (sub_drop dP _)
end Go.Proofs.YtapbdblpdkoacaaDoor.Q
set_option linter.unusedVariables false
set_option linter.unusedSimpArgs false
namespace Go.Proofs.YtapbdblpdkoacaaDoor.Q
open Go.RowKit Go.Proofs.YtapbdblpdkoacaaDoorW.PrintWords Go.Proofs.YtapbdblpdkoacaaDoor.P
theorem dg_len_mono {m n : Nat} (h : m ≤ n) : (dg m).length ≤ (dg n).length := (length_dg_iff m _).2 (Nat.lt_of_le_of_lt h (lt_of_length_dg n))
theorem dg_len_ten {m n : Nat} (h : m < n * 10) : (dg m).length ≤ (dg n).length + 1 := by
  refine (length_dg_iff m _).2 (Nat.lt_of_lt_of_le h ?_)
  rw [Nat.pow_succ]
  exact Nat.mul_le_mul_right _ (Nat.le_of_lt (lt_of_length_dg n))
theorem by_l1 (Yn : Nat) (X : List Int) (i : Int) (res : List Int × List Int) (hY : 0 < Yn) (hl : (dg Yn).length ≤ 1000) (x4 : List Int) (h4 : x4.length ≤ 100000) (r' : Nat) (hr : r' < Yn) : ∀ (q c : Nat), c + q ≤ 9 →
    Ev (fun k => decimal_digits_by.l0 k (dg Yn) (x4 ++ [((c + q : Nat) : Int)]) (dg r') X (X.length : Int) (wrap64 (i + 1))) res →
    Ev (fun k => decimal_digits_by.l1 k (dg Yn) x4 (dg (q * Yn + r')) (c : Int) X (X.length : Int) i) res := by
  intro q
  induction q with
  | zero =>
    intro c hc K
    have hlen : (dg r').length ≤ 1000 := Nat.le_trans (dg_len_mono (Nat.le_of_lt hr)) hl
    rw [Nat.zero_mul, Nat.zero_add]
    refine Ev.up (Ev.bind (cmp_is r' Yn (by omega) (by omega)) (Ev.neg (by rw [sgnc, if_pos hr]; omega) (Ev.pos (by omega) ?_)))
    exact K
  | succ q ih =>
    intro c hc K
    have hlt : (q + 1) * Yn + r' < Yn * 10 := by
      have h1 : (q + 1) * Yn ≤ 9 * Yn := Nat.mul_le_mul_right _ (by omega)
      omega
    have hlen := dg_len_ten hlt
    have hge : Yn ≤ (q + 1) * Yn + r' := by rw [Nat.add_mul]; omega
    have hc' : ((c : Int) + 1) % 256 = ((c + 1 : Nat) : Int) := by omega
    have hsub : (q + 1) * Yn + r' - Yn = q * Yn + r' := by rw [Nat.add_mul]; omega
    refine Ev.up (Ev.bind (cmp_is _ Yn (by omega) (by omega)) (Ev.pos ?_ (Ev.bind (minus_is _ Yn hge (by omega)) ?_)))
    · unfold sgnc; rw [if_neg (by omega)]; split <;> omega
    · rw [hsub, hc']
      refine ih (c + 1) (by omega) ?_
      have : c + 1 + q = c + (q + 1) := by omega
      rw [this]; exact K
theorem by_l0 (Yn : Nat) (X : List Int) (dX : Dig X) (hY : 0 < Yn) (hl : (dg Yn).length ≤ 1000) (hX : X.length ≤ 1000) : ∀ (Q P x4 : List Int) (r : Nat), X = P ++ Q → Dig x4 → x4.length = P.length → r < Yn → val x4 * Yn + r = val P →
    Ev (fun k => decimal_digits_by.l0 k (dg Yn) x4 (dg r) X (X.length : Int) (P.length : Int)) (dg (val X / Yn), dg (val X % Yn)) := by
  intro Q
  induction Q with
  | nil =>
    intro P x4 r h d4 h4 hr hv
    have hP : X = P := by rw [h]; simp
    have e1 : val X / Yn = val x4 := by rw [hP, ← hv, Nat.mul_comm, Nat.mul_add_div hY, Nat.div_eq_of_lt hr]; omega
    have e2 : val X % Yn = r := by rw [hP, ← hv, Nat.mul_comm, Nat.mul_add_mod, Nat.mod_eq_of_lt hr]
    rw [e1, e2]
    refine Ev.up (Ev.neg (by rw [hP]; omega) (Ev.bind (lead_is x4 d4 (by rw [h4, ← hP]; omega)) (Ev.val rfl)))
  | cons d Q ih =>
    intro P x4 r h d4 h4 hr hv
    have hlen : X.length = P.length + (Q.length + 1) := by rw [h]; simp
    have hd : 0 ≤ d ∧ d ≤ 9 := dX d (by rw [h]; simp)
    have hrd : rd X (P.length : Int) = d := by rw [rd_nat, h, getD_append_mid]
    have hlr : (dg r).length ≤ 1000 := Nat.le_trans (dg_len_mono (Nat.le_of_lt hr)) hl
    have hlead := lead_is (dg r ++ [d]) ((Dig_dg r).append (Dig.one hd.1 hd.2)) (by simp; omega)
    rw [val_snoc, val_dg] at hlead
    have hlt : r * 10 + d.toNat < Yn * 10 := by omega
    have hq : (r * 10 + d.toNat) / Yn ≤ 9 := by
      have := Nat.div_lt_of_lt_mul (n := Yn) (k := 10) hlt
      omega
    have hdm := Nat.div_add_mod (r * 10 + d.toNat) Yn
    have hr' := Nat.mod_lt (r * 10 + d.toNat) hY
    generalize (r * 10 + d.toNat) / Yn = q at hq hdm
    generalize (r * 10 + d.toNat) % Yn = r' at hdm hr'
    refine Ev.up (Ev.pos (by omega) ?_)
    rw [hrd]
    refine Ev.pos (by omega) (Ev.pos (by omega) (Ev.pos (by omega) (Ev.bind hlead ?_)))
    have key := by_l1 Yn X (P.length : Int) (dg (val X / Yn), dg (val X % Yn)) hY hl x4 (by omega) _ hr' q 0 (by omega) (by
      have hi : wrap64 ((P.length : Int) + 1) = (((P ++ [d]).length : Nat) : Int) := by rw [wrap64_id (by omega) (by omega)]; simp
      rw [hi]
      refine ih (P ++ [d]) (x4 ++ [((0 + q : Nat) : Int)]) _ (by rw [h]; simp) (d4.append (Dig.one (by omega) (by omega))) (by simp [h4]) hr' ?_
      rw [val_snoc, val_snoc, ← hv]
      have e1 : ((0 + q : Nat) : Int).toNat = q := by omega
      rw [e1, Nat.add_mul, Nat.add_mul]
      have e2 : q * Yn = Yn * q := Nat.mul_comm _ _
      have e3 : val x4 * 10 * Yn = val x4 * Yn * 10 := by rw [Nat.mul_assoc, Nat.mul_comm 10, ← Nat.mul_assoc]
      omega)
    have e : q * Yn + r' = r * 10 + d.toNat := by rw [Nat.mul_comm]; exact hdm
    rw [e] at key
    exact key
theorem by_is (m n : Nat) (hn0 : 0 < n) (hm : (dg m).length ≤ 1000) (hn : (dg n).length ≤ 1000) : Ev (fun k => decimal_digits_by.f k (dg m) (dg n)) (dg (m / n), dg (m % n)) := by
  have := by_l0 n (dg m) (Dig_dg m) hn0 hn hm (dg m) [] [] 0 rfl Dig.nil rfl hn0 (by simp [val])
  rw [val_dg, dg_zero] at this
  exact this
end Go.Proofs.YtapbdblpdkoacaaDoor.Q
set_option linter.unusedVariables false
set_option linter.unusedSimpArgs false
namespace Go.Proofs.YtapbdblpdkoacaaDoor.Q
open Go.RowKit Go.Proofs.YtapbdblpdkoacaaDoorW.PrintWords Go.Proofs.YtapbdblpdkoacaaDoor.P
theorem turned_loop (x : List Int) (hx : x.length ≤ 1000000) (hr : ∀ d ∈ x, 48 ≤ d ∧ d ≤ 57) : ∀ Q P : List Int, x = P ++ Q →
    ∃ t, Ev (fun k => idiomref02_turned.l0 k x (List.replicate Q.length 0 ++ P.reverse) (P.length : Int)) t ∧ S t = tx (val (dn48 x.reverse)) := by
  intro Q
  induction Q with
  | nil =>
    intro P h
    have hP : x = P := by rw [h]; simp
    have hD : Dig (dn48 x.reverse) := by
      intro d hd
      obtain ⟨y, hy, rfl⟩ := List.mem_map.1 hd
      have := hr y (List.mem_reverse.1 hy)
      omega
    have e : S (strOfNums x.reverse) = up48 (dn48 x.reverse) := by
      rw [up_dn]; exact S_str (fun d hd => by have := hr d (List.mem_reverse.1 hd); omega)
    obtain ⟨t, ht, et⟩ := Lead_is _ _ e hD (by rw [dn48_len, List.length_reverse]; exact hx)
    refine ⟨t, Ev.up (Ev.neg (by rw [hP]; omega) ?_), et⟩
    rw [← hP, List.length_nil, List.replicate_zero, List.nil_append]
    exact ht.tail
  | cons d Q ih =>
    intro P h
    have hl : x.length = P.length + (Q.length + 1) := by rw [h]; simp
    have hrd : rd x (P.length : Int) = d := by rw [rd_nat, h, getD_append_mid]
    have hw : wrap64 (wrap64 ((x.length : Int) - 1) - (P.length : Int)) = (Q.length : Int) := by
      rw [wrap64_id (x := (x.length : Int) - 1) (by omega) (by omega), wrap64_id (by omega) (by omega)]; omega
    have hi : wrap64 ((P.length : Int) + 1) = (((P ++ [d]).length : Nat) : Int) := by rw [wrap64_id (by omega) (by omega)]; simp
    have hs : (List.replicate (Q.length + 1) 0 ++ P.reverse : List Int).set (Q.length : Int).toNat d = List.replicate Q.length 0 ++ (P ++ [d]).reverse := by
      have : (Q.length : Int).toNat = (List.replicate Q.length (0 : Int)).length := by simp
      have e : (List.replicate (Q.length + 1) 0 ++ P.reverse : List Int) = List.replicate Q.length 0 ++ 0 :: P.reverse := by
        rw [List.replicate_succ']; simp
      rw [this, e, set_append_mid]; simp
    obtain ⟨t, ht, et⟩ := ih (P ++ [d]) (by rw [h]; simp)
    refine ⟨t, Ev.up (Ev.pos (by omega) (Ev.pos (by omega) ?_)), et⟩
    rw [hw, hrd, hi, List.length_cons, hs]
    exact Ev.pos (by omega) (Ev.pos (by simp; omega) ht)
theorem turned_is (x : List Int) (hx : x.length ≤ 1000000) (hr : ∀ d ∈ x, 48 ≤ d ∧ d ≤ 57) : ∃ t, Ev (fun k => idiomref02_turned.f k x) t ∧ S t = tx (val (dn48 x.reverse)) := by
  obtain ⟨t, ht, et⟩ := turned_loop x hx hr x [] rfl
  have e : ((x.length : Int)).toNat = x.length := by simp
  refine ⟨t, Ev.pos (by omega) (Ev.pos (by omega) ?_), et⟩
  rw [e]
  simpa using ht
def lit (x : List Int) : Nat := val (dn48 x.reverse)
theorem lit_nil : lit [] = 0 := rfl
theorem lit_snoc (x : List Int) (v : Int) : lit (x ++ [v]) = (v - 48).toNat * 10 ^ x.length + lit x := by
  unfold lit
  rw [List.reverse_append]
  show val ((v - 48) :: dn48 x.reverse) = _
  rw [val_cons, dn48_len, List.length_reverse]
theorem mod_step (n i : Nat) : n % 10 ^ (i + 1) = n % 10 ^ i + 10 ^ i * ((n / 10 ^ i) % 10) := by
  rw [Nat.pow_succ, Nat.mod_mul]
theorem next_i (i : Nat) (h : i ≤ 1000000) : wrap64 ((i : Int) + 1) = ((i + 1 : Nat) : Int) := by rw [wrap64_id (by omega) (by omega)]; omega
theorem lt_tx {s : ByteArray} {n : Nat} (h : S s = tx n) : n < 10 ^ s.size := by
  have := val_lt (Dig_txd n); rwa [val_txd, ← up48_len (txd n), ← tx, ← h, S_len] at this
theorem at_tx {s : ByteArray} {n : Nat} (h : S s = tx n) (hl : s.size ≤ 1000000) (i : Nat) (hi : i ≤ 1000000) : idiomref02_at.f s (i : Int) = some (((n / 10 ^ i) % 10 : Nat) : Int) := by
  have := at_is s (txd n) h (Dig_txd n) (by rw [← up48_len (txd n), ← tx, ← h, S_len]; omega) i hi
  rwa [val_txd] at this
end Go.Proofs.YtapbdblpdkoacaaDoor.Q
set_option linter.unusedVariables false
set_option linter.unusedSimpArgs false
namespace Go.Proofs.YtapbdblpdkoacaaDoor.Q
open Go.RowKit Go.Proofs.YtapbdblpdkoacaaDoorW.PrintWords Go.Proofs.YtapbdblpdkoacaaDoor.P
theorem minus_step (x w d1 d2 c v q M N : Nat) (hv : x + N = M + c * w) (h : v + d2 + c = d1 + q * 10) : v * w + x + (N + w * d2) = M + w * d1 + q * (w * 10) := by
  have h2 : (v + d2 + c) * w = (d1 + q * 10) * w := by rw [h]
  rw [Nat.add_mul, Nat.add_mul, Nat.add_mul] at h2
  have h3 : q * (w * 10) = q * 10 * w := by rw [Nat.mul_comm w, Nat.mul_assoc]
  rw [Nat.mul_comm w d1, Nat.mul_comm w d2, h3]
  generalize q * 10 * w = u1 at *
  generalize v * w = u2 at *
  omega
theorem snoc_sign' {x : List Int} (hr : ∀ d ∈ x, 48 ≤ d ∧ d ≤ 57) {v : Nat} (h : v ≤ 9) : ∀ d ∈ x ++ [(v : Int) + 48], 48 ≤ d ∧ d ≤ 57 := by
  intro d hd
  rcases List.mem_append.1 hd with hd | hd
  · exact hr d hd
  · rw [List.mem_singleton.1 hd]; omega
theorem sub_three (a b c : Nat) (ha : a < 10) (hb : b < 10) (hc : c ≤ 1) : wrap64 (wrap64 ((a : Int) - (b : Int)) - (c : Int)) = (a : Int) - b - c := by
  rw [wrap64_id (x := (a : Int) - (b : Int)) (by omega) (by omega), wrap64_id (by omega) (by omega)]
theorem out_neg (a b c : Nat) (ha : a < 10) (hb : b < 10) (hc : c ≤ 1) (h : (a : Int) - b - c < 0) :
    wrap64 (48 + wrap64 ((a : Int) - b - c + 10)) % 256 = ((a + 10 - b - c : Nat) : Int) + 48 ∧ a + 10 - b - c ≤ 9 ∧ a + 10 - b - c + b + c = a + 1 * 10 ∧ (((a + 10 - b - c : Nat) : Int) + 48 - 48).toNat = a + 10 - b - c := by
  rw [wrap64_id (x := (a : Int) - b - c + 10) (by omega) (by omega), wrap64_id (by omega) (by omega)]; omega
theorem out_pos (a b c : Nat) (ha : a < 10) (hb : b < 10) (hc : c ≤ 1) (h : ¬ (a : Int) - b - c < 0) :
    wrap64 (48 + ((a : Int) - b - c)) % 256 = ((a - b - c : Nat) : Int) + 48 ∧ a - b - c ≤ 9 ∧ a - b - c + b + c = a + 0 * 10 ∧ (((a - b - c : Nat) : Int) + 48 - 48).toNat = a - b - c := by
  rw [wrap64_id (by omega) (by omega)]; omega
theorem Minus_loop (a b : ByteArray) (m n : Nat) (hmn : n ≤ m) (ha : S a = tx m) (hb : S b = tx n) (hl : a.size ≤ 100000) (hlb : b.size ≤ 100000) : ∀ (g i : Nat) (x : List Int) (c : Nat), i + g = a.size → x.length = i → (∀ d ∈ x, 48 ≤ d ∧ d ≤ 57) → c ≤ 1 →
    lit x + n % 10 ^ i = m % 10 ^ i + c * 10 ^ i → ∃ t, Ev (fun k => idiomref02_Minus.l0 k a b x (c : Int) (i : Int)) t ∧ S t = tx (m - n) := by
  intro g
  induction g with
  | zero =>
    intro i x c hg hx hr hc hv
    have hi : i = a.size := by omega
    have hm := lt_tx ha
    rw [← hi] at hm
    have e1 : m % 10 ^ i = m := Nat.mod_eq_of_lt hm
    have e2 : n % 10 ^ i = n := Nat.mod_eq_of_lt (Nat.lt_of_le_of_lt hmn hm)
    have hxl : lit x < 10 ^ i := by
      have hD : Dig (dn48 x.reverse) := by
        intro d hd
        obtain ⟨y, hy, rfl⟩ := List.mem_map.1 hd
        have := hr y (List.mem_reverse.1 hy)
        omega
      have := val_lt hD
      rw [dn48_len, List.length_reverse, hx] at this
      exact this
    rw [e1, e2] at hv
    have hc0 : c = 0 := by
      rcases Nat.eq_zero_or_pos c with h | h
      · exact h
      · have : c = 1 := by omega
        subst this
        omega
    subst hc0
    obtain ⟨t, ht, et⟩ := turned_is x (by omega) hr
    refine ⟨t, Ev.up (Ev.neg (by omega) ht.tail), ?_⟩
    have : m - n = lit x := by omega
    rw [et, this]; rfl
  | succ g ih =>
    intro i x c hg hx hr hc hv
    have hia : i ≤ 1000000 := by clear hv; omega
    have hi1 := next_i i hia
    have hxl : x.length < 140737488355328 := by clear hv hi1; omega
    have hlt : (i : Int) < (a.size : Int) := by clear hv hi1; omega
    have hg' : i + 1 + g = a.size := by clear hv hi1; omega
    have A1 := at_tx ha (Nat.le_trans hl (by omega)) i hia
    have A2 := at_tx hb (Nat.le_trans hlb (by omega)) i hia
    have b1 : m / 10 ^ i % 10 < 10 := Nat.mod_lt _ (by omega)
    have b2 : n / 10 ^ i % 10 < 10 := Nat.mod_lt _ (by omega)
    have s1 := mod_step m i
    have s2 := mod_step n i
    generalize m / 10 ^ i % 10 = d1 at A1 b1 s1
    generalize n / 10 ^ i % 10 = d2 at A2 b2 s2
    have hw := sub_three d1 d2 c b1 b2 hc
    by_cases h : (d1 : Int) - d2 - c < 0
    · obtain ⟨o1, o2, o3, o4⟩ := out_neg d1 d2 c b1 b2 hc h
      obtain ⟨t, ht, et⟩ := ih (i + 1) (x ++ [((d1 + 10 - d2 - c : Nat) : Int) + 48]) 1 hg' (by rw [List.length_append, hx]; rfl) (snoc_sign' hr o2) (Nat.le_refl 1) (by
        rw [lit_snoc, hx, s1, s2, Nat.pow_succ, o4]
        exact minus_step _ _ _ _ _ _ _ _ _ hv o3)
      refine ⟨t, Ev.up (Ev.pos hlt (Ev.bindV A1 (Ev.bindV A2 ?_))), et⟩
      rw [hw, hi1]
      refine Ev.pos h (Ev.pos hxl ?_)
      rw [o1]
      exact ht
    · obtain ⟨o1, o2, o3, o4⟩ := out_pos d1 d2 c b1 b2 hc h
      obtain ⟨t, ht, et⟩ := ih (i + 1) (x ++ [((d1 - d2 - c : Nat) : Int) + 48]) 0 hg' (by rw [List.length_append, hx]; rfl) (snoc_sign' hr o2) (Nat.zero_le 1) (by
        rw [lit_snoc, hx, s1, s2, Nat.pow_succ, o4]
        exact minus_step _ _ _ _ _ _ _ _ _ hv o3)
      refine ⟨t, Ev.up (Ev.pos hlt (Ev.bindV A1 (Ev.bindV A2 ?_))), et⟩
      rw [hw, hi1]
      refine Ev.neg h (Ev.pos hxl ?_)
      rw [o1]
      exact ht
theorem Minus_is (a b : ByteArray) (m n : Nat) (hmn : n ≤ m) (ha : S a = tx m) (hb : S b = tx n) (hla : a.size ≤ 100000) (hlb : b.size ≤ 100000) : ∃ t, Ev (fun k => idiomref02_Minus.f k a b) t ∧ S t = tx (m - n) :=
  Minus_loop a b m n hmn ha hb hla hlb a.size 0 [] 0 (by omega) rfl (fun d h => by cases h) (by omega) (by simp [lit_nil, Nat.mod_one])
end Go.Proofs.YtapbdblpdkoacaaDoor.Q
set_option linter.unusedVariables false
set_option linter.unusedSimpArgs false
namespace Go.Proofs.YtapbdblpdkoacaaDoor.Q
open Go.RowKit Go.Proofs.YtapbdblpdkoacaaDoorW.PrintWords Go.Proofs.YtapbdblpdkoacaaDoor.P
theorem tx_small {v B : Nat} (h : v < 10 ^ B) : (tx v).length ≤ B + 1 := by
  have := (length_dg_iff v B).2 h
  rw [tx_len]; omega
theorem size_tx {s : ByteArray} {v B : Nat} (e : S s = tx v) (h : v < 10 ^ B) (hB : B ≤ 10000) : s.size ≤ 100000 := by
  have := tx_small h
  rw [← e, S_len] at this
  omega
theorem Lead_snoc (s u : ByteArray) (v : Nat) (d : Nat) (hd : d ≤ 9) (hs : S s = tx v) (hu : S u = [(d : Int) + 48]) (hl : s.size ≤ 100000) : ∃ t, Ev (fun k => idiomref02_Lead.f k (s ++ u)) t ∧ S t = tx (v * 10 + d) := by
  have e : S (s ++ u) = up48 (txd v ++ [(d : Int)]) := by rw [S_append, hs, hu, up48_append]; rfl
  have hz : (txd v).length = s.size := by rw [← up48_len, ← tx, ← hs, S_len]
  obtain ⟨t, ht, et⟩ := Lead_is _ _ e ((Dig_txd v).append (Dig.one (by omega) (by omega))) (by simp; omega)
  rw [val_snoc, val_txd] at et
  exact ⟨t, ht, et⟩
theorem txd_split {s : ByteArray} {n : Nat} (hs : S s = tx n) {P Q : List Int} {d : Int} (h : txd n = P ++ d :: Q) : bt s (P.length : Int) = d + 48 ∧ 0 ≤ d ∧ d ≤ 9 ∧ s.size = P.length + (Q.length + 1) := by
  have hd := Dig_txd n d (by rw [h]; simp)
  refine ⟨?_, hd.1, hd.2, ?_⟩
  · rw [bt_S, hs, tx, h, rd_nat]
    have : up48 (P ++ d :: Q) = up48 P ++ (d + 48) :: up48 Q := by simp [up48]
    rw [this, ← up48_len P, getD_append_mid]
  · rw [← S_len, hs, tx, h, up48_len]; simp
theorem txd_part {s : ByteArray} {n : Nat} (hs : S s = tx n) {P : List Int} (h : txd n = P) : s.size = P.length := by
  rw [← S_len, hs, tx, h, up48_len]
theorem size_near {x b : ByteArray} {v n : Nat} (hx : S x = tx v) (hb : S b = tx n) (h : v < n * 10) (hl : b.size ≤ 1000) : x.size ≤ 100000 := by
  have h1 := dg_len_ten h
  have h2 := tx_len n
  rw [← hb, S_len] at h2
  have h3 := tx_len v
  rw [← hx, S_len] at h3
  omega
theorem over_facts (q n r : Nat) (hq : q + 1 ≤ 9) (hr : r < n) : n ≤ (q + 1) * n + r ∧ (q + 1) * n + r < n * 10 ∧ (q + 1) * n + r - n = q * n + r := by
  have h1 : (q + 1) * n ≤ 9 * n := Nat.mul_le_mul_right _ hq
  rw [Nat.add_mul, Nat.one_mul] at *
  omega
theorem chr_out (c : Nat) (hc : c ≤ 9) : wrap64 (48 + (c : Int)) % 256 = (c : Int) + 48 := by rw [wrap64_id (by omega) (by omega)]; omega
theorem chr_str (c : Nat) (hc : c ≤ 9) : S (strOfNums [(c : Int) + 48]) = [(c : Int) + 48] := S_str (fun d hd => by rw [List.mem_singleton.1 hd]; omega)
theorem sgnc_ge {m n : Nat} (h : n ≤ m) : sgnc m n ≥ 0 := by
  unfold sgnc; rw [if_neg (by omega)]; split <;> omega
theorem Over_l1 (a b : ByteArray) (n : Nat) (hb : S b = tx n) (hlb : b.size ≤ 1000) (hn : 0 < n) (i : Int) (x6 : ByteArray) (h6 : x6.size ≤ 100000) (r' : Nat) (hr : r' < n) (P : ByteArray × ByteArray → Prop) : ∀ (q c : Nat) (x7 : ByteArray), c + q ≤ 9 → S x7 = tx (q * n + r') →
    (∀ y z, S y = tx r' → S z = [((c + q : Nat) : Int) + 48] → ∃ t, Ev (fun k => idiomref02_Over.l0 k a b (x6 ++ z) y (wrap64 (i + 1))) t ∧ P t) →
    ∃ t, Ev (fun k => idiomref02_Over.l1 k a b x6 x7 i (c : Int)) t ∧ P t := by
  intro q
  induction q with
  | zero =>
    intro c x7 hc h7 K
    rw [Nat.zero_mul, Nat.zero_add] at h7
    have hc9 : c ≤ 9 := hc
    have e := chr_out c hc9
    obtain ⟨t, ht, et⟩ := K x7 _ h7 (by rw [Nat.add_zero]; exact chr_str c hc9)
    rw [← e] at ht
    refine ⟨t, Ev.up (Ev.bind (Cmp_is r' n x7 b h7 hb) (Ev.neg (by rw [sgnc, if_pos hr]; decide) (Ev.bindS (Ev.pos ?_ ht)))), et⟩
    rw [strOfNums_size]
    exact Nat.le_trans (Nat.add_le_add_right h6 1) (by decide)
  | succ q ih =>
    intro c x7 hc h7 K
    have hq9 : q + 1 ≤ 9 := Nat.le_trans (Nat.le_add_left _ _) hc
    obtain ⟨hge, hlt, hsub⟩ := over_facts q n r' hq9 hr
    have hl7 := size_near h7 hb hlt hlb
    obtain ⟨y, hy, ey⟩ := Minus_is x7 b _ n hge h7 hb hl7 (Nat.le_trans hlb (by decide))
    rw [hsub] at ey
    have e1 : c + 1 + q = c + (q + 1) := by rw [Nat.add_assoc, Nat.add_comm 1 q]
    have hc1 := next_i c (Nat.le_trans (Nat.le_add_right _ _) (Nat.le_trans hc (by decide)))
    obtain ⟨t, ht, et⟩ := ih (c + 1) y (by rw [e1]; exact hc) ey (by rw [e1]; exact K)
    refine ⟨t, Ev.up (Ev.bind (Cmp_is _ n x7 b h7 hb) (Ev.pos (sgnc_ge hge) (Ev.bind hy ?_))), et⟩
    rw [hc1]; exact ht
theorem over_sum (u w r dn r1 : Nat) (h : w + r1 = r * 10 + dn) : u * 10 + w + r1 = u * 10 + r * 10 + dn := by omega
theorem Over_l0 (a b : ByteArray) (m n : Nat) (ha : S a = tx m) (hb : S b = tx n) (hla : a.size ≤ 1000) (hlb : b.size ≤ 1000) (hn : 0 < n) : ∀ (Q P q : List Int) (r : Nat) (x6 x7 : ByteArray), txd m = P ++ Q → S x6 = up48 q → Dig q → q.length = P.length → S x7 = tx r → r < n → val q * n + r = val P →
    ∃ t, Ev (fun k => idiomref02_Over.l0 k a b x6 x7 (P.length : Int)) t ∧ S t.1 = tx (m / n) ∧ S t.2 = tx (m % n) := by
  intro Q
  induction Q with
  | nil =>
    intro P q r x6 x7 h h6 dq hq h7 hr hv
    have hP : txd m = P := by rw [h]; simp
    have hz := txd_part ha hP
    have hm : m = val P := by rw [← hP, val_txd]
    have e1 : m / n = val q := by rw [hm, ← hv, Nat.mul_comm, Nat.mul_add_div hn, Nat.div_eq_of_lt hr]; omega
    have e2 : m % n = r := by rw [hm, ← hv, Nat.mul_comm, Nat.mul_add_mod, Nat.mod_eq_of_lt hr]
    obtain ⟨t, ht, et⟩ := Lead_is q x6 h6 dq (by omega)
    exact ⟨(t, x7), Ev.up (Ev.neg (by omega) (Ev.bind ht (Ev.val rfl))), by rw [e1]; exact et, by rw [e2]; exact h7⟩
  | cons d Q ih =>
    intro P q r x6 x7 h h6 dq hq h7 hr hv
    obtain ⟨hbt, h0, h9, hz⟩ := txd_split ha h
    obtain ⟨dn, rfl⟩ := Int.eq_ofNat_of_zero_le h0
    have hPl : P.length + 1 ≤ 1000 := Nat.le_trans (Nat.add_le_add_left (Nat.le_add_left 1 Q.length) P.length) (by rw [← hz]; exact hla)
    have hPa : P.length + 1 ≤ a.size := by rw [hz]; exact Nat.add_le_add_left (Nat.le_add_left 1 Q.length) P.length
    have hw : wrap64 ((P.length : Int) + 1) = ((P.length + 1 : Nat) : Int) := next_i _ (Nat.le_trans (Nat.le_of_succ_le hPl) (by decide))
    have gA : (P.length : Int) < (a.size : Int) := Int.ofNat_lt.2 hPa
    have gB : (P.length : Int) ≤ wrap64 ((P.length : Int) + 1) := by rw [hw]; exact Int.ofNat_le.2 (Nat.le_succ _)
    have gC : wrap64 ((P.length : Int) + 1) ≤ (a.size : Int) := by rw [hw]; exact Int.ofNat_le.2 hPa
    have hd9' : dn ≤ 9 := Int.ofNat_le.1 h9
    have hl7 : x7.size ≤ 100000 := size_near h7 hb (Nat.lt_of_lt_of_le hr (by omega)) hlb
    have hl6 : x6.size ≤ 100000 := by rw [← S_len, h6, up48_len, hq]; exact Nat.le_trans (Nat.le_of_succ_le hPl) (by decide)
    have eu : S (a.extract (P.length : Int).toNat (wrap64 ((P.length : Int) + 1)).toNat) = [(dn : Int) + 48] := by
      rw [hw, S_extract, ha, tx, h]
      have e1 : (P.length : Int).toNat = (up48 P).length := by simp [up48]
      have e2 : ((P.length + 1 : Nat) : Int).toNat - (P.length : Int).toNat = 1 := by
        show P.length + 1 - P.length = 1
        exact Nat.add_sub_cancel_left _ _
      rw [e2, up48_append, e1, List.drop_left]
      simp [up48]
    have su : (a.extract (P.length : Int).toNat (wrap64 ((P.length : Int) + 1)).toNat).size = 1 := by rw [← S_len, eu]; rfl
    obtain ⟨y, hy, ey⟩ := Lead_snoc x7 _ r dn hd9' h7 eu hl7
    have hlt : r * 10 + dn < n * 10 := by clear hv; omega
    have hq9 : (r * 10 + dn) / n ≤ 9 := Nat.le_of_lt_succ (Nat.div_lt_of_lt_mul (n := n) (k := 10) hlt)
    have hdm := Nat.div_add_mod (r * 10 + dn) n
    have hr' := Nat.mod_lt (r * 10 + dn) hn
    generalize (r * 10 + dn) / n = q1 at hq9 hdm
    generalize (r * 10 + dn) % n = r1 at hdm hr'
    have ey' : S y = tx (q1 * n + r1) := by rw [ey, ← hdm, Nat.mul_comm]
    obtain ⟨t, ht, et⟩ := Over_l1 a b n hb hlb hn (P.length : Int) x6 hl6 r1 hr' (fun t => S t.1 = tx (m / n) ∧ S t.2 = tx (m % n)) q1 0 y (by rw [Nat.zero_add]; exact hq9) ey' (by
      intro y' z hy' hz'
      have e : wrap64 ((P.length : Int) + 1) = (((P ++ [(dn : Int)]).length : Nat) : Int) := by rw [hw]; simp
      rw [e]
      refine ih (P ++ [(dn : Int)]) (q ++ [((0 + q1 : Nat) : Int)]) r1 (x6 ++ z) y' (by rw [h]; simp) ?_ (dq.append (Dig.one (Int.natCast_nonneg _) (Int.ofNat_le.2 (by rw [Nat.zero_add]; exact hq9)))) (by simp [hq]) hy' hr' ?_
      · rw [S_append, h6, hz', up48_append]; rfl
      · rw [val_snoc, val_snoc, ← hv]
        have e1 : ((0 + q1 : Nat) : Int).toNat = q1 := by rw [Nat.zero_add]; rfl
        have e2 : ((dn : Int)).toNat = dn := rfl
        rw [e1, e2, Nat.add_mul, Nat.add_mul, Nat.mul_comm q1 n]
        have e3 : val q * 10 * n = val q * n * 10 := by rw [Nat.mul_assoc, Nat.mul_comm 10, ← Nat.mul_assoc]
        rw [e3]
        exact over_sum _ _ _ _ _ hdm)
    exact ⟨t, Ev.up (Ev.pos gA (Ev.pos (Int.natCast_nonneg _) (Ev.pos gB (Ev.pos gC (Ev.pos (by rw [su]; exact Nat.le_trans (Nat.add_le_add_right hl7 1) (by decide)) (Ev.bind hy ht)))))), et⟩
theorem Over_is (a b : ByteArray) (m n : Nat) (ha : S a = tx m) (hb : S b = tx n) (hla : a.size ≤ 1000) (hlb : b.size ≤ 1000) (hn : 0 < n) : ∃ t, Ev (fun k => idiomref02_Over.f k a b) t ∧ S t.1 = tx (m / n) ∧ S t.2 = tx (m % n) :=
  Over_l0 a b m n ha hb hla hlb hn (txd m) [] [] 0 ⟨#[]⟩ ⟨#[48]⟩ rfl rfl Dig.nil rfl rfl hn (by simp [val])
end Go.Proofs.YtapbdblpdkoacaaDoor.Q
set_option linter.unusedVariables false
set_option linter.unusedSimpArgs false
namespace Go.Proofs.YtapbdblpdkoacaaDoor.Q
open Go.RowKit Go.Proofs.YtapbdblpdkoacaaDoorW.PrintWords Go.Proofs.YtapbdblpdkoacaaDoor.P
theorem padL_txd (p N : Nat) : padL (p + 1) (txd N) = padL (p + 1) (dg N) := by
  unfold txd; split
  · rename_i h
    subst h
    rw [dg_zero, padL, padL]
    show List.replicate p 0 ++ [0] = List.replicate (p + 1) 0 ++ []
    rw [List.replicate_succ']; simp
  · rfl
theorem Make_cut (neg : Bool) (N p : Nat) (nz : neg = true → N ≠ 0) (y : ByteArray) (hy : S y = up48 (padL (p + 1) (dg N))) (hp : p ≤ 100000) (hyl : y.size ≤ 1000000) (e0 : Bool) (he0 : e0 = (neg && decide (N ≠ 0))) :
    ∃ r, Ev (fun _ => if (y.size : Int) > 40 then (some (false, (⟨#[]⟩ : ByteArray), (⟨#[]⟩ : ByteArray), (3 : Int))) else (if 0 ≤ (wrap64 ((y.size : Int) - (p : Int))) then (if (wrap64 ((y.size : Int) - (p : Int))) ≤ (y.size : Int) then (some (e0, (y.extract 0 ((wrap64 ((y.size : Int) - (p : Int))) : Int).toNat), (y.extract ((wrap64 ((y.size : Int) - (p : Int))) : Int).toNat y.size), 0)) else (none)) else (none))) r ∧ Tells r (mk neg N p) := by
  have hL : (padL (p + 1) (dg N)).length = max (p + 1) (dg N).length := padL_len_max _ _
  have hz : y.size = (padL (p + 1) (dg N)).length := by rw [← S_len, hy, up48_len]
  have hw : wrap64 ((y.size : Int) - (p : Int)) = ((y.size - p : Nat) : Int) := by rw [wrap64_id (by omega) (by omega)]; omega
  have hn : ((y.size - p : Nat) : Int).toNat = y.size - p := by omega
  unfold mk
  by_cases h : 40 < (padL (p + 1) (dg N)).length
  · rw [if_pos h]
    exact ⟨_, Ev.pos (by omega) (Ev.val rfl), Tells.bad 3⟩
  · rw [if_neg h, hw, hn]
    refine ⟨_, Ev.neg (by omega) (Ev.pos (by omega) (Ev.pos (by omega) (Ev.val rfl))), he0, ?_, ?_, rfl⟩
    · show S (y.extract 0 (y.size - p)) = _
      rw [S_take, hy, hz]
    · show S (y.extract (y.size - p) y.size) = _
      rw [S_drop, hy, hz]
theorem Make_is (neg : Bool) (N p : Nat) (a : ByteArray) (L : List Int) (ha : S a = up48 L) (hD : Dig L) (hv : val L = N) (hl : L.length ≤ 100000) (hp : p ≤ 100000) :
    ∃ r, Ev (fun k => idiomref02_Make.f k neg a (p : Int)) r ∧ Tells r (mk neg N p) := by
  obtain ⟨t, ht, et⟩ := Lead_is L a ha hD (by omega)
  rw [hv] at et
  have htl : t.size ≤ 100001 := by
    have h1 : N < 10 ^ L.length := by rw [← hv]; exact val_lt hD
    have h2 := tx_small h1
    rw [← et, S_len] at h2
    omega
  have j0 : ∀ x : Bool, x = (neg && decide (N ≠ 0)) → ∃ r, Ev (fun k => idiomref02_Make.j0 k x t (p : Int)) r ∧ Tells r (mk neg N p) := by
    intro x hx
    have hz : t.size = (txd N).length := by rw [← S_len, et, tx, up48_len]
    by_cases h : (t.size : Int) ≤ (p : Int)
    · have hw : wrap64 (wrap64 ((p : Int) + 1) - (t.size : Int)) = ((p + 1 - t.size : Nat) : Int) := by
        rw [wrap64_id (x := (p : Int) + 1) (by omega) (by omega), wrap64_id (by omega) (by omega)]; omega
      obtain ⟨u, hu, eu⟩ := Zeros_is (p + 1 - t.size) (by omega)
      have hul : u.size = p + 1 - t.size := by rw [← S_len, eu]; simp
      have ey : S (u ++ t) = up48 (padL (p + 1) (dg N)) := by
        rw [S_append, eu, et, ← padL_txd, padL, up48_append, up48_zeros, hz]; rfl
      have hyl : (u ++ t).size ≤ 1000000 := by rw [ByteArray.size_append]; omega
      have key : ∀ neg' : Bool, ∃ r, Ev (fun _ => if ((u ++ t).size : Int) > 40 then (some (false, (⟨#[]⟩ : ByteArray), (⟨#[]⟩ : ByteArray), (3 : Int))) else (if 0 ≤ (wrap64 (((u ++ t).size : Int) - (p : Int))) then (if (wrap64 (((u ++ t).size : Int) - (p : Int))) ≤ ((u ++ t).size : Int) then (some (x, ((u ++ t).extract 0 ((wrap64 (((u ++ t).size : Int) - (p : Int))) : Int).toNat), ((u ++ t).extract ((wrap64 (((u ++ t).size : Int) - (p : Int))) : Int).toNat (u ++ t).size), 0)) else (none)) else (none))) r ∧ Tells r (mk neg N p) := by
        intro _
        by_cases hN : N = 0
        · have := Make_cut false N p (by simp) (u ++ t) ey hp hyl x (by rw [hx, hN]; simp)
          rwa [show mk false N p = mk neg N p by unfold mk; rw [hN]; simp] at this
        · exact Make_cut neg N p (fun _ => hN) (u ++ t) ey hp hyl x hx
      obtain ⟨r, hr, hT⟩ := key neg
      refine ⟨r, Ev.up (Ev.pos h ?_), hT⟩
      rw [hw]
      exact Ev.bind hu (Ev.pos (by omega) (Ev.bindS hr))
    · have ey : S t = up48 (padL (p + 1) (dg N)) := by
        rw [et, ← padL_txd, padL, show p + 1 - (txd N).length = 0 by omega]; rfl
      have key : ∃ r, Ev (fun _ => if (t.size : Int) > 40 then (some (false, (⟨#[]⟩ : ByteArray), (⟨#[]⟩ : ByteArray), (3 : Int))) else (if 0 ≤ (wrap64 ((t.size : Int) - (p : Int))) then (if (wrap64 ((t.size : Int) - (p : Int))) ≤ (t.size : Int) then (some (x, (t.extract 0 ((wrap64 ((t.size : Int) - (p : Int))) : Int).toNat), (t.extract ((wrap64 ((t.size : Int) - (p : Int))) : Int).toNat t.size), 0)) else (none)) else (none))) r ∧ Tells r (mk neg N p) := by
        by_cases hN : N = 0
        · have := Make_cut false N p (by simp) t ey hp (by omega) x (by rw [hx, hN]; simp)
          rwa [show mk false N p = mk neg N p by unfold mk; rw [hN]; simp] at this
        · exact Make_cut neg N p (fun _ => hN) t ey hp (by omega) x hx
      obtain ⟨r, hr, hT⟩ := key
      exact ⟨r, Ev.up (Ev.neg h hr), hT⟩
  by_cases hn : neg = true
  · obtain ⟨r, hr, hT⟩ := j0 (t.toList != ([48] : List UInt8)) (by
      rw [hn, Bool.true_and, bne, beq_lit, et]
      have : (tx N = [48]) ↔ N = 0 := ⟨fun e => tx_inj (n := 0) (by rw [e]; rfl), fun e => by rw [e]; rfl⟩
      by_cases hN : N = 0
      · subst hN; rfl
      · have h2 : ¬ tx N = [48] := fun e => hN (this.1 e)
        have h3 : decide (tx N = List.map (fun b : UInt8 => (b.toNat : Int)) [48]) = false := decide_eq_false h2
        rw [h3]; simp [hN])
    exact ⟨r, Ev.bind ht (Ev.pos hn hr), hT⟩
  · obtain ⟨r, hr, hT⟩ := j0 false (by simp only [Bool.not_eq_true] at hn; rw [hn]; rfl)
    exact ⟨r, Ev.bind ht (Ev.neg hn hr), hT⟩
end Go.Proofs.YtapbdblpdkoacaaDoor.Q
set_option linter.unusedVariables false
set_option linter.unusedSimpArgs false
namespace Go.Proofs.YtapbdblpdkoacaaDoor.Q
open Go.RowKit Go.Proofs.YtapbdblpdkoacaaDoorW.PrintWords Go.Proofs.YtapbdblpdkoacaaDoor.P
theorem chk_fm {n : Bool} {a b : List Int} (h : chk n a b = 0) : fm n a b = true := by
  unfold chk okD at h
  by_cases h1 : fm n a b = true
  · exact h1
  · simp [h1] at h
theorem fm_parts {n : Bool} {a b : List Int} (h : fm n a b = true) : a ≠ [] ∧ allD a = true ∧ allD b = true := by
  simp only [fm, Bool.and_eq_true] at h
  refine ⟨?_, h.1.1.1.2, h.1.1.2⟩
  intro e
  rw [e] at h
  simp at h
end Go.Proofs.YtapbdblpdkoacaaDoor.Q
set_option linter.unusedVariables false
set_option linter.unusedSimpArgs false
namespace Go.Proofs.YtapbdblpdkoacaaDoor.Q
open Go.RowKit Go.Proofs.YtapbdblpdkoacaaDoorW.PrintWords Go.Proofs.YtapbdblpdkoacaaDoor.P
def num (a b : List Int) : Nat := val (dn48 (a ++ b))
theorem allD_append {a b : List Int} (ha : allD a = true) (hb : allD b = true) : allD (a ++ b) = true := by
  rw [allD, List.all_append]; rw [allD] at ha hb; simp [ha, hb]
structure Fine (n : Bool) (a b : List Int) : Prop where
  ok : chk n a b = 0
theorem Fine.len {n : Bool} {a b : List Int} (h : Fine n a b) : a.length + b.length ≤ 40 := chk_len h.ok
theorem Fine.digits {n : Bool} {a b : List Int} (h : Fine n a b) : allD (a ++ b) = true :=
  allD_append (fm_parts (chk_fm h.ok)).2.1 (fm_parts (chk_fm h.ok)).2.2
theorem Fine.lt {n : Bool} {a b : List Int} (h : Fine n a b) : num a b < 10 ^ (a.length + b.length) := by
  have := val_lt (allD_dig h.digits)
  rwa [dn48_len, List.length_append] at this
theorem num_len {n : Bool} {a b : List Int} (h : Fine n a b) (c : Nat) : (dg (num a b * 10 ^ c)).length ≤ 40 + c := by
  refine (length_dg_iff _ _).2 (Nat.lt_of_lt_of_le (Nat.mul_lt_mul_of_pos_right h.lt (Nat.pow_pos (by omega))) ?_)
  rw [← Nat.pow_add]
  exact Nat.pow_le_pow_right (by omega) (by have := h.len; omega)
theorem of_num (n : Bool) (a b : ByteArray) (h : Fine n (S a) (S b)) : Ev (fun k => decimal_of.f k (a ++ b)) (dg (num (S a) (S b))) := by
  have hl := h.len
  rw [S_len, S_len] at hl
  have := of_is (a ++ b) (by rw [ByteArray.size_append]; omega) (by rw [S_append]; exact h.digits)
  rw [S_append] at this
  exact this
theorem up_num (n : Bool) (a b : ByteArray) (h : Fine n (S a) (S b)) (c : Nat) (hc : c ≤ 1000) : decimal_digits_up.f (dg (num (S a) (S b))) (c : Int) = some (dg (num (S a) (S b) * 10 ^ c)) := by
  have := num_len h 0
  rw [Nat.pow_zero, Nat.mul_one] at this
  exact up_is _ c (by omega) (by omega)
theorem mx_nat (x y : Nat) : mx (x : Int) (y : Int) = ((max x y : Nat) : Int) := by rw [mx_int]; omega
theorem aligned_is (n : Bool) (a b : ByteArray) (m : Bool) (c d : ByteArray) (h : Fine n (S a) (S b)) (h' : Fine m (S c) (S d)) :
    Ev (fun k => decimal_aligned.f k n a b m c d) (dg (num (S a) (S b) * 10 ^ (max b.size d.size - b.size)), dg (num (S c) (S d) * 10 ^ (max b.size d.size - d.size)), ((max b.size d.size : Nat) : Int)) := by
  have hl := h.len
  have hl' := h'.len
  rw [S_len, S_len] at hl hl'
  have w1 : wrap64 (((max b.size d.size : Nat) : Int) - (b.size : Int)) = ((max b.size d.size - b.size : Nat) : Int) := by rw [wrap64_id (by omega) (by omega)]; omega
  have w2 : wrap64 (((max b.size d.size : Nat) : Int) - (d.size : Int)) = ((max b.size d.size - d.size : Nat) : Int) := by rw [wrap64_id (by omega) (by omega)]; omega
  refine Ev.pos (by omega) (Ev.bind (of_num n a b h) (Ev.bindV (a := dg (num (S a) (S b) * 10 ^ (max b.size d.size - b.size))) ?_ (Ev.pos (by omega) (Ev.bind (of_num m c d h') (Ev.bindV (a := dg (num (S c) (S d) * 10 ^ (max b.size d.size - d.size))) ?_ (Ev.val ?_))))))
  · rw [mx_nat, w1]; exact up_num n a b h _ (by omega)
  · rw [mx_nat, w2]; exact up_num m c d h' _ (by omega)
  · rw [mx_nat]
theorem raised_is (n : Bool) (a b : ByteArray) (h : Fine n (S a) (S b)) (w : Nat) (hw : b.size ≤ w) (hw' : w ≤ 1000) : ∃ t, Ev (fun k => idiomref02_raised.f k n a b (w : Int)) t ∧ S t = tx (num (S a) (S b) * 10 ^ (w - b.size)) := by
  have hl := h.len
  rw [S_len, S_len] at hl
  have w1 : wrap64 ((w : Int) - (b.size : Int)) = ((w - b.size : Nat) : Int) := by rw [wrap64_id (by omega) (by omega)]; omega
  obtain ⟨u, hu, eu⟩ := Zeros_is (w - b.size) (by omega)
  have lu : u.size = w - b.size := by rw [← S_len, eu]; simp
  have e : S ((a ++ b) ++ u) = up48 (dn48 (S a ++ S b) ++ List.replicate (w - b.size) 0) := by
    rw [S_append, S_append, eu, up48_append, up_dn, up48_zeros]
  obtain ⟨t, ht, et⟩ := Lead_is _ _ e ((allD_dig h.digits).append (Dig.zeros _)) (by rw [List.length_append, dn48_len, List.length_append, S_len, S_len, List.length_replicate]; omega)
  rw [val_up] at et
  refine ⟨t, Ev.pos (by omega) ?_, et⟩
  rw [w1]
  exact Ev.bind hu (Ev.pos (by rw [ByteArray.size_append]; omega) ht.tail)
theorem First_is (x y : Int) : Ev (fun k => idiomref02_First.f k [x, y]) (if x = 0 then y else x) := by
  refine ⟨3, fun k hk => ?_⟩
  obtain ⟨j, rfl⟩ : ∃ j, k = j + 1 + 1 + 1 := ⟨k - 3, by omega⟩
  have e1 : wrap64 (0 + 1) = 1 := by rw [wrap64_id (by omega) (by omega)]; rfl
  have e2 : wrap64 (1 + 1) = 2 := by rw [wrap64_id (by omega) (by omega)]; rfl
  have r0 : rd [x, y] 0 = x := rfl
  have r1 : rd [x, y] 1 = y := rfl
  have l2 : (([x, y] : List Int).length : Int) = 2 := rfl
  show idiomref02_First.l0 (j + 1 + 1 + 1) [x, y] 0 = _
  rw [idiomref02_First.l0, l2, if_pos (by omega), if_pos (by omega), r0]
  by_cases hx : x = 0
  · rw [if_pos hx, if_pos hx, e1, idiomref02_First.l0, l2, if_pos (by omega), if_pos (by omega), r1]
    by_cases hy : y = 0
    · rw [if_pos hy, e2, idiomref02_First.l0, l2, if_neg (by omega), hy]
    · rw [if_neg hy]
  · rw [if_neg hx, if_neg hx]
end Go.Proofs.YtapbdblpdkoacaaDoor.Q
set_option linter.unusedVariables false
set_option linter.unusedSimpArgs false
namespace Go.Proofs.YtapbdblpdkoacaaDoor.Q
open Go.RowKit Go.Proofs.YtapbdblpdkoacaaDoorW.PrintWords Go.Proofs.YtapbdblpdkoacaaDoor.P
def err2 (n : Bool) (a b : List Int) (m : Bool) (c d : List Int) : Int := if chk n a b = 0 then chk m c d else chk n a b
theorem err2_fine {n : Bool} {a b : List Int} {m : Bool} {c d : List Int} (h : err2 n a b m c d = 0) : Fine n a b ∧ Fine m c d := by
  unfold err2 at h
  by_cases h1 : chk n a b = 0
  · rw [if_pos h1] at h; exact ⟨⟨h1⟩, ⟨h⟩⟩
  · rw [if_neg h1] at h; exact absurd h h1
theorem both_is (n : Bool) (a b : ByteArray) (m : Bool) (c d : ByteArray) (ha : Fit a) (hb : Fit b) (hc : Fit c) (hd : Fit d) : Ev (fun k => decimal_both.f k n a b m c d) (err2 n (S a) (S b) m (S c) (S d)) := by
  unfold err2
  by_cases h : chk n (S a) (S b) = 0
  · rw [if_pos h]
    exact Ev.bind (Check_is n a b ha hb) (Ev.pos h (Check_is m c d hc hd).tail)
  · rw [if_neg h]
    exact Ev.bind (Check_is n a b ha hb) (Ev.neg h (Ev.val rfl))
def nA (b : ByteArray) (d : ByteArray) (x : Nat) : Nat := x * 10 ^ (max b.size d.size - b.size)
def nB (b : ByteArray) (d : ByteArray) (x : Nat) : Nat := x * 10 ^ (max b.size d.size - d.size)
section
theorem first_err (n : Bool) (a b : List Int) (m : Bool) (c d : List Int) : (if chk n a b = 0 then chk m c d else chk n a b) = err2 n a b m c d := rfl
theorem txd_small {s : ByteArray} {v B : Nat} (e : S s = tx v) (h : v < 10 ^ B) (hB : B ≤ 10000) : (txd v).length ≤ 100000 := by
  have := size_tx e h hB
  rw [← S_len, e, tx, up48_len] at this
  exact this
theorem Make_tx (neg : Bool) (N p : Nat) (a : ByteArray) (ha : S a = tx N) (h : N < 10 ^ 250) (hp : p ≤ 100000) : ∃ r, Ev (fun k => idiomref02_Make.f k neg a (p : Int)) r ∧ Tells r (mk neg N p) :=
  Make_is neg N p a (txd N) ha (Dig_txd N) (val_txd N) (txd_small ha h (by omega)) hp
end
end Go.Proofs.YtapbdblpdkoacaaDoor.Q
set_option linter.unusedVariables false
set_option linter.unusedSimpArgs false
namespace Go.Proofs.YtapbdblpdkoacaaDoor.Q
open Go.RowKit Go.Proofs.YtapbdblpdkoacaaDoorW.PrintWords Go.Proofs.YtapbdblpdkoacaaDoor.P
theorem told_is {r : Bool × ByteArray × ByteArray × Int} : idiomlaw02_told.f r.1 r.2.1 r.2.2.1 r.2.2.2 r.1 r.2.1 r.2.2.1 r.2.2.2 = some true := by
  unfold idiomlaw02_told.f
  rw [if_pos (by simp)]; simp
end Go.Proofs.YtapbdblpdkoacaaDoor.Q
set_option linter.unusedVariables false
set_option linter.unusedSimpArgs false
namespace Go.Proofs.YtapbdblpdkoacaaDoor.Q
open Go.RowKit Go.Proofs.YtapbdblpdkoacaaDoorW.PrintWords Go.Proofs.YtapbdblpdkoacaaDoor.P
theorem val_zero {l : List Int} (h : Dig l) : val l = 0 ↔ l.all (· == 0) = true := by
  induction l with
  | nil => simp [val]
  | cons d l ih =>
    rw [val_cons, List.all_cons, Bool.and_eq_true, ← ih h.tail]
    have h0 := h.head
    have hp : 0 < 10 ^ l.length := Nat.pow_pos (by omega)
    constructor
    · intro e
      have h1 : d.toNat * 10 ^ l.length = 0 := by omega
      have h2 : d.toNat = 0 := by rcases Nat.mul_eq_zero.1 h1 with h | h <;> omega
      have h3 : d = 0 := by omega
      exact ⟨by rw [h3]; rfl, by omega⟩
    · rintro ⟨e1, e2⟩
      have h3 : d = 0 := by simpa using e1
      rw [h3, e2]; simp
theorem all0_dn (l : List Int) : all0 l = (dn48 l).all (· == 0) := by
  induction l with
  | nil => rfl
  | cons d l ih =>
    show ((d == 48) && all0 l) = ((d - 48 == 0) && (dn48 l).all (· == 0))
    rw [ih]; congr 1
    rw [Bool.eq_iff_iff]; simp; omega
theorem num_zero {n : Bool} {a b : List Int} (h : Fine n a b) : num a b = 0 ↔ (all0 a && all0 b) = true := by
  rw [num, val_zero (allD_dig h.digits), ← all0_dn]
  simp [all0]
end Go.Proofs.YtapbdblpdkoacaaDoor.Q
set_option linter.unusedVariables false
set_option linter.unusedSimpArgs false
namespace Go.Proofs.YtapbdblpdkoacaaDoor.Q
open Go.RowKit Go.Proofs.YtapbdblpdkoacaaDoorW.PrintWords Go.Proofs.YtapbdblpdkoacaaDoor.P
def errD (n : Bool) (a b : List Int) (m : Bool) (c d : List Int) : Int := if err2 n a b m c d = 0 then (if num c d = 0 then 21 else 0) else err2 n a b m c d
theorem errD_ok {n : Bool} {a b : List Int} {m : Bool} {c d : List Int} (h : errD n a b m c d = 0) : err2 n a b m c d = 0 ∧ num c d ≠ 0 := by
  unfold errD at h
  by_cases h1 : err2 n a b m c d = 0
  · rw [if_pos h1] at h
    refine ⟨h1, fun h2 => ?_⟩
    rw [if_pos h2] at h
    omega
  · rw [if_neg h1] at h; exact absurd h h1
theorem nB_zero {b d : ByteArray} {x : Nat} : nB b d x = 0 ↔ x = 0 := by
  unfold nB
  have : 0 < 10 ^ (max b.size d.size - d.size) := Nat.pow_pos (by omega)
  constructor
  · intro h
    rcases Nat.mul_eq_zero.1 h with h | h <;> omega
  · intro h; rw [h, Nat.zero_mul]
theorem divided_is (n : Bool) (a b : ByteArray) (m : Bool) (c d : ByteArray) (ha : Fit a) (hb : Fit b) (hc : Fit c) (hd : Fit d) (A B : Nat) (hA : A = nA b d (num (S a) (S b))) (hB : B = nB b d (num (S c) (S d))) :
    ∃ q r p, Ev (fun k => decimal_divided.f k n a b m c d) (q, r, p, errD n (S a) (S b) m (S c) (S d)) ∧ (errD n (S a) (S b) m (S c) (S d) = 0 → q = dg (A / B) ∧ r = dg (A % B) ∧ p = ((max b.size d.size : Nat) : Int)) := by
  by_cases h : err2 n (S a) (S b) m (S c) (S d) = 0
  · obtain ⟨f1, f2⟩ := err2_fine h
    have l1 := f1.len
    have l2 := f2.len
    rw [S_len, S_len] at l1 l2
    have lA : (dg A).length ≤ 1000 := by rw [hA, nA]; exact Nat.le_trans (num_len f1 _) (by omega)
    have lB : (dg B).length ≤ 1000 := by rw [hB, nB]; exact Nat.le_trans (num_len f2 _) (by omega)
    have al := aligned_is n a b m c d f1 f2
    rw [← nA, ← nB, ← hA, ← hB] at al
    unfold errD
    rw [if_pos h]
    by_cases h0 : num (S c) (S d) = 0
    · have hB0 : B = 0 := by rw [hB]; exact nB_zero.2 h0
      rw [if_pos h0]
      exact ⟨_, _, _, Ev.bind (both_is n a b m c d ha hb hc hd) (Ev.pos h (Ev.bind al (Ev.pos (by rw [hB0, dg_zero]; rfl) (Ev.val rfl)))), fun e => by omega⟩
    · have hB0 : 0 < B := Nat.pos_of_ne_zero (by rw [hB]; exact fun e => h0 (nB_zero.1 e))
      rw [if_neg h0]
      refine ⟨_, _, _, Ev.bind (both_is n a b m c d ha hb hc hd) (Ev.pos h (Ev.bind al (Ev.neg ?_ (Ev.bind (by_is A B hB0 lA lB) (Ev.val rfl))))), fun _ => ⟨rfl, rfl, rfl⟩⟩
      intro e
      have e' : ((dg B).length : Int) = 0 := e
      have : dg B = [] := List.eq_nil_of_length_eq_zero (by omega)
      rw [dg_eq_nil] at this
      omega
  · unfold errD
    rw [if_neg h]
    exact ⟨_, _, _, Ev.bind (both_is n a b m c d ha hb hc hd) (Ev.neg h (Ev.val rfl)), fun e => absurd e h⟩
theorem refdivided_is (n : Bool) (a b : ByteArray) (m : Bool) (c d : ByteArray) (ha : Fit a) (hb : Fit b) (hc : Fit c) (hd : Fit d) (A B : Nat) (hA : A = nA b d (num (S a) (S b))) (hB : B = nB b d (num (S c) (S d))) :
    ∃ q r p, Ev (fun k => idiomref02_divided.f k n a b m c d) (q, r, p, errD n (S a) (S b) m (S c) (S d)) ∧ (errD n (S a) (S b) m (S c) (S d) = 0 → S q = tx (A / B) ∧ S r = tx (A % B) ∧ p = ((max b.size d.size : Nat) : Int)) := by
  have F := First_is (chk n (S a) (S b)) (chk m (S c) (S d))
  rw [first_err] at F
  by_cases h : err2 n (S a) (S b) m (S c) (S d) = 0
  · obtain ⟨f1, f2⟩ := err2_fine h
    have l1 := f1.len
    have l2 := f2.len
    rw [S_len, S_len] at l1 l2
    have lA : (dg A).length ≤ 200 := by rw [hA, nA]; exact Nat.le_trans (num_len f1 _) (by omega)
    have lB : (dg B).length ≤ 200 := by rw [hB, nB]; exact Nat.le_trans (num_len f2 _) (by omega)
    unfold errD
    rw [if_pos h]
    by_cases h0 : num (S c) (S d) = 0
    · rw [if_pos h0]
      exact ⟨_, _, _, Ev.bind (refCheck_is n a b ha hb) (Ev.bind (refCheck_is m c d hc hd) (Ev.bind F (Ev.pos h (Ev.bind (nought_is m c d hc hd) (Ev.pos ((num_zero f2).1 h0) (Ev.val rfl)))))), fun e => by omega⟩
    · have hB0 : 0 < B := Nat.pos_of_ne_zero (by rw [hB]; exact fun e => h0 (nB_zero.1 e))
      obtain ⟨t, ht, et⟩ := raised_is n a b f1 (max b.size d.size) (by omega) (by omega)
      obtain ⟨u, hu, eu⟩ := raised_is m c d f2 (max b.size d.size) (by omega) (by omega)
      rw [← nA, ← hA] at et
      rw [← nB, ← hB] at eu
      rw [← mx_nat] at ht hu
      have st : t.size ≤ 1000 := by have := tx_len A; rw [← et, S_len] at this; omega
      have su : u.size ≤ 1000 := by have := tx_len B; rw [← eu, S_len] at this; omega
      obtain ⟨v, hv, e1, e2⟩ := Over_is t u A B et eu st su hB0
      rw [if_neg h0, ← mx_nat]
      exact ⟨_, _, _, Ev.bind (refCheck_is n a b ha hb) (Ev.bind (refCheck_is m c d hc hd) (Ev.bind F (Ev.pos h (Ev.bind (nought_is m c d hc hd) (Ev.neg (fun e => h0 ((num_zero f2).2 e)) (Ev.bind ht (Ev.bind hu (Ev.bind hv (Ev.val rfl))))))))), fun _ => ⟨e1, e2, rfl⟩⟩
  · unfold errD
    rw [if_neg h]
    exact ⟨_, _, _, Ev.bind (refCheck_is n a b ha hb) (Ev.bind (refCheck_is m c d hc hd) (Ev.bind F (Ev.neg h (Ev.val rfl)))), fun e => absurd e h⟩
theorem lenA (n : Bool) (a b : ByteArray) (m : Bool) (c d : ByteArray) (A B : Nat) (hA : A = nA b d (num (S a) (S b))) (hB : B = nB b d (num (S c) (S d))) (h : errD n (S a) (S b) m (S c) (S d) = 0) : (dg A).length ≤ 200 ∧ (dg B).length ≤ 200 ∧ max b.size d.size ≤ 40 := by
  obtain ⟨f1, f2⟩ := err2_fine (errD_ok h).1
  have l1 := f1.len
  have l2 := f2.len
  rw [S_len, S_len] at l1 l2
  refine ⟨?_, ?_, by omega⟩
  · rw [hA, nA]; exact Nat.le_trans (num_len f1 _) (by omega)
  · rw [hB, nB]; exact Nat.le_trans (num_len f2 _) (by omega)
theorem small_div (n : Bool) (a b : ByteArray) (m : Bool) (c d : ByteArray) (A B : Nat) (hA : A = nA b d (num (S a) (S b))) (hB : B = nB b d (num (S c) (S d))) (h : errD n (S a) (S b) m (S c) (S d) = 0) : A / B < 10 ^ 250 ∧ A % B < 10 ^ 250 := by
  obtain ⟨l1, l2, l3⟩ := lenA n a b m c d A B hA hB h
  have h1 : A < 10 ^ 250 := Nat.lt_of_lt_of_le ((length_dg_iff A 200).1 l1) (Nat.pow_le_pow_right (by omega) (by omega))
  exact ⟨Nat.lt_of_le_of_lt (Nat.div_le_self _ _) h1, Nat.lt_of_le_of_lt (Nat.mod_le _ _) h1⟩
section
variable (n : Bool) (a b : ByteArray) (m : Bool) (c d : ByteArray) (ha : Fit a) (hb : Fit b) (hc : Fit c) (hd : Fit d) (A B : Nat) (hA : A = nA b d (num (S a) (S b))) (hB : B = nB b d (num (S c) (S d)))
include ha hb hc hd hA hB
theorem Div_is : ∃ r, Ev (fun k => decimal_Div.f k n a b m c d) r ∧ Tells r (if errD n (S a) (S b) m (S c) (S d) = 0 then mk (n != m) (A / B) 0 else bad (errD n (S a) (S b) m (S c) (S d))) := by
  obtain ⟨q, r, p, hD, hE⟩ := divided_is n a b m c d ha hb hc hd A B hA hB
  by_cases h : errD n (S a) (S b) m (S c) (S d) = 0
  · obtain ⟨rfl, rfl, rfl⟩ := hE h
    obtain ⟨l1, l2, l3⟩ := lenA n a b m c d A B hA hB h
    obtain ⟨r, hr, hT⟩ := made_is (n != m) (A / B) 0 (Nat.le_trans (dg_len_mono (Nat.div_le_self _ _)) (by omega)) (by omega)
    rw [if_pos h]
    exact ⟨r, Ev.bind hD (Ev.pos h (Ev.bind hr (Ev.val rfl))), hT⟩
  · rw [if_neg h]
    exact ⟨_, Ev.bind hD (Ev.neg h (Ev.val rfl)), Tells.bad _⟩
theorem Rem_is : ∃ r, Ev (fun k => decimal_Rem.f k n a b m c d) r ∧ Tells r (if errD n (S a) (S b) m (S c) (S d) = 0 then mk n (A % B) (max b.size d.size) else bad (errD n (S a) (S b) m (S c) (S d))) := by
  obtain ⟨q, r, p, hD, hE⟩ := divided_is n a b m c d ha hb hc hd A B hA hB
  by_cases h : errD n (S a) (S b) m (S c) (S d) = 0
  · obtain ⟨rfl, rfl, rfl⟩ := hE h
    obtain ⟨l1, l2, l3⟩ := lenA n a b m c d A B hA hB h
    obtain ⟨r, hr, hT⟩ := made_is n (A % B) (max b.size d.size) (Nat.le_trans (dg_len_mono (Nat.mod_le _ _)) (by omega)) (by omega)
    rw [if_pos h]
    exact ⟨r, Ev.bind hD (Ev.pos h (Ev.bind hr (Ev.val rfl))), hT⟩
  · rw [if_neg h]
    exact ⟨_, Ev.bind hD (Ev.neg h (Ev.val rfl)), Tells.bad _⟩
theorem refDiv_is : ∃ r, Ev (fun k => idiomref02_Div.f k n a b m c d) r ∧ Tells r (if errD n (S a) (S b) m (S c) (S d) = 0 then mk (n != m) (A / B) 0 else bad (errD n (S a) (S b) m (S c) (S d))) := by
  obtain ⟨q, r, p, hD, hE⟩ := refdivided_is n a b m c d ha hb hc hd A B hA hB
  by_cases h : errD n (S a) (S b) m (S c) (S d) = 0
  · obtain ⟨e1, e2, rfl⟩ := hE h
    obtain ⟨r, hr, hT⟩ := Make_tx (n != m) (A / B) 0 q e1 (small_div n a b m c d A B hA hB h).1 (by omega)
    rw [if_pos h]
    exact ⟨r, Ev.bind hD (Ev.pos h (Ev.bind hr (Ev.val rfl))), hT⟩
  · rw [if_neg h]
    exact ⟨_, Ev.bind hD (Ev.neg h (Ev.val rfl)), Tells.bad _⟩
theorem refRem_is : ∃ r, Ev (fun k => idiomref02_Rem.f k n a b m c d) r ∧ Tells r (if errD n (S a) (S b) m (S c) (S d) = 0 then mk n (A % B) (max b.size d.size) else bad (errD n (S a) (S b) m (S c) (S d))) := by
  obtain ⟨q, r, p, hD, hE⟩ := refdivided_is n a b m c d ha hb hc hd A B hA hB
  by_cases h : errD n (S a) (S b) m (S c) (S d) = 0
  · obtain ⟨e1, e2, rfl⟩ := hE h
    obtain ⟨l1, l2, l3⟩ := lenA n a b m c d A B hA hB h
    obtain ⟨r, hr, hT⟩ := Make_tx n (A % B) (max b.size d.size) r e2 (small_div n a b m c d A B hA hB h).2 (by omega)
    rw [if_pos h]
    exact ⟨r, Ev.bind hD (Ev.pos h (Ev.bind hr (Ev.val rfl))), hT⟩
  · rw [if_neg h]
    exact ⟨_, Ev.bind hD (Ev.neg h (Ev.val rfl)), Tells.bad _⟩
end
theorem divides_law (n : Bool) (a b : ByteArray) (m : Bool) (c d : ByteArray) (ha : Fit a) (hb : Fit b) (hc : Fit c) (hd : Fit d) : ∃ k, idiomlaw02_DecimalDivides.f k n a b m c d = some true := by
  obtain ⟨r1, h1, t1⟩ := Div_is n a b m c d ha hb hc hd _ _ rfl rfl
  obtain ⟨r1', h1', t1'⟩ := refDiv_is n a b m c d ha hb hc hd _ _ rfl rfl
  obtain ⟨r2, h2, t2⟩ := Rem_is n a b m c d ha hb hc hd _ _ rfl rfl
  obtain ⟨r2', h2', t2'⟩ := refRem_is n a b m c d ha hb hc hd _ _ rfl rfl
  obtain rfl := Tells.eq t1 t1'
  obtain rfl := Tells.eq t2 t2'
  have j0 : ∀ x : Bool, x = false → Ev (fun k => idiomlaw02_DecimalDivides.j0 k x n a b m c d) true := by
    intro x hx
    exact Ev.up (Ev.neg (by rw [hx]; exact Bool.false_ne_true) (Ev.bind h2 (Ev.bind h2' (Ev.bindV told_is (Ev.val rfl)))))
  exact Ev.rounds (Ev.bind h1 (Ev.bind h1' (Ev.bindV told_is (Ev.pos rfl (Ev.bind awake_is (j0 _ rfl))))))
end Go.Proofs.YtapbdblpdkoacaaDoor.Q
