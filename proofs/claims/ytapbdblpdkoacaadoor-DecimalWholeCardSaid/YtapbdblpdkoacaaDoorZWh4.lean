/- A part of the proof. Part 5 of 6; its texts were written by programs, some out of the kit's print. -/
import Derived.Test.YtapbdblpdkoacaaDoorZWh3
import Derived.Lib.Bytes
import Derived.Sort.Walk0
set_option linter.unusedVariables false
set_option linter.unusedSimpArgs false
namespace Go.Proofs.YtapbdblpdkoacaaDoor.Q
open Go.RowKit Go.Proofs.YtapbdblpdkoacaaDoorW.PrintWords
def val (l : List Int) : Nat := l.foldl (fun n d => n * 10 + d.toNat) 0
def Dig (l : List Int) : Prop := ∀ d ∈ l, 0 ≤ d ∧ d ≤ 9
theorem foldl_val (l : List Int) : ∀ n : Nat, l.foldl (fun n d => n * 10 + d.toNat) n = n * 10 ^ l.length + val l := by
  induction l with
  | nil => intro n; simp [val]
  | cons d l ih =>
    intro n
    simp only [List.foldl_cons, val]
    rw [ih, ih (0 * 10 + d.toNat), List.length_cons, Nat.pow_succ, Nat.add_mul, Nat.zero_mul, Nat.zero_add, Nat.mul_assoc, Nat.mul_comm 10]
    omega
theorem val_append (l m : List Int) : val (l ++ m) = val l * 10 ^ m.length + val m := by
  rw [val, List.foldl_append, foldl_val]; rfl
theorem val_snoc (l : List Int) (d : Int) : val (l ++ [d]) = val l * 10 + d.toNat := by
  rw [val_append]; simp [val]
theorem val_cons (d : Int) (l : List Int) : val (d :: l) = d.toNat * 10 ^ l.length + val l := by
  rw [show d :: l = [d] ++ l from rfl, val_append]; simp [val]
theorem Dig.nil : Dig [] := fun d h => by cases h
theorem Dig.append {l m : List Int} (h : Dig l) (k : Dig m) : Dig (l ++ m) := fun d hd => by
  rcases List.mem_append.1 hd with h1 | h1
  · exact h d h1
  · exact k d h1
theorem Dig.left {l m : List Int} (h : Dig (l ++ m)) : Dig l := fun d hd => h d (List.mem_append_left _ hd)
theorem Dig.right {l m : List Int} (h : Dig (l ++ m)) : Dig m := fun d hd => h d (List.mem_append_right _ hd)
theorem Dig.one {d : Int} (h0 : 0 ≤ d) (h1 : d ≤ 9) : Dig [d] := fun x hx => by rw [List.mem_singleton.1 hx]; exact ⟨h0, h1⟩
theorem Dig.head {d : Int} {l : List Int} (h : Dig (d :: l)) : 0 ≤ d ∧ d ≤ 9 := h d (List.mem_cons_self)
theorem Dig.tail {d : Int} {l : List Int} (h : Dig (d :: l)) : Dig l := fun x hx => h x (List.mem_cons_of_mem _ hx)
theorem val_lt {l : List Int} (h : Dig l) : val l < 10 ^ l.length := by
  induction l with
  | nil => simp [val]
  | cons d l ih =>
    have h1 := ih h.tail
    have h2 := h.head
    rw [val_cons, List.length_cons, Nat.pow_succ]
    have h3 : d.toNat * 10 ^ l.length ≤ 9 * 10 ^ l.length := Nat.mul_le_mul_right _ (by omega)
    omega
def dg (n : Nat) : List Int := if h : n = 0 then [] else dg (n / 10) ++ [((n % 10 : Nat) : Int)]
termination_by n
decreasing_by omega
theorem dg_zero : dg 0 = [] := by rw [dg]; simp
theorem dg_pos {n : Nat} (h : n ≠ 0) : dg n = dg (n / 10) ++ [((n % 10 : Nat) : Int)] := by rw [dg]; simp [h]
theorem val_dg (n : Nat) : val (dg n) = n := by
  induction n using Nat.strongRecOn with
  | _ n ih =>
    by_cases h : n = 0
    · subst h; rw [dg_zero]; rfl
    · rw [dg_pos h, val_snoc, ih (n / 10) (by omega)]; omega
theorem Dig_dg (n : Nat) : Dig (dg n) := by
  induction n using Nat.strongRecOn with
  | _ n ih =>
    by_cases h : n = 0
    · subst h; rw [dg_zero]; exact Dig.nil
    · rw [dg_pos h]; exact (ih (n / 10) (by omega)).append (Dig.one (by omega) (by omega))
theorem dg_eq_nil {n : Nat} : dg n = [] ↔ n = 0 := by
  constructor
  · intro h
    have := val_dg n
    rw [h] at this
    exact this.symm
  · rintro rfl; exact dg_zero
theorem dg_snoc {n : Nat} {d : Int} (h0 : 0 ≤ d) (h1 : d ≤ 9) (hn : n ≠ 0 ∨ d ≠ 0) : dg (n * 10 + d.toNat) = dg n ++ [d] := by
  rw [dg_pos (by omega), show (n * 10 + d.toNat) / 10 = n by omega, show (n * 10 + d.toNat) % 10 = d.toNat by omega]
  congr 2
  omega
theorem dg_val {l : List Int} (h : Dig l) (hh : ∀ d m, l = d :: m → d ≠ 0) : dg (val l) = l := by
  induction hn : l.length generalizing l with
  | zero => rw [List.eq_nil_of_length_eq_zero hn]; exact dg_zero
  | succ n ih =>
    have hne : l ≠ [] := by intro e; rw [e] at hn; simp at hn
    obtain ⟨m, d, rfl⟩ : ∃ m d, l = m ++ [d] := ⟨l.dropLast, l.getLast hne, (List.dropLast_concat_getLast hne).symm⟩
    have hd := h.right d (List.mem_singleton_self d)
    have hm : dg (val m) = m := ih h.left (fun x t e => hh x (t ++ [d]) (by rw [e]; rfl)) (by simpa using hn)
    rw [val_snoc, dg_snoc hd.1 hd.2, hm]
    cases m with
    | nil => right; exact hh d [] rfl
    | cons x t =>
      left
      intro e
      rw [e, dg_zero] at hm
      cases hm
theorem dg_lead {l : List Int} (h : Dig l) : dg (val l) = l.dropWhile (· == 0) := by
  induction l with
  | nil => exact dg_zero
  | cons d l ih =>
    by_cases hd : d = 0
    · subst hd
      rw [val_cons]
      simpa using ih h.tail
    · rw [List.dropWhile_cons_of_neg (by simpa using hd)]
      exact dg_val h (fun x m e => by injection e with e _; rw [← e]; exact hd)
theorem length_dg_le {n k : Nat} (h : n < 10 ^ k) : (dg n).length ≤ k := by
  induction k generalizing n with
  | zero => have : n = 0 := by simpa using h
            rw [this, dg_zero]; simp
  | succ k ih =>
    by_cases h0 : n = 0
    · rw [h0, dg_zero]; simp
    · rw [dg_pos h0, List.length_append, List.length_singleton]
      have := ih (n := n / 10) (by rw [Nat.pow_succ] at h; omega)
      omega
theorem lt_of_length_dg (n : Nat) : n < 10 ^ (dg n).length := by
  have := val_lt (Dig_dg n)
  rwa [val_dg] at this
theorem length_dg_iff (n k : Nat) : (dg n).length ≤ k ↔ n < 10 ^ k :=
  ⟨fun h => Nat.lt_of_lt_of_le (lt_of_length_dg n) (Nat.pow_le_pow_right (by omega) h), length_dg_le⟩
end Go.Proofs.YtapbdblpdkoacaaDoor.Q
set_option linter.unusedVariables false
set_option linter.unusedSimpArgs false
namespace Go.Proofs.YtapbdblpdkoacaaDoor.Q
open Go.RowKit Go.Proofs.YtapbdblpdkoacaaDoorW.PrintWords
def S (s : ByteArray) : List Int := s.data.toList.map fun b => (b.toNat : Int)
theorem S_len (s : ByteArray) : (S s).length = s.size := by
  rw [S, List.length_map, Array.length_toList]; rfl
theorem bt_S (s : ByteArray) (i : Int) : bt s i = rd (S s) i := by
  unfold bt rd S
  by_cases h : i.toNat < s.size
  · have h' : i.toNat < s.data.size := h
    rw [dif_pos h, List.getD_eq_getElem?_getD, List.getElem?_map, List.getElem?_eq_getElem (by simpa using h')]
    simp
    rfl
  · have h' : ¬ i.toNat < s.data.size := h
    rw [dif_neg h, List.getD_eq_getElem?_getD, List.getElem?_eq_none (by simpa using h')]
    rfl
theorem S_append (s t : ByteArray) : S (s ++ t) = S s ++ S t := by
  simp [S]
theorem S_extract (s : ByteArray) (a b : Nat) : S (s.extract a b) = ((S s).drop a).take (b - a) := by
  simp only [S, ByteArray.data_extract, Array.toList_extract, List.extract_eq_take_drop, List.map_take, List.map_drop]
theorem S_drop (s : ByteArray) (a : Nat) : S (s.extract a s.size) = (S s).drop a := by
  rw [S_extract]
  apply List.take_of_length_le
  rw [List.length_drop, S_len]
  omega
theorem S_take (s : ByteArray) (b : Nat) : S (s.extract 0 b) = (S s).take b := by
  rw [S_extract]; simp
theorem u8_ofNat (b : UInt8) : UInt8.ofNat ((b.toNat : Int).toNat) = b := by simp
theorem S_back (s : ByteArray) : strOfNums (S s) = s := by
  cases s with
  | mk d =>
    simp only [strOfNums, S, List.map_map, ByteArray.mk.injEq]
    have : (fun n : Int => UInt8.ofNat n.toNat) ∘ (fun b : UInt8 => (b.toNat : Int)) = id := by
      funext b; exact u8_ofNat b
    rw [this]; simp
theorem S_inj {s t : ByteArray} (h : S s = S t) : s = t := by rw [← S_back s, ← S_back t, h]
theorem S_str {l : List Int} (h : ∀ d ∈ l, 0 ≤ d ∧ d ≤ 255) : S (strOfNums l) = l := by
  simp only [S, strOfNums, List.map_map]
  conv => rhs; rw [← List.map_id l]
  apply List.map_congr_left
  intro d hd
  have := h d hd
  simp [UInt8.toNat_ofNat']
  omega
theorem toList_S (s t : ByteArray) : s.toList = t.toList ↔ S s = S t := by
  constructor
  · intro h
    rw [ByteArray.toList_eq, ByteArray.toList_eq] at h
    rw [S, S, h]
  · intro h; rw [S_inj h]
theorem toList_lit (s : ByteArray) (l : List UInt8) : s.toList = l ↔ S s = l.map (fun b => (b.toNat : Int)) := by
  have := toList_S s ⟨l.toArray⟩
  rw [ByteArray.toList_mk l] at this
  rw [this]; simp [S]
theorem toList_nil (s : ByteArray) : s.toList = ([] : List UInt8) ↔ S s = [] := toList_lit s []
theorem beq_lit (s : ByteArray) (l : List UInt8) : (s.toList == l) = decide (S s = l.map (fun b => (b.toNat : Int))) := by
  rw [Bool.eq_iff_iff]; simp [toList_lit]
theorem u8_lt (a b : UInt8) : a < b ↔ (a.toNat : Int) < (b.toNat : Int) := by
  rw [UInt8.lt_iff_toNat_lt]; omega
def lessL : List Int → List Int → Bool
  | _, [] => false
  | [], _ :: _ => true
  | a :: x, b :: y => decide (a < b) || (decide (a = b) && lessL x y)
theorem less_S (s t : ByteArray) : Op.bytesLess s.toList t.toList = lessL (S s) (S t) := by
  rw [ByteArray.toList_eq, ByteArray.toList_eq, S, S]
  generalize s.data.toList = x
  generalize t.data.toList = y
  induction x generalizing y with
  | nil => cases y <;> rfl
  | cons a x ih =>
    cases y with
    | nil => rfl
    | cons b y =>
      simp only [Op.bytesLess, List.map_cons, lessL]
      rw [ih]
      have h1 : (decide (a < b)) = decide ((a.toNat : Int) < (b.toNat : Int)) := decide_eq_decide.2 (u8_lt a b)
      have h2 : (a == b) = decide ((a.toNat : Int) = (b.toNat : Int)) := by
        rw [Bool.eq_iff_iff]
        simp only [beq_iff_eq, decide_eq_true_eq]
        rw [← UInt8.toNat_inj]; omega
      rw [← h1, ← h2]
theorem lessL_val : ∀ {l m : List Int}, Dig l → Dig m → l.length = m.length → lessL l m = decide (val l < val m)
  | [], [], _, _, _ => by simp [lessL]
  | [], _ :: _, _, _, h => by simp at h
  | _ :: _, [], _, _, h => by simp at h
  | a :: x, b :: y, hl, hm, h => by
    have hx := val_lt hl.tail
    have hy := val_lt hm.tail
    have h' : x.length = y.length := by simpa using h
    have ha := hl.head
    have hb := hm.head
    rw [lessL, lessL_val hl.tail hm.tail h', val_cons, val_cons, h', Bool.eq_iff_iff]
    rw [h'] at hx
    simp only [Bool.or_eq_true, Bool.and_eq_true, decide_eq_true_eq]
    constructor
    · rintro (h1 | ⟨h1, h2⟩)
      · have h3 : (a.toNat + 1) * 10 ^ y.length ≤ b.toNat * 10 ^ y.length := Nat.mul_le_mul_right _ (by omega)
        rw [Nat.add_mul] at h3
        omega
      · subst h1; omega
    · intro h1
      rcases Int.lt_trichotomy a b with h2 | h2 | h2
      · exact .inl h2
      · subst h2; exact .inr ⟨rfl, by omega⟩
      · have h3 : (b.toNat + 1) * 10 ^ y.length ≤ a.toNat * 10 ^ y.length := Nat.mul_le_mul_right _ (by omega)
        rw [Nat.add_mul] at h3
        omega
theorem rd_nat (l : List Int) (i : Nat) : rd l (i : Int) = l.getD i 0 := by simp [rd]
theorem getD_append_mid (l : List Int) (d : Int) (m : List Int) : (l ++ d :: m).getD l.length 0 = d := by
  simp [List.getD_eq_getElem?_getD]
theorem set_append_mid (l : List Int) (d e : Int) (m : List Int) : (l ++ d :: m).set l.length e = l ++ e :: m := by
  simp [List.set_append]
theorem wrap64_id {x : Int} (h0 : -9223372036854775808 ≤ x) (h1 : x ≤ 9223372036854775807) : wrap64 x = x := by
  unfold wrap64; omega
def up48 (l : List Int) : List Int := l.map (· + 48)
theorem up48_len (l : List Int) : (up48 l).length = l.length := by simp [up48]
def dn48 (l : List Int) : List Int := l.map (· - 48)
theorem dn48_len (l : List Int) : (dn48 l).length = l.length := by simp [dn48]
theorem up_dn (l : List Int) : up48 (dn48 l) = l := by
  rw [up48, dn48, List.map_map]; conv => rhs; rw [← List.map_id l]
  apply List.map_congr_left; intro d _; show d - 48 + 48 = d; omega
theorem dn_up (l : List Int) : dn48 (up48 l) = l := by
  rw [up48, dn48, List.map_map]; conv => rhs; rw [← List.map_id l]
  apply List.map_congr_left; intro d _; show d + 48 - 48 = d; omega
end Go.Proofs.YtapbdblpdkoacaaDoor.Q
set_option linter.unusedVariables false
set_option linter.unusedSimpArgs false
namespace Go.Proofs.YtapbdblpdkoacaaDoorW.PrintWords
theorem Ev.pos {α : Type} {c : Prop} [Decidable c] {A B : Nat → Option α} {r : α} (h : c) (e : Ev A r) : Ev (fun k => if c then A k else B k) r :=
  Ev.congr (fun k => if_pos h) e
theorem Ev.neg {α : Type} {c : Prop} [Decidable c] {A B : Nat → Option α} {r : α} (h : ¬ c) (e : Ev B r) : Ev (fun k => if c then A k else B k) r :=
  Ev.congr (fun k => if_neg h) e
theorem Ev.split {α : Type} {c : Prop} [Decidable c] {A B : Nat → Option α} {r : α} (h : c → Ev A r) (h' : ¬ c → Ev B r) : Ev (fun k => if c then A k else B k) r := by
  by_cases hc : c
  · exact Ev.pos hc (h hc)
  · exact Ev.neg hc (h' hc)
theorem Ev.val {α : Type} {a r : α} (h : a = r) : Ev (fun _ => some a) r := by rw [h]; exact Ev.now r
theorem Ev.bindS {α β : Type} {a : α} {F : Nat → α → Option β} {r : β} (h : Ev (fun k => F k a) r) : Ev (fun k => (some a).bind (F k)) r := h
theorem Ev.bindV {α β : Type} {g : Option α} {a : α} {F : Nat → α → Option β} {r : β} (hg : g = some a) (h : Ev (fun k => F k a) r) : Ev (fun k => g.bind (F k)) r := by
  rw [hg]; exact h
theorem Ev.tail {α : Type} {g : Nat → Option α} {a : α} (h : Ev g a) : Ev (fun k => (g k).bind fun t => some t) a := Ev.bind h (Ev.now a)
theorem Ev.eq {α : Type} {g : Nat → Option α} {a b : α} (h : Ev g a) (e : a = b) : Ev g b := e ▸ h
theorem Ev.up {α : Type} {g : Nat → Option α} {r : α} (k : Ev (fun n => g (n + 1)) r) : Ev g r := Ev.step (fun _ => rfl) k
end Go.Proofs.YtapbdblpdkoacaaDoorW.PrintWords
set_option linter.unusedVariables false
set_option linter.unusedSimpArgs false
namespace Go.Proofs.YtapbdblpdkoacaaDoor.Q
open Go.RowKit Go.Proofs.YtapbdblpdkoacaaDoorW.PrintWords Go.Proofs.YtapbdblpdkoacaaDoor.P
def isD (d : Int) : Bool := decide (48 ≤ d) && decide (d ≤ 57)
def allD (l : List Int) : Bool := l.all isD
def all0 (l : List Int) : Bool := l.all (· == 48)
def fm (neg : Bool) (a b : List Int) : Bool := !a.isEmpty && allD a && allD b && !(decide (1 < a.length) && rd a 0 == 48) && !(neg && (all0 a && all0 b))
def okD (neg : Bool) (a b : List Int) : Bool := decide (a.length + b.length ≤ 40) && fm neg a b
def chk (neg : Bool) (a b : List Int) : Int := if okD neg a b = true then 0 else 20
def Fit (s : ByteArray) : Prop := s.size ≤ 1000000000000000000
theorem all_loop (s : ByteArray) (hs : Fit s) : ∀ rest pre : List Int, S s = pre ++ rest → Ev (fun k => decimal_all.l0 k s (s.size : Int) (pre.length : Int)) (allD rest) := by
  unfold Fit at hs
  intro rest
  induction rest with
  | nil =>
    intro pre h
    have hl : s.size = pre.length := by rw [← S_len, h]; simp
    refine Ev.up (Ev.neg (by omega) (Ev.val rfl))
  | cons d rest ih =>
    intro pre h
    have hl : s.size = pre.length + (rest.length + 1) := by rw [← S_len, h]; simp
    have hb : bt s (pre.length : Int) = d := by rw [bt_S, h, rd_nat, getD_append_mid]
    refine Ev.up (Ev.pos (by omega) (Ev.pos (by omega) (Ev.pos (by omega) ?_)))
    rw [hb]
    refine Ev.split (fun h1 => Ev.val ?_) (fun h1 => Ev.split (fun h2 => Ev.val ?_) (fun h2 => ?_))
    · simp [allD, isD]; omega
    · simp [allD, isD]; omega
    · have h3 := ih (pre ++ [d]) (by rw [h]; simp)
      have h4 : wrap64 ((pre.length : Int) + 1) = ((pre ++ [d]).length : Int) := by rw [wrap64_id (by omega) (by omega)]; simp
      rw [h4]
      refine h3.eq ?_
      have : isD d = true := by simp [isD]; omega
      simp [allD, this]
theorem all_is (s : ByteArray) (hs : Fit s) : Ev (fun k => decimal_all.f k s) (allD (S s)) := all_loop s hs (S s) [] rfl
theorem digits_loop (s : ByteArray) (hs : Fit s) : ∀ rest pre : List Int, S s = pre ++ rest → Ev (fun k => idiomref02_Digits.l0 k s (pre.length : Int)) (allD rest) := by
  unfold Fit at hs
  intro rest
  induction rest with
  | nil =>
    intro pre h
    have hl : s.size = pre.length := by rw [← S_len, h]; simp
    refine Ev.up (Ev.neg (by omega) (Ev.val rfl))
  | cons d rest ih =>
    intro pre h
    have hl : s.size = pre.length + (rest.length + 1) := by rw [← S_len, h]; simp
    have hb : bt s (pre.length : Int) = d := by rw [bt_S, h, rd_nat, getD_append_mid]
    refine Ev.up (Ev.pos (by omega) (Ev.pos (by omega) ?_))
    rw [hb]
    refine Ev.bindV (a := isD d) ?_ ?_
    · unfold idiomref02_Digit.f isD
      by_cases h1 : d ≥ 48
      · simp [h1]
      · have : ¬ 48 ≤ d := h1
        simp [h1, this]
    refine Ev.split (fun h1 => ?_) (fun h1 => Ev.val ?_)
    · have h3 := ih (pre ++ [d]) (by rw [h]; simp)
      have h4 : wrap64 ((pre.length : Int) + 1) = ((pre ++ [d]).length : Int) := by rw [wrap64_id (by omega) (by omega)]; simp
      rw [h4]
      refine h3.eq ?_
      simp [allD, h1]
    · simp [allD, h1]
theorem digits_is (s : ByteArray) (hs : Fit s) : Ev (fun k => idiomref02_Digits.f k s) (allD (S s)) := digits_loop s hs (S s) [] rfl
theorem noughts_loop (s : ByteArray) (hs : Fit s) : ∀ rest pre : List Int, S s = pre ++ rest → Ev (fun k => idiomref02_noughts.l0 k s (pre.length : Int)) (all0 rest) := by
  unfold Fit at hs
  intro rest
  induction rest with
  | nil =>
    intro pre h
    have hl : s.size = pre.length := by rw [← S_len, h]; simp
    refine Ev.up (Ev.neg (by omega) (Ev.val rfl))
  | cons d rest ih =>
    intro pre h
    have hl : s.size = pre.length + (rest.length + 1) := by rw [← S_len, h]; simp
    have hb : bt s (pre.length : Int) = d := by rw [bt_S, h, rd_nat, getD_append_mid]
    refine Ev.up (Ev.pos (by omega) (Ev.pos (by omega) ?_))
    rw [hb]
    refine Ev.split (fun h1 => ?_) (fun h1 => Ev.val ?_)
    · have h3 := ih (pre ++ [d]) (by rw [h]; simp)
      have h4 : wrap64 ((pre.length : Int) + 1) = ((pre ++ [d]).length : Int) := by rw [wrap64_id (by omega) (by omega)]; simp
      rw [h4]
      refine h3.eq ?_
      simp [all0, h1]
    · simp [all0, h1]
theorem noughts_is (s : ByteArray) (hs : Fit s) : Ev (fun k => idiomref02_noughts.f k s) (all0 (S s)) := noughts_loop s hs (S s) [] rfl
theorem nought_is (n : Bool) (a b : ByteArray) (ha : Fit a) (hb : Fit b) : Ev (fun k => idiomref02_Nought.f k n a b) (all0 (S a) && all0 (S b)) := by
  refine Ev.bind (noughts_is a ha) (Ev.split (fun h => ?_) (fun h => Ev.val ?_))
  · rw [h]; exact (noughts_is b hb).tail
  · simp at h; simp [h]
def ltrim (l : List Int) : List Int := l.dropWhile (· == 48)
def rtrim (l : List Int) : List Int := (l.reverse.dropWhile (· == 48)).reverse
theorem ltrim_len (l : List Int) : (ltrim l).length ≤ l.length := by
  rw [ltrim, ← List.length_reverse]
  have := (List.dropWhile_suffix (l := l) (fun d : Int => d == 48)).length_le
  simpa using this
theorem ltrim_nil (l : List Int) : ltrim l = [] ↔ all0 l = true := by
  unfold ltrim all0
  induction l with
  | nil => simp
  | cons d l ih =>
    rw [List.dropWhile_cons]
    by_cases h : d = 48
    · simpa [h] using ih
    · simp [h]
theorem rtrim_snoc (l : List Int) (d : Int) : rtrim (l ++ [d]) = if d = 48 then rtrim l else l ++ [d] := by
  simp only [rtrim, List.reverse_append, List.reverse_cons, List.reverse_nil, List.nil_append, List.cons_append, List.dropWhile_cons]
  by_cases h : d = 48
  · simp [h]
  · simp [h]
theorem all0_ltrim (l : List Int) : all0 (ltrim l) = all0 l := by
  induction l with
  | nil => rfl
  | cons d l ih =>
    simp only [ltrim, List.dropWhile_cons]
    by_cases h : d = 48
    · simpa [h, all0, ltrim] using ih
    · simp [h]
theorem all0_rtrim (l : List Int) : all0 (rtrim l) = all0 l := by
  have h1 : all0 (rtrim l) = all0 (ltrim l.reverse) := by simp [all0, rtrim, ltrim]
  rw [h1, all0_ltrim]; simp [all0]
theorem trimLeft_is : ∀ (n : Nat) (s : ByteArray), s.size = n → Fit s → ∃ t, Ev (fun k => strings_trimLeftByte.f k s 48) t ∧ S t = ltrim (S s) := by
  intro n
  induction n with
  | zero =>
    intro s h _
    have h0 : S s = [] := List.eq_nil_of_length_eq_zero (by rw [S_len]; exact h)
    exact ⟨s, Ev.up (Ev.neg (by omega) (Ev.val rfl)), by rw [h0]; rfl⟩
  | succ n ih =>
    intro s h hf
    obtain ⟨d, m, e⟩ : ∃ d m, S s = d :: m := by
      cases he : S s with
      | nil => have := S_len s; rw [he] at this; simp at this; omega
      | cons d m => exact ⟨d, m, rfl⟩
    have hb : bt s 0 = d := by rw [bt_S, e]; rfl
    by_cases h1 : d = 48
    · have h2 : S (s.extract 1 s.size) = m := by rw [S_drop, e]; rfl
      have h3 : (s.extract 1 s.size).size = n := by rw [← S_len, h2]; have := S_len s; rw [e] at this; simp at this; omega
      obtain ⟨t, ht, hs⟩ := ih _ h3 (by unfold Fit at *; omega)
      refine ⟨t, Ev.up (Ev.pos (by omega) (Ev.pos (by omega) (Ev.pos (by rw [hb]; exact h1) (Ev.pos (by omega) ht)))), ?_⟩
      rw [hs, h2, e, ltrim, ltrim, List.dropWhile_cons]; simp [h1]
    · refine ⟨s, Ev.up (Ev.pos (by omega) (Ev.pos (by omega) (Ev.neg (by rw [hb]; exact h1) (Ev.val rfl)))), ?_⟩
      rw [e, ltrim, List.dropWhile_cons]; simp [h1]
theorem trimRight_is : ∀ (n : Nat) (s : ByteArray), s.size = n → Fit s → ∃ t, Ev (fun k => strings_trimRightByte.f k s 48) t ∧ S t = rtrim (S s) := by
  intro n
  induction n with
  | zero =>
    intro s h _
    have h0 : S s = [] := List.eq_nil_of_length_eq_zero (by rw [S_len]; exact h)
    exact ⟨s, Ev.up (Ev.neg (by omega) (Ev.val rfl)), by rw [h0]; rfl⟩
  | succ n ih =>
    intro s h hf
    have hl := S_len s
    obtain ⟨m, d, e⟩ : ∃ m d, S s = m ++ [d] := by
      have : S s ≠ [] := by intro he; rw [he] at hl; simp at hl; omega
      exact ⟨(S s).dropLast, (S s).getLast this, (List.dropLast_concat_getLast this).symm⟩
    have hm : m.length = n := by rw [e] at hl; simp at hl; omega
    have hf' := hf
    unfold Fit at hf'
    have hw : wrap64 ((s.size : Int) - 1) = (m.length : Int) := by rw [wrap64_id (by omega) (by omega)]; omega
    have hb : bt s (m.length : Int) = d := by rw [bt_S, e, rd_nat, getD_append_mid]
    by_cases h1 : d = 48
    · have h2 : S (s.extract 0 (m.length : Int).toNat) = m := by rw [S_take, e]; simp
      have h3 : (s.extract 0 (m.length : Int).toNat).size = n := by rw [← S_len, h2]; omega
      obtain ⟨t, ht, hs⟩ := ih _ h3 (by unfold Fit; omega)
      refine ⟨t, Ev.up (Ev.pos (by omega) ?_), by rw [hs, h2, e, rtrim_snoc, if_pos h1]⟩
      rw [hw, hb]
      exact Ev.pos (by omega) (Ev.pos (by omega) (Ev.pos h1 (Ev.pos (by omega) ht)))
    · refine ⟨s, Ev.up (Ev.pos (by omega) ?_), by rw [e, rtrim_snoc, if_neg h1]⟩
      rw [hw, hb]
      exact Ev.pos (by omega) (Ev.pos (by omega) (Ev.neg h1 (Ev.val rfl)))
theorem trim_nil_bytes (s : ByteArray) (h : s.toList = ([] : List UInt8)) : S s = [] := (toList_nil s).1 h
theorem size48 : (((⟨#[48]⟩ : ByteArray).size : Nat) : Int) = 1 := by decide
theorem bt48 : bt (⟨#[48]⟩ : ByteArray) 0 = 48 := by decide
theorem ne48 : ((⟨#[48]⟩ : ByteArray).toList == ([] : List UInt8)) = false := by rw [beq_lit]; rfl
theorem Fit.of_len {t : ByteArray} {n : Nat} (h : (S t).length ≤ n) (hn : n ≤ 1000000000000000000) : Fit t := by
  unfold Fit; rw [← S_len]; omega
theorem rtrim_len (l : List Int) : (rtrim l).length ≤ l.length := by
  have := ltrim_len l.reverse
  simp [rtrim, ltrim] at *
  exact this
theorem TrimLeft_go (s z : ByteArray) (hz : (z.size : Int) = 1) (hb : bt z 0 = 48) (hn : (z.toList == ([] : List UInt8)) = false) (h : ¬ s.toList = ([] : List UInt8))
    {t : ByteArray} (ht : Ev (fun k => strings_trimLeftByte.f k s 48) t) : Ev (fun k => strings_TrimLeft.f k s z) t := by
  have j1 : ∀ x : Bool, x = true → Ev (fun k => strings_TrimLeft.j1 k s z x) t := by
    intro x hx
    refine Ev.up (Ev.pos hx (Ev.pos (by omega) ?_))
    rw [hb]
    exact ht.tail
  have j0 : ∀ x : Bool, x = false → Ev (fun k => strings_TrimLeft.j0 k s z x) t := by
    intro x hx
    exact Ev.up (Ev.neg (by rw [hx]; exact Bool.false_ne_true) (Ev.pos hz (Ev.pos (by omega) (j1 _ (by rw [hb]; rfl)))))
  exact Ev.neg h (j0 _ hn)
theorem TrimLeft_none (s z : ByteArray) (h : s.toList = ([] : List UInt8)) : Ev (fun k => strings_TrimLeft.f k s z) s := by
  have j0 : ∀ x : Bool, x = true → Ev (fun k => strings_TrimLeft.j0 k s z x) s := fun x hx => Ev.up (Ev.pos hx (Ev.val rfl))
  exact Ev.pos h (j0 _ rfl)
theorem TrimLeft_is (s : ByteArray) (hs : Fit s) : ∃ t, Ev (fun k => strings_TrimLeft.f k s (⟨#[48]⟩ : ByteArray)) t ∧ S t = ltrim (S s) := by
  obtain ⟨t, ht, e⟩ := trimLeft_is _ s rfl hs
  by_cases h : s.toList = ([] : List UInt8)
  · exact ⟨s, TrimLeft_none s _ h, by rw [trim_nil_bytes s h]; rfl⟩
  · exact ⟨t, TrimLeft_go s _ size48 bt48 ne48 h ht, e⟩
theorem Trim_go (s z : ByteArray) (hz : (z.size : Int) = 1) (hb : bt z 0 = 48) (hn : (z.toList == ([] : List UInt8)) = false) (h : ¬ s.toList = ([] : List UInt8))
    {t u : ByteArray} (ht : Ev (fun k => strings_trimRightByte.f k s 48) t) (hu : Ev (fun k => strings_trimLeftByte.f k t 48) u) : Ev (fun k => strings_Trim.f k s z) u := by
  have j1 : ∀ x : Bool, x = true → Ev (fun k => strings_Trim.j1 k s z x) u := by
    intro x hx
    refine Ev.up (Ev.pos hx (Ev.pos (by omega) ?_))
    rw [hb]
    exact Ev.bind ht (hu.tail)
  have j0 : ∀ x : Bool, x = false → Ev (fun k => strings_Trim.j0 k s z x) u := by
    intro x hx
    exact Ev.up (Ev.neg (by rw [hx]; exact Bool.false_ne_true) (Ev.pos hz (Ev.pos (by omega) (j1 _ (by rw [hb]; rfl)))))
  exact Ev.neg h (j0 _ hn)
theorem Trim_none (s z : ByteArray) (h : s.toList = ([] : List UInt8)) : Ev (fun k => strings_Trim.f k s z) s := by
  have j0 : ∀ x : Bool, x = true → Ev (fun k => strings_Trim.j0 k s z x) s := fun x hx => Ev.up (Ev.pos hx (Ev.val rfl))
  exact Ev.pos h (j0 _ rfl)
theorem Trim_is (s : ByteArray) (hs : Fit s) : ∃ t, Ev (fun k => strings_Trim.f k s (⟨#[48]⟩ : ByteArray)) t ∧ S t = ltrim (rtrim (S s)) := by
  obtain ⟨t, ht, e⟩ := trimRight_is _ s rfl hs
  obtain ⟨u, hu, e'⟩ := trimLeft_is _ t rfl (Fit.of_len (n := s.size) (by rw [e]; exact Nat.le_trans (rtrim_len _) (by rw [S_len]; omega)) hs)
  by_cases h : s.toList = ([] : List UInt8)
  · exact ⟨s, Trim_none s _ h, by rw [trim_nil_bytes s h]; rfl⟩
  · exact ⟨u, Trim_go s _ size48 bt48 ne48 h ht hu, by rw [e', e]⟩
theorem trim_nil (l : List Int) : ltrim (rtrim l) = [] ↔ all0 l = true := by rw [ltrim_nil, all0_rtrim]
theorem isEmpty_false {l : List Int} (h : l ≠ []) : l.isEmpty = false := by cases l with
  | nil => exact absurd rfl h
  | cons => rfl
theorem form_is (n : Bool) (a b : ByteArray) (ha : Fit a) (hb : Fit b) : Ev (fun k => decimal_form.f k n a b) (fm n (S a) (S b)) := by
  have hl := S_len a
  have key : ∀ x : Bool, (x = false → (!(S a).isEmpty && allD (S a) && allD (S b) && !(decide (1 < (S a).length) && rd (S a) 0 == 48)) = true) →
      (x = true → (!(S a).isEmpty && allD (S a) && allD (S b) && !(decide (1 < (S a).length) && rd (S a) 0 == 48)) = false) →
      Ev (fun k => decimal_form.j0 k x n a b) (fm n (S a) (S b)) := by
    intro x h0 h1
    unfold fm
    refine Ev.up (Ev.split (fun hx => Ev.val ?_) (fun hx => ?_))
    · rw [h1 hx]; rfl
    · rw [h0 (by simpa using hx), Bool.true_and]
      refine Ev.split (fun hn => ?_) (fun hn => Ev.val ?_)
      · obtain ⟨t, ht, et⟩ := Trim_is a ha
        obtain ⟨u, hu, eu⟩ := Trim_is b hb
        refine Ev.bind ht (Ev.split (fun h => ?_) (fun h => Ev.val ?_))
        · rw [toList_nil, et, trim_nil] at h
          refine Ev.bind hu (Ev.val ?_)
          rw [hn, h, Bool.eq_iff_iff]
          simp [toList_nil, eu, trim_nil]
        · rw [toList_nil, et, trim_nil] at h
          simp at h; simp [h]
      · simp at hn; simp [hn]
  refine Ev.split (fun h => key true (by simp) (fun _ => ?_)) (fun h => ?_)
  · rw [toList_nil] at h; simp [h]
  · rw [toList_nil] at h
    have hne : (S a).isEmpty = false := isEmpty_false h
    have hp : 0 < (S a).length := List.length_pos_iff.2 h
    refine Ev.bind (all_is a ha) (Ev.split (fun h1 => ?_) (fun h1 => key true (by simp) (fun _ => by simp at h1; simp [h1])))
    refine Ev.bind (all_is b hb) (Ev.split (fun h2 => ?_) (fun h2 => key true (by simp) (fun _ => by simp at h2; simp [h2])))
    refine Ev.split (fun h3 => Ev.pos (by omega) (key _ ?_ ?_)) (fun h3 => key _ ?_ ?_)
    · intro h4
      rw [bt_S] at h4
      simp [hne, h1, h2, h4]
    · intro h4
      rw [bt_S] at h4
      have : 1 < (S a).length := by omega
      simp [h4, this]
    · intro _
      have : ¬ 1 < (S a).length := by omega
      simp [hne, h1, h2, this]
    · simp
theorem Check_is (n : Bool) (a b : ByteArray) (ha : Fit a) (hb : Fit b) : Ev (fun k => decimal_Check.f k n a b) (chk n (S a) (S b)) := by
  have hl := S_len a
  have hl' := S_len b
  unfold chk okD Fit at *
  refine Ev.split (fun h => Ev.val ?_) (fun h => ?_)
  · have : ¬ (S a).length + (S b).length ≤ 40 := by omega
    simp [this]
  · have hw : wrap64 (40 - (a.size : Int)) = 40 - (a.size : Int) := wrap64_id (by omega) (by omega)
    rw [hw]
    refine Ev.split (fun h1 => Ev.val ?_) (fun h1 => ?_)
    · have : ¬ (S a).length + (S b).length ≤ 40 := by omega
      simp [this]
    · have : (S a).length + (S b).length ≤ 40 := by omega
      refine Ev.bind (form_is n a b ha hb) (Ev.split (fun h2 => Ev.val ?_) (fun h2 => Ev.val ?_))
      · simp [this, h2]
      · simp [h2]
theorem refCheck_is (n : Bool) (a b : ByteArray) (ha : Fit a) (hb : Fit b) : Ev (fun k => idiomref02_Check.f k n a b) (chk n (S a) (S b)) := by
  have hl := S_len a
  have hl' := S_len b
  have ha' := ha
  have hb' := hb
  unfold Fit at ha' hb'
  have bad : ∀ x : Bool, x = true → chk n (S a) (S b) = 20 → Ev (fun k => idiomref02_Check.j0 k x n a b) (chk n (S a) (S b)) := by
    intro x hx h
    rw [h]
    exact Ev.up (Ev.pos hx (Ev.val rfl))
  have big : ¬ (S a).length + (S b).length ≤ 40 → chk n (S a) (S b) = 20 := by
    intro h; simp [chk, okD, h]
  refine Ev.split (fun h => bad _ rfl ?_) (fun h => Ev.split (fun h1 => bad _ rfl (big (by omega))) (fun h1 => Ev.split (fun h2 => bad _ rfl (big (by omega))) (fun h2 => ?_)))
  · have : S a = [] := List.eq_nil_of_length_eq_zero (by omega)
    simp [chk, okD, fm, this]
  · have hw : wrap64 ((a.size : Int) + (b.size : Int)) = (a.size : Int) + (b.size : Int) := wrap64_id (by omega) (by omega)
    rw [hw]
    by_cases h3 : (a.size : Int) + (b.size : Int) > 40
    · exact bad _ (by simpa using h3) (big (by omega))
    have h3' : (S a).length + (S b).length ≤ 40 := by omega
    have hne : (S a).isEmpty = false := by
      cases he : S a with
      | nil => rw [he] at hl; simp at hl; omega
      | cons => rfl
    refine Ev.up (Ev.neg (by simpa using h3) ?_)
    refine Ev.bind (digits_is a ha) (Ev.split (fun h4 => ?_) (fun h4 => Ev.val ?_))
    · refine Ev.bind (digits_is b hb) (Ev.split (fun h5 => ?_) (fun h5 => Ev.val ?_))
      · have tl : (¬ (decide (1 < (S a).length) && rd (S a) 0 == 48) = true) → Ev (fun k => if n = true then (idiomref02_Nought.f k n a b).bind fun t => if t = true then some 20 else some 0 else some 0) (chk n (S a) (S b)) := by
          intro h6
          simp only [Bool.not_eq_true] at h6
          refine Ev.split (fun h7 => Ev.bind (nought_is n a b ha hb) (Ev.split (fun h8 => Ev.val ?_) (fun h8 => Ev.val ?_))) (fun h7 => Ev.val ?_)
          · simp only [chk, okD, fm, h7, h8]; simp
          · simp only [Bool.not_eq_true] at h8
            simp only [chk, okD, fm, h7, h8, h4, h5, h6, hne, h3']; simp
          · simp only [Bool.not_eq_true] at h7
            simp only [chk, okD, fm, h7, h4, h5, h6, hne, h3']; simp
        refine Ev.pos (by omega) ?_
        rw [bt_S]
        refine Ev.split (fun h6 => Ev.split (fun h7 => Ev.val ?_) (fun h7 => tl ?_)) (fun h6 => tl ?_)
        · have h8 : 1 < (S a).length := by omega
          simp [chk, okD, fm, h6, h8]
        · have h8 : ¬ 1 < (S a).length := by omega
          simp [h8]
        · simp [h6]
      · simp only [Bool.not_eq_true] at h5
        simp [chk, okD, fm, h5]
    · simp only [Bool.not_eq_true] at h4
      simp [chk, okD, fm, h4]
end Go.Proofs.YtapbdblpdkoacaaDoor.Q
set_option linter.unusedVariables false
set_option linter.unusedSimpArgs false
namespace Go.Proofs.YtapbdblpdkoacaaDoor.Q
open Go.RowKit Go.Proofs.YtapbdblpdkoacaaDoorW.PrintWords Go.Proofs.YtapbdblpdkoacaaDoor.P
theorem dn48_ltrim (l : List Int) : dn48 (ltrim l) = (dn48 l).dropWhile (· == 0) := by
  induction l with
  | nil => rfl
  | cons d l ih =>
    unfold ltrim at *
    rw [List.dropWhile_cons]
    by_cases h : d = 48
    · rw [if_pos (by simpa using h), ih]
      show _ = List.dropWhile (· == 0) ((d - 48) :: dn48 l)
      rw [List.dropWhile_cons, if_pos (by simp; omega)]
    · rw [if_neg (by simpa using h)]
      show _ = List.dropWhile (· == 0) ((d - 48) :: dn48 l)
      rw [List.dropWhile_cons, if_neg (by simp; omega)]
      rfl
theorem allD_dig {l : List Int} (h : allD l = true) : Dig (dn48 l) := by
  intro d hd
  obtain ⟨x, hx, rfl⟩ := List.mem_map.1 hd
  have := List.all_eq_true.1 h x hx
  simp [isD] at this
  omega
theorem allD_ltrim {l : List Int} (h : allD l = true) : allD (ltrim l) = true := by
  rw [allD, List.all_eq_true] at *
  intro d hd
  exact h d ((List.dropWhile_suffix _).subset hd)
theorem set_mid_zero (l : List Int) (v : Int) (n : Nat) : (l ++ List.replicate (n + 1) 0).set l.length v = (l ++ [v]) ++ List.replicate n 0 := by
  rw [List.replicate_succ, set_append_mid]; simp
theorem of_loop (s : ByteArray) (hs : Fit s) (hd : allD (S s) = true) : ∀ rest pre : List Int, S s = pre ++ rest →
    Ev (fun k => decimal_of.l0 k s (dn48 pre ++ List.replicate rest.length 0) (s.size : Int) (pre.length : Int)) (dn48 (S s)) := by
  unfold Fit at hs
  intro rest
  induction rest with
  | nil =>
    intro pre h
    have hl : s.size = pre.length := by rw [← S_len, h]; simp
    exact Ev.up (Ev.neg (by omega) (Ev.val (by rw [h]; simp)))
  | cons d rest ih =>
    intro pre h
    have hl : s.size = pre.length + (rest.length + 1) := by rw [← S_len, h]; simp
    have hb : bt s (pre.length : Int) = d := by rw [bt_S, h, rd_nat, getD_append_mid]
    have h3 := ih (pre ++ [d]) (by rw [h]; simp)
    have h4 : wrap64 ((pre.length : Int) + 1) = ((pre ++ [d]).length : Int) := by rw [wrap64_id (by omega) (by omega)]; simp
    have hdd : 48 ≤ d ∧ d ≤ 57 := by
      have := List.all_eq_true.1 hd d (by rw [h]; simp)
      simpa [isD] using this
    refine Ev.up (Ev.pos (by omega) (Ev.pos (by omega) (Ev.pos (by omega) (Ev.pos (by simp [dn48]; omega) ?_))))
    rw [hb, h4]
    have e : (dn48 pre ++ List.replicate (d :: rest).length 0).set (pre.length : Int).toNat ((d - 48) % 256) = dn48 (pre ++ [d]) ++ List.replicate rest.length 0 := by
      have : (pre.length : Int).toNat = (dn48 pre).length := by simp [dn48]
      rw [this, List.length_cons, set_mid_zero]
      have : (d - 48) % 256 = d - 48 := by omega
      rw [this]; simp [dn48]
    rw [e]
    exact h3
theorem of_is (s : ByteArray) (hs : s.size ≤ 100000) (hd : allD (S s) = true) : Ev (fun k => decimal_of.f k s) (dg (val (dn48 (S s)))) := by
  obtain ⟨t, ht, et⟩ := TrimLeft_is s (by unfold Fit; omega)
  have hl : t.size ≤ s.size := by rw [← S_len, ← S_len, et]; exact ltrim_len _
  have h1 : allD (S t) = true := by rw [et]; exact allD_ltrim hd
  have h2 := of_loop t (by unfold Fit; omega) h1 (S t) [] rfl
  have e : dn48 (S t) = dg (val (dn48 (S s))) := by rw [et, dn48_ltrim, dg_lead (allD_dig hd)]
  rw [← e]
  refine Ev.bind ht (Ev.pos (by omega) (Ev.pos (by omega) ?_))
  have e2 : ((t.size : Int)).toNat = (S t).length := by rw [S_len]; simp
  rw [e2]
  exact h2
def sgnc (m n : Nat) : Int := if m < n then -1 else if m = n then 0 else 1
theorem cmp_loop : ∀ (x y p : List Int) , Dig x → Dig y → x.length = y.length → p.length + x.length ≤ 100000 →
    Ev (fun k => decimal_digits_cmp.l0 k (p ++ x) (p ++ y) ((p ++ x).length : Int) (p.length : Int)) (sgnc (val x) (val y)) := by
  intro x
  induction x with
  | nil =>
    intro y p _ _ h _
    have : y = [] := List.eq_nil_of_length_eq_zero h.symm
    subst this
    exact Ev.up (Ev.neg (by simp) (Ev.val (by simp [sgnc])))
  | cons a x ih =>
    intro y p hx hy h hl
    cases y with
    | nil => simp at h
    | cons b y =>
      have h' : x.length = y.length := by simpa using h
      simp only [List.length_cons] at hl
      have ha : rd (p ++ a :: x) (p.length : Int) = a := by rw [rd_nat, getD_append_mid]
      have hb : rd (p ++ b :: y) (p.length : Int) = b := by rw [rd_nat, getD_append_mid]
      have vx := val_lt hx.tail
      have vy := val_lt hy.tail
      have a9 := hx.head
      have b9 := hy.head
      rw [h'] at vx
      refine Ev.up (Ev.pos (by simp; omega) (Ev.pos (by omega) (Ev.pos (by simp; omega) (Ev.pos (by simp; omega) ?_))))
      rw [ha, hb]
      refine Ev.split (fun e => ?_) (fun e => Ev.split (fun e2 => Ev.val ?_) (fun e2 => Ev.val ?_))
      · subst e
        have h3 := ih y (p ++ [a]) hx.tail hy.tail h' (by simp; omega)
        have h4 : wrap64 ((p.length : Int) + 1) = ((p ++ [a]).length : Int) := by rw [wrap64_id (by omega) (by omega)]; simp
        rw [h4]
        have e3 : sgnc (val (a :: x)) (val (a :: y)) = sgnc (val x) (val y) := by
          rw [val_cons, val_cons, h']
          unfold sgnc
          by_cases c1 : val x < val y
          · rw [if_pos c1, if_pos (by omega)]
          · rw [if_neg c1, if_neg (by omega)]
            by_cases c2 : val x = val y
            · rw [if_pos c2, if_pos (by omega)]
            · rw [if_neg c2, if_neg (by omega)]
        rw [e3]
        simpa using h3
      · have h5 : (a.toNat + 1) * 10 ^ y.length ≤ b.toNat * 10 ^ y.length := Nat.mul_le_mul_right _ (by omega)
        rw [Nat.add_mul] at h5
        rw [sgnc, if_pos (by rw [val_cons, val_cons, h']; omega)]
      · have h5 : (b.toNat + 1) * 10 ^ y.length ≤ a.toNat * 10 ^ y.length := Nat.mul_le_mul_right _ (by omega)
        rw [Nat.add_mul] at h5
        rw [sgnc, if_neg (by rw [val_cons, val_cons, h']; omega), if_neg (by rw [val_cons, val_cons, h']; omega)]
theorem length_lt_of {m n : Nat} (h : (dg m).length < (dg n).length) : m < n := by
  rcases Nat.lt_or_ge m n with h1 | h1
  · exact h1
  · have h2 : n < 10 ^ (dg m).length := Nat.lt_of_le_of_lt h1 (lt_of_length_dg m)
    have := (length_dg_iff n (dg m).length).2 h2
    omega
theorem cmp_is (m n : Nat) (hm : (dg m).length ≤ 100000) (hn : (dg n).length ≤ 100000) : Ev (fun k => decimal_digits_cmp.f k (dg m) (dg n)) (sgnc m n) := by
  refine Ev.split (fun h => ?_) (fun h => Ev.split (fun h1 => Ev.val ?_) (fun h1 => Ev.val ?_))
  · have := cmp_loop (dg m) (dg n) [] (Dig_dg m) (Dig_dg n) (by omega) (by simpa using hm)
    rw [val_dg, val_dg] at this
    exact this
  · have := length_lt_of (m := m) (n := n) (by omega)
    rw [sgnc, if_pos this]
  · have := length_lt_of (m := n) (n := m) (by omega)
    rw [sgnc, if_neg (by omega), if_neg (by omega)]
end Go.Proofs.YtapbdblpdkoacaaDoor.Q
set_option linter.unusedVariables false
set_option linter.unusedSimpArgs false
namespace Go.Proofs.YtapbdblpdkoacaaDoor.Q
open Go.RowKit Go.Proofs.YtapbdblpdkoacaaDoorW.PrintWords Go.Proofs.YtapbdblpdkoacaaDoor.P
theorem snoc_cases (l : List Int) (h : l ≠ []) : ∃ m d, l = m ++ [d] := ⟨l.dropLast, l.getLast h, (List.dropLast_concat_getLast h).symm⟩
end Go.Proofs.YtapbdblpdkoacaaDoor.Q
set_option linter.unusedVariables false
set_option linter.unusedSimpArgs false
namespace Go.Proofs.YtapbdblpdkoacaaDoor.Q
open Go.RowKit Go.Proofs.YtapbdblpdkoacaaDoorW.PrintWords Go.Proofs.YtapbdblpdkoacaaDoor.P
def txd (n : Nat) : List Int := if n = 0 then [0] else dg n
def tx (n : Nat) : List Int := up48 (txd n)
theorem Dig_txd (n : Nat) : Dig (txd n) := by
  unfold txd; split
  · exact Dig.one (by omega) (by omega)
  · exact Dig_dg n
theorem val_txd (n : Nat) : val (txd n) = n := by
  unfold txd; split
  · rename_i h; rw [h]; rfl
  · exact val_dg n
theorem txd_len (n : Nat) : (txd n).length = max 1 (dg n).length := by
  unfold txd; split
  · rename_i h; rw [h, dg_zero]; rfl
  · rename_i h
    have : (dg n).length ≠ 0 := fun e => h (dg_eq_nil.1 (List.eq_nil_of_length_eq_zero e))
    omega
theorem tx_len (n : Nat) : (tx n).length = max 1 (dg n).length := by rw [tx, up48_len, txd_len]
theorem txd_ne (n : Nat) : txd n ≠ [] := by
  intro e
  have := txd_len n
  rw [e] at this
  simp at this
  omega
theorem txd_val {d : Int} {l : List Int} (h : Dig (d :: l)) (hd : d ≠ 0 ∨ l = []) : txd (val (d :: l)) = d :: l := by
  have h9 := h.head
  by_cases h0 : d = 0
  · rcases hd with hd | hd
    · exact absurd h0 hd
    · subst hd h0; rfl
  · have hp : val (d :: l) ≠ 0 := by
      rw [val_cons]
      have : 1 * 10 ^ l.length ≤ d.toNat * 10 ^ l.length := Nat.mul_le_mul_right _ (by omega)
      have : 0 < 10 ^ l.length := Nat.pow_pos (by omega)
      omega
    unfold txd
    rw [if_neg hp]
    exact dg_val h (fun e m he => by rw [← (List.cons.inj he).1]; exact h0)
theorem lessL_up : ∀ l m : List Int, lessL (up48 l) (up48 m) = lessL l m
  | [], [] => rfl
  | [], _ :: _ => rfl
  | _ :: _, [] => rfl
  | a :: l, b :: m => by
    show (decide (a + 48 < b + 48) || (decide (a + 48 = b + 48) && lessL (up48 l) (up48 m))) = _
    rw [lessL_up l m, lessL]
    have h1 : decide (a + 48 < b + 48) = decide (a < b) := by rw [decide_eq_decide]; omega
    have h2 : decide (a + 48 = b + 48) = decide (a = b) := by rw [decide_eq_decide]; omega
    rw [h1, h2]
theorem tx_inj {m n : Nat} (h : tx m = tx n) : m = n := by
  have := congrArg (fun l => val (dn48 l)) h
  simpa [tx, dn_up, val_txd] using this
theorem Cmp_is (m n : Nat) (a b : ByteArray) (ha : S a = tx m) (hb : S b = tx n) : Ev (fun k => idiomref02_Cmp.f k a b) (sgnc m n) := by
  have la : a.size = max 1 (dg m).length := by rw [← S_len, ha, tx_len]
  have lb : b.size = max 1 (dg n).length := by rw [← S_len, hb, tx_len]
  have j : ∀ x : Bool, x = decide (m < n) → Ev (fun k => idiomref02_Cmp.j0 k a b x) (sgnc m n) := by
    intro x hx
    refine Ev.up (Ev.split (fun h => Ev.val ?_) (fun h => Ev.split (fun h2 => Ev.val ?_) (fun h2 => Ev.val ?_)))
    · rw [hx, decide_eq_true_eq] at h; rw [sgnc, if_pos h]
    · rw [hx, decide_eq_true_eq] at h
      rw [toList_S, ha, hb] at h2
      rw [sgnc, if_neg h, if_pos (tx_inj h2)]
    · rw [hx, decide_eq_true_eq] at h
      rw [toList_S, ha, hb] at h2
      rw [sgnc, if_neg h, if_neg (fun e => h2 (by rw [e]))]
  refine Ev.split (fun h => j _ ?_) (fun h => Ev.split (fun h1 => j _ ?_) (fun h1 => j _ ?_))
  · have : m < n := length_lt_of (by omega)
    simp [this]
  · rw [less_S, ha, hb, tx, tx, lessL_up, lessL_val (Dig_txd m) (Dig_txd n) (by rw [txd_len, txd_len]; omega), val_txd, val_txd]
  · have : n < m := length_lt_of (by omega)
    have : ¬ m < n := by omega
    simp [this]
end Go.Proofs.YtapbdblpdkoacaaDoor.Q
set_option linter.unusedVariables false
set_option linter.unusedSimpArgs false
namespace Go.Proofs.YtapbdblpdkoacaaDoor.Q
open Go.RowKit Go.Proofs.YtapbdblpdkoacaaDoorW.PrintWords Go.Proofs.YtapbdblpdkoacaaDoor.P
theorem awake_is : Ev (fun k => idiomlaw02_awake.f k) true := Ev.of (fun k => idiomlaw02_awake.mono k) (k := 60) (by decide +kernel)
def txt (n : Bool) (a b : List Int) : List Int := (if n = true then [45] else []) ++ (a ++ (if b = [] then [] else 46 :: b))
theorem chk_len {n : Bool} {a b : List Int} (h : chk n a b = 0) : a.length + b.length ≤ 40 := by
  unfold chk okD at h
  by_cases h1 : a.length + b.length ≤ 40
  · exact h1
  · simp [h1] at h
theorem S45 : S (⟨#[45]⟩ : ByteArray) = [45] := rfl
theorem S46 : S (⟨#[46]⟩ : ByteArray) = [46] := rfl
theorem S_none : S (⟨#[]⟩ : ByteArray) = [] := rfl
theorem sz45 : (⟨#[45]⟩ : ByteArray).size = 1 := rfl
theorem sz46 : (⟨#[46]⟩ : ByteArray).size = 1 := rfl
theorem Text_is (n : Bool) (a b : ByteArray) (ha : a.size ≤ 1000) (hb : b.size ≤ 1000) : ∃ t, idiomref02_Text.f n a b = some t ∧ S t = txt n (S a) (S b) := by
  unfold idiomref02_Text.f
  by_cases hn : n = true
  · rw [if_pos hn, if_pos (by omega)]
    by_cases h : b.toList = ([] : List UInt8)
    · rw [if_pos h]
      rw [toList_nil] at h
      exact ⟨_, rfl, by rw [S_append, S45, txt, if_pos hn, h, if_pos rfl, List.append_nil]⟩
    · rw [if_neg h, if_pos (by rw [ByteArray.size_append, sz45]; omega), if_pos (by rw [ByteArray.size_append, ByteArray.size_append, sz45, sz46]; omega)]
      rw [toList_nil] at h
      exact ⟨_, rfl, by rw [S_append, S_append, S_append, S45, S46, txt, if_pos hn, if_neg h]; simp⟩
  · rw [if_neg hn]
    by_cases h : b.toList = ([] : List UInt8)
    · rw [if_pos h]
      rw [toList_nil] at h
      exact ⟨_, rfl, by rw [txt, if_neg hn, h, if_pos rfl, List.append_nil]; rfl⟩
    · rw [if_neg h, if_pos (by omega), if_pos (by rw [ByteArray.size_append, sz46]; omega)]
      rw [toList_nil] at h
      exact ⟨_, rfl, by rw [S_append, S_append, S46, txt, if_neg hn, if_neg h]; simp⟩
end Go.Proofs.YtapbdblpdkoacaaDoor.Q
set_option linter.unusedVariables false
set_option linter.unusedSimpArgs false
namespace Go.Proofs.YtapbdblpdkoacaaDoor.Q
open Go.RowKit Go.Proofs.YtapbdblpdkoacaaDoorW.PrintWords Go.Proofs.YtapbdblpdkoacaaDoor.P
theorem up48_append (l m : List Int) : up48 (l ++ m) = up48 l ++ up48 m := by simp [up48]
theorem Dig_up {l : List Int} (h : Dig l) : ∀ d ∈ up48 l, 0 ≤ d ∧ d ≤ 255 := by
  intro d hd
  obtain ⟨x, hx, rfl⟩ := List.mem_map.1 hd
  have := h x hx
  omega
end Go.Proofs.YtapbdblpdkoacaaDoor.Q
set_option linter.unusedVariables false
set_option linter.unusedSimpArgs false
namespace Go.Proofs.YtapbdblpdkoacaaDoor.Q
open Go.RowKit Go.Proofs.YtapbdblpdkoacaaDoorW.PrintWords Go.Proofs.YtapbdblpdkoacaaDoor.P
theorem chk_fm {n : Bool} {a b : List Int} (h : chk n a b = 0) : fm n a b = true := by
  unfold chk okD at h
  by_cases h1 : fm n a b = true
  · exact h1
  · simp [h1] at h
theorem fm_parts {n : Bool} {a b : List Int} (h : fm n a b = true) : a ≠ [] ∧ allD a = true ∧ allD b = true := by
  simp only [fm, Bool.and_eq_true] at h
  refine ⟨?_, h.1.1.1.2, h.1.1.2⟩
  intro e
  rw [e] at h
  simp at h
end Go.Proofs.YtapbdblpdkoacaaDoor.Q
set_option linter.unusedVariables false
set_option linter.unusedSimpArgs false
namespace Go.Proofs.YtapbdblpdkoacaaDoor.Q
open Go.RowKit Go.Proofs.YtapbdblpdkoacaaDoorW.PrintWords Go.Proofs.YtapbdblpdkoacaaDoor.P
structure Fine (n : Bool) (a b : List Int) : Prop where
  ok : chk n a b = 0
theorem Fine.len {n : Bool} {a b : List Int} (h : Fine n a b) : a.length + b.length ≤ 40 := chk_len h.ok
end Go.Proofs.YtapbdblpdkoacaaDoor.Q
set_option linter.unusedVariables false
set_option linter.unusedSimpArgs false
namespace Go.Proofs.YtapbdblpdkoacaaDoor.Q
open Go.RowKit Go.Proofs.YtapbdblpdkoacaaDoorW.PrintWords Go.Proofs.YtapbdblpdkoacaaDoor.P
theorem Fine.head {n : Bool} {a b : List Int} (h : Fine n a b) : 1 < a.length → rd a 0 ≠ 48 := by
  intro hl e
  have h2 := chk_fm h.ok
  simp [fm, hl, e] at h2
theorem Fine.ne {n : Bool} {a b : List Int} (h : Fine n a b) : a ≠ [] := (fm_parts (chk_fm h.ok)).1
theorem Fine.da {n : Bool} {a b : List Int} (h : Fine n a b) : allD a = true := (fm_parts (chk_fm h.ok)).2.1
def Z (n : Bool) (N : Nat) : Int := if n = true then -(N : Int) else (N : Int)
theorem Z_true (N : Nat) : Z true N = -(N : Int) := rfl
theorem Z_false (N : Nat) : Z false N = (N : Int) := rfl
theorem canon {a : List Int} (h0 : a ≠ []) (ha : allD a = true) (hh : 1 < a.length → rd a 0 ≠ 48) : a = tx (val (dn48 a)) := by
  cases a with
  | nil => exact absurd rfl h0
  | cons d m =>
    have e := allD_dig ha
    have h1 : dn48 (d :: m) = (d - 48) :: dn48 m := rfl
    rw [h1] at e
    rw [tx, h1, txd_val e, ← h1, up_dn]
    cases m with
    | nil => exact .inr rfl
    | cons x m => exact .inl (by have : d ≠ 48 := hh (by simp); omega)
end Go.Proofs.YtapbdblpdkoacaaDoor.Q
set_option linter.unusedVariables false
set_option linter.unusedSimpArgs false
namespace Go.Proofs.YtapbdblpdkoacaaDoor.Q
open Go.RowKit Go.Proofs.YtapbdblpdkoacaaDoorW.PrintWords Go.Proofs.YtapbdblpdkoacaaDoor.P
theorem Fine.fit {n : Bool} {a b : ByteArray} (h : Fine n (S a) (S b)) : Fit a ∧ Fit b ∧ a.size + b.size ≤ 40 := by
  have hl := h.len
  rw [S_len, S_len] at hl
  unfold Fit; omega
end Go.Proofs.YtapbdblpdkoacaaDoor.Q
set_option linter.unusedVariables false
set_option linter.unusedSimpArgs false
namespace Go.Proofs.YtapbdblpdkoacaaDoor.Q
open Go.RowKit Go.Proofs.YtapbdblpdkoacaaDoorW.PrintWords Go.Proofs.YtapbdblpdkoacaaDoor.P
theorem w_u64 (n : Int) : IntKind.u64.wrap n = n % 18446744073709551616 := by simp [IntKind.wrap, IntKind.bits, IntKind.signed]
theorem of_l1 (x0 : Int) (len : Nat) (hlen : len ≤ 1000) : ∀ (g : Nat) (P M Q : List Int), M.length ≤ g → P.length = Q.length → P.length + M.length + Q.length = len →
    Ev (fun k => decimal_Of.l1 k x0 (P ++ M ++ Q) ((len / 2 : Nat) : Int) (P.length : Int)) (decide (x0 < 0), strOfNums (P ++ M.reverse ++ Q), (⟨#[]⟩ : ByteArray)) := by
  intro g
  induction g with
  | zero =>
    intro P M Q hM hPQ hl
    have : M = [] := List.eq_nil_of_length_eq_zero (by omega)
    subst this
    simp only [List.length_nil] at hl
    refine Ev.up (Ev.neg (by omega) (Ev.val rfl))
  | succ g ih =>
    intro P M Q hM hPQ hl
    match M, hM, hl with
    | [], _, hl =>
      simp only [List.length_nil] at hl
      exact Ev.up (Ev.neg (by omega) (Ev.val rfl))
    | [a], _, hl =>
      simp only [List.length_singleton] at hl
      exact Ev.up (Ev.neg (by omega) (Ev.val rfl))
    | a :: c :: M, hM, hl =>
      obtain ⟨N, b, hN⟩ := snoc_cases (c :: M) (by simp)
      rw [hN] at hM hl ⊢
      simp only [List.length_cons, List.length_append, List.length_nil] at hM hl
      have hlen2 : (P ++ (a :: (N ++ [b])) ++ Q).length = len := by simp; omega
      have w1 : wrap64 (wrap64 (((P ++ (a :: (N ++ [b])) ++ Q).length : Int) - 1) - (P.length : Int)) = ((P.length + 1 + N.length : Nat) : Int) := by
        rw [hlen2, wrap64_id (x := (len : Int) - 1) (by omega) (by omega), wrap64_id (by omega) (by omega)]; omega
      have w2 : wrap64 ((P.length : Int) + 1) = (((P ++ [b]).length : Nat) : Int) := by rw [wrap64_id (by omega) (by omega)]; simp
      have e1 : P ++ (a :: (N ++ [b])) ++ Q = P ++ a :: (N ++ b :: Q) := by simp
      have e2 : P ++ (a :: (N ++ [b])) ++ Q = (P ++ a :: N) ++ b :: Q := by simp
      have l2 : (P ++ a :: N).length = P.length + 1 + N.length := by simp; omega
      have r1 : rd (P ++ (a :: (N ++ [b])) ++ Q) (P.length : Int) = a := by rw [e1, rd_nat, getD_append_mid]
      have r2 : rd (P ++ (a :: (N ++ [b])) ++ Q) ((P.length + 1 + N.length : Nat) : Int) = b := by rw [e2, rd_nat, ← l2, getD_append_mid]
      have s1 : ((P ++ (a :: (N ++ [b])) ++ Q).set (P.length : Int).toNat b).set ((P.length + 1 + N.length : Nat) : Int).toNat a = (P ++ [b]) ++ N ++ (a :: Q) := by
        have n1 : (P.length : Int).toNat = P.length := by omega
        have n2 : ((P.length + 1 + N.length : Nat) : Int).toNat = (P ++ b :: N).length := by simp; omega
        rw [n1, e1, set_append_mid, n2]
        have e3 : P ++ b :: (N ++ b :: Q) = (P ++ b :: N) ++ b :: Q := by simp
        rw [e3, set_append_mid]; simp
      have K := ih (P ++ [b]) N (a :: Q) (by omega) (by simp; omega) (by simp; omega)
      have e4 : P ++ [b] ++ N.reverse ++ a :: Q = P ++ (a :: (N ++ [b])).reverse ++ Q := by simp
      rw [e4] at K
      refine Ev.up (Ev.pos (by omega) ?_)
      rw [w1, w2, r1, r2, s1]
      exact Ev.pos (by omega) (Ev.pos (by rw [hlen2]; omega) (Ev.pos (by omega) (Ev.pos (by rw [hlen2]; omega) K)))
theorem of_l0 (x0 : Int) (r : Bool × ByteArray × ByteArray) : ∀ (g u : Nat) (acc : List Int), u < 10 ^ (g + 1) → u < 18446744073709551616 → acc.length + g ≤ 40 →
    (∀ len : Nat, len = (acc ++ (up48 (txd u)).reverse).length → len ≤ 1000 → Ev (fun k => decimal_Of.l1 k x0 (acc ++ (up48 (txd u)).reverse) ((len / 2 : Nat) : Int) 0) r) →
    Ev (fun k => decimal_Of.l0 k x0 (u : Int) acc) r := by
  intro g
  induction g with
  | zero =>
    intro u acc hu hb hl K
    have h10 : u < 10 := by simpa using hu
    have t1 : Int.tmod (u : Int) 10 = ((u % 10 : Nat) : Int) := rfl
    have t2 : Int.tdiv (u : Int) 10 = ((u / 10 : Nat) : Int) := rfl
    have e1 : (IntKind.u64.wrap (48 + Int.tmod (u : Int) 10)) % 256 = (u : Int) + 48 := by rw [t1, w_u64]; omega
    have e2 : IntKind.u64.wrap (Int.tdiv (u : Int) 10) = 0 := by rw [t2, w_u64]; omega
    have e3 : (up48 (txd u)).reverse = [(u : Int) + 48] := by
      unfold txd
      split
      · rename_i h; subst h; rfl
      · rename_i h
        rw [dg_pos h, show u / 10 = 0 by omega, dg_zero, show u % 10 = u by omega]; rfl
    rw [e3] at K
    have hlen : (acc ++ [(u : Int) + 48]).length = acc.length + 1 := by simp
    have w : wrap64 (((acc ++ [(u : Int) + 48]).length : Int) / 2) = (((acc ++ [(u : Int) + 48]).length / 2 : Nat) : Int) := by rw [wrap64_id (by omega) (by omega)]; omega
    refine Ev.up (Ev.pos (by omega) ?_)
    rw [e1, e2]
    refine Ev.bindS (Ev.pos rfl ?_)
    rw [w]
    exact K _ rfl (by omega)
  | succ g ih =>
    intro u acc hu hb hl K
    have t1 : Int.tmod (u : Int) 10 = ((u % 10 : Nat) : Int) := rfl
    have t2 : Int.tdiv (u : Int) 10 = ((u / 10 : Nat) : Int) := rfl
    have e1 : (IntKind.u64.wrap (48 + Int.tmod (u : Int) 10)) % 256 = ((u % 10 : Nat) : Int) + 48 := by rw [t1, w_u64]; omega
    have e2 : IntKind.u64.wrap (Int.tdiv (u : Int) 10) = ((u / 10 : Nat) : Int) := by rw [t2, w_u64]; omega
    have hlen : (acc ++ [((u % 10 : Nat) : Int) + 48]).length = acc.length + 1 := by simp
    refine Ev.up (Ev.pos (by omega) ?_)
    rw [e1, e2]
    refine Ev.bindS (Ev.split (fun h => ?_) (fun h => ?_))
    · have h10 : u / 10 = 0 := by omega
      have e3 : (up48 (txd u)).reverse = [((u % 10 : Nat) : Int) + 48] := by
        unfold txd
        split
        · rename_i h; subst h; rfl
        · rename_i h
          rw [dg_pos h, h10, dg_zero]; rfl
      rw [e3] at K
      have w : wrap64 (((acc ++ [((u % 10 : Nat) : Int) + 48]).length : Int) / 2) = (((acc ++ [((u % 10 : Nat) : Int) + 48]).length / 2 : Nat) : Int) := by rw [wrap64_id (by omega) (by omega)]; omega
      rw [w]
      exact K _ rfl (by omega)
    · have h10 : u / 10 ≠ 0 := by omega
      have hu0 : u ≠ 0 := by omega
      have e3 : acc ++ (up48 (txd u)).reverse = (acc ++ [((u % 10 : Nat) : Int) + 48]) ++ (up48 (txd (u / 10))).reverse := by
        have : txd u = txd (u / 10) ++ [((u % 10 : Nat) : Int)] := by
          unfold txd; rw [if_neg hu0, if_neg h10, dg_pos hu0]
        rw [this, up48_append, List.reverse_append]; simp [up48]
      rw [e3] at K
      exact ih (u / 10) _ (by rw [Nat.pow_succ] at hu; omega) (by omega) (by omega) K
theorem Of_is (x : Int) (hx : -9223372036854775808 ≤ x ∧ x ≤ 9223372036854775807) : ∃ t, Ev (fun k => decimal_Of.f k x) (decide (x < 0), t, (⟨#[]⟩ : ByteArray)) ∧ S t = tx x.natAbs := by
  have hr : ∀ d ∈ up48 (txd x.natAbs), 0 ≤ d ∧ d ≤ 255 := Dig_up (Dig_txd _)
  refine ⟨strOfNums (up48 (txd x.natAbs)), ?_, S_str hr⟩
  have J : Ev (fun k => decimal_Of.j0 k x ((x.natAbs : Nat) : Int)) (decide (x < 0), strOfNums (up48 (txd x.natAbs)), (⟨#[]⟩ : ByteArray)) := by
    refine Ev.up (of_l0 x _ 19 x.natAbs [] (by omega) (by omega) (by simp) ?_)
    intro len e hl
    have := of_l1 x len hl _ [] (up48 (txd x.natAbs)).reverse [] (Nat.le_refl _) rfl (by rw [e]; simp)
    rw [List.reverse_reverse] at this
    simpa using this
  by_cases hn : x < 0
  · refine Ev.pos hn ?_
    have e : IntKind.u64.wrap (-(IntKind.u64.wrap x)) = ((x.natAbs : Nat) : Int) := by rw [w_u64, w_u64]; omega
    rw [e]; exact J
  · refine Ev.neg hn ?_
    have e : IntKind.u64.wrap x = ((x.natAbs : Nat) : Int) := by rw [w_u64]; omega
    rw [e]; exact J
theorem int64_l0 (X : List Int) (dX : Dig X) (hl : X.length ≤ 100) (hv : val X < 18446744073709551616) (n : Bool) (a b : ByteArray) (r : Int × Int)
    (hr : r = (if n = true then wrap64 (IntKind.u64.wrap (-((val X : Nat) : Int))) else wrap64 ((val X : Nat) : Int), 0)) : ∀ (Q P : List Int), X = P ++ Q →
    Ev (fun k => decimal_Int64.l0 k ((val P : Nat) : Int) X (X.length : Int) (P.length : Int) n a b) r := by
  intro Q
  induction Q with
  | nil =>
    intro P h
    have hP : P = X := by rw [h]; simp
    subst hP
    refine Ev.up (Ev.neg (by omega) (Ev.split (fun hn => Ev.val ?_) (fun hn => Ev.val ?_)))
    · rw [hr, if_pos hn]
    · rw [hr, if_neg hn]
  | cons d Q ih =>
    intro P h
    have hlen : X.length = P.length + (Q.length + 1) := by rw [h]; simp
    have hd : 0 ≤ d ∧ d ≤ 9 := dX d (by rw [h]; simp)
    have hrd : rd X (P.length : Int) = d := by rw [rd_nat, h, getD_append_mid]
    have hle : val (P ++ [d]) ≤ val X := by
      have e : X = (P ++ [d]) ++ Q := by rw [h]; simp
      rw [e, val_append (P ++ [d])]
      have : 0 < 10 ^ Q.length := Nat.pow_pos (by omega)
      have := Nat.le_mul_of_pos_right (val (P ++ [d])) this
      omega
    have hs := val_snoc P d
    have e : IntKind.u64.wrap ((IntKind.u64.wrap (((val P : Nat) : Int) * 10)) + (IntKind.u64.wrap d)) = ((val (P ++ [d]) : Nat) : Int) := by
      rw [w_u64, w_u64, w_u64]
      rw [hs] at hle ⊢
      omega
    have w : wrap64 ((P.length : Int) + 1) = (((P ++ [d]).length : Nat) : Int) := by rw [wrap64_id (by omega) (by omega)]; simp
    refine Ev.up (Ev.pos (by omega) ?_)
    rw [hrd, e, w]
    exact Ev.pos (by omega) (Ev.pos (by omega) (ih (P ++ [d]) (by rw [h]; simp)))
def whole (n : Bool) (a b : List Int) : Bool := all0 b && (decide (val (dn48 a) < 9223372036854775808) || (decide (val (dn48 a) = 9223372036854775808) && n))
theorem of_max : Ev (fun k => decimal_of.f k (⟨#[57, 50, 50, 51, 51, 55, 50, 48, 51, 54, 56, 53, 52, 55, 55, 53, 56, 48, 56]⟩ : ByteArray)) (dg 9223372036854775808) := by
  have := of_is (⟨#[57, 50, 50, 51, 51, 55, 50, 48, 51, 54, 56, 53, 52, 55, 55, 53, 56, 48, 56]⟩ : ByteArray) (by decide) (by decide)
  exact this
theorem Int64_is (n : Bool) (a b : ByteArray) (ha : Fit a) (hb : Fit b) : Ev (fun k => decimal_Int64.f k n a b) (if chk n (S a) (S b) = 0 then (if whole n (S a) (S b) = true then (Z n (val (dn48 (S a))), 0) else (0, 22)) else (0, chk n (S a) (S b))) := by
  by_cases h : chk n (S a) (S b) = 0
  · have hF : Fine n (S a) (S b) := ⟨h⟩
    have hl := hF.fit.2.2
    have ho := of_is a (by omega) hF.da
    have hA : val (dn48 (S a)) < 10 ^ 40 := by
      have := val_lt (allD_dig hF.da)
      rw [dn48_len, S_len] at this
      exact Nat.lt_of_lt_of_le this (Nat.pow_le_pow_right (by omega) (by omega))
    have lA : (dg (val (dn48 (S a)))).length ≤ 40 := (length_dg_iff _ 40).2 hA
    obtain ⟨t, ht, et⟩ := Trim_is b hb
    have l9 : (dg 9223372036854775808).length ≤ 100000 := Nat.le_trans ((length_dg_iff _ 40).2 (by decide)) (by omega)
    have hc := cmp_is (val (dn48 (S a))) 9223372036854775808 (by omega) l9
    have ht0 : t.toList = ([] : List UInt8) ↔ all0 (S b) = true := by rw [toList_nil, et, trim_nil]
    rw [if_pos h]
    generalize hAA : val (dn48 (S a)) = A at *
    have j0 : ∀ x : Bool, x = !(whole n (S a) (S b)) → Ev (fun k => decimal_Int64.j0 k (dg A) x n a b) (if whole n (S a) (S b) = true then (Z n A, 0) else (0, 22)) := by
      intro x hx
      by_cases hw : whole n (S a) (S b) = true
      · rw [if_pos hw]
        rw [hw] at hx
        have hb2 : A < 9223372036854775808 ∨ (A = 9223372036854775808 ∧ n = true) := by
          simp only [whole, hAA, Bool.and_eq_true, Bool.or_eq_true, decide_eq_true_eq] at hw
          exact hw.2
        have := int64_l0 (dg A) (Dig_dg A) (by omega) (by rw [val_dg]; omega) n a b (Z n A, 0) (by
          rw [val_dg]
          congr 1
          cases n with
          | false =>
            rw [if_neg (by decide), Z_false, wrap64_id (by omega) (by rcases hb2 with h | h; · omega
                                                                      · exact absurd h.2 (by decide))]
          | true =>
            rw [if_pos rfl, Z_true, w_u64]; unfold wrap64; omega) (dg A) [] rfl
        exact Ev.up (Ev.neg (by rw [hx]; decide) this)
      · rw [if_neg hw]
        exact Ev.up (Ev.pos (by rw [hx]; simp only [Bool.not_eq_true] at hw; rw [hw]; rfl) (Ev.val rfl))
    refine Ev.bind (Check_is n a b ha hb) (Ev.pos h (Ev.bind of_max (Ev.bind ho (Ev.bind hc (Ev.bind ht (Ev.split (fun h1 => ?_) (fun h1 => ?_)))))))
    · rw [ht0] at h1
      unfold sgnc
      have hw : whole n (S a) (S b) = (decide (A < 9223372036854775808) || (decide (A = 9223372036854775808) && n)) := by
        unfold whole; rw [h1, hAA]; rfl
      rcases Nat.lt_trichotomy A 9223372036854775808 with h2 | h2 | h2
      · rw [if_pos h2]
        exact Ev.neg (by omega) (Ev.neg (by omega) (j0 _ (by rw [hw, decide_eq_true h2]; rfl)))
      · rw [if_neg (by omega), if_pos h2]
        exact Ev.neg (by omega) (Ev.pos rfl (j0 _ (by rw [hw, decide_eq_false (by omega), decide_eq_true h2]; simp)))
      · rw [if_neg (by omega), if_neg (by omega)]
        exact Ev.pos (by omega) (j0 _ (by rw [hw, decide_eq_false (by omega), decide_eq_false (by omega)]; rfl))
    · refine j0 _ ?_
      have : all0 (S b) = false := by rw [Bool.eq_false_iff]; exact fun e => h1 (ht0.2 e)
      unfold whole; rw [this]; rfl
  · rw [if_neg h]
    exact Ev.bind (Check_is n a b ha hb) (Ev.neg h (Ev.val rfl))
theorem wf_i64' {x : Int} (h : (Lit.int .i64 x).wf = true) : -9223372036854775808 ≤ x ∧ x ≤ 9223372036854775807 := by
  simp [Lit.wf, IntKind.min, IntKind.max, IntKind.signed, IntKind.bits] at h
  omega
end Go.Proofs.YtapbdblpdkoacaaDoor.Q
set_option linter.unusedVariables false
set_option linter.unusedSimpArgs false
namespace Go.Proofs.YtapbdblpdkoacaaDoor.Q
open Go.RowKit Go.Proofs.YtapbdblpdkoacaaDoorW.PrintWords Go.Proofs.YtapbdblpdkoacaaDoor.P
theorem u8_48 (d : Nat) (h : d < 10) : (((UInt8.ofNat (48 + d)).toNat : Nat) : Int) = (d : Int) + 48 := by
  have : (UInt8.ofNat (48 + d)).toNat = 48 + d := by rw [UInt8.toNat_ofNat']; omega
  rw [this]; omega
theorem dec_tx (u : Nat) : (Lib.decDigits u).map (fun b => (b.toNat : Int)) = tx u := by
  induction u using Nat.strongRecOn with
  | _ u ih =>
    rw [Lib.decDigits]
    by_cases h : u < 10
    · rw [dif_pos h]
      show [(((UInt8.ofNat (48 + u)).toNat : Nat) : Int)] = tx u
      rw [u8_48 u h, tx, txd]
      split
      · rename_i e; subst e; rfl
      · rename_i e
        rw [dg_pos e, show u / 10 = 0 by omega, dg_zero, show u % 10 = u by omega]; rfl
    · rw [dif_neg h, List.map_append, ih (u / 10) (by omega)]
      have e : txd u = txd (u / 10) ++ [((u % 10 : Nat) : Int)] := by
        unfold txd; rw [if_neg (by omega), if_neg (by omega), dg_pos (by omega)]
      rw [tx, tx, e, up48_append]
      congr 1
      show [(((UInt8.ofNat (48 + u % 10)).toNat : Nat) : Int)] = _
      rw [u8_48 _ (by omega)]; rfl
theorem S_mk (l : List UInt8) : S ⟨l.toArray⟩ = l.map (fun b => (b.toNat : Int)) := rfl
theorem refOf_is (x : Int) (hx : -9223372036854775808 ≤ x ∧ x ≤ 9223372036854775807) : ∃ t, idiomref02_Of.f x = some (decide (x < 0), t, (⟨#[]⟩ : ByteArray)) ∧ S t = tx x.natAbs := by
  have e : strconv_FormatInt.f x 10 = some ⟨(Lib.itoa x).toArray⟩ := by
    unfold strconv_FormatInt.f; rw [if_pos ⟨rfl, hx.1, hx.2⟩]
  unfold idiomref02_Of.f
  rw [e]
  by_cases h : x < 0
  · have eS : S (⟨(Lib.itoa x).toArray⟩ : ByteArray) = 45 :: tx x.natAbs := by
      rw [S_mk, Lib.itoa, if_pos h, List.map_cons, dec_tx]; rfl
    have hs : 1 ≤ ((⟨(Lib.itoa x).toArray⟩ : ByteArray).size : Int) := by
      have := congrArg List.length eS
      rw [S_len] at this
      simp at this; omega
    refine ⟨(⟨(Lib.itoa x).toArray⟩ : ByteArray).extract 1 (⟨(Lib.itoa x).toArray⟩ : ByteArray).size, ?_, ?_⟩
    · show (if x < 0 then _ else _) = _
      rw [if_pos h, if_pos hs, decide_eq_true h]
    · rw [S_drop, eS]; rfl
  · refine ⟨⟨(Lib.itoa x).toArray⟩, ?_, ?_⟩
    · show (if x < 0 then _ else _) = _
      rw [if_neg h, decide_eq_false h]
    · rw [S_mk, Lib.itoa, if_neg h, dec_tx, show x.toNat = x.natAbs by omega]
theorem parse_go (M : Nat) (hM : M ≤ 18446744073709551615) : ∀ (D : List Int) (l : List UInt8) (acc : Nat), Dig D → l.map (fun b => (b.toNat : Int)) = up48 D → acc * 10 ^ D.length + val D ≤ M →
    Lib.parseUintM M acc l = .ok (acc * 10 ^ D.length + val D) := by
  intro D
  induction D with
  | nil =>
    intro l acc _ e _
    have : l = [] := by cases l with
      | nil => rfl
      | cons c r => simp [up48] at e
    subst this
    simp [Lib.parseUintM, val]
  | cons d D ih =>
    intro l acc hD e h
    cases l with
    | nil => simp [up48] at e
    | cons c r =>
      have e' : ((c.toNat : Nat) : Int) = d + 48 ∧ r.map (fun b => (b.toNat : Int)) = up48 D := by
        simp only [List.map_cons, up48, List.cons.injEq] at e
        exact ⟨e.1, e.2⟩
      have h0 := hD.head
      have hp : 0 < 10 ^ D.length := Nat.pow_pos (by omega)
      have hs : (acc * 10 + d.toNat) * 10 ^ D.length + val D = acc * 10 ^ (d :: D).length + val (d :: D) := by
        rw [val_cons, List.length_cons, Nat.pow_succ, Nat.add_mul, Nat.mul_assoc, Nat.mul_comm 10 (10 ^ D.length)]; omega
      rw [← hs] at h ⊢
      have hle : acc * 10 + d.toNat ≤ (acc * 10 + d.toNat) * 10 ^ D.length := Nat.le_mul_of_pos_right _ hp
      have hd : c.toNat - 48 = d.toNat := by omega
      rw [Lib.parseUintM, if_pos (by omega), if_neg (by omega), if_neg (by omega), hd]
      exact ih r (acc * 10 + d.toNat) hD.tail e'.2 h
theorem parse_uint {l : List UInt8} {A : Nat} (e : l.map (fun b => (b.toNat : Int)) = tx A) (hA : A ≤ 18446744073709551615) : Lib.parseUintB 64 l = .ok A := by
  have hl : l ≠ [] := by
    intro h; subst h
    have := congrArg List.length e
    rw [tx_len] at this
    simp at this; omega
  have h := parse_go 18446744073709551615 (Nat.le_refl _) (txd A) l 0 (Dig_txd A) e (by rw [val_txd]; omega)
  rw [val_txd, Nat.zero_mul, Nat.zero_add] at h
  unfold Lib.parseUintB
  rw [if_neg hl]
  exact h
theorem parse_int (n : Bool) (A : Nat) (l : List UInt8) (e : l.map (fun b => (b.toNat : Int)) = (if n = true then [45] else []) ++ tx A) (hA : A < 9223372036854775808 ∨ (A = 9223372036854775808 ∧ n = true)) :
    Lib.parseIntB 64 l = .ok (Z n A) := by
  have h63 : 2 ^ (64 - 1) = 9223372036854775808 := by decide
  cases l with
  | nil =>
    have := congrArg List.length e
    rw [List.length_append, tx_len] at this
    simp at this
    omega
  | cons c r =>
    cases n with
    | true =>
      rw [if_pos rfl, List.map_cons, List.singleton_append] at e
      have ec : ((c.toNat : Nat) : Int) = 45 := (List.cons.inj e).1
      have hc : c.toNat = 45 := by omega
      have hp := parse_uint (List.cons.inj e).2 (by omega)
      unfold Lib.parseIntB
      simp only [hc, or_true, if_true, hp, h63]
      rw [if_neg (by simp), if_neg (by simp; omega), Z_true]
    | false =>
      rw [if_neg (by decide), List.nil_append] at e
      have hD := Dig_txd A
      have ec : 48 ≤ ((c.toNat : Nat) : Int) ∧ ((c.toNat : Nat) : Int) ≤ 57 := by
        cases hx : txd A with
        | nil => exact absurd hx (txd_ne A)
        | cons d m =>
          rw [tx, hx] at e
          have := (List.cons.inj e).1
          rw [hx] at hD
          have := hD.head
          simp only at *
          omega
      have h1 : ¬ (c.toNat = 43 ∨ c.toNat = 45) := by omega
      have h2 : ¬ c.toNat = 45 := by omega
      have hp := parse_uint e (by omega)
      have hA' : ¬ 9223372036854775808 ≤ A := by rcases hA with h | h; · omega
                                                 · exact absurd h.2 (by decide)
      unfold Lib.parseIntB
      simp only [if_neg h1, hp, h63]
      rw [if_neg (by simp [hA']), if_neg (by simp [h2]), if_neg h2, Z_false]
theorem lit_tx (s : ByteArray) (h0 : S s ≠ []) (ha : allD (S s) = true) (hh : 1 < (S s).length → rd (S s) 0 ≠ 48) (N : Nat) (hN : val (dn48 (S s)) = N) : S s = tx N := by
  rw [← hN]; exact canon h0 ha hh
theorem refInt64_is (n : Bool) (a b : ByteArray) (ha : Fit a) (hb : Fit b) : Ev (fun k => idiomref02_Int64.f k n a b) (if chk n (S a) (S b) = 0 then (if whole n (S a) (S b) = true then (Z n (val (dn48 (S a))), 0) else (0, 22)) else (0, chk n (S a) (S b))) := by
  by_cases h : chk n (S a) (S b) = 0
  · have hF : Fine n (S a) (S b) := ⟨h⟩
    have hl := hF.fit.2.2
    have ea : S a = tx (val (dn48 (S a))) := canon hF.ne hF.da hF.head
    rw [if_pos h]
    generalize hAA : val (dn48 (S a)) = A at *
    have j1 : ∀ x : Bool, x = !(whole n (S a) (S b)) → Ev (fun k => idiomref02_Int64.j1 k x n a b) (if whole n (S a) (S b) = true then (Z n A, 0) else (0, 22)) := by
      intro x hx
      by_cases hw : whole n (S a) (S b) = true
      · rw [if_pos hw]
        rw [hw] at hx
        have hb2 : A < 9223372036854775808 ∨ (A = 9223372036854775808 ∧ n = true) := by
          simp only [whole, hAA, Bool.and_eq_true, Bool.or_eq_true, decide_eq_true_eq] at hw
          exact hw.2
        obtain ⟨t, ht, et⟩ := Text_is n a (⟨#[]⟩ : ByteArray) (by omega) (by decide)
        have e2 : t.data.toList.map (fun b => (b.toNat : Int)) = (if n = true then [45] else []) ++ tx A := by
          have : S t = (if n = true then [45] else []) ++ tx A := by
            rw [et, txt, S_none, if_pos rfl, List.append_nil, ← ea]
          exact this
        have ts : t.size ≤ 1048576 := by
          have := congrArg List.length et
          rw [S_len] at this
          unfold txt at this
          rw [S_none, if_pos rfl, List.append_nil, List.length_append, S_len] at this
          split at this <;> simp at this <;> omega
        have hP : strconv_ParseInt.f t 10 64 = some (Z n A, none) := by
          unfold strconv_ParseInt.f
          rw [if_pos ⟨rfl, rfl, ts⟩, parse_int n A _ e2 hb2]
        exact Ev.up (Ev.neg (by rw [hx]; decide) (Ev.bindV ht (Ev.bindV hP (Ev.val rfl))))
      · rw [if_neg hw]
        exact Ev.up (Ev.pos (by rw [hx]; simp only [Bool.not_eq_true] at hw; rw [hw]; rfl) (Ev.val rfl))
    have j0 : ∀ (s : ByteArray) (M : Nat), S s = tx M → M = (if n = true then 9223372036854775808 else 9223372036854775807) → Ev (fun k => idiomref02_Int64.j0 k s n a b) (if whole n (S a) (S b) = true then (Z n A, 0) else (0, 22)) := by
      intro s M hs hM
      refine Ev.up (Ev.bind (noughts_is b hb) (Ev.split (fun h0 => Ev.bind (Cmp_is A M a s ea hs) (j1 _ ?_)) (fun h0 => j1 _ ?_)))
      · unfold whole
        rw [h0, hAA, Bool.true_and]
        unfold sgnc
        cases n with
        | true =>
          rw [if_pos rfl] at hM
          rcases Nat.lt_trichotomy A M with h1 | h1 | h1
          · rw [if_pos h1, decide_eq_true (show A < 9223372036854775808 by omega)]; rfl
          · rw [if_neg (by omega), if_pos h1, decide_eq_false (show ¬ A < 9223372036854775808 by omega), decide_eq_true (show A = 9223372036854775808 by omega)]; rfl
          · rw [if_neg (by omega), if_neg (by omega), decide_eq_false (show ¬ A < 9223372036854775808 by omega), decide_eq_false (show ¬ A = 9223372036854775808 by omega)]; rfl
        | false =>
          rw [if_neg (by decide)] at hM
          rcases Nat.lt_trichotomy A M with h1 | h1 | h1
          · rw [if_pos h1, decide_eq_true (show A < 9223372036854775808 by omega)]; rfl
          · rw [if_neg (by omega), if_pos h1, decide_eq_true (show A < 9223372036854775808 by omega)]; rfl
          · rw [if_neg (by omega), if_neg (by omega), decide_eq_false (show ¬ A < 9223372036854775808 by omega), Bool.and_false]; rfl
      · simp only [Bool.not_eq_true] at h0
        unfold whole; rw [h0]; rfl
    refine Ev.bind (refCheck_is n a b ha hb) (Ev.pos h (Ev.split (fun hn => j0 _ 9223372036854775808 ?_ ?_) (fun hn => j0 _ 9223372036854775807 ?_ ?_)))
    · exact lit_tx _ (by decide) (by decide) (by decide) _ (by decide)
    · rw [if_pos hn]
    · exact lit_tx _ (by decide) (by decide) (by decide) _ (by decide)
    · rw [if_neg hn]
  · rw [if_neg h]
    exact Ev.bind (refCheck_is n a b ha hb) (Ev.neg h (Ev.val rfl))
theorem whole_law (x : Int) (n : Bool) (a b : ByteArray) (hwf : (Lit.int .i64 x).wf = true) (ha : Fit a) (hb : Fit b) : ∃ k, idiomlaw02_DecimalWhole.f k x n a b = some true := by
  have hx := wf_i64' hwf
  obtain ⟨t, ht, et⟩ := Of_is x hx
  obtain ⟨u, hu, eu⟩ := refOf_is x hx
  obtain rfl : t = u := S_inj (by rw [et, eu])
  exact Ev.rounds (Ev.bind (Int64_is n a b ha hb) (Ev.bind (refInt64_is n a b ha hb) (Ev.bind ht (Ev.bindV hu (Ev.pos (by simp) (Ev.pos rfl (Ev.pos rfl awake_is.tail)))))))
end Go.Proofs.YtapbdblpdkoacaaDoor.Q
