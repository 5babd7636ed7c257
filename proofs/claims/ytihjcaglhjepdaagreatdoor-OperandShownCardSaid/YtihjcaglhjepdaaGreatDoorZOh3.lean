/- A part of the proof. Part 4 of 7; its texts were written by programs, some out of the kit's print. -/
import Derived.Test.YtihjcaglhjepdaaGreatDoorZOh2
namespace Go.Proofs.YtihjcaglhjepdaaGreatDoor.P
open Go.RowKit Go.Proofs.YtihjcaglhjepdaaGreatDoorW.PrintWords Go.Proofs.YtihjcaglhjepdaaGreatDoorW.PrintLast Go.Proofs.YtihjcaglhjepdaaGreatDoorW.PrintMore
attribute [local go_sem] max2_int max_two
set_option linter.unusedVariables false
set_option linter.unusedSimpArgs false
def stringslite_HasSuffix.f (a0 : ByteArray) (a1 : ByteArray) : Option (Bool) := if (a0.size : Int) ≥ (a1.size : Int) then (if 0 ≤ (wrap64 ((a0.size : Int) - (a1.size : Int))) then (if (wrap64 ((a0.size : Int) - (a1.size : Int))) ≤ (a0.size : Int) then (some ((a0.extract ((wrap64 ((a0.size : Int) - (a1.size : Int))) : Int).toNat a0.size).toList == a1.toList)) else (none)) else (none)) else (some false)
set_option maxHeartbeats 8000000 in
set_option maxRecDepth 100000 in
theorem stringslite_HasSuffix.calls (a0 : ByteArray) (a1 : ByteArray) (r : Bool) (w : World) (h : stringslite_HasSuffix.f a0 a1 = some r) :
    Calls Tryz.prog 67 #[.string a0, .string a1] w fun e w' => e = .returned (.bool r) ∧ Drawn0 w w' := by
 unfold stringslite_HasSuffix.f at h
 have H := h
 clear h
 by_cases c3 : (a0.size : Int) ≥ (a1.size : Int)
 ·rw [if_pos c3] at H
  have c3b0 : decide ((a1.size : Int) ≤ (a0.size : Int)) = true := decide_eq_true c3
  have c3b1 : decide (a1.size ≤ a0.size) = true := decide_eq_true (Int.ofNat_le.mp c3)
  clear c3
  obtain ⟨ji4, hji4⟩ : ∃ j_ : Int, (wrap64 ((a0.size : Int) - (a1.size : Int))) = j_ := ⟨_, rfl⟩
  replace H : (if 0 ≤ (ji4) then (if (ji4) ≤ (a0.size : Int) then (some ((a0.extract ((ji4) : Int).toNat a0.size).toList == a1.toList)) else (none)) else (none)) = some r := by first | (rw [hji4] at H; exact H) | (simp only [hji4] at H ⊢; exact H)
  have hji4w : (IntKind.i64.wrap ((a0.size : Int) - (a1.size : Int))) = ji4 := (i64_w _).trans hji4
  by_cases c5 : 0 ≤ (ji4)
  ·rw [if_pos c5] at H
   have c5b0 := eq_true c5
   have c5b1 : decide (0 ≤ (ji4)) = true := decide_eq_true c5
   clear c5
   by_cases c6 : (ji4) ≤ (a0.size : Int)
   ·rw [if_pos c6] at H
    have c6b0 := eq_true c6
    have c6b1 : decide ((ji4) ≤ (a0.size : Int)) = true := decide_eq_true c6
    clear c6
    obtain rfl := Option.some.inj H
    go_enter Tryz.func67, Tryz.ntmps67
    go_wp2
    go_ret
    exact ⟨by first | rfl | (simp; done) | (simp only [← hji4] <;> (first | rfl | simp)) | (simp [*]; done), by repeat (first | exact Drawn0.refl _ | apply Drawn0.step)⟩
   ·rw [if_neg c6] at H
    exact absurd H (by simp)
  ·rw [if_neg c5] at H
   exact absurd H (by simp)
 ·rw [if_neg c3] at H
  have c3b0 : decide ((a1.size : Int) ≤ (a0.size : Int)) = false := decide_eq_false c3
  have c3b1 : decide (a1.size ≤ a0.size) = false := decide_eq_false (fun h => c3 (Int.ofNat_le.mpr h))
  clear c3
  obtain rfl := Option.some.inj H
  go_enter Tryz.func67, Tryz.ntmps67
  go_wp2
  go_ret
  exact ⟨by first | rfl | (simp; done) | (simp [*]; done), by repeat (first | exact Drawn0.refl _ | apply Drawn0.step)⟩
attribute [local go_sem] max2_int max_two
set_option linter.unusedVariables false
set_option linter.unusedSimpArgs false
def strings_HasSuffix.f (a0 : ByteArray) (a1 : ByteArray) : Option (Bool) := (stringslite_HasSuffix.f a0 a1).bind fun t119 => (some t119)
set_option maxHeartbeats 8000000 in
set_option maxRecDepth 100000 in
theorem strings_HasSuffix.calls (a0 : ByteArray) (a1 : ByteArray) (r : Bool) (w : World) (h : strings_HasSuffix.f a0 a1 = some r) :
    Calls Tryz.prog 37 #[.string a0, .string a1] w fun e w' => e = .returned (.bool r) ∧ Drawn0 w w' := by
 unfold strings_HasSuffix.f at h
 have H := h
 clear h
 replace H := Option.bind_eq_some_iff.mp H
 obtain ⟨t119, A30, H⟩ := H
 try dsimp only at H
 have A3 := Aside0.mk A30
 clear A30
 obtain rfl := Option.some.inj H
 go_enter Tryz.func37, Tryz.ntmps37
 go_wp2_with (first | ((with_reducible refine gate_callee (f := 67) rfl ?_); refine gL_ (some 7) Tryz.func67 #[.string a0, .string a1] ?_; (with_reducible refine (stringslite_HasSuffix.calls a0 a1 t119 _ A3.out).mono ?_); rintro e w' ⟨rfl, ⟨nd, rfl⟩⟩; refine ⟨_, rfl, ?_⟩))
 go_ret
 exact ⟨by first | rfl | (simp; done) | (simp [*]; done), by repeat (first | exact Drawn0.refl _ | apply Drawn0.step)⟩
attribute [local go_sem] max2_int max_two
set_option linter.unusedVariables false
set_option linter.unusedSimpArgs false
def operand_Check.j0 : Nat → Bool → Bool → ByteArray → ByteArray → ByteArray → Int → Int → ByteArray → ByteArray → Int → Bool → ByteArray → ByteArray → Option (Int)
  | 0, _, _, _, _, _, _, _, _, _, _, _, _, _ => none
  | k + 1, x45, x121000, x121001, x121002, x121003, x121004, x121005, x121006, x121007, x121008, x122000, x122001, x122002 => if x45 = true then (some 40) else ((strings_Repeat.f (⟨#[48]⟩ : ByteArray) (wrap64 (x121004 - (x122002.size : Int)))).bind fun t124 => (if x122002.size + t124.size ≤ 9223372036854775807 then (if x121003.toList = x122001.toList then (if x121005 = (x122002.size : Int) then ((operand_whole.f k (x122002 ++ t124)).bind fun t125 => (if x121006.toList = t125.toList then ((operand_whole.f k x122002).bind fun t126 => (if x121007.toList = t126.toList then (some 0) else (some 40))) else (some 40))) else (some 40)) else (some 40)) else (none)))
def operand_Check.f (k : Nat) (a0_0 : Bool) (a0_1 : ByteArray) (a0_2 : ByteArray) (a0_3 : ByteArray) (a0_4 : Int) (a0_5 : Int) (a0_6 : ByteArray) (a0_7 : ByteArray) (a0_8 : Int) : Option (Int) := (decimal_Check.f k a0_0 a0_1 a0_2).bind fun t122 => (if t122 = 0 then (if a0_0 = true then (operand_Check.j0 k true a0_0 a0_1 a0_2 a0_3 a0_4 a0_5 a0_6 a0_7 a0_8 a0_0 a0_1 a0_2) else ((strings_HasSuffix.f a0_2 (⟨#[48]⟩ : ByteArray)).bind fun t123 => (if t123 = true then (operand_Check.j0 k true a0_0 a0_1 a0_2 a0_3 a0_4 a0_5 a0_6 a0_7 a0_8 a0_0 a0_1 a0_2) else (if a0_4 < (a0_2.size : Int) then (operand_Check.j0 k true a0_0 a0_1 a0_2 a0_3 a0_4 a0_5 a0_6 a0_7 a0_8 a0_0 a0_1 a0_2) else (if a0_4 > (wrap64 (40 - (a0_1.size : Int))) then (operand_Check.j0 k true a0_0 a0_1 a0_2 a0_3 a0_4 a0_5 a0_6 a0_7 a0_8 a0_0 a0_1 a0_2) else (if a0_8 < 0 then (operand_Check.j0 k true a0_0 a0_1 a0_2 a0_3 a0_4 a0_5 a0_6 a0_7 a0_8 a0_0 a0_1 a0_2) else (operand_Check.j0 k (decide (a0_8 > 40)) a0_0 a0_1 a0_2 a0_3 a0_4 a0_5 a0_6 a0_7 a0_8 a0_0 a0_1 a0_2))))))) else (operand_Check.j0 k true a0_0 a0_1 a0_2 a0_3 a0_4 a0_5 a0_6 a0_7 a0_8 a0_0 a0_1 a0_2))
theorem operand_Check.mono_l : ∀ k, (∀ y0 y1 y2 y3 y4 y5 y6 y7 y8 y9 y10 y11 y12, LeO (operand_Check.j0 k y0 y1 y2 y3 y4 y5 y6 y7 y8 y9 y10 y11 y12) (operand_Check.j0 (k + 1) y0 y1 y2 y3 y4 y5 y6 y7 y8 y9 y10 y11 y12))
  | 0 => fun _ _ _ _ _ _ _ _ _ _ _ _ _ r h => by simp [operand_Check.j0] at h
  | k + 1 => by
    have ih0 := operand_Check.mono_l k
    · intro y0 y1 y2 y3 y4 y5 y6 y7 y8 y9 y10 y11 y12
      unfold operand_Check.j0
      repeat' first
      | (with_reducible exact ih0 _ _ _ _ _ _ _ _ _ _ _ _ _)
      | (with_reducible exact decimal_Check.mono _ _ _ _)
      | (with_reducible exact operand_whole.mono _ _)
      | (with_reducible exact LeO.refl _)
      | (with_reducible exact LeO.none _)
      | (with_reducible refine LeO.ite ?_ ?_)
      | (with_reducible refine LeO.bind ?_ (fun _ => ?_))
      | exact ih0 _ _ _ _ _ _ _ _ _ _ _ _ _
      | exact decimal_Check.mono _ _ _ _
      | exact operand_whole.mono _ _
      | exact LeO.none _
      | refine LeO.ite ?_ ?_
      | refine LeO.bind ?_ (fun _ => ?_)
theorem operand_Check.mono : ∀ a0 a1 a2 a3 a4 a5 a6 a7 a8 k, LeO (operand_Check.f k a0 a1 a2 a3 a4 a5 a6 a7 a8) (operand_Check.f (k + 1) a0 a1 a2 a3 a4 a5 a6 a7 a8) := by
 intro a0 a1 a2 a3 a4 a5 a6 a7 a8 k
 have ih0 := operand_Check.mono_l k
 unfold operand_Check.f
 repeat' first
   | (with_reducible exact ih0 _ _ _ _ _ _ _ _ _ _ _ _ _)
   | (with_reducible exact decimal_Check.mono _ _ _ _)
   | (with_reducible exact operand_whole.mono _ _)
   | (with_reducible exact LeO.refl _)
   | (with_reducible exact LeO.none _)
   | (with_reducible refine LeO.ite ?_ ?_)
   | (with_reducible refine LeO.bind ?_ (fun _ => ?_))
   | exact ih0 _ _ _ _ _ _ _ _ _ _ _ _ _
   | exact decimal_Check.mono _ _ _ _
   | exact operand_whole.mono _ _
   | exact LeO.none _
   | refine LeO.ite ?_ ?_
   | refine LeO.bind ?_ (fun _ => ?_)
def operand_Check.T4 : Bool × List (List Nat × List Nat) := (true, [([], []), ([0], [0]), ([], []), ([2], [2]), ([], []), ([4], [4]), ([5], [5]), ([3, 6], [3, 6]), ([7], [7]), ([1, 8], [1, 8]), ([9, 8, 0, 1, 2, 3, 4, 5, 6, 7, 8, 9], [9])])
def operand_Check.B4 : List Nat := [0, 1, 0, 4, 0, 16, 48, 124, 252, 511, 1023]
theorem operand_Check.tab4 : rtab .any (opsOf Tryz.f15 4) = operand_Check.T4 := by kernel_rfl
theorem operand_Check.bits4 : waitsOk operand_Check.T4.2 operand_Check.B4 = true := by kernel_rfl
def operand_Check.T5 : Bool × List (List Nat × List Nat) := (true, [([], []), ([0], [0]), ([], []), ([2], [2]), ([1, 3], [1, 3]), ([4], [4]), ([5], [5]), ([6, 5], [5, 6]), ([5], [5]), ([8, 5], [5, 8]), ([9, 5], [5, 9]), ([7, 10, 5], [5, 7, 10]), ([5, 11], [5, 11]), ([12, 5], [12]), ([13], [13]), ([14, 13], [13, 14]), ([13], [13]), ([16, 13, 13], [13, 16]), ([15, 17, 13], [13, 15, 17]), ([13, 18], [13, 18]), ([19, 17], [19]), ([20], [20]), ([21, 20], [20, 21]), ([20], [20]), ([23, 20], [20, 23]), ([24, 20, 20], [20, 24]), ([22, 25, 20], [20, 22, 25]), ([20, 26], [20, 26])])
def operand_Check.B5 : List Nat := [0, 1, 0, 4, 15, 31, 63, 127, 63, 319, 831, 2047, 4095, 8191, 16383, 32767, 16383, 81919, 262143, 524287, 1048575, 2097151, 4194303, 2097151, 10485759, 27262975, 67108863, 134217727]
theorem operand_Check.tab5 : rtab .any (opsOf Tryz.f15 5) = operand_Check.T5 := by kernel_rfl
theorem operand_Check.bits5 : waitsOk operand_Check.T5.2 operand_Check.B5 = true := by kernel_rfl
set_option maxHeartbeats 8000000 in
set_option maxRecDepth 100000 in
theorem operand_Check.calls (k : Nat) (a0_0 : Bool) (a0_1 : ByteArray) (a0_2 : ByteArray) (a0_3 : ByteArray) (a0_4 : Int) (a0_5 : Int) (a0_6 : ByteArray) (a0_7 : ByteArray) (a0_8 : Int) (r : Int) (w : World) (h : operand_Check.f k a0_0 a0_1 a0_2 a0_3 a0_4 a0_5 a0_6 a0_7 a0_8 = some r) :
    Calls Tryz.prog 15 #[.agg #[.bool a0_0, .string a0_1, .string a0_2, .string a0_3, .int .i64 a0_4, .int .i64 a0_5, .string a0_6, .string a0_7, .int .i64 a0_8]] w fun e w' => e = .returned (.int .i64 r) ∧ Below w.heap.size w w' := by
 have hu25 := Tryz.underlying25
 have hu23 := Tryz.underlying23
 have HB := Aside0.mk (Below.refl w.heap.size w)
 unfold operand_Check.f at h
 have H := h
 clear h
 have HC2 := Aside0.mk H
 clear H
 go_enter Tryz.func15, Tryz.ntmps15
 go_upto_region 2 with (first | ((with_reducible refine gate_dst (N := 1) rfl ?_); (try (refine gate_guard (by rfl) ?_; dsimp only)); refine box_event ?hg (N := 1) ?hd (cs := #[.bool a0_0, .string a0_1, .string a0_2, .string a0_3, .int .i64 a0_4, .int .i64 a0_5, .string a0_6, .string a0_7, .int .i64 a0_8]) (t := 25) ?hr ?_; (case hd => rfl); (case hg => rfl); (case hr => first | (go_simp; done) | (go_simp; rfl)); intro gb120 hg w3 hbox hb; have BK120 := Aside0.mk (hbox); have GW120 := ge_ (w := w) hg; have GE120 := ge_ (w := w) hg; replace HB := Aside0.mk (below_step hb_ hb); clear hb hbox hg; obtain ⟨hcz4_0, hcz4_1, hcz4_2, hcz4_3, hcz4_4, hcz4_5, hcz4_6, hcz4_7, hcz4_8, hfz4_0, hfz4_1, hfz4_2, hfz4_3, hfz4_4, hfz4_5, hfz4_6, hfz4_7, hfz4_8⟩ := BK120.c9) | ((with_reducible refine gate_dst (N := 3) rfl ?_); (try (refine gate_guard (by rfl) ?_; dsimp only)); refine box_event ?hg (N := 3) ?hd (cs := #[.bool false, .string (⟨#[]⟩ : ByteArray), .string (⟨#[]⟩ : ByteArray)]) (t := 23) ?hr ?_; (case hd => rfl); (case hg => rfl); (case hr => first | (go_simp; done) | (go_simp; rfl)); intro gb121 hg w5 hbox hb; have BK121 := Aside0.mk (hbox); have GW121 := ge_ (w := w) hg; have GE121 := ge_ (w := w) hg; have NB120_121 := BK120.nl hg; have NB121_120 := BK120.ng hg; replace BK120 := BK120.bl hb; replace HB := Aside0.mk (below_step hb_ hb); clear hb hbox hg; have hnb6 := NB121_120.out; have hnc6 := NB120_121.out; obtain ⟨hcz7_0, hcz7_1, hcz7_2, hfz7_0, hfz7_1, hfz7_2⟩ := BK121.c3))
 (try simp only [Act.put, List.setIfInBounds_toArray, List.set_cons_zero, List.set_cons_succ])
 go_cut [45] (fun v45 wc => ∃ (kq : Nat) (x45_1 : Bool), v45 = .bool x45_1 ∧ Aside0 (operand_Check.j0 kq x45_1 a0_0 a0_1 a0_2 a0_3 a0_4 a0_5 a0_6 a0_7 a0_8 a0_0 a0_1 a0_2 = some r) ∧ Aside0 (kq ≤ k) ∧ Aside0 (wc.heap[gb120]? = some (.cells #[.bool a0_0, .string a0_1, .string a0_2, .string a0_3, .int .i64 a0_4, .int .i64 a0_5, .string a0_6, .string a0_7, .int .i64 a0_8] 25 (0, 0))) ∧ Aside0 (wc.heap[gb121]? = some (.cells #[.bool a0_0, .string a0_1, .string a0_2] 23 (0, 0))) ∧ Aside0 (Below w.heap.size w wc))
 case first =>
  have H := HC2.out
  clear HC2
  replace H := Option.bind_eq_some_iff.mp H
  obtain ⟨t122, A80, H⟩ := H
  try dsimp only at H
  have A8 := Aside0.mk A80
  clear A80
  by_cases c9 : t122 = 0
  ·rw [if_pos c9] at H
   have c9b0 : (t122 == 0) = true := beq_iff_eq.mpr c9
   have c9b1 : (t122 != 0) = false := bne_eq_false_iff_eq.mpr c9
   clear c9
   (first | rw [c9b0] | (simp only [i64_w, i32_w]; rw [c9b0]) | rw [c9b1] | skip)
   by_cases c10 : a0_0 = true
   ·subst c10
    have H1 : (operand_Check.j0 k true true a0_1 a0_2 a0_3 a0_4 a0_5 a0_6 a0_7 a0_8 true a0_1 a0_2) = some r := by rw [if_pos rfl] at H; exact H
    clear H
    have H := H1
    clear H1
    have H' := Aside0.mk H
    clear H
    have hnb11 := NB121_120.out
    have hnc11 := NB120_121.out
    obtain ⟨hcz12_0, hcz12_1, hcz12_2, hfz12_0, hfz12_1, hfz12_2⟩ := BK121.c3
    go_wp2_with (first | ((with_reducible refine gate_callee (f := 28) rfl ?_); refine gL_ (some 8) Tryz.func28 #[.agg #[.bool true, .string a0_1, .string a0_2]] ?_; (with_reducible refine (decimal_Check.calls k true a0_1 a0_2 t122 _ A8.out).mono ?_); rintro e w13 ⟨rfl, hb⟩; refine ⟨_, rfl, ?_⟩; replace BK120 := Aside0.mk (blk_below (g := gb120) (o := .cells #[.bool true, .string a0_1, .string a0_2, .string a0_3, .int .i64 a0_4, .int .i64 a0_5, .string a0_6, .string a0_7, .int .i64 a0_8] 25 (0, 0)) (by refine far3_ ?_ NB120_121.out; exact BK120.out) hb); replace BK121 := Aside0.mk (blk_below (g := gb121) (o := .cells #[.bool true, .string a0_1, .string a0_2] 23 (0, 0)) (by refine put3_ (cs := #[.bool false, .string (⟨#[]⟩ : ByteArray), .string (⟨#[]⟩ : ByteArray)]) ?_; exact BK121.out) hb); replace HB := Aside0.mk (below_step hb_ hb); obtain ⟨hcz14_0, hcz14_1, hcz14_2, hfz14_0, hfz14_1, hfz14_2⟩ := BK121.c3))
    go_meet
    case rel => exact ⟨_, (true), (by first | rfl | (simp; done) | (simp [*]; done)), H', ⟨by first | omega | exact Nat.le_refl _⟩, ⟨by exact BK120.out⟩, ⟨by exact BK121.out⟩, ⟨hb_⟩⟩
   ·replace c10 := Bool.eq_false_iff.mpr c10
    subst c10
    have H1 : ((strings_HasSuffix.f a0_2 (⟨#[48]⟩ : ByteArray)).bind fun t123 => (if t123 = true then (operand_Check.j0 k true false a0_1 a0_2 a0_3 a0_4 a0_5 a0_6 a0_7 a0_8 false a0_1 a0_2) else (if a0_4 < (a0_2.size : Int) then (operand_Check.j0 k true false a0_1 a0_2 a0_3 a0_4 a0_5 a0_6 a0_7 a0_8 false a0_1 a0_2) else (if a0_4 > (wrap64 (40 - (a0_1.size : Int))) then (operand_Check.j0 k true false a0_1 a0_2 a0_3 a0_4 a0_5 a0_6 a0_7 a0_8 false a0_1 a0_2) else (if a0_8 < 0 then (operand_Check.j0 k true false a0_1 a0_2 a0_3 a0_4 a0_5 a0_6 a0_7 a0_8 false a0_1 a0_2) else (operand_Check.j0 k (decide (a0_8 > 40)) false a0_1 a0_2 a0_3 a0_4 a0_5 a0_6 a0_7 a0_8 false a0_1 a0_2)))))) = some r := by rw [if_neg (show ¬ (false = true) by decide)] at H; exact H
    clear H
    have H := H1
    clear H1
    replace H := Option.bind_eq_some_iff.mp H
    obtain ⟨t123, A150, H⟩ := H
    try dsimp only at H
    have A15 := Aside0.mk A150
    clear A150
    by_cases c16 : t123 = true
    ·subst c16
     have H1 : (operand_Check.j0 k true false a0_1 a0_2 a0_3 a0_4 a0_5 a0_6 a0_7 a0_8 false a0_1 a0_2) = some r := by rw [if_pos rfl] at H; exact H
     clear H
     have H := H1
     clear H1
     have H' := Aside0.mk H
     clear H
     have hnb17 := NB121_120.out
     have hnc17 := NB120_121.out
     obtain ⟨hcz18_0, hcz18_1, hcz18_2, hfz18_0, hfz18_1, hfz18_2⟩ := BK121.c3
     go_wp2_with (first | ((with_reducible refine gate_callee (f := 28) rfl ?_); refine gL_ (some 8) Tryz.func28 #[.agg #[.bool false, .string a0_1, .string a0_2]] ?_; (with_reducible refine (decimal_Check.calls k false a0_1 a0_2 t122 _ A8.out).mono ?_); rintro e w19 ⟨rfl, hb⟩; refine ⟨_, rfl, ?_⟩; replace BK120 := Aside0.mk (blk_below (g := gb120) (o := .cells #[.bool false, .string a0_1, .string a0_2, .string a0_3, .int .i64 a0_4, .int .i64 a0_5, .string a0_6, .string a0_7, .int .i64 a0_8] 25 (0, 0)) (by refine far3_ ?_ NB120_121.out; exact BK120.out) hb); replace BK121 := Aside0.mk (blk_below (g := gb121) (o := .cells #[.bool false, .string a0_1, .string a0_2] 23 (0, 0)) (by refine put3_ (cs := #[.bool false, .string (⟨#[]⟩ : ByteArray), .string (⟨#[]⟩ : ByteArray)]) ?_; exact BK121.out) hb); replace HB := Aside0.mk (below_step hb_ hb); obtain ⟨hcz20_0, hcz20_1, hcz20_2, hfz20_0, hfz20_1, hfz20_2⟩ := BK121.c3) | (go_at_call 37; (with_reducible refine (strings_HasSuffix.calls a0_2 (⟨#[48]⟩ : ByteArray) true _ A15.out).mono ?_); rintro e w' ⟨rfl, ⟨nd, rfl⟩⟩))
     go_meet
     case rel => exact ⟨_, (true), (by first | rfl | (simp; done) | (simp [*]; done)), H', ⟨by first | omega | exact Nat.le_refl _⟩, ⟨by exact BK120.out⟩, ⟨by exact BK121.out⟩, ⟨hb_⟩⟩
    ·replace c16 := Bool.eq_false_iff.mpr c16
     subst c16
     have H1 : (if a0_4 < (a0_2.size : Int) then (operand_Check.j0 k true false a0_1 a0_2 a0_3 a0_4 a0_5 a0_6 a0_7 a0_8 false a0_1 a0_2) else (if a0_4 > (wrap64 (40 - (a0_1.size : Int))) then (operand_Check.j0 k true false a0_1 a0_2 a0_3 a0_4 a0_5 a0_6 a0_7 a0_8 false a0_1 a0_2) else (if a0_8 < 0 then (operand_Check.j0 k true false a0_1 a0_2 a0_3 a0_4 a0_5 a0_6 a0_7 a0_8 false a0_1 a0_2) else (operand_Check.j0 k (decide (a0_8 > 40)) false a0_1 a0_2 a0_3 a0_4 a0_5 a0_6 a0_7 a0_8 false a0_1 a0_2)))) = some r := by rw [if_neg (show ¬ (false = true) by decide)] at H; exact H
     clear H
     have H := H1
     clear H1
     by_cases c21 : a0_4 < (a0_2.size : Int)
     ·rw [if_pos c21] at H
      have c21b0 : decide (a0_4 < (a0_2.size : Int)) = true := decide_eq_true c21
      clear c21
      have H' := Aside0.mk H
      clear H
      have hnb22 := NB121_120.out
      have hnc22 := NB120_121.out
      obtain ⟨hcz23_0, hcz23_1, hcz23_2, hfz23_0, hfz23_1, hfz23_2⟩ := BK121.c3
      go_wp2_with (first | ((with_reducible refine gate_callee (f := 28) rfl ?_); refine gL_ (some 8) Tryz.func28 #[.agg #[.bool false, .string a0_1, .string a0_2]] ?_; (with_reducible refine (decimal_Check.calls k false a0_1 a0_2 t122 _ A8.out).mono ?_); rintro e w24 ⟨rfl, hb⟩; refine ⟨_, rfl, ?_⟩; replace BK120 := Aside0.mk (blk_below (g := gb120) (o := .cells #[.bool false, .string a0_1, .string a0_2, .string a0_3, .int .i64 a0_4, .int .i64 a0_5, .string a0_6, .string a0_7, .int .i64 a0_8] 25 (0, 0)) (by refine far3_ ?_ NB120_121.out; exact BK120.out) hb); replace BK121 := Aside0.mk (blk_below (g := gb121) (o := .cells #[.bool false, .string a0_1, .string a0_2] 23 (0, 0)) (by refine put3_ (cs := #[.bool false, .string (⟨#[]⟩ : ByteArray), .string (⟨#[]⟩ : ByteArray)]) ?_; exact BK121.out) hb); replace HB := Aside0.mk (below_step hb_ hb); obtain ⟨hcz25_0, hcz25_1, hcz25_2, hfz25_0, hfz25_1, hfz25_2⟩ := BK121.c3) | (go_at_call 37; (with_reducible refine (strings_HasSuffix.calls a0_2 (⟨#[48]⟩ : ByteArray) false _ A15.out).mono ?_); rintro e w' ⟨rfl, ⟨nd, rfl⟩⟩; obtain ⟨hcz26_0, hcz26_1, hcz26_2, hcz26_3, hcz26_4, hcz26_5, hcz26_6, hcz26_7, hcz26_8, hfz26_0, hfz26_1, hfz26_2, hfz26_3, hfz26_4, hfz26_5, hfz26_6, hfz26_7, hfz26_8⟩ := BK120.c9))
      go_meet
      case rel => exact ⟨_, (true), (by first | rfl | (simp; done) | (simp [*]; done)), H', ⟨by first | omega | exact Nat.le_refl _⟩, ⟨by exact BK120.out⟩, ⟨by exact BK121.out⟩, ⟨hb_⟩⟩
     ·rw [if_neg c21] at H
      have c21b0 : decide (a0_4 < (a0_2.size : Int)) = false := decide_eq_false c21
      clear c21
      by_cases c27 : a0_4 > (wrap64 (40 - (a0_1.size : Int)))
      ·rw [if_pos c27] at H
       have c27b0 : decide ((wrap64 (40 - (a0_1.size : Int))) < a0_4) = true := decide_eq_true c27
       clear c27
       have H' := Aside0.mk H
       clear H
       have hnb28 := NB121_120.out
       have hnc28 := NB120_121.out
       obtain ⟨hcz29_0, hcz29_1, hcz29_2, hfz29_0, hfz29_1, hfz29_2⟩ := BK121.c3
       go_wp2_with (first | ((with_reducible refine gate_callee (f := 28) rfl ?_); refine gL_ (some 8) Tryz.func28 #[.agg #[.bool false, .string a0_1, .string a0_2]] ?_; (with_reducible refine (decimal_Check.calls k false a0_1 a0_2 t122 _ A8.out).mono ?_); rintro e w30 ⟨rfl, hb⟩; refine ⟨_, rfl, ?_⟩; replace BK120 := Aside0.mk (blk_below (g := gb120) (o := .cells #[.bool false, .string a0_1, .string a0_2, .string a0_3, .int .i64 a0_4, .int .i64 a0_5, .string a0_6, .string a0_7, .int .i64 a0_8] 25 (0, 0)) (by refine far3_ ?_ NB120_121.out; exact BK120.out) hb); replace BK121 := Aside0.mk (blk_below (g := gb121) (o := .cells #[.bool false, .string a0_1, .string a0_2] 23 (0, 0)) (by refine put3_ (cs := #[.bool false, .string (⟨#[]⟩ : ByteArray), .string (⟨#[]⟩ : ByteArray)]) ?_; exact BK121.out) hb); replace HB := Aside0.mk (below_step hb_ hb); obtain ⟨hcz31_0, hcz31_1, hcz31_2, hfz31_0, hfz31_1, hfz31_2⟩ := BK121.c3) | (go_at_call 37; (with_reducible refine (strings_HasSuffix.calls a0_2 (⟨#[48]⟩ : ByteArray) false _ A15.out).mono ?_); rintro e w' ⟨rfl, ⟨nd, rfl⟩⟩; obtain ⟨hcz32_0, hcz32_1, hcz32_2, hcz32_3, hcz32_4, hcz32_5, hcz32_6, hcz32_7, hcz32_8, hfz32_0, hfz32_1, hfz32_2, hfz32_3, hfz32_4, hfz32_5, hfz32_6, hfz32_7, hfz32_8⟩ := BK120.c9))
       go_meet
       case rel => exact ⟨_, (true), (by first | rfl | (simp; done) | (simp [*]; done)), H', ⟨by first | omega | exact Nat.le_refl _⟩, ⟨by exact BK120.out⟩, ⟨by exact BK121.out⟩, ⟨hb_⟩⟩
      ·rw [if_neg c27] at H
       have c27b0 : decide ((wrap64 (40 - (a0_1.size : Int))) < a0_4) = false := decide_eq_false c27
       clear c27
       by_cases c33 : a0_8 < 0
       ·rw [if_pos c33] at H
        have c33b0 : decide (a0_8 < 0) = true := decide_eq_true c33
        clear c33
        have H' := Aside0.mk H
        clear H
        have hnb34 := NB121_120.out
        have hnc34 := NB120_121.out
        obtain ⟨hcz35_0, hcz35_1, hcz35_2, hfz35_0, hfz35_1, hfz35_2⟩ := BK121.c3
        go_wp2_with (first | ((with_reducible refine gate_callee (f := 28) rfl ?_); refine gL_ (some 8) Tryz.func28 #[.agg #[.bool false, .string a0_1, .string a0_2]] ?_; (with_reducible refine (decimal_Check.calls k false a0_1 a0_2 t122 _ A8.out).mono ?_); rintro e w36 ⟨rfl, hb⟩; refine ⟨_, rfl, ?_⟩; replace BK120 := Aside0.mk (blk_below (g := gb120) (o := .cells #[.bool false, .string a0_1, .string a0_2, .string a0_3, .int .i64 a0_4, .int .i64 a0_5, .string a0_6, .string a0_7, .int .i64 a0_8] 25 (0, 0)) (by refine far3_ ?_ NB120_121.out; exact BK120.out) hb); replace BK121 := Aside0.mk (blk_below (g := gb121) (o := .cells #[.bool false, .string a0_1, .string a0_2] 23 (0, 0)) (by refine put3_ (cs := #[.bool false, .string (⟨#[]⟩ : ByteArray), .string (⟨#[]⟩ : ByteArray)]) ?_; exact BK121.out) hb); replace HB := Aside0.mk (below_step hb_ hb); obtain ⟨hcz37_0, hcz37_1, hcz37_2, hfz37_0, hfz37_1, hfz37_2⟩ := BK121.c3) | (go_at_call 37; (with_reducible refine (strings_HasSuffix.calls a0_2 (⟨#[48]⟩ : ByteArray) false _ A15.out).mono ?_); rintro e w' ⟨rfl, ⟨nd, rfl⟩⟩; obtain ⟨hcz38_0, hcz38_1, hcz38_2, hcz38_3, hcz38_4, hcz38_5, hcz38_6, hcz38_7, hcz38_8, hfz38_0, hfz38_1, hfz38_2, hfz38_3, hfz38_4, hfz38_5, hfz38_6, hfz38_7, hfz38_8⟩ := BK120.c9))
        go_meet
        case rel => exact ⟨_, (true), (by first | rfl | (simp; done) | (simp [*]; done)), H', ⟨by first | omega | exact Nat.le_refl _⟩, ⟨by exact BK120.out⟩, ⟨by exact BK121.out⟩, ⟨hb_⟩⟩
       ·rw [if_neg c33] at H
        have c33b0 : decide (a0_8 < 0) = false := decide_eq_false c33
        clear c33
        have H' := Aside0.mk H
        clear H
        have hnb39 := NB121_120.out
        have hnc39 := NB120_121.out
        obtain ⟨hcz40_0, hcz40_1, hcz40_2, hfz40_0, hfz40_1, hfz40_2⟩ := BK121.c3
        go_wp2_with (first | ((with_reducible refine gate_callee (f := 28) rfl ?_); refine gL_ (some 8) Tryz.func28 #[.agg #[.bool false, .string a0_1, .string a0_2]] ?_; (with_reducible refine (decimal_Check.calls k false a0_1 a0_2 t122 _ A8.out).mono ?_); rintro e w41 ⟨rfl, hb⟩; refine ⟨_, rfl, ?_⟩; replace BK120 := Aside0.mk (blk_below (g := gb120) (o := .cells #[.bool false, .string a0_1, .string a0_2, .string a0_3, .int .i64 a0_4, .int .i64 a0_5, .string a0_6, .string a0_7, .int .i64 a0_8] 25 (0, 0)) (by refine far3_ ?_ NB120_121.out; exact BK120.out) hb); replace BK121 := Aside0.mk (blk_below (g := gb121) (o := .cells #[.bool false, .string a0_1, .string a0_2] 23 (0, 0)) (by refine put3_ (cs := #[.bool false, .string (⟨#[]⟩ : ByteArray), .string (⟨#[]⟩ : ByteArray)]) ?_; exact BK121.out) hb); replace HB := Aside0.mk (below_step hb_ hb); obtain ⟨hcz42_0, hcz42_1, hcz42_2, hfz42_0, hfz42_1, hfz42_2⟩ := BK121.c3) | (go_at_call 37; (with_reducible refine (strings_HasSuffix.calls a0_2 (⟨#[48]⟩ : ByteArray) false _ A15.out).mono ?_); rintro e w' ⟨rfl, ⟨nd, rfl⟩⟩; obtain ⟨hcz43_0, hcz43_1, hcz43_2, hcz43_3, hcz43_4, hcz43_5, hcz43_6, hcz43_7, hcz43_8, hfz43_0, hfz43_1, hfz43_2, hfz43_3, hfz43_4, hfz43_5, hfz43_6, hfz43_7, hfz43_8⟩ := BK120.c9))
        go_meet
        case rel => exact ⟨_, (decide (a0_8 > 40)), (by first | rfl | (simp; done) | (simp [*]; done)), H', ⟨by first | omega | exact Nat.le_refl _⟩, ⟨by exact BK120.out⟩, ⟨by exact BK121.out⟩, ⟨hb_⟩⟩
  ·rw [if_neg c9] at H
   have c9b0 : (t122 == 0) = false := beq_eq_false_iff_ne.mpr c9
   have c9b1 : (t122 != 0) = true := bne_iff_ne.mpr c9
   (first | rw [c9b0] | (simp only [i64_w, i32_w]; rw [c9b0]) | rw [c9b1] | skip)
   have H' := Aside0.mk H
   clear H
   have hnb44 := NB121_120.out
   have hnc44 := NB120_121.out
   obtain ⟨hcz45_0, hcz45_1, hcz45_2, hfz45_0, hfz45_1, hfz45_2⟩ := BK121.c3
   go_wp2_with (first | ((with_reducible refine gate_callee (f := 28) rfl ?_); refine gL_ (some 8) Tryz.func28 #[.agg #[.bool a0_0, .string a0_1, .string a0_2]] ?_; (with_reducible refine (decimal_Check.calls k a0_0 a0_1 a0_2 t122 _ A8.out).mono ?_); rintro e w46 ⟨rfl, hb⟩; refine ⟨_, rfl, ?_⟩; replace BK120 := Aside0.mk (blk_below (g := gb120) (o := .cells #[.bool a0_0, .string a0_1, .string a0_2, .string a0_3, .int .i64 a0_4, .int .i64 a0_5, .string a0_6, .string a0_7, .int .i64 a0_8] 25 (0, 0)) (by refine far3_ ?_ NB120_121.out; exact BK120.out) hb); replace BK121 := Aside0.mk (blk_below (g := gb121) (o := .cells #[.bool a0_0, .string a0_1, .string a0_2] 23 (0, 0)) (by refine put3_ (cs := #[.bool false, .string (⟨#[]⟩ : ByteArray), .string (⟨#[]⟩ : ByteArray)]) ?_; exact BK121.out) hb); replace HB := Aside0.mk (below_step hb_ hb)))
   go_meet
   case rel => exact ⟨_, (true), (by first | rfl | (simp; done) | (simp [*]; done)), H', ⟨by first | omega | exact Nat.le_refl _⟩, ⟨by exact BK120.out⟩, ⟨by exact BK121.out⟩, ⟨hb_⟩⟩
 case rest =>
  clear HC2
  (try clear hcz4_0); (try clear hcz4_1); (try clear hcz4_2); (try clear hcz4_3); (try clear hcz4_4); (try clear hcz4_5); (try clear hcz4_6); (try clear hcz4_7); (try clear hcz4_8); (try clear hcz7_0); (try clear hcz7_1); (try clear hcz7_2); (try clear hfz4_0); (try clear hfz4_1); (try clear hfz4_2); (try clear hfz4_3); (try clear hfz4_4); (try clear hfz4_5); (try clear hfz4_6); (try clear hfz4_7); (try clear hfz4_8); (try clear hfz7_0); (try clear hfz7_1); (try clear hfz7_2)
  obtain ⟨kq, x45_1, rfl, HA, HJ1, BK120, BK121, HB⟩ := hcut
  cases kq with
  | zero => exact absurd HA.out (by simp [operand_Check.j0])
  | succ kj1 =>
   have H := HA.out
   clear HA
   simp only [operand_Check.j0] at H
   by_cases c47 : x45_1 = true
   ·subst c47
    have H1 : (some 40) = some r := by rw [if_pos rfl] at H; exact H
    clear H
    have H := H1
    clear H1
    obtain rfl := Option.some.inj H
    go_wp2
    go_ret
    exact fin_
   ·replace c47 := Bool.eq_false_iff.mpr c47
    subst c47
    have H1 : ((strings_Repeat.f (⟨#[48]⟩ : ByteArray) (wrap64 (a0_4 - (a0_2.size : Int)))).bind fun t124 => (if a0_2.size + t124.size ≤ 9223372036854775807 then (if a0_3.toList = a0_1.toList then (if a0_5 = (a0_2.size : Int) then ((operand_whole.f kj1 (a0_2 ++ t124)).bind fun t125 => (if a0_6.toList = t125.toList then ((operand_whole.f kj1 a0_2).bind fun t126 => (if a0_7.toList = t126.toList then (some 0) else (some 40))) else (some 40))) else (some 40)) else (some 40)) else (none))) = some r := by rw [if_neg (show ¬ (false = true) by decide)] at H; exact H
    clear H
    have H := H1
    clear H1
    replace H := Option.bind_eq_some_iff.mp H
    obtain ⟨t124, A480, H⟩ := H
    try dsimp only at H
    have A48 := Aside0.mk A480
    clear A480
    by_cases c49 : a0_2.size + t124.size ≤ 9223372036854775807
    ·rw [if_pos c49] at H
     have c49b0 := eq_true c49
     have c49b1 : decide (a0_2.size + t124.size ≤ 9223372036854775807) = true := decide_eq_true c49
     try have c49b2 : (9223372036854775807 < a0_2.size + t124.size) = False := eq_false (Nat.not_lt.2 c49)
     by_cases c50 : a0_3.toList = a0_1.toList
     ·rw [if_pos c50] at H
      have c50b0 : (a0_3.toList == a0_1.toList) = true := beq_iff_eq.mpr c50
      have c50b1 : (a0_3.toList != a0_1.toList) = false := bne_eq_false_iff_eq.mpr c50
      clear c50
      by_cases c51 : a0_5 = (a0_2.size : Int)
      ·rw [if_pos c51] at H
       have c51b0 : (a0_5 == (a0_2.size : Int)) = true := beq_iff_eq.mpr c51
       have c51b1 : (a0_5 != (a0_2.size : Int)) = false := bne_eq_false_iff_eq.mpr c51
       clear c51
       replace H := Option.bind_eq_some_iff.mp H
       obtain ⟨t125, A520, H⟩ := H
       try dsimp only at H
       have A52 := Aside0.mk A520
       clear A520
       by_cases c53 : a0_6.toList = t125.toList
       ·rw [if_pos c53] at H
        have c53b0 : (a0_6.toList == t125.toList) = true := beq_iff_eq.mpr c53
        have c53b1 : (a0_6.toList != t125.toList) = false := bne_eq_false_iff_eq.mpr c53
        clear c53
        replace H := Option.bind_eq_some_iff.mp H
        obtain ⟨t126, A540, H⟩ := H
        try dsimp only at H
        have A54 := Aside0.mk A540
        clear A540
        have HF55 := Aside0.mk H
        clear H
        try go_wp2
        replace BK120 := Aside0.mk (blk_drew BK120.out)
        replace BK121 := Aside0.mk (blk_drew BK121.out)
        replace HB := Aside0.mk (below_drew1 HB.out)
        refine start_ (n := 11) (S := fun w' => w'.cell? ⟨gb121, 0, none⟩ = some (.bool a0_0) ∧ w'.cell? ⟨gb121, 1, none⟩ = some (.string a0_1) ∧ w'.cell? ⟨gb121, 2, none⟩ = some (.string a0_2) ∧ w'.cell? ⟨gb120, 0, none⟩ = some (.bool a0_0) ∧ w'.cell? ⟨gb120, 1, none⟩ = some (.string a0_1) ∧ w'.cell? ⟨gb120, 2, none⟩ = some (.string a0_2) ∧ w'.cell? ⟨gb120, 3, none⟩ = some (.string a0_3) ∧ w'.cell? ⟨gb120, 4, none⟩ = some (.int .i64 a0_4) ∧ w'.cell? ⟨gb120, 5, none⟩ = some (.int .i64 a0_5) ∧ w'.cell? ⟨gb120, 6, none⟩ = some (.string a0_6) ∧ w'.cell? ⟨gb120, 7, none⟩ = some (.string a0_7) ∧ w'.cell? ⟨gb120, 8, none⟩ = some (.int .i64 a0_8)) (ds := []) #[false, false, false, false, false, false, false, false, false, false, false] (by kernel_rfl) rfl rfl ⟨(blk_cell BK121.out 0).trans rfl, (blk_cell BK121.out 1).trans rfl, (blk_cell BK121.out 2).trans rfl, (blk_cell BK120.out 0).trans rfl, (blk_cell BK120.out 1).trans rfl, (blk_cell BK120.out 2).trans rfl, (blk_cell BK120.out 3).trans rfl, (blk_cell BK120.out 4).trans rfl, (blk_cell BK120.out 5).trans rfl, (blk_cell BK120.out 6).trans rfl, (blk_cell BK120.out 7).trans rfl, (blk_cell BK120.out 8).trans rfl⟩ (fun hHeld => ?_); refine with_tabW operand_Check.tab4 operand_Check.bits4 (fun HT_ HW_ => ?_)
        generalize wc.drew = w56 at BK120 BK121 HB hHeld ⊢
        refine pr_ 0 (some 46) ?_
        refine pr_ 2 (some 48) ?_
        refine pr_ 4 (some 50) ?_
        refine tk_ 1 (some 47) hHeld ?_
        refine tk_ 3 (some 49) hHeld ?_
        refine tk_ 5 (some 51) hHeld ?_
        refine pr_ 6 (some 52) ?_
        refine pr_ 7 (some 53) ?_
        refine one_ (i := 8) (N := some 54) #[true, true, true, true, true, true, true, true, true, false, false] rfl rfl (one_of HT_.out (by kernel_rfl)) (by decide) (fun K hK => ?_)
        refine goes_ Tryz.func38 (by kernel_rfl) rfl #[.string (⟨#[48]⟩ : ByteArray), .int .i64 (wrap64 (a0_4 - (a0_2.size : Int)))] (by rfl) rfl rfl ar_ ?_
        with_reducible refine (strings_Repeat.calls (⟨#[48]⟩ : ByteArray) (wrap64 (a0_4 - (a0_2.size : Int))) t124 _ A48.out).mono ?_
        rintro e w57 ⟨rfl, hb⟩
        refine ⟨_, rfl, ?_⟩
        replace BK120 := BK120.bl hb
        replace BK121 := BK121.bl hb
        replace HB := Aside0.mk (below_step hb_ hb)
        (try clear hb)
        (try clear hb2)
        (try clear hk)
        (try clear hi)
        refine hK.out _ _ ⟨(blk_cell BK121.out 0).trans rfl, (blk_cell BK121.out 1).trans rfl, (blk_cell BK121.out 2).trans rfl, (blk_cell BK120.out 0).trans rfl, (blk_cell BK120.out 1).trans rfl, (blk_cell BK120.out 2).trans rfl, (blk_cell BK120.out 3).trans rfl, (blk_cell BK120.out 4).trans rfl, (blk_cell BK120.out 5).trans rfl, (blk_cell BK120.out 6).trans rfl, (blk_cell BK120.out 7).trans rfl, (blk_cell BK120.out 8).trans rfl⟩ (fun hHeld => ?_)
        clear hK K
        refine norm_ (a' := ?_) ?_ ?_
        rotate_left
        ·show Act.put _ (some 54) _ = _
         simp only [Act.put, List.setIfInBounds_toArray, List.set_cons_zero, List.set_cons_succ, i64_w, i32_w]
         rfl
        refine pr_ 9 (some 55) ?_
        refine pr_ 10 (some 4) ?_
        refine done_ (done_of HT_.out (by kernel_rfl)) ?_
        try go_wp2
        replace BK120 := Aside0.mk (blk_drew BK120.out)
        replace BK121 := Aside0.mk (blk_drew BK121.out)
        replace HB := Aside0.mk (below_drew1 HB.out)
        refine start_ (n := 28) (S := fun w' => w'.cell? ⟨gb120, 0, none⟩ = some (.bool a0_0) ∧ w'.cell? ⟨gb120, 1, none⟩ = some (.string a0_1) ∧ w'.cell? ⟨gb120, 2, none⟩ = some (.string a0_2) ∧ w'.cell? ⟨gb120, 3, none⟩ = some (.string a0_3) ∧ w'.cell? ⟨gb120, 4, none⟩ = some (.int .i64 a0_4) ∧ w'.cell? ⟨gb120, 5, none⟩ = some (.int .i64 a0_5) ∧ w'.cell? ⟨gb120, 6, none⟩ = some (.string a0_6) ∧ w'.cell? ⟨gb120, 7, none⟩ = some (.string a0_7) ∧ w'.cell? ⟨gb120, 8, none⟩ = some (.int .i64 a0_8) ∧ w'.cell? ⟨gb121, 0, none⟩ = some (.bool a0_0) ∧ w'.cell? ⟨gb121, 1, none⟩ = some (.string a0_1) ∧ w'.cell? ⟨gb121, 2, none⟩ = some (.string a0_2)) (ds := []) #[false, false, false, false, false, false, false, false, false, false, false, false, false, false, false, false, false, false, false, false, false, false, false, false, false, false, false, false] (by kernel_rfl) rfl rfl ⟨(blk_cell BK120.out 0).trans rfl, (blk_cell BK120.out 1).trans rfl, (blk_cell BK120.out 2).trans rfl, (blk_cell BK120.out 3).trans rfl, (blk_cell BK120.out 4).trans rfl, (blk_cell BK120.out 5).trans rfl, (blk_cell BK120.out 6).trans rfl, (blk_cell BK120.out 7).trans rfl, (blk_cell BK120.out 8).trans rfl, (blk_cell BK121.out 0).trans rfl, (blk_cell BK121.out 1).trans rfl, (blk_cell BK121.out 2).trans rfl⟩ (fun hHeld => ?_); refine with_tabW operand_Check.tab5 operand_Check.bits5 (fun HT_ HW_ => ?_)
        generalize w57.drew = w58 at BK120 BK121 HB hHeld ⊢
        refine pr_ 0 (some 56) ?_
        refine pr_ 2 (some 58) ?_
        refine tk_ 1 (some 57) hHeld ?_
        refine tk_ 3 (some 59) hHeld ?_
        refine pr_ 4 (some 60) ?_
        refine pr_ 5 (some 61) ?_
        refine pr_ 6 (some 62) ?_
        refine pr_ 8 (some 64) ?_
        refine tk_ 7 (some 63) hHeld ?_
        refine tk_ 9 (some 65) hHeld ?_
        refine pr_ 10 (some 66) ?_
        refine pr_ 11 (some 67) ?_
        refine pr_ 12 (some 68) ?_
        refine pr_ 13 (some 69) ?_
        refine pr_ 14 (some 70) ?_
        refine pr_ 16 (some 72) ?_
        refine tk_ 15 (some 71) hHeld ?_
        refine one_ (i := 17) (N := some 73) #[true, true, true, true, true, true, true, true, true, true, true, true, true, true, true, true, true, true, false, false, false, false, false, false, false, false, false, false] rfl rfl (one_of HT_.out (by kernel_rfl)) (by decide) (fun K hK => ?_)
        refine goes_ Tryz.func31 (by kernel_rfl) rfl #[.string (a0_2 ++ t124)] (by rfl) rfl rfl ar_ ?_
        with_reducible refine (operand_whole.calls kj1 (a0_2 ++ t124) t125 _ A52.out).mono ?_
        rintro e w59 ⟨rfl, hb⟩
        refine ⟨_, rfl, ?_⟩
        replace BK120 := BK120.bl hb
        replace BK121 := BK121.bl hb
        replace HB := Aside0.mk (below_step hb_ hb)
        (try clear hb)
        (try clear hb2)
        (try clear hk)
        (try clear hi)
        refine hK.out _ _ ⟨(blk_cell BK120.out 0).trans rfl, (blk_cell BK120.out 1).trans rfl, (blk_cell BK120.out 2).trans rfl, (blk_cell BK120.out 3).trans rfl, (blk_cell BK120.out 4).trans rfl, (blk_cell BK120.out 5).trans rfl, (blk_cell BK120.out 6).trans rfl, (blk_cell BK120.out 7).trans rfl, (blk_cell BK120.out 8).trans rfl, (blk_cell BK121.out 0).trans rfl, (blk_cell BK121.out 1).trans rfl, (blk_cell BK121.out 2).trans rfl⟩ (fun hHeld => ?_)
        clear hK K
        refine norm_ (a' := ?_) ?_ ?_
        rotate_left
        ·show Act.put _ (some 73) _ = _
         simp only [Act.put, List.setIfInBounds_toArray, List.set_cons_zero, List.set_cons_succ, i64_w, i32_w]
         rfl
        refine pr_ 18 (some 74) ?_
        refine pr_ 19 (some 75) ?_
        refine pr_ 20 (some 76) ?_
        refine pr_ 21 (some 77) ?_
        refine pr_ 23 (some 79) ?_
        refine tk_ 22 (some 78) hHeld ?_
        refine tk_ 24 (some 80) hHeld ?_
        refine one_ (i := 25) (N := some 81) #[true, true, true, true, true, true, true, true, true, true, true, true, true, true, true, true, true, true, true, true, true, true, true, true, true, true, false, false] rfl rfl (one_of HT_.out (by kernel_rfl)) (by decide) (fun K hK => ?_)
        refine goes_ Tryz.func31 (by kernel_rfl) rfl #[.string a0_2] (by rfl) rfl rfl ar_ ?_
        with_reducible refine (operand_whole.calls kj1 a0_2 t126 _ A54.out).mono ?_
        rintro e w60 ⟨rfl, hb⟩
        refine ⟨_, rfl, ?_⟩
        replace BK120 := BK120.bl hb
        replace BK121 := BK121.bl hb
        replace HB := Aside0.mk (below_step hb_ hb)
        (try clear hb)
        (try clear hb2)
        (try clear hk)
        (try clear hi)
        refine hK.out _ _ ⟨(blk_cell BK120.out 0).trans rfl, (blk_cell BK120.out 1).trans rfl, (blk_cell BK120.out 2).trans rfl, (blk_cell BK120.out 3).trans rfl, (blk_cell BK120.out 4).trans rfl, (blk_cell BK120.out 5).trans rfl, (blk_cell BK120.out 6).trans rfl, (blk_cell BK120.out 7).trans rfl, (blk_cell BK120.out 8).trans rfl, (blk_cell BK121.out 0).trans rfl, (blk_cell BK121.out 1).trans rfl, (blk_cell BK121.out 2).trans rfl⟩ (fun hHeld => ?_)
        clear hK K
        refine norm_ (a' := ?_) ?_ ?_
        rotate_left
        ·show Act.put _ (some 81) _ = _
         simp only [Act.put, List.setIfInBounds_toArray, List.set_cons_zero, List.set_cons_succ, i64_w, i32_w]
         rfl
        refine pr_ 26 (some 82) ?_
        refine pr_ 27 (some 83) ?_
        refine done_ (done_of HT_.out (by kernel_rfl)) ?_
        go_upto_if 83 with (fail)
        have H := HF55.out
        clear HF55
        by_cases c61 : a0_7.toList = t126.toList
        ·rw [if_pos c61] at H
         have c61b0 : (a0_7.toList == t126.toList) = true := beq_iff_eq.mpr c61
         have c61b1 : (a0_7.toList != t126.toList) = false := bne_eq_false_iff_eq.mpr c61
         clear c61
         (first | rw [c61b0] | (simp only [i64_w, i32_w]; rw [c61b0]) | rw [c61b1] | skip)
         obtain rfl := Option.some.inj H
         go_wp2
         go_ret
         exact fin_
        ·rw [if_neg c61] at H
         have c61b0 : (a0_7.toList == t126.toList) = false := beq_eq_false_iff_ne.mpr c61
         have c61b1 : (a0_7.toList != t126.toList) = true := bne_iff_ne.mpr c61
         (first | rw [c61b0] | (simp only [i64_w, i32_w]; rw [c61b0]) | rw [c61b1] | skip)
         obtain rfl := Option.some.inj H
         go_wp2
         go_ret
         exact fin_
       ·rw [if_neg c53] at H
        have c53b0 : (a0_6.toList == t125.toList) = false := beq_eq_false_iff_ne.mpr c53
        have c53b1 : (a0_6.toList != t125.toList) = true := bne_iff_ne.mpr c53
        obtain rfl := Option.some.inj H
        try go_wp2
        replace BK120 := Aside0.mk (blk_drew BK120.out)
        replace BK121 := Aside0.mk (blk_drew BK121.out)
        replace HB := Aside0.mk (below_drew1 HB.out)
        refine start_ (n := 11) (S := fun w' => w'.cell? ⟨gb121, 0, none⟩ = some (.bool a0_0) ∧ w'.cell? ⟨gb121, 1, none⟩ = some (.string a0_1) ∧ w'.cell? ⟨gb121, 2, none⟩ = some (.string a0_2) ∧ w'.cell? ⟨gb120, 0, none⟩ = some (.bool a0_0) ∧ w'.cell? ⟨gb120, 1, none⟩ = some (.string a0_1) ∧ w'.cell? ⟨gb120, 2, none⟩ = some (.string a0_2) ∧ w'.cell? ⟨gb120, 3, none⟩ = some (.string a0_3) ∧ w'.cell? ⟨gb120, 4, none⟩ = some (.int .i64 a0_4) ∧ w'.cell? ⟨gb120, 5, none⟩ = some (.int .i64 a0_5) ∧ w'.cell? ⟨gb120, 6, none⟩ = some (.string a0_6) ∧ w'.cell? ⟨gb120, 7, none⟩ = some (.string a0_7) ∧ w'.cell? ⟨gb120, 8, none⟩ = some (.int .i64 a0_8)) (ds := []) #[false, false, false, false, false, false, false, false, false, false, false] (by kernel_rfl) rfl rfl ⟨(blk_cell BK121.out 0).trans rfl, (blk_cell BK121.out 1).trans rfl, (blk_cell BK121.out 2).trans rfl, (blk_cell BK120.out 0).trans rfl, (blk_cell BK120.out 1).trans rfl, (blk_cell BK120.out 2).trans rfl, (blk_cell BK120.out 3).trans rfl, (blk_cell BK120.out 4).trans rfl, (blk_cell BK120.out 5).trans rfl, (blk_cell BK120.out 6).trans rfl, (blk_cell BK120.out 7).trans rfl, (blk_cell BK120.out 8).trans rfl⟩ (fun hHeld => ?_); refine with_tabW operand_Check.tab4 operand_Check.bits4 (fun HT_ HW_ => ?_)
        generalize wc.drew = w62 at BK120 BK121 HB hHeld ⊢
        refine pr_ 0 (some 46) ?_
        refine pr_ 2 (some 48) ?_
        refine pr_ 4 (some 50) ?_
        refine tk_ 1 (some 47) hHeld ?_
        refine tk_ 3 (some 49) hHeld ?_
        refine tk_ 5 (some 51) hHeld ?_
        refine pr_ 6 (some 52) ?_
        refine pr_ 7 (some 53) ?_
        refine one_ (i := 8) (N := some 54) #[true, true, true, true, true, true, true, true, true, false, false] rfl rfl (one_of HT_.out (by kernel_rfl)) (by decide) (fun K hK => ?_)
        refine goes_ Tryz.func38 (by kernel_rfl) rfl #[.string (⟨#[48]⟩ : ByteArray), .int .i64 (wrap64 (a0_4 - (a0_2.size : Int)))] (by rfl) rfl rfl ar_ ?_
        with_reducible refine (strings_Repeat.calls (⟨#[48]⟩ : ByteArray) (wrap64 (a0_4 - (a0_2.size : Int))) t124 _ A48.out).mono ?_
        rintro e w63 ⟨rfl, hb⟩
        refine ⟨_, rfl, ?_⟩
        replace BK120 := BK120.bl hb
        replace BK121 := BK121.bl hb
        replace HB := Aside0.mk (below_step hb_ hb)
        (try clear hb)
        (try clear hb2)
        (try clear hk)
        (try clear hi)
        refine hK.out _ _ ⟨(blk_cell BK121.out 0).trans rfl, (blk_cell BK121.out 1).trans rfl, (blk_cell BK121.out 2).trans rfl, (blk_cell BK120.out 0).trans rfl, (blk_cell BK120.out 1).trans rfl, (blk_cell BK120.out 2).trans rfl, (blk_cell BK120.out 3).trans rfl, (blk_cell BK120.out 4).trans rfl, (blk_cell BK120.out 5).trans rfl, (blk_cell BK120.out 6).trans rfl, (blk_cell BK120.out 7).trans rfl, (blk_cell BK120.out 8).trans rfl⟩ (fun hHeld => ?_)
        clear hK K
        refine norm_ (a' := ?_) ?_ ?_
        rotate_left
        ·show Act.put _ (some 54) _ = _
         simp only [Act.put, List.setIfInBounds_toArray, List.set_cons_zero, List.set_cons_succ, i64_w, i32_w]
         rfl
        refine pr_ 9 (some 55) ?_
        refine pr_ 10 (some 4) ?_
        refine done_ (done_of HT_.out (by kernel_rfl)) ?_
        try go_wp2
        replace BK120 := Aside0.mk (blk_drew BK120.out)
        replace BK121 := Aside0.mk (blk_drew BK121.out)
        replace HB := Aside0.mk (below_drew1 HB.out)
        refine start_ (n := 28) (S := fun w' => w'.cell? ⟨gb120, 0, none⟩ = some (.bool a0_0) ∧ w'.cell? ⟨gb120, 1, none⟩ = some (.string a0_1) ∧ w'.cell? ⟨gb120, 2, none⟩ = some (.string a0_2) ∧ w'.cell? ⟨gb120, 3, none⟩ = some (.string a0_3) ∧ w'.cell? ⟨gb120, 4, none⟩ = some (.int .i64 a0_4) ∧ w'.cell? ⟨gb120, 5, none⟩ = some (.int .i64 a0_5) ∧ w'.cell? ⟨gb120, 6, none⟩ = some (.string a0_6) ∧ w'.cell? ⟨gb120, 7, none⟩ = some (.string a0_7) ∧ w'.cell? ⟨gb120, 8, none⟩ = some (.int .i64 a0_8) ∧ w'.cell? ⟨gb121, 0, none⟩ = some (.bool a0_0) ∧ w'.cell? ⟨gb121, 1, none⟩ = some (.string a0_1) ∧ w'.cell? ⟨gb121, 2, none⟩ = some (.string a0_2)) (ds := []) #[false, false, false, false, false, false, false, false, false, false, false, false, false, false, false, false, false, false, false, false, false, false, false, false, false, false, false, false] (by kernel_rfl) rfl rfl ⟨(blk_cell BK120.out 0).trans rfl, (blk_cell BK120.out 1).trans rfl, (blk_cell BK120.out 2).trans rfl, (blk_cell BK120.out 3).trans rfl, (blk_cell BK120.out 4).trans rfl, (blk_cell BK120.out 5).trans rfl, (blk_cell BK120.out 6).trans rfl, (blk_cell BK120.out 7).trans rfl, (blk_cell BK120.out 8).trans rfl, (blk_cell BK121.out 0).trans rfl, (blk_cell BK121.out 1).trans rfl, (blk_cell BK121.out 2).trans rfl⟩ (fun hHeld => ?_); refine with_tabW operand_Check.tab5 operand_Check.bits5 (fun HT_ HW_ => ?_)
        generalize w63.drew = w64 at BK120 BK121 HB hHeld ⊢
        refine pr_ 0 (some 56) ?_
        refine pr_ 2 (some 58) ?_
        refine tk_ 1 (some 57) hHeld ?_
        refine tk_ 3 (some 59) hHeld ?_
        refine pr_ 4 (some 60) ?_
        refine pr_ 5 (some 61) ?_
        refine pr_ 6 (some 62) ?_
        refine pr_ 8 (some 64) ?_
        refine tk_ 7 (some 63) hHeld ?_
        refine tk_ 9 (some 65) hHeld ?_
        refine pr_ 10 (some 66) ?_
        refine pr_ 11 (some 67) ?_
        refine pr_ 12 (some 68) ?_
        refine pr_ 13 (some 69) ?_
        refine pr_ 14 (some 70) ?_
        refine pr_ 16 (some 72) ?_
        refine tk_ 15 (some 71) hHeld ?_
        refine one_ (i := 17) (N := some 73) #[true, true, true, true, true, true, true, true, true, true, true, true, true, true, true, true, true, true, false, false, false, false, false, false, false, false, false, false] rfl rfl (one_of HT_.out (by kernel_rfl)) (by decide) (fun K hK => ?_)
        refine goes_ Tryz.func31 (by kernel_rfl) rfl #[.string (a0_2 ++ t124)] (by rfl) rfl rfl ar_ ?_
        with_reducible refine (operand_whole.calls kj1 (a0_2 ++ t124) t125 _ A52.out).mono ?_
        rintro e w65 ⟨rfl, hb⟩
        refine ⟨_, rfl, ?_⟩
        replace BK120 := BK120.bl hb
        replace BK121 := BK121.bl hb
        replace HB := Aside0.mk (below_step hb_ hb)
        (try clear hb)
        (try clear hb2)
        (try clear hk)
        (try clear hi)
        refine hK.out _ _ ⟨(blk_cell BK120.out 0).trans rfl, (blk_cell BK120.out 1).trans rfl, (blk_cell BK120.out 2).trans rfl, (blk_cell BK120.out 3).trans rfl, (blk_cell BK120.out 4).trans rfl, (blk_cell BK120.out 5).trans rfl, (blk_cell BK120.out 6).trans rfl, (blk_cell BK120.out 7).trans rfl, (blk_cell BK120.out 8).trans rfl, (blk_cell BK121.out 0).trans rfl, (blk_cell BK121.out 1).trans rfl, (blk_cell BK121.out 2).trans rfl⟩ (fun hHeld => ?_)
        clear hK K
        refine norm_ (a' := ?_) ?_ ?_
        rotate_left
        ·show Act.put _ (some 73) _ = _
         simp only [Act.put, List.setIfInBounds_toArray, List.set_cons_zero, List.set_cons_succ, i64_w, i32_w]
         rfl
        refine pr_ 18 (some 74) ?_
        refine pr_ 19 (some 75) ?_
        refine pr_ 20 (some 76) ?_
        refine pu_ 21 (some 77) (a' := ?_) ?_ ?_
        rotate_left
        ·simp only [Act.put, List.setIfInBounds_toArray, List.set_cons_zero, List.set_cons_succ, i64_w, i32_w]
         rfl
        refine pu_ 22 (some 78) (a' := ?_) ?_ ?_
        rotate_left
        ·simp only [Act.put, List.setIfInBounds_toArray, List.set_cons_zero, List.set_cons_succ, i64_w, i32_w]
         rfl
        refine pu_ 23 (some 79) (a' := ?_) ?_ ?_
        rotate_left
        ·simp only [Act.put, List.setIfInBounds_toArray, List.set_cons_zero, List.set_cons_succ, i64_w, i32_w]
         rfl
        refine pu_ 24 (some 80) (a' := ?_) ?_ ?_
        rotate_left
        ·simp only [Act.put, List.setIfInBounds_toArray, List.set_cons_zero, List.set_cons_succ, i64_w, i32_w]
         rfl
        refine pu_ 25 (some 81) (a' := ?_) ?_ ?_
        rotate_left
        ·simp only [Act.put, List.setIfInBounds_toArray, List.set_cons_zero, List.set_cons_succ, i64_w, i32_w]
         rfl
        refine pu_ 26 (some 82) (a' := ?_) ?_ ?_
        rotate_left
        ·simp only [Act.put, List.setIfInBounds_toArray, List.set_cons_zero, List.set_cons_succ, i64_w, i32_w]
         rfl
        refine pr_ 27 (some 83) ?_
        refine done_ (done_of HT_.out (by kernel_rfl)) ?_
        try go_wp2
        go_ret
        exact fin_
      ·rw [if_neg c51] at H
       have c51b0 : (a0_5 == (a0_2.size : Int)) = false := beq_eq_false_iff_ne.mpr c51
       have c51b1 : (a0_5 != (a0_2.size : Int)) = true := bne_iff_ne.mpr c51
       obtain rfl := Option.some.inj H
       try go_wp2
       replace BK120 := Aside0.mk (blk_drew BK120.out)
       replace BK121 := Aside0.mk (blk_drew BK121.out)
       replace HB := Aside0.mk (below_drew1 HB.out)
       refine start_ (n := 11) (S := fun w' => w'.cell? ⟨gb121, 0, none⟩ = some (.bool a0_0) ∧ w'.cell? ⟨gb121, 1, none⟩ = some (.string a0_1) ∧ w'.cell? ⟨gb121, 2, none⟩ = some (.string a0_2) ∧ w'.cell? ⟨gb120, 0, none⟩ = some (.bool a0_0) ∧ w'.cell? ⟨gb120, 1, none⟩ = some (.string a0_1) ∧ w'.cell? ⟨gb120, 2, none⟩ = some (.string a0_2) ∧ w'.cell? ⟨gb120, 3, none⟩ = some (.string a0_3) ∧ w'.cell? ⟨gb120, 4, none⟩ = some (.int .i64 a0_4) ∧ w'.cell? ⟨gb120, 5, none⟩ = some (.int .i64 a0_5) ∧ w'.cell? ⟨gb120, 6, none⟩ = some (.string a0_6) ∧ w'.cell? ⟨gb120, 7, none⟩ = some (.string a0_7) ∧ w'.cell? ⟨gb120, 8, none⟩ = some (.int .i64 a0_8)) (ds := []) #[false, false, false, false, false, false, false, false, false, false, false] (by kernel_rfl) rfl rfl ⟨(blk_cell BK121.out 0).trans rfl, (blk_cell BK121.out 1).trans rfl, (blk_cell BK121.out 2).trans rfl, (blk_cell BK120.out 0).trans rfl, (blk_cell BK120.out 1).trans rfl, (blk_cell BK120.out 2).trans rfl, (blk_cell BK120.out 3).trans rfl, (blk_cell BK120.out 4).trans rfl, (blk_cell BK120.out 5).trans rfl, (blk_cell BK120.out 6).trans rfl, (blk_cell BK120.out 7).trans rfl, (blk_cell BK120.out 8).trans rfl⟩ (fun hHeld => ?_); refine with_tabW operand_Check.tab4 operand_Check.bits4 (fun HT_ HW_ => ?_)
       generalize wc.drew = w66 at BK120 BK121 HB hHeld ⊢
       refine pr_ 0 (some 46) ?_
       refine pr_ 2 (some 48) ?_
       refine pr_ 4 (some 50) ?_
       refine tk_ 1 (some 47) hHeld ?_
       refine tk_ 3 (some 49) hHeld ?_
       refine tk_ 5 (some 51) hHeld ?_
       refine pr_ 6 (some 52) ?_
       refine pr_ 7 (some 53) ?_
       refine one_ (i := 8) (N := some 54) #[true, true, true, true, true, true, true, true, true, false, false] rfl rfl (one_of HT_.out (by kernel_rfl)) (by decide) (fun K hK => ?_)
       refine goes_ Tryz.func38 (by kernel_rfl) rfl #[.string (⟨#[48]⟩ : ByteArray), .int .i64 (wrap64 (a0_4 - (a0_2.size : Int)))] (by rfl) rfl rfl ar_ ?_
       with_reducible refine (strings_Repeat.calls (⟨#[48]⟩ : ByteArray) (wrap64 (a0_4 - (a0_2.size : Int))) t124 _ A48.out).mono ?_
       rintro e w67 ⟨rfl, hb⟩
       refine ⟨_, rfl, ?_⟩
       replace BK120 := BK120.bl hb
       replace BK121 := BK121.bl hb
       replace HB := Aside0.mk (below_step hb_ hb)
       (try clear hb)
       (try clear hb2)
       (try clear hk)
       (try clear hi)
       refine hK.out _ _ ⟨(blk_cell BK121.out 0).trans rfl, (blk_cell BK121.out 1).trans rfl, (blk_cell BK121.out 2).trans rfl, (blk_cell BK120.out 0).trans rfl, (blk_cell BK120.out 1).trans rfl, (blk_cell BK120.out 2).trans rfl, (blk_cell BK120.out 3).trans rfl, (blk_cell BK120.out 4).trans rfl, (blk_cell BK120.out 5).trans rfl, (blk_cell BK120.out 6).trans rfl, (blk_cell BK120.out 7).trans rfl, (blk_cell BK120.out 8).trans rfl⟩ (fun hHeld => ?_)
       clear hK K
       refine norm_ (a' := ?_) ?_ ?_
       rotate_left
       ·show Act.put _ (some 54) _ = _
        simp only [Act.put, List.setIfInBounds_toArray, List.set_cons_zero, List.set_cons_succ, i64_w, i32_w]
        rfl
       refine pr_ 9 (some 55) ?_
       refine pr_ 10 (some 4) ?_
       refine done_ (done_of HT_.out (by kernel_rfl)) ?_
       try go_wp2
       replace BK120 := Aside0.mk (blk_drew BK120.out)
       replace BK121 := Aside0.mk (blk_drew BK121.out)
       replace HB := Aside0.mk (below_drew1 HB.out)
       refine start_ (n := 28) (S := fun w' => w'.cell? ⟨gb120, 0, none⟩ = some (.bool a0_0) ∧ w'.cell? ⟨gb120, 1, none⟩ = some (.string a0_1) ∧ w'.cell? ⟨gb120, 2, none⟩ = some (.string a0_2) ∧ w'.cell? ⟨gb120, 3, none⟩ = some (.string a0_3) ∧ w'.cell? ⟨gb120, 4, none⟩ = some (.int .i64 a0_4) ∧ w'.cell? ⟨gb120, 5, none⟩ = some (.int .i64 a0_5) ∧ w'.cell? ⟨gb120, 6, none⟩ = some (.string a0_6) ∧ w'.cell? ⟨gb120, 7, none⟩ = some (.string a0_7) ∧ w'.cell? ⟨gb120, 8, none⟩ = some (.int .i64 a0_8) ∧ w'.cell? ⟨gb121, 0, none⟩ = some (.bool a0_0) ∧ w'.cell? ⟨gb121, 1, none⟩ = some (.string a0_1) ∧ w'.cell? ⟨gb121, 2, none⟩ = some (.string a0_2)) (ds := []) #[false, false, false, false, false, false, false, false, false, false, false, false, false, false, false, false, false, false, false, false, false, false, false, false, false, false, false, false] (by kernel_rfl) rfl rfl ⟨(blk_cell BK120.out 0).trans rfl, (blk_cell BK120.out 1).trans rfl, (blk_cell BK120.out 2).trans rfl, (blk_cell BK120.out 3).trans rfl, (blk_cell BK120.out 4).trans rfl, (blk_cell BK120.out 5).trans rfl, (blk_cell BK120.out 6).trans rfl, (blk_cell BK120.out 7).trans rfl, (blk_cell BK120.out 8).trans rfl, (blk_cell BK121.out 0).trans rfl, (blk_cell BK121.out 1).trans rfl, (blk_cell BK121.out 2).trans rfl⟩ (fun hHeld => ?_); refine with_tabW operand_Check.tab5 operand_Check.bits5 (fun HT_ HW_ => ?_)
       generalize w67.drew = w68 at BK120 BK121 HB hHeld ⊢
       refine pr_ 0 (some 56) ?_
       refine pr_ 2 (some 58) ?_
       refine tk_ 1 (some 57) hHeld ?_
       refine tk_ 3 (some 59) hHeld ?_
       refine pr_ 4 (some 60) ?_
       refine pr_ 5 (some 61) ?_
       refine pr_ 6 (some 62) ?_
       refine pr_ 8 (some 64) ?_
       refine tk_ 7 (some 63) hHeld ?_
       refine tk_ 9 (some 65) hHeld ?_
       refine pr_ 10 (some 66) ?_
       refine pr_ 11 (some 67) ?_
       refine pr_ 12 (some 68) ?_
       refine pr_ 13 (some 69) ?_
       refine pu_ 14 (some 70) (a' := ?_) ?_ ?_
       rotate_left
       ·simp only [Act.put, List.setIfInBounds_toArray, List.set_cons_zero, List.set_cons_succ, i64_w, i32_w]
        rfl
       refine pu_ 15 (some 71) (a' := ?_) ?_ ?_
       rotate_left
       ·simp only [Act.put, List.setIfInBounds_toArray, List.set_cons_zero, List.set_cons_succ, i64_w, i32_w]
        rfl
       refine pu_ 16 (some 72) (a' := ?_) ?_ ?_
       rotate_left
       ·simp only [Act.put, List.setIfInBounds_toArray, List.set_cons_zero, List.set_cons_succ, i64_w, i32_w]
        rfl
       refine pu_ 17 (some 73) (a' := ?_) ?_ ?_
       rotate_left
       ·simp only [Act.put, List.setIfInBounds_toArray, List.set_cons_zero, List.set_cons_succ, i64_w, i32_w]
        rfl
       refine pu_ 18 (some 74) (a' := ?_) ?_ ?_
       rotate_left
       ·simp only [Act.put, List.setIfInBounds_toArray, List.set_cons_zero, List.set_cons_succ, i64_w, i32_w]
        rfl
       refine pr_ 19 (some 75) ?_
       refine pr_ 20 (some 76) ?_
       refine pu_ 21 (some 77) (a' := ?_) ?_ ?_
       rotate_left
       ·simp only [Act.put, List.setIfInBounds_toArray, List.set_cons_zero, List.set_cons_succ, i64_w, i32_w]
        rfl
       refine pu_ 22 (some 78) (a' := ?_) ?_ ?_
       rotate_left
       ·simp only [Act.put, List.setIfInBounds_toArray, List.set_cons_zero, List.set_cons_succ, i64_w, i32_w]
        rfl
       refine pu_ 23 (some 79) (a' := ?_) ?_ ?_
       rotate_left
       ·simp only [Act.put, List.setIfInBounds_toArray, List.set_cons_zero, List.set_cons_succ, i64_w, i32_w]
        rfl
       refine pu_ 24 (some 80) (a' := ?_) ?_ ?_
       rotate_left
       ·simp only [Act.put, List.setIfInBounds_toArray, List.set_cons_zero, List.set_cons_succ, i64_w, i32_w]
        rfl
       refine pu_ 25 (some 81) (a' := ?_) ?_ ?_
       rotate_left
       ·simp only [Act.put, List.setIfInBounds_toArray, List.set_cons_zero, List.set_cons_succ, i64_w, i32_w]
        rfl
       refine pu_ 26 (some 82) (a' := ?_) ?_ ?_
       rotate_left
       ·simp only [Act.put, List.setIfInBounds_toArray, List.set_cons_zero, List.set_cons_succ, i64_w, i32_w]
        rfl
       refine pr_ 27 (some 83) ?_
       refine done_ (done_of HT_.out (by kernel_rfl)) ?_
       try go_wp2
       go_ret
       exact fin_
     ·rw [if_neg c50] at H
      have c50b0 : (a0_3.toList == a0_1.toList) = false := beq_eq_false_iff_ne.mpr c50
      have c50b1 : (a0_3.toList != a0_1.toList) = true := bne_iff_ne.mpr c50
      obtain rfl := Option.some.inj H
      try go_wp2
      replace BK120 := Aside0.mk (blk_drew BK120.out)
      replace BK121 := Aside0.mk (blk_drew BK121.out)
      replace HB := Aside0.mk (below_drew1 HB.out)
      refine start_ (n := 11) (S := fun w' => w'.cell? ⟨gb121, 0, none⟩ = some (.bool a0_0) ∧ w'.cell? ⟨gb121, 1, none⟩ = some (.string a0_1) ∧ w'.cell? ⟨gb121, 2, none⟩ = some (.string a0_2) ∧ w'.cell? ⟨gb120, 0, none⟩ = some (.bool a0_0) ∧ w'.cell? ⟨gb120, 1, none⟩ = some (.string a0_1) ∧ w'.cell? ⟨gb120, 2, none⟩ = some (.string a0_2) ∧ w'.cell? ⟨gb120, 3, none⟩ = some (.string a0_3) ∧ w'.cell? ⟨gb120, 4, none⟩ = some (.int .i64 a0_4) ∧ w'.cell? ⟨gb120, 5, none⟩ = some (.int .i64 a0_5) ∧ w'.cell? ⟨gb120, 6, none⟩ = some (.string a0_6) ∧ w'.cell? ⟨gb120, 7, none⟩ = some (.string a0_7) ∧ w'.cell? ⟨gb120, 8, none⟩ = some (.int .i64 a0_8)) (ds := []) #[false, false, false, false, false, false, false, false, false, false, false] (by kernel_rfl) rfl rfl ⟨(blk_cell BK121.out 0).trans rfl, (blk_cell BK121.out 1).trans rfl, (blk_cell BK121.out 2).trans rfl, (blk_cell BK120.out 0).trans rfl, (blk_cell BK120.out 1).trans rfl, (blk_cell BK120.out 2).trans rfl, (blk_cell BK120.out 3).trans rfl, (blk_cell BK120.out 4).trans rfl, (blk_cell BK120.out 5).trans rfl, (blk_cell BK120.out 6).trans rfl, (blk_cell BK120.out 7).trans rfl, (blk_cell BK120.out 8).trans rfl⟩ (fun hHeld => ?_); refine with_tabW operand_Check.tab4 operand_Check.bits4 (fun HT_ HW_ => ?_)
      generalize wc.drew = w69 at BK120 BK121 HB hHeld ⊢
      refine pr_ 0 (some 46) ?_
      refine pr_ 2 (some 48) ?_
      refine pr_ 4 (some 50) ?_
      refine tk_ 1 (some 47) hHeld ?_
      refine tk_ 3 (some 49) hHeld ?_
      refine tk_ 5 (some 51) hHeld ?_
      refine pr_ 6 (some 52) ?_
      refine pr_ 7 (some 53) ?_
      refine one_ (i := 8) (N := some 54) #[true, true, true, true, true, true, true, true, true, false, false] rfl rfl (one_of HT_.out (by kernel_rfl)) (by decide) (fun K hK => ?_)
      refine goes_ Tryz.func38 (by kernel_rfl) rfl #[.string (⟨#[48]⟩ : ByteArray), .int .i64 (wrap64 (a0_4 - (a0_2.size : Int)))] (by rfl) rfl rfl ar_ ?_
      with_reducible refine (strings_Repeat.calls (⟨#[48]⟩ : ByteArray) (wrap64 (a0_4 - (a0_2.size : Int))) t124 _ A48.out).mono ?_
      rintro e w70 ⟨rfl, hb⟩
      refine ⟨_, rfl, ?_⟩
      replace BK120 := BK120.bl hb
      replace BK121 := BK121.bl hb
      replace HB := Aside0.mk (below_step hb_ hb)
      (try clear hb)
      (try clear hb2)
      (try clear hk)
      (try clear hi)
      refine hK.out _ _ ⟨(blk_cell BK121.out 0).trans rfl, (blk_cell BK121.out 1).trans rfl, (blk_cell BK121.out 2).trans rfl, (blk_cell BK120.out 0).trans rfl, (blk_cell BK120.out 1).trans rfl, (blk_cell BK120.out 2).trans rfl, (blk_cell BK120.out 3).trans rfl, (blk_cell BK120.out 4).trans rfl, (blk_cell BK120.out 5).trans rfl, (blk_cell BK120.out 6).trans rfl, (blk_cell BK120.out 7).trans rfl, (blk_cell BK120.out 8).trans rfl⟩ (fun hHeld => ?_)
      clear hK K
      refine norm_ (a' := ?_) ?_ ?_
      rotate_left
      ·show Act.put _ (some 54) _ = _
       simp only [Act.put, List.setIfInBounds_toArray, List.set_cons_zero, List.set_cons_succ, i64_w, i32_w]
       rfl
      refine pr_ 9 (some 55) ?_
      refine pr_ 10 (some 4) ?_
      refine done_ (done_of HT_.out (by kernel_rfl)) ?_
      try go_wp2
      replace BK120 := Aside0.mk (blk_drew BK120.out)
      replace BK121 := Aside0.mk (blk_drew BK121.out)
      replace HB := Aside0.mk (below_drew1 HB.out)
      refine start_ (n := 28) (S := fun w' => w'.cell? ⟨gb120, 0, none⟩ = some (.bool a0_0) ∧ w'.cell? ⟨gb120, 1, none⟩ = some (.string a0_1) ∧ w'.cell? ⟨gb120, 2, none⟩ = some (.string a0_2) ∧ w'.cell? ⟨gb120, 3, none⟩ = some (.string a0_3) ∧ w'.cell? ⟨gb120, 4, none⟩ = some (.int .i64 a0_4) ∧ w'.cell? ⟨gb120, 5, none⟩ = some (.int .i64 a0_5) ∧ w'.cell? ⟨gb120, 6, none⟩ = some (.string a0_6) ∧ w'.cell? ⟨gb120, 7, none⟩ = some (.string a0_7) ∧ w'.cell? ⟨gb120, 8, none⟩ = some (.int .i64 a0_8) ∧ w'.cell? ⟨gb121, 0, none⟩ = some (.bool a0_0) ∧ w'.cell? ⟨gb121, 1, none⟩ = some (.string a0_1) ∧ w'.cell? ⟨gb121, 2, none⟩ = some (.string a0_2)) (ds := []) #[false, false, false, false, false, false, false, false, false, false, false, false, false, false, false, false, false, false, false, false, false, false, false, false, false, false, false, false] (by kernel_rfl) rfl rfl ⟨(blk_cell BK120.out 0).trans rfl, (blk_cell BK120.out 1).trans rfl, (blk_cell BK120.out 2).trans rfl, (blk_cell BK120.out 3).trans rfl, (blk_cell BK120.out 4).trans rfl, (blk_cell BK120.out 5).trans rfl, (blk_cell BK120.out 6).trans rfl, (blk_cell BK120.out 7).trans rfl, (blk_cell BK120.out 8).trans rfl, (blk_cell BK121.out 0).trans rfl, (blk_cell BK121.out 1).trans rfl, (blk_cell BK121.out 2).trans rfl⟩ (fun hHeld => ?_); refine with_tabW operand_Check.tab5 operand_Check.bits5 (fun HT_ HW_ => ?_)
      generalize w70.drew = w71 at BK120 BK121 HB hHeld ⊢
      refine pr_ 0 (some 56) ?_
      refine pr_ 2 (some 58) ?_
      refine tk_ 1 (some 57) hHeld ?_
      refine tk_ 3 (some 59) hHeld ?_
      refine pr_ 4 (some 60) ?_
      refine pr_ 5 (some 61) ?_
      refine pu_ 6 (some 62) (a' := ?_) ?_ ?_
      rotate_left
      ·simp only [Act.put, List.setIfInBounds_toArray, List.set_cons_zero, List.set_cons_succ, i64_w, i32_w]
       rfl
      refine pu_ 7 (some 63) (a' := ?_) ?_ ?_
      rotate_left
      ·simp only [Act.put, List.setIfInBounds_toArray, List.set_cons_zero, List.set_cons_succ, i64_w, i32_w]
       rfl
      refine pu_ 8 (some 64) (a' := ?_) ?_ ?_
      rotate_left
      ·simp only [Act.put, List.setIfInBounds_toArray, List.set_cons_zero, List.set_cons_succ, i64_w, i32_w]
       rfl
      refine pu_ 9 (some 65) (a' := ?_) ?_ ?_
      rotate_left
      ·simp only [Act.put, List.setIfInBounds_toArray, List.set_cons_zero, List.set_cons_succ, i64_w, i32_w]
       rfl
      refine pu_ 10 (some 66) (a' := ?_) ?_ ?_
      rotate_left
      ·simp only [Act.put, List.setIfInBounds_toArray, List.set_cons_zero, List.set_cons_succ, i64_w, i32_w]
       rfl
      refine pu_ 11 (some 67) (a' := ?_) ?_ ?_
      rotate_left
      ·simp only [Act.put, List.setIfInBounds_toArray, List.set_cons_zero, List.set_cons_succ, i64_w, i32_w]
       rfl
      refine pr_ 12 (some 68) ?_
      refine pr_ 13 (some 69) ?_
      refine pu_ 14 (some 70) (a' := ?_) ?_ ?_
      rotate_left
      ·simp only [Act.put, List.setIfInBounds_toArray, List.set_cons_zero, List.set_cons_succ, i64_w, i32_w]
       rfl
      refine pu_ 15 (some 71) (a' := ?_) ?_ ?_
      rotate_left
      ·simp only [Act.put, List.setIfInBounds_toArray, List.set_cons_zero, List.set_cons_succ, i64_w, i32_w]
       rfl
      refine pu_ 16 (some 72) (a' := ?_) ?_ ?_
      rotate_left
      ·simp only [Act.put, List.setIfInBounds_toArray, List.set_cons_zero, List.set_cons_succ, i64_w, i32_w]
       rfl
      refine pu_ 17 (some 73) (a' := ?_) ?_ ?_
      rotate_left
      ·simp only [Act.put, List.setIfInBounds_toArray, List.set_cons_zero, List.set_cons_succ, i64_w, i32_w]
       rfl
      refine pu_ 18 (some 74) (a' := ?_) ?_ ?_
      rotate_left
      ·simp only [Act.put, List.setIfInBounds_toArray, List.set_cons_zero, List.set_cons_succ, i64_w, i32_w]
       rfl
      refine pr_ 19 (some 75) ?_
      refine pr_ 20 (some 76) ?_
      refine pu_ 21 (some 77) (a' := ?_) ?_ ?_
      rotate_left
      ·simp only [Act.put, List.setIfInBounds_toArray, List.set_cons_zero, List.set_cons_succ, i64_w, i32_w]
       rfl
      refine pu_ 22 (some 78) (a' := ?_) ?_ ?_
      rotate_left
      ·simp only [Act.put, List.setIfInBounds_toArray, List.set_cons_zero, List.set_cons_succ, i64_w, i32_w]
       rfl
      refine pu_ 23 (some 79) (a' := ?_) ?_ ?_
      rotate_left
      ·simp only [Act.put, List.setIfInBounds_toArray, List.set_cons_zero, List.set_cons_succ, i64_w, i32_w]
       rfl
      refine pu_ 24 (some 80) (a' := ?_) ?_ ?_
      rotate_left
      ·simp only [Act.put, List.setIfInBounds_toArray, List.set_cons_zero, List.set_cons_succ, i64_w, i32_w]
       rfl
      refine pu_ 25 (some 81) (a' := ?_) ?_ ?_
      rotate_left
      ·simp only [Act.put, List.setIfInBounds_toArray, List.set_cons_zero, List.set_cons_succ, i64_w, i32_w]
       rfl
      refine pu_ 26 (some 82) (a' := ?_) ?_ ?_
      rotate_left
      ·simp only [Act.put, List.setIfInBounds_toArray, List.set_cons_zero, List.set_cons_succ, i64_w, i32_w]
       rfl
      refine pr_ 27 (some 83) ?_
      refine done_ (done_of HT_.out (by kernel_rfl)) ?_
      try go_wp2
      go_ret
      exact fin_
    ·rw [if_neg c49] at H
     exact absurd H (by simp)
attribute [local go_sem] max2_int max_two
set_option linter.unusedVariables false
set_option linter.unusedSimpArgs false
def operand_get.f (a0_0 : Bool) (a0_1 : ByteArray) (a0_2 : ByteArray) (a0_3 : ByteArray) (a0_4 : Int) (a0_5 : Int) (a0_6 : ByteArray) (a0_7 : ByteArray) (a0_8 : Int) (a1 : ByteArray) : Option (Bool × ByteArray × ByteArray × Bool) := if a1.toList = ([110] : List UInt8) then (some (a0_0, a0_1, a0_2, true)) else (if a1.toList = ([105] : List UInt8) then (some (false, a0_3, (⟨#[]⟩ : ByteArray), true)) else (if a1.toList = ([102] : List UInt8) then (some (false, a0_6, (⟨#[]⟩ : ByteArray), true)) else (if a1.toList = ([116] : List UInt8) then (some (false, a0_7, (⟨#[]⟩ : ByteArray), true)) else (if a1.toList = ([118] : List UInt8) then ((strconv_Itoa.f a0_4).bind fun t129 => (some (false, t129, (⟨#[]⟩ : ByteArray), true))) else (if a1.toList = ([119] : List UInt8) then ((strconv_Itoa.f a0_5).bind fun t130 => (some (false, t130, (⟨#[]⟩ : ByteArray), true))) else (if a1.toList = ([99] : List UInt8) then ((strconv_Itoa.f a0_8).bind fun t131 => (some (false, t131, (⟨#[]⟩ : ByteArray), true))) else (if a1.toList = ([101] : List UInt8) then ((strconv_Itoa.f a0_8).bind fun t132 => (some (false, t132, (⟨#[]⟩ : ByteArray), true))) else (some (false, (⟨#[]⟩ : ByteArray), (⟨#[]⟩ : ByteArray), false)))))))))
set_option maxHeartbeats 8000000 in
set_option maxRecDepth 100000 in
theorem operand_get.calls (a0_0 : Bool) (a0_1 : ByteArray) (a0_2 : ByteArray) (a0_3 : ByteArray) (a0_4 : Int) (a0_5 : Int) (a0_6 : ByteArray) (a0_7 : ByteArray) (a0_8 : Int) (a1 : ByteArray) (r1 : Bool) (r2 : ByteArray) (r3 : ByteArray) (r4 : Bool) (w : World) (ht : TB w) (h : operand_get.f a0_0 a0_1 a0_2 a0_3 a0_4 a0_5 a0_6 a0_7 a0_8 a1 = some (r1, r2, r3, r4)) :
    Calls Tryz.prog 16 #[.agg #[.bool a0_0, .string a0_1, .string a0_2, .string a0_3, .int .i64 a0_4, .int .i64 a0_5, .string a0_6, .string a0_7, .int .i64 a0_8], .string a1] w fun e w' => e = .returned (.tuple #[.agg #[.bool r1, .string r2, .string r3], .bool r4]) ∧ Below w.heap.size w w' := by
 have hu25 := Tryz.underlying25
 have hu23 := Tryz.underlying23
 have HTB := Aside0.mk ht
 clear ht
 have HB := Aside0.mk (Below.refl w.heap.size w)
 unfold operand_get.f at h
 have H := h
 clear h
 have HF3 := Aside0.mk H
 clear H
 go_enter Tryz.func16, Tryz.ntmps16
 go_upto_if 7 with (first | ((with_reducible refine gate_dst (N := 2) rfl ?_); refine bx_ #[.bool a0_0, .string a0_1, .string a0_2, .string a0_3, .int .i64 a0_4, .int .i64 a0_5, .string a0_6, .string a0_7, .int .i64 a0_8] 25 ?_; intro gb127 hg w4 hbox hb; have BK127 := Aside0.mk (hbox); have GW127 := ge_ (w := w) hg; have GE127 := ge_ (w := w) hg; replace HB := Aside0.mk (below_step hb_ hb); clear hb hbox hg) | ((with_reducible refine gate_dst (N := 4) rfl ?_); refine bx_ #[.bool false, .string (⟨#[]⟩ : ByteArray), .string (⟨#[]⟩ : ByteArray)] 23 ?_; intro gb128 hg w5 hbox hb; have BK128 := Aside0.mk (hbox); have GW128 := ge_ (w := w) hg; have GE128 := ge_ (w := w) hg; have NB127_128 := BK127.nl hg; have NB128_127 := BK127.ng hg; replace BK127 := BK127.bl hb; replace HB := Aside0.mk (below_step hb_ hb); clear hb hbox hg))
 (try simp only [Act.put, List.setIfInBounds_toArray, List.set_cons_zero, List.set_cons_succ])
 have H := HF3.out
 clear HF3
 by_cases c6 : a1.toList = ([110] : List UInt8)
 ·rw [if_pos c6] at H
  have c6b0 : (a1.toList == ([110] : List UInt8)) = true := beq_iff_eq.mpr c6
  have c6b1 : (a1.toList != ([110] : List UInt8)) = false := bne_eq_false_iff_eq.mpr c6
  clear c6
  (first | rw [c6b0] | (simp only [i64_w, i32_w]; rw [c6b0]) | rw [c6b1] | skip)
  simp only [Option.some.injEq, Prod.mk.injEq] at H
  obtain ⟨rfl, rfl, rfl, rfl⟩ := H
  have hnb7 := NB127_128.out
  have hnc7 := NB128_127.out
  obtain ⟨hcz8_0, hcz8_1, hcz8_2, hcz8_3, hcz8_4, hcz8_5, hcz8_6, hcz8_7, hcz8_8, hfz8_0, hfz8_1, hfz8_2, hfz8_3, hfz8_4, hfz8_5, hfz8_6, hfz8_7, hfz8_8⟩ := BK127.c9
  obtain ⟨hcz9_0, hcz9_1, hcz9_2, hfz9_0, hfz9_1, hfz9_2⟩ := BK128.c3
  go_wp2
  refine bodyPost_ret (results_ct rfl _ _ gb128 23 #[.bool a0_0, .string a0_1, .string a0_2] (0, 0) _ rfl (by refine put3_ (cs := #[.bool false, .string (⟨#[]⟩ : ByteArray), .string (⟨#[]⟩ : ByteArray)]) ?_; exact BK128.out) Tryz.underlying23 rfl (by kernel_rfl)) rfl ?_
  exact fin_
 ·rw [if_neg c6] at H
  have c6b0 : (a1.toList == ([110] : List UInt8)) = false := beq_eq_false_iff_ne.mpr c6
  have c6b1 : (a1.toList != ([110] : List UInt8)) = true := bne_iff_ne.mpr c6
  (first | rw [c6b0] | (simp only [i64_w, i32_w]; rw [c6b0]) | rw [c6b1] | skip)
  by_cases c10 : a1.toList = ([105] : List UInt8)
  ·rw [if_pos c10] at H
   have c10b0 : (a1.toList == ([105] : List UInt8)) = true := beq_iff_eq.mpr c10
   have c10b1 : (a1.toList != ([105] : List UInt8)) = false := bne_eq_false_iff_eq.mpr c10
   clear c10
   simp only [Option.some.injEq, Prod.mk.injEq] at H
   obtain ⟨rfl, rfl, rfl, rfl⟩ := H
   have hnb11 := NB127_128.out
   have hnc11 := NB128_127.out
   obtain ⟨hcz12_0, hcz12_1, hcz12_2, hcz12_3, hcz12_4, hcz12_5, hcz12_6, hcz12_7, hcz12_8, hfz12_0, hfz12_1, hfz12_2, hfz12_3, hfz12_4, hfz12_5, hfz12_6, hfz12_7, hfz12_8⟩ := BK127.c9
   obtain ⟨hcz13_0, hcz13_1, hcz13_2, hfz13_0, hfz13_1, hfz13_2⟩ := BK128.c3
   go_wp2
   refine bodyPost_ret (results_ct rfl _ _ gb128 23 #[.bool false, .string a0_3, .string (⟨#[]⟩ : ByteArray)] (0, 0) _ rfl (by refine put3_ (cs := #[.bool false, .string (⟨#[]⟩ : ByteArray), .string (⟨#[]⟩ : ByteArray)]) ?_; exact BK128.out) Tryz.underlying23 rfl (by kernel_rfl)) rfl ?_
   exact fin_
  ·rw [if_neg c10] at H
   have c10b0 : (a1.toList == ([105] : List UInt8)) = false := beq_eq_false_iff_ne.mpr c10
   have c10b1 : (a1.toList != ([105] : List UInt8)) = true := bne_iff_ne.mpr c10
   by_cases c14 : a1.toList = ([102] : List UInt8)
   ·rw [if_pos c14] at H
    have c14b0 : (a1.toList == ([102] : List UInt8)) = true := beq_iff_eq.mpr c14
    have c14b1 : (a1.toList != ([102] : List UInt8)) = false := bne_eq_false_iff_eq.mpr c14
    clear c14
    simp only [Option.some.injEq, Prod.mk.injEq] at H
    obtain ⟨rfl, rfl, rfl, rfl⟩ := H
    have hnb15 := NB127_128.out
    have hnc15 := NB128_127.out
    obtain ⟨hcz16_0, hcz16_1, hcz16_2, hcz16_3, hcz16_4, hcz16_5, hcz16_6, hcz16_7, hcz16_8, hfz16_0, hfz16_1, hfz16_2, hfz16_3, hfz16_4, hfz16_5, hfz16_6, hfz16_7, hfz16_8⟩ := BK127.c9
    obtain ⟨hcz17_0, hcz17_1, hcz17_2, hfz17_0, hfz17_1, hfz17_2⟩ := BK128.c3
    go_wp2
    refine bodyPost_ret (results_ct rfl _ _ gb128 23 #[.bool false, .string a0_6, .string (⟨#[]⟩ : ByteArray)] (0, 0) _ rfl (by refine put3_ (cs := #[.bool false, .string (⟨#[]⟩ : ByteArray), .string (⟨#[]⟩ : ByteArray)]) ?_; exact BK128.out) Tryz.underlying23 rfl (by kernel_rfl)) rfl ?_
    exact fin_
   ·rw [if_neg c14] at H
    have c14b0 : (a1.toList == ([102] : List UInt8)) = false := beq_eq_false_iff_ne.mpr c14
    have c14b1 : (a1.toList != ([102] : List UInt8)) = true := bne_iff_ne.mpr c14
    by_cases c18 : a1.toList = ([116] : List UInt8)
    ·rw [if_pos c18] at H
     have c18b0 : (a1.toList == ([116] : List UInt8)) = true := beq_iff_eq.mpr c18
     have c18b1 : (a1.toList != ([116] : List UInt8)) = false := bne_eq_false_iff_eq.mpr c18
     clear c18
     simp only [Option.some.injEq, Prod.mk.injEq] at H
     obtain ⟨rfl, rfl, rfl, rfl⟩ := H
     have hnb19 := NB127_128.out
     have hnc19 := NB128_127.out
     obtain ⟨hcz20_0, hcz20_1, hcz20_2, hcz20_3, hcz20_4, hcz20_5, hcz20_6, hcz20_7, hcz20_8, hfz20_0, hfz20_1, hfz20_2, hfz20_3, hfz20_4, hfz20_5, hfz20_6, hfz20_7, hfz20_8⟩ := BK127.c9
     obtain ⟨hcz21_0, hcz21_1, hcz21_2, hfz21_0, hfz21_1, hfz21_2⟩ := BK128.c3
     go_wp2
     refine bodyPost_ret (results_ct rfl _ _ gb128 23 #[.bool false, .string a0_7, .string (⟨#[]⟩ : ByteArray)] (0, 0) _ rfl (by refine put3_ (cs := #[.bool false, .string (⟨#[]⟩ : ByteArray), .string (⟨#[]⟩ : ByteArray)]) ?_; exact BK128.out) Tryz.underlying23 rfl (by kernel_rfl)) rfl ?_
     exact fin_
    ·rw [if_neg c18] at H
     have c18b0 : (a1.toList == ([116] : List UInt8)) = false := beq_eq_false_iff_ne.mpr c18
     have c18b1 : (a1.toList != ([116] : List UInt8)) = true := bne_iff_ne.mpr c18
     by_cases c22 : a1.toList = ([118] : List UInt8)
     ·rw [if_pos c22] at H
      have c22b0 : (a1.toList == ([118] : List UInt8)) = true := beq_iff_eq.mpr c22
      have c22b1 : (a1.toList != ([118] : List UInt8)) = false := bne_eq_false_iff_eq.mpr c22
      clear c22
      replace H := Option.bind_eq_some_iff.mp H
      obtain ⟨t129, A230, H⟩ := H
      try dsimp only at H
      have A23 := Aside0.mk A230
      clear A230
      simp only [Option.some.injEq, Prod.mk.injEq] at H
      obtain ⟨rfl, rfl, rfl, rfl⟩ := H
      have hnb24 := NB127_128.out
      have hnc24 := NB128_127.out
      obtain ⟨hcz25_0, hcz25_1, hcz25_2, hcz25_3, hcz25_4, hcz25_5, hcz25_6, hcz25_7, hcz25_8, hfz25_0, hfz25_1, hfz25_2, hfz25_3, hfz25_4, hfz25_5, hfz25_6, hfz25_7, hfz25_8⟩ := BK127.c9
      go_wp2_with (first | ((with_reducible refine gate_callee (f := 18) rfl ?_); refine gL_ (some 36) Tryz.func18 #[.int .i64 a0_4] ?_; (with_reducible refine (strconv_Itoa.calls a0_4 t129 _ (TB.below HTB.out hb_) A23.out).mono ?_); rintro e w26 ⟨rfl, hb⟩; refine ⟨_, rfl, ?_⟩; replace BK127 := BK127.bl hb; replace BK128 := BK128.bl hb; replace HB := Aside0.mk (below_step hb_ hb); obtain ⟨hcz27_0, hcz27_1, hcz27_2, hfz27_0, hfz27_1, hfz27_2⟩ := BK128.c3))
      refine bodyPost_ret (results_ct rfl _ _ gb128 23 #[.bool false, .string t129, .string (⟨#[]⟩ : ByteArray)] (0, 0) _ rfl (by refine put3_ (cs := #[.bool false, .string (⟨#[]⟩ : ByteArray), .string (⟨#[]⟩ : ByteArray)]) ?_; exact BK128.out) Tryz.underlying23 rfl (by kernel_rfl)) rfl ?_
      exact fin_
     ·rw [if_neg c22] at H
      have c22b0 : (a1.toList == ([118] : List UInt8)) = false := beq_eq_false_iff_ne.mpr c22
      have c22b1 : (a1.toList != ([118] : List UInt8)) = true := bne_iff_ne.mpr c22
      by_cases c28 : a1.toList = ([119] : List UInt8)
      ·rw [if_pos c28] at H
       have c28b0 : (a1.toList == ([119] : List UInt8)) = true := beq_iff_eq.mpr c28
       have c28b1 : (a1.toList != ([119] : List UInt8)) = false := bne_eq_false_iff_eq.mpr c28
       clear c28
       replace H := Option.bind_eq_some_iff.mp H
       obtain ⟨t130, A290, H⟩ := H
       try dsimp only at H
       have A29 := Aside0.mk A290
       clear A290
       simp only [Option.some.injEq, Prod.mk.injEq] at H
       obtain ⟨rfl, rfl, rfl, rfl⟩ := H
       have hnb30 := NB127_128.out
       have hnc30 := NB128_127.out
       obtain ⟨hcz31_0, hcz31_1, hcz31_2, hcz31_3, hcz31_4, hcz31_5, hcz31_6, hcz31_7, hcz31_8, hfz31_0, hfz31_1, hfz31_2, hfz31_3, hfz31_4, hfz31_5, hfz31_6, hfz31_7, hfz31_8⟩ := BK127.c9
       go_wp2_with (first | ((with_reducible refine gate_callee (f := 18) rfl ?_); refine gL_ (some 40) Tryz.func18 #[.int .i64 a0_5] ?_; (with_reducible refine (strconv_Itoa.calls a0_5 t130 _ (TB.below HTB.out hb_) A29.out).mono ?_); rintro e w32 ⟨rfl, hb⟩; refine ⟨_, rfl, ?_⟩; replace BK127 := BK127.bl hb; replace BK128 := BK128.bl hb; replace HB := Aside0.mk (below_step hb_ hb); obtain ⟨hcz33_0, hcz33_1, hcz33_2, hfz33_0, hfz33_1, hfz33_2⟩ := BK128.c3))
       refine bodyPost_ret (results_ct rfl _ _ gb128 23 #[.bool false, .string t130, .string (⟨#[]⟩ : ByteArray)] (0, 0) _ rfl (by refine put3_ (cs := #[.bool false, .string (⟨#[]⟩ : ByteArray), .string (⟨#[]⟩ : ByteArray)]) ?_; exact BK128.out) Tryz.underlying23 rfl (by kernel_rfl)) rfl ?_
       exact fin_
      ·rw [if_neg c28] at H
       have c28b0 : (a1.toList == ([119] : List UInt8)) = false := beq_eq_false_iff_ne.mpr c28
       have c28b1 : (a1.toList != ([119] : List UInt8)) = true := bne_iff_ne.mpr c28
       by_cases c34 : a1.toList = ([99] : List UInt8)
       ·rw [if_pos c34] at H
        have c34b0 : (a1.toList == ([99] : List UInt8)) = true := beq_iff_eq.mpr c34
        have c34b1 : (a1.toList != ([99] : List UInt8)) = false := bne_eq_false_iff_eq.mpr c34
        clear c34
        replace H := Option.bind_eq_some_iff.mp H
        obtain ⟨t131, A350, H⟩ := H
        try dsimp only at H
        have A35 := Aside0.mk A350
        clear A350
        simp only [Option.some.injEq, Prod.mk.injEq] at H
        obtain ⟨rfl, rfl, rfl, rfl⟩ := H
        have hnb36 := NB127_128.out
        have hnc36 := NB128_127.out
        obtain ⟨hcz37_0, hcz37_1, hcz37_2, hcz37_3, hcz37_4, hcz37_5, hcz37_6, hcz37_7, hcz37_8, hfz37_0, hfz37_1, hfz37_2, hfz37_3, hfz37_4, hfz37_5, hfz37_6, hfz37_7, hfz37_8⟩ := BK127.c9
        go_wp2_with (first | ((with_reducible refine gate_callee (f := 18) rfl ?_); refine gL_ (some 44) Tryz.func18 #[.int .i64 a0_8] ?_; (with_reducible refine (strconv_Itoa.calls a0_8 t131 _ (TB.below HTB.out hb_) A35.out).mono ?_); rintro e w38 ⟨rfl, hb⟩; refine ⟨_, rfl, ?_⟩; replace BK127 := BK127.bl hb; replace BK128 := BK128.bl hb; replace HB := Aside0.mk (below_step hb_ hb); obtain ⟨hcz39_0, hcz39_1, hcz39_2, hfz39_0, hfz39_1, hfz39_2⟩ := BK128.c3))
        refine bodyPost_ret (results_ct rfl _ _ gb128 23 #[.bool false, .string t131, .string (⟨#[]⟩ : ByteArray)] (0, 0) _ rfl (by refine put3_ (cs := #[.bool false, .string (⟨#[]⟩ : ByteArray), .string (⟨#[]⟩ : ByteArray)]) ?_; exact BK128.out) Tryz.underlying23 rfl (by kernel_rfl)) rfl ?_
        exact fin_
       ·rw [if_neg c34] at H
        have c34b0 : (a1.toList == ([99] : List UInt8)) = false := beq_eq_false_iff_ne.mpr c34
        have c34b1 : (a1.toList != ([99] : List UInt8)) = true := bne_iff_ne.mpr c34
        by_cases c40 : a1.toList = ([101] : List UInt8)
        ·rw [if_pos c40] at H
         have c40b0 : (a1.toList == ([101] : List UInt8)) = true := beq_iff_eq.mpr c40
         have c40b1 : (a1.toList != ([101] : List UInt8)) = false := bne_eq_false_iff_eq.mpr c40
         clear c40
         replace H := Option.bind_eq_some_iff.mp H
         obtain ⟨t132, A410, H⟩ := H
         try dsimp only at H
         have A41 := Aside0.mk A410
         clear A410
         simp only [Option.some.injEq, Prod.mk.injEq] at H
         obtain ⟨rfl, rfl, rfl, rfl⟩ := H
         have hnb42 := NB127_128.out
         have hnc42 := NB128_127.out
         obtain ⟨hcz43_0, hcz43_1, hcz43_2, hcz43_3, hcz43_4, hcz43_5, hcz43_6, hcz43_7, hcz43_8, hfz43_0, hfz43_1, hfz43_2, hfz43_3, hfz43_4, hfz43_5, hfz43_6, hfz43_7, hfz43_8⟩ := BK127.c9
         go_wp2_with (first | ((with_reducible refine gate_callee (f := 18) rfl ?_); refine gL_ (some 44) Tryz.func18 #[.int .i64 a0_8] ?_; (with_reducible refine (strconv_Itoa.calls a0_8 t132 _ (TB.below HTB.out hb_) A41.out).mono ?_); rintro e w44 ⟨rfl, hb⟩; refine ⟨_, rfl, ?_⟩; replace BK127 := BK127.bl hb; replace BK128 := BK128.bl hb; replace HB := Aside0.mk (below_step hb_ hb); obtain ⟨hcz45_0, hcz45_1, hcz45_2, hfz45_0, hfz45_1, hfz45_2⟩ := BK128.c3))
         refine bodyPost_ret (results_ct rfl _ _ gb128 23 #[.bool false, .string t132, .string (⟨#[]⟩ : ByteArray)] (0, 0) _ rfl (by refine put3_ (cs := #[.bool false, .string (⟨#[]⟩ : ByteArray), .string (⟨#[]⟩ : ByteArray)]) ?_; exact BK128.out) Tryz.underlying23 rfl (by kernel_rfl)) rfl ?_
         exact fin_
        ·rw [if_neg c40] at H
         have c40b0 : (a1.toList == ([101] : List UInt8)) = false := beq_eq_false_iff_ne.mpr c40
         have c40b1 : (a1.toList != ([101] : List UInt8)) = true := bne_iff_ne.mpr c40
         simp only [Option.some.injEq, Prod.mk.injEq] at H
         obtain ⟨rfl, rfl, rfl, rfl⟩ := H
         have hnb46 := NB128_127.out
         have hnc46 := NB127_128.out
         obtain ⟨hcz47_0, hcz47_1, hcz47_2, hfz47_0, hfz47_1, hfz47_2⟩ := BK128.c3
         go_wp2
         refine bodyPost_ret (results_ct rfl _ _ gb128 23 #[.bool false, .string (⟨#[]⟩ : ByteArray), .string (⟨#[]⟩ : ByteArray)] (0, 0) _ rfl (by refine put3_ (cs := #[.bool false, .string (⟨#[]⟩ : ByteArray), .string (⟨#[]⟩ : ByteArray)]) ?_; exact BK128.out) Tryz.underlying23 rfl (by kernel_rfl)) rfl ?_
         exact fin_
attribute [local go_sem] max2_int max_two
set_option linter.unusedVariables false
set_option linter.unusedSimpArgs false
def operand_Get.f (k : Nat) (a0_0 : Bool) (a0_1 : ByteArray) (a0_2 : ByteArray) (a0_3 : ByteArray) (a0_4 : Int) (a0_5 : Int) (a0_6 : ByteArray) (a0_7 : ByteArray) (a0_8 : Int) (a1 : ByteArray) : Option (Bool × ByteArray × ByteArray × Int) := (operand_Check.f k a0_0 a0_1 a0_2 a0_3 a0_4 a0_5 a0_6 a0_7 a0_8).bind fun t135 => (if t135 = 0 then ((operand_get.f a0_0 a0_1 a0_2 a0_3 a0_4 a0_5 a0_6 a0_7 a0_8 a1).bind fun bt136 => (if bt136.2.2.2 = true then (some (bt136.1, bt136.2.1, bt136.2.2.1, 0)) else (some (false, (⟨#[]⟩ : ByteArray), (⟨#[]⟩ : ByteArray), 40)))) else (some (false, (⟨#[]⟩ : ByteArray), (⟨#[]⟩ : ByteArray), t135)))
theorem operand_Get.mono : ∀ a0 a1 a2 a3 a4 a5 a6 a7 a8 a9 k, LeO (operand_Get.f k a0 a1 a2 a3 a4 a5 a6 a7 a8 a9) (operand_Get.f (k + 1) a0 a1 a2 a3 a4 a5 a6 a7 a8 a9) := by
 intro a0 a1 a2 a3 a4 a5 a6 a7 a8 a9 k
 unfold operand_Get.f
 repeat' first
   | (with_reducible exact operand_Check.mono _ _ _ _ _ _ _ _ _ _)
   | (with_reducible exact LeO.refl _)
   | (with_reducible exact LeO.none _)
   | (with_reducible refine LeO.ite ?_ ?_)
   | (with_reducible refine LeO.bind ?_ (fun _ => ?_))
   | exact operand_Check.mono _ _ _ _ _ _ _ _ _ _
   | exact LeO.none _
   | refine LeO.ite ?_ ?_
   | refine LeO.bind ?_ (fun _ => ?_)
set_option maxHeartbeats 8000000 in
set_option maxRecDepth 100000 in
theorem operand_Get.calls (k : Nat) (a0_0 : Bool) (a0_1 : ByteArray) (a0_2 : ByteArray) (a0_3 : ByteArray) (a0_4 : Int) (a0_5 : Int) (a0_6 : ByteArray) (a0_7 : ByteArray) (a0_8 : Int) (a1 : ByteArray) (r1 : Bool) (r2 : ByteArray) (r3 : ByteArray) (r4 : Int) (w : World) (ht : TB w) (h : operand_Get.f k a0_0 a0_1 a0_2 a0_3 a0_4 a0_5 a0_6 a0_7 a0_8 a1 = some (r1, r2, r3, r4)) :
    Calls Tryz.prog 5 #[.agg #[.bool a0_0, .string a0_1, .string a0_2, .string a0_3, .int .i64 a0_4, .int .i64 a0_5, .string a0_6, .string a0_7, .int .i64 a0_8], .string a1] w fun e w' => e = .returned (.tuple #[.agg #[.bool r1, .string r2, .string r3], .int .i64 r4]) ∧ Below w.heap.size w w' := by
 have hu25 := Tryz.underlying25
 have hu23 := Tryz.underlying23
 have HTB := Aside0.mk ht
 clear ht
 have HB := Aside0.mk (Below.refl w.heap.size w)
 unfold operand_Get.f at h
 have H := h
 clear h
 replace H := Option.bind_eq_some_iff.mp H
 obtain ⟨t135, A30, H⟩ := H
 try dsimp only at H
 have A3 := Aside0.mk A30
 clear A30
 have HF4 := Aside0.mk H
 clear H
 go_enter Tryz.func5, Tryz.ntmps5
 go_upto_if 12 with (first | ((with_reducible refine gate_dst (N := 2) rfl ?_); refine bx_ #[.bool a0_0, .string a0_1, .string a0_2, .string a0_3, .int .i64 a0_4, .int .i64 a0_5, .string a0_6, .string a0_7, .int .i64 a0_8] 25 ?_; intro gb133 hg w5 hbox hb; have BK133 := Aside0.mk (hbox); have GW133 := ge_ (w := w) hg; have GE133 := ge_ (w := w) hg; replace HB := Aside0.mk (below_step hb_ hb); clear hb hbox hg) | ((with_reducible refine gate_dst (N := 4) rfl ?_); refine bx_ #[.bool false, .string (⟨#[]⟩ : ByteArray), .string (⟨#[]⟩ : ByteArray)] 23 ?_; intro gb134 hg w6 hbox hb; have BK134 := Aside0.mk (hbox); have GW134 := ge_ (w := w) hg; have GE134 := ge_ (w := w) hg; have NB133_134 := BK133.nl hg; have NB134_133 := BK133.ng hg; replace BK133 := BK133.bl hb; replace HB := Aside0.mk (below_step hb_ hb); clear hb hbox hg; have hnb7 := NB133_134.out; have hnc7 := NB134_133.out; obtain ⟨hcz8_0, hcz8_1, hcz8_2, hcz8_3, hcz8_4, hcz8_5, hcz8_6, hcz8_7, hcz8_8, hfz8_0, hfz8_1, hfz8_2, hfz8_3, hfz8_4, hfz8_5, hfz8_6, hfz8_7, hfz8_8⟩ := BK133.c9) | ((with_reducible refine gate_callee (f := 15) rfl ?_); refine gL_ (some 10) Tryz.func15 #[.agg #[.bool a0_0, .string a0_1, .string a0_2, .string a0_3, .int .i64 a0_4, .int .i64 a0_5, .string a0_6, .string a0_7, .int .i64 a0_8]] ?_; (with_reducible refine (operand_Check.calls k a0_0 a0_1 a0_2 a0_3 a0_4 a0_5 a0_6 a0_7 a0_8 t135 _ A3.out).mono ?_); rintro e w9 ⟨rfl, hb⟩; refine ⟨_, rfl, ?_⟩; replace BK133 := BK133.bl hb; replace BK134 := BK134.bl hb; replace HB := Aside0.mk (below_step hb_ hb)))
 (try simp only [Act.put, List.setIfInBounds_toArray, List.set_cons_zero, List.set_cons_succ])
 have H := HF4.out
 clear HF4
 by_cases c10 : t135 = 0
 ·rw [if_pos c10] at H
  have c10b0 : (t135 == 0) = true := beq_iff_eq.mpr c10
  have c10b1 : (t135 != 0) = false := bne_eq_false_iff_eq.mpr c10
  clear c10
  (first | rw [c10b0] | (simp only [i64_w, i32_w]; rw [c10b0]) | rw [c10b1] | skip)
  replace H := Option.bind_eq_some_iff.mp H
  obtain ⟨⟨t136, t137, t138, t139⟩, A110, H⟩ := H
  try dsimp only at H
  have A11 := Aside0.mk A110
  clear A110
  have HF12 := Aside0.mk H
  clear H
  have hnb13 := NB133_134.out
  have hnc13 := NB134_133.out
  obtain ⟨hcz14_0, hcz14_1, hcz14_2, hcz14_3, hcz14_4, hcz14_5, hcz14_6, hcz14_7, hcz14_8, hfz14_0, hfz14_1, hfz14_2, hfz14_3, hfz14_4, hfz14_5, hfz14_6, hfz14_7, hfz14_8⟩ := BK133.c9
  go_upto_if 22 with (first | ((with_reducible refine gate_callee (f := 16) rfl ?_); refine gL_ (some 18) Tryz.func16 #[.agg #[.bool a0_0, .string a0_1, .string a0_2, .string a0_3, .int .i64 a0_4, .int .i64 a0_5, .string a0_6, .string a0_7, .int .i64 a0_8], .string a1] ?_; (with_reducible refine (operand_get.calls a0_0 a0_1 a0_2 a0_3 a0_4 a0_5 a0_6 a0_7 a0_8 a1 t136 t137 t138 t139 _ (TB.below HTB.out hb_) A11.out).mono ?_); rintro e w15 ⟨rfl, hb⟩; refine ⟨_, rfl, ?_⟩; replace BK133 := BK133.bl hb; replace BK134 := BK134.bl hb; replace HB := Aside0.mk (below_step hb_ hb)) | ((with_reducible refine gate_dst (N := 7) rfl ?_); refine bx_ #[.bool false, .string (⟨#[]⟩ : ByteArray), .string (⟨#[]⟩ : ByteArray)] 23 ?_; intro gb140 hg w16 hbox hb; have BK140 := Aside0.mk (hbox); have GW140 := ge_ (w := w) hg; have GE140 := ge_ (w := w) hg; have NB133_140 := BK133.nl hg; have NB140_133 := BK133.ng hg; have NB134_140 := BK134.nl hg; have NB140_134 := BK134.ng hg; replace BK133 := BK133.bl hb; replace BK134 := BK134.bl hb; replace HB := Aside0.mk (below_step hb_ hb); clear hb hbox hg; have hnb17 := NB140_133.out; have hnc17 := NB133_140.out; have hnb18 := NB140_134.out; have hnc18 := NB134_140.out; obtain ⟨hcz19_0, hcz19_1, hcz19_2, hfz19_0, hfz19_1, hfz19_2⟩ := BK140.c3))
  (try simp only [Act.put, List.setIfInBounds_toArray, List.set_cons_zero, List.set_cons_succ])
  have H := HF12.out
  clear HF12
  by_cases c20 : t139 = true
  ·subst c20
   have H1 : (some (t136, t137, t138, 0)) = some (r1, r2, r3, r4) := by rw [if_pos rfl] at H; exact H
   clear H
   have H := H1
   clear H1
   simp only [Option.some.injEq, Prod.mk.injEq] at H
   obtain ⟨rfl, rfl, rfl, rfl⟩ := H
   have hnb21 := NB140_133.out
   have hnc21 := NB133_140.out
   have hnb22 := NB140_134.out
   have hnc22 := NB134_140.out
   obtain ⟨hcz23_0, hcz23_1, hcz23_2, hfz23_0, hfz23_1, hfz23_2⟩ := BK140.c3
   have hnb24 := NB134_133.out
   have hnc24 := NB133_134.out
   obtain ⟨hcz25_0, hcz25_1, hcz25_2, hfz25_0, hfz25_1, hfz25_2⟩ := BK134.c3
   go_wp2
   refine bodyPost_ret (results_ct rfl _ _ gb134 23 #[.bool t136, .string t137, .string t138] (0, 0) _ rfl (by refine put3_ (cs := #[.bool false, .string (⟨#[]⟩ : ByteArray), .string (⟨#[]⟩ : ByteArray)]) ?_; refine far3_ ?_ NB134_140.out; exact BK134.out) Tryz.underlying23 rfl (by kernel_rfl)) rfl ?_
   exact fin_
  ·replace c20 := Bool.eq_false_iff.mpr c20
   subst c20
   have H1 : (some (false, (⟨#[]⟩ : ByteArray), (⟨#[]⟩ : ByteArray), 40)) = some (r1, r2, r3, r4) := by rw [if_neg (show ¬ (false = true) by decide)] at H; exact H
   clear H
   have H := H1
   clear H1
   simp only [Option.some.injEq, Prod.mk.injEq] at H
   obtain ⟨rfl, rfl, rfl, rfl⟩ := H
   have hnb26 := NB134_133.out
   have hnc26 := NB133_134.out
   have hnb27 := NB134_140.out
   have hnc27 := NB140_134.out
   obtain ⟨hcz28_0, hcz28_1, hcz28_2, hfz28_0, hfz28_1, hfz28_2⟩ := BK134.c3
   go_wp2
   refine bodyPost_ret (results_ct rfl _ _ gb134 23 #[.bool false, .string (⟨#[]⟩ : ByteArray), .string (⟨#[]⟩ : ByteArray)] (0, 0) _ rfl (by refine put3_ (cs := #[.bool false, .string (⟨#[]⟩ : ByteArray), .string (⟨#[]⟩ : ByteArray)]) ?_; refine far3_ ?_ NB134_140.out; exact BK134.out) Tryz.underlying23 rfl (by kernel_rfl)) rfl ?_
   exact fin_
 ·rw [if_neg c10] at H
  have c10b0 : (t135 == 0) = false := beq_eq_false_iff_ne.mpr c10
  have c10b1 : (t135 != 0) = true := bne_iff_ne.mpr c10
  (first | rw [c10b0] | (simp only [i64_w, i32_w]; rw [c10b0]) | rw [c10b1] | skip)
  simp only [Option.some.injEq, Prod.mk.injEq] at H
  obtain ⟨rfl, rfl, rfl, rfl⟩ := H
  have hnb29 := NB134_133.out
  have hnc29 := NB133_134.out
  obtain ⟨hcz30_0, hcz30_1, hcz30_2, hfz30_0, hfz30_1, hfz30_2⟩ := BK134.c3
  go_wp2
  refine bodyPost_ret (results_ct rfl _ _ gb134 23 #[.bool false, .string (⟨#[]⟩ : ByteArray), .string (⟨#[]⟩ : ByteArray)] (0, 0) _ rfl (by refine put3_ (cs := #[.bool false, .string (⟨#[]⟩ : ByteArray), .string (⟨#[]⟩ : ByteArray)]) ?_; exact BK134.out) Tryz.underlying23 rfl (by kernel_rfl)) rfl ?_
  exact fin_
attribute [local go_sem] max2_int max_two
set_option linter.unusedVariables false
set_option linter.unusedSimpArgs false
def operand_Of.j0 : Nat → Int → Bool → Bool → ByteArray → ByteArray → Option (Bool × ByteArray × ByteArray × ByteArray × Int × Int × ByteArray × ByteArray × Int × Int)
  | 0, _, _, _, _, _ => none
  | k + 1, x1, x21, x268000, x268001, x268002 => if x21 = true then (some (false, (⟨#[]⟩ : ByteArray), (⟨#[]⟩ : ByteArray), (⟨#[]⟩ : ByteArray), 0, 0, (⟨#[]⟩ : ByteArray), (⟨#[]⟩ : ByteArray), 0, 1)) else ((decimal_Shift.f k x268000 x268001 x268002 x1).bind fun bt270 => (if bt270.2.2.2 = 0 then ((decimal_Trim.f k false bt270.2.1 bt270.2.2.1).bind fun bt275 => (if bt275.2.2.2 = 0 then ((operand_whole.f k bt270.2.2.1).bind fun t280 => ((operand_whole.f k bt275.2.2.1).bind fun t281 => (some (bt275.1, bt275.2.1, bt275.2.2.1, bt270.2.1, (bt270.2.2.1.size : Int), (bt275.2.2.1.size : Int), t280, t281, x1, 0)))) else (some (false, (⟨#[]⟩ : ByteArray), (⟨#[]⟩ : ByteArray), (⟨#[]⟩ : ByteArray), 0, 0, (⟨#[]⟩ : ByteArray), (⟨#[]⟩ : ByteArray), 0, bt275.2.2.2)))) else (some (false, (⟨#[]⟩ : ByteArray), (⟨#[]⟩ : ByteArray), (⟨#[]⟩ : ByteArray), 0, 0, (⟨#[]⟩ : ByteArray), (⟨#[]⟩ : ByteArray), 0, bt270.2.2.2))))
def operand_Of.f (k : Nat) (a0_0 : Bool) (a0_1 : ByteArray) (a0_2 : ByteArray) (a1 : Int) : Option (Bool × ByteArray × ByteArray × ByteArray × Int × Int × ByteArray × ByteArray × Int × Int) := (decimal_Check.f k a0_0 a0_1 a0_2).bind fun t269 => (if t269 = 0 then (if a1 < 0 then (operand_Of.j0 k a1 true a0_0 a0_1 a0_2) else (operand_Of.j0 k a1 (decide (a1 > 40)) a0_0 a0_1 a0_2)) else (some (false, (⟨#[]⟩ : ByteArray), (⟨#[]⟩ : ByteArray), (⟨#[]⟩ : ByteArray), 0, 0, (⟨#[]⟩ : ByteArray), (⟨#[]⟩ : ByteArray), 0, t269)))
theorem operand_Of.mono_l : ∀ k, (∀ y0 y1 y2 y3 y4, LeO (operand_Of.j0 k y0 y1 y2 y3 y4) (operand_Of.j0 (k + 1) y0 y1 y2 y3 y4))
  | 0 => fun _ _ _ _ _ r h => by simp [operand_Of.j0] at h
  | k + 1 => by
    have ih0 := operand_Of.mono_l k
    · intro y0 y1 y2 y3 y4
      unfold operand_Of.j0
      repeat' first
      | (with_reducible exact ih0 _ _ _ _ _)
      | (with_reducible exact decimal_Check.mono _ _ _ _)
      | (with_reducible exact decimal_Shift.mono _ _ _ _ _)
      | (with_reducible exact decimal_Trim.mono _ _ _ _)
      | (with_reducible exact operand_whole.mono _ _)
      | (with_reducible exact LeO.refl _)
      | (with_reducible exact LeO.none _)
      | (with_reducible refine LeO.ite ?_ ?_)
      | (with_reducible refine LeO.bind ?_ (fun _ => ?_))
      | exact ih0 _ _ _ _ _
      | exact decimal_Check.mono _ _ _ _
      | exact decimal_Shift.mono _ _ _ _ _
      | exact decimal_Trim.mono _ _ _ _
      | exact operand_whole.mono _ _
      | exact LeO.none _
      | refine LeO.ite ?_ ?_
      | refine LeO.bind ?_ (fun _ => ?_)
theorem operand_Of.mono : ∀ a0 a1 a2 a3 k, LeO (operand_Of.f k a0 a1 a2 a3) (operand_Of.f (k + 1) a0 a1 a2 a3) := by
 intro a0 a1 a2 a3 k
 have ih0 := operand_Of.mono_l k
 unfold operand_Of.f
 repeat' first
   | (with_reducible exact ih0 _ _ _ _ _)
   | (with_reducible exact decimal_Check.mono _ _ _ _)
   | (with_reducible exact decimal_Shift.mono _ _ _ _ _)
   | (with_reducible exact decimal_Trim.mono _ _ _ _)
   | (with_reducible exact operand_whole.mono _ _)
   | (with_reducible exact LeO.refl _)
   | (with_reducible exact LeO.none _)
   | (with_reducible refine LeO.ite ?_ ?_)
   | (with_reducible refine LeO.bind ?_ (fun _ => ?_))
   | exact ih0 _ _ _ _ _
   | exact decimal_Check.mono _ _ _ _
   | exact decimal_Shift.mono _ _ _ _ _
   | exact decimal_Trim.mono _ _ _ _
   | exact operand_whole.mono _ _
   | exact LeO.none _
   | refine LeO.ite ?_ ?_
   | refine LeO.bind ?_ (fun _ => ?_)
def operand_Of.T13 : Bool × List (List Nat × List Nat) := (true, [([], []), ([], []), ([1], [1]), ([], []), ([3], [3]), ([4], [4]), ([], []), ([6], [6]), ([7], [7]), ([], []), ([9], [9]), ([10], [10]), ([], []), ([12], [12]), ([13, 11], [13]), ([], []), ([0, 2, 5, 8, 11, 14, 15], [0, 2, 5, 8, 11, 14, 15]), ([16, 14, 0, 1, 2, 3, 4, 5, 6, 7, 8, 9, 10, 11, 12, 13, 14, 15, 16], [16]), ([17, 0, 1, 2, 3, 4, 5, 6, 7, 8, 9, 10, 11, 12, 13, 14, 15, 16, 17], [])])
def operand_Of.B13 : List Nat := [0, 0, 2, 0, 8, 24, 0, 64, 192, 0, 512, 1536, 0, 4096, 15872, 0, 65535, 131071, 262143]
theorem operand_Of.tab13 : rtab .any (opsOf Tryz.f13 13) = operand_Of.T13 := by kernel_rfl
theorem operand_Of.bits13 : waitsOk operand_Of.T13.2 operand_Of.B13 = true := by kernel_rfl
set_option maxHeartbeats 8000000 in
set_option maxRecDepth 100000 in
theorem operand_Of.calls (k : Nat) (a0_0 : Bool) (a0_1 : ByteArray) (a0_2 : ByteArray) (a1 : Int) (r1 : Bool) (r2 : ByteArray) (r3 : ByteArray) (r4 : ByteArray) (r5 : Int) (r6 : Int) (r7 : ByteArray) (r8 : ByteArray) (r9 : Int) (r10 : Int) (w : World) (h : operand_Of.f k a0_0 a0_1 a0_2 a1 = some (r1, r2, r3, r4, r5, r6, r7, r8, r9, r10)) :
    Calls Tryz.prog 13 #[.agg #[.bool a0_0, .string a0_1, .string a0_2], .int .i64 a1] w fun e w' => e = .returned (.tuple #[.agg #[.bool r1, .string r2, .string r3, .string r4, .int .i64 r5, .int .i64 r6, .string r7, .string r8, .int .i64 r9], .int .i64 r10]) ∧ Below w.heap.size w w' := by
 have hu23 := Tryz.underlying23
 have hu25 := Tryz.underlying25
 have HB := Aside0.mk (Below.refl w.heap.size w)
 unfold operand_Of.f at h
 have H := h
 clear h
 replace H := Option.bind_eq_some_iff.mp H
 obtain ⟨t269, A30, H⟩ := H
 try dsimp only at H
 have A3 := Aside0.mk A30
 clear A30
 have HF4 := Aside0.mk H
 clear H
 go_enter Tryz.func13, Tryz.ntmps13
 go_upto_if 13 with (first | ((with_reducible refine gate_dst (N := 2) rfl ?_); refine bx_ #[.bool a0_0, .string a0_1, .string a0_2] 23 ?_; intro gb267 hg w5 hbox hb; have BK267 := Aside0.mk (hbox); have GW267 := ge_ (w := w) hg; have GE267 := ge_ (w := w) hg; replace HB := Aside0.mk (below_step hb_ hb); clear hb hbox hg) | ((with_reducible refine gate_dst (N := 4) rfl ?_); refine bx_ #[.bool false, .string (⟨#[]⟩ : ByteArray), .string (⟨#[]⟩ : ByteArray), .string (⟨#[]⟩ : ByteArray), .int .i64 0, .int .i64 0, .string (⟨#[]⟩ : ByteArray), .string (⟨#[]⟩ : ByteArray), .int .i64 0] 25 ?_; intro gb268 hg w6 hbox hb; have BK268 := Aside0.mk (hbox); have GW268 := ge_ (w := w) hg; have GE268 := ge_ (w := w) hg; have NB267_268 := BK267.nl hg; have NB268_267 := BK267.ng hg; replace BK267 := BK267.bl hb; replace HB := Aside0.mk (below_step hb_ hb); clear hb hbox hg; have hnb7 := NB267_268.out; have hnc7 := NB268_267.out; obtain ⟨hcz8_0, hcz8_1, hcz8_2, hfz8_0, hfz8_1, hfz8_2⟩ := BK267.c3) | ((with_reducible refine gate_callee (f := 28) rfl ?_); refine gL_ (some 11) Tryz.func28 #[.agg #[.bool a0_0, .string a0_1, .string a0_2]] ?_; (with_reducible refine (decimal_Check.calls k a0_0 a0_1 a0_2 t269 _ A3.out).mono ?_); rintro e w9 ⟨rfl, hb⟩; refine ⟨_, rfl, ?_⟩; replace BK267 := BK267.bl hb; replace BK268 := BK268.bl hb; replace HB := Aside0.mk (below_step hb_ hb)))
 (try simp only [Act.put, List.setIfInBounds_toArray, List.set_cons_zero, List.set_cons_succ])
 have H := HF4.out
 clear HF4
 by_cases c10 : t269 = 0
 ·rw [if_pos c10] at H
  have c10b0 : (t269 == 0) = true := beq_iff_eq.mpr c10
  have c10b1 : (t269 != 0) = false := bne_eq_false_iff_eq.mpr c10
  clear c10
  (first | rw [c10b0] | (simp only [i64_w, i32_w]; rw [c10b0]) | rw [c10b1] | skip)
  have HC11 := Aside0.mk H
  clear H
  go_upto_region 4 with (fail)
  go_cut [21] (fun v21 wc => ∃ (kq : Nat) (x21_10 : Bool), v21 = .bool x21_10 ∧ Aside0 (operand_Of.j0 kq a1 x21_10 a0_0 a0_1 a0_2 = some (r1, r2, r3, r4, r5, r6, r7, r8, r9, r10)) ∧ Aside0 (kq ≤ k) ∧ Aside0 (wc.heap[gb267]? = some (.cells #[.bool a0_0, .string a0_1, .string a0_2] 23 (0, 0))) ∧ Aside0 (wc.heap[gb268]? = some (.cells #[.bool false, .string (⟨#[]⟩ : ByteArray), .string (⟨#[]⟩ : ByteArray), .string (⟨#[]⟩ : ByteArray), .int .i64 0, .int .i64 0, .string (⟨#[]⟩ : ByteArray), .string (⟨#[]⟩ : ByteArray), .int .i64 0] 25 (0, 0))) ∧ Aside0 (Below w.heap.size w wc))
  case first =>
   have H := HC11.out
   clear HC11
   by_cases c12 : a1 < 0
   ·rw [if_pos c12] at H
    have c12b0 : decide (a1 < 0) = true := decide_eq_true c12
    clear c12
    (first | rw [c12b0] | (simp only [i64_w, i32_w]; rw [c12b0]) | skip)
    have H' := Aside0.mk H
    clear H
    go_wp2
    go_meet
    case rel => exact ⟨_, (true), (by first | rfl | (simp; done) | (simp [*]; done)), H', ⟨by first | omega | exact Nat.le_refl _⟩, ⟨by exact BK267.out⟩, ⟨by exact BK268.out⟩, ⟨hb_⟩⟩
   ·rw [if_neg c12] at H
    have c12b0 : decide (a1 < 0) = false := decide_eq_false c12
    clear c12
    (first | rw [c12b0] | (simp only [i64_w, i32_w]; rw [c12b0]) | skip)
    have H' := Aside0.mk H
    clear H
    go_wp2
    go_meet
    case rel => exact ⟨_, (decide (a1 > 40)), (by first | rfl | (simp; done) | (simp [*]; done)), H', ⟨by first | omega | exact Nat.le_refl _⟩, ⟨by exact BK267.out⟩, ⟨by exact BK268.out⟩, ⟨hb_⟩⟩
  case rest =>
   clear HC11
   (try clear c10); (try clear c10b0); (try clear c10b1); (try clear hcz8_0); (try clear hcz8_1); (try clear hcz8_2); (try clear hfz8_0); (try clear hfz8_1); (try clear hfz8_2)
   obtain ⟨kq, x21_10, rfl, HA, HJ10, BK267, BK268, HB⟩ := hcut
   cases kq with
   | zero => exact absurd HA.out (by simp [operand_Of.j0])
   | succ kj10 =>
    have H := HA.out
    clear HA
    simp only [operand_Of.j0] at H
    by_cases c13 : x21_10 = true
    ·subst c13
     have H1 : (some (false, (⟨#[]⟩ : ByteArray), (⟨#[]⟩ : ByteArray), (⟨#[]⟩ : ByteArray), 0, 0, (⟨#[]⟩ : ByteArray), (⟨#[]⟩ : ByteArray), 0, 1)) = some (r1, r2, r3, r4, r5, r6, r7, r8, r9, r10) := by rw [if_pos rfl] at H; exact H
     clear H
     have H := H1
     clear H1
     simp only [Option.some.injEq, Prod.mk.injEq] at H
     obtain ⟨rfl, rfl, rfl, rfl, rfl, rfl, rfl, rfl, rfl, rfl⟩ := H
     have hnb14 := NB268_267.out
     have hnc14 := NB267_268.out
     obtain ⟨hcz15_0, hcz15_1, hcz15_2, hcz15_3, hcz15_4, hcz15_5, hcz15_6, hcz15_7, hcz15_8, hfz15_0, hfz15_1, hfz15_2, hfz15_3, hfz15_4, hfz15_5, hfz15_6, hfz15_7, hfz15_8⟩ := BK268.c9
     go_wp2
     refine bodyPost_ret (results_ct rfl _ _ gb268 25 #[.bool false, .string (⟨#[]⟩ : ByteArray), .string (⟨#[]⟩ : ByteArray), .string (⟨#[]⟩ : ByteArray), .int .i64 0, .int .i64 0, .string (⟨#[]⟩ : ByteArray), .string (⟨#[]⟩ : ByteArray), .int .i64 0] (0, 0) _ rfl (by refine put9_ (cs := #[.bool false, .string (⟨#[]⟩ : ByteArray), .string (⟨#[]⟩ : ByteArray), .string (⟨#[]⟩ : ByteArray), .int .i64 0, .int .i64 0, .string (⟨#[]⟩ : ByteArray), .string (⟨#[]⟩ : ByteArray), .int .i64 0]) ?_; exact BK268.out) Tryz.underlying25 rfl (by kernel_rfl)) rfl ?_
     exact fin_
    ·replace c13 := Bool.eq_false_iff.mpr c13
     subst c13
     have H1 : ((decimal_Shift.f kj10 a0_0 a0_1 a0_2 a1).bind fun bt270 => (if bt270.2.2.2 = 0 then ((decimal_Trim.f kj10 false bt270.2.1 bt270.2.2.1).bind fun bt275 => (if bt275.2.2.2 = 0 then ((operand_whole.f kj10 bt270.2.2.1).bind fun t280 => ((operand_whole.f kj10 bt275.2.2.1).bind fun t281 => (some (bt275.1, bt275.2.1, bt275.2.2.1, bt270.2.1, (bt270.2.2.1.size : Int), (bt275.2.2.1.size : Int), t280, t281, a1, 0)))) else (some (false, (⟨#[]⟩ : ByteArray), (⟨#[]⟩ : ByteArray), (⟨#[]⟩ : ByteArray), 0, 0, (⟨#[]⟩ : ByteArray), (⟨#[]⟩ : ByteArray), 0, bt275.2.2.2)))) else (some (false, (⟨#[]⟩ : ByteArray), (⟨#[]⟩ : ByteArray), (⟨#[]⟩ : ByteArray), 0, 0, (⟨#[]⟩ : ByteArray), (⟨#[]⟩ : ByteArray), 0, bt270.2.2.2)))) = some (r1, r2, r3, r4, r5, r6, r7, r8, r9, r10) := by rw [if_neg (show ¬ (false = true) by decide)] at H; exact H
     clear H
     have H := H1
     clear H1
     replace H := Option.bind_eq_some_iff.mp H
     obtain ⟨⟨t270, t271, t272, t273⟩, A160, H⟩ := H
     try dsimp only at H
     have A16 := Aside0.mk A160
     clear A160
     have HF17 := Aside0.mk H
     clear H
     have hnb18 := NB267_268.out
     have hnc18 := NB268_267.out
     obtain ⟨hcz19_0, hcz19_1, hcz19_2, hfz19_0, hfz19_1, hfz19_2⟩ := BK267.c3
     go_upto_if 30 with (first | ((with_reducible refine gate_callee (f := 29) rfl ?_); refine gL_ (some 26) Tryz.func29 #[.agg #[.bool a0_0, .string a0_1, .string a0_2], .int .i64 a1] ?_; (with_reducible refine (decimal_Shift.calls kj10 a0_0 a0_1 a0_2 a1 t270 t271 t272 t273 _ A16.out).mono ?_); rintro e w20 ⟨rfl, hb⟩; refine ⟨_, rfl, ?_⟩; replace BK267 := BK267.bl hb; replace BK268 := BK268.bl hb; replace HB := Aside0.mk (below_step hb_ hb)) | ((with_reducible refine gate_dst (N := 7) rfl ?_); refine bx_ #[.bool false, .string (⟨#[]⟩ : ByteArray), .string (⟨#[]⟩ : ByteArray)] 23 ?_; intro gb274 hg w21 hbox hb; have BK274 := Aside0.mk (hbox); have GW274 := ge_ (w := w) hg; have GE274 := ge_ (w := w) hg; have NB267_274 := BK267.nl hg; have NB274_267 := BK267.ng hg; have NB268_274 := BK268.nl hg; have NB274_268 := BK268.ng hg; replace BK267 := BK267.bl hb; replace BK268 := BK268.bl hb; replace HB := Aside0.mk (below_step hb_ hb); clear hb hbox hg; have hnb22 := NB274_267.out; have hnc22 := NB267_274.out; have hnb23 := NB274_268.out; have hnc23 := NB268_274.out; obtain ⟨hcz24_0, hcz24_1, hcz24_2, hfz24_0, hfz24_1, hfz24_2⟩ := BK274.c3))
     (try simp only [Act.put, List.setIfInBounds_toArray, List.set_cons_zero, List.set_cons_succ])
     have H := HF17.out
     clear HF17
     by_cases c25 : t273 = 0
     ·rw [if_pos c25] at H
      have c25b0 : (t273 == 0) = true := beq_iff_eq.mpr c25
      have c25b1 : (t273 != 0) = false := bne_eq_false_iff_eq.mpr c25
      clear c25
      (first | rw [c25b0] | (simp only [i64_w, i32_w]; rw [c25b0]) | rw [c25b1] | skip)
      replace H := Option.bind_eq_some_iff.mp H
      obtain ⟨⟨t275, t276, t277, t278⟩, A260, H⟩ := H
      try dsimp only at H
      have A26 := Aside0.mk A260
      clear A260
      have HF27 := Aside0.mk H
      clear H
      have hnb28 := NB274_267.out
      have hnc28 := NB267_274.out
      have hnb29 := NB274_268.out
      have hnc29 := NB268_274.out
      obtain ⟨hcz30_0, hcz30_1, hcz30_2, hfz30_0, hfz30_1, hfz30_2⟩ := BK274.c3
      go_upto_if 40 with (first | ((with_reducible refine gate_callee (f := 30) rfl ?_); refine gL_ (some 36) Tryz.func30 #[.agg #[.bool false, .string t271, .string t272]] ?_; (with_reducible refine (decimal_Trim.calls kj10 false t271 t272 t275 t276 t277 t278 _ A26.out).mono ?_); rintro e w31 ⟨rfl, hb⟩; refine ⟨_, rfl, ?_⟩; replace BK267 := Aside0.mk (blk_below (g := gb267) (o := .cells #[.bool a0_0, .string a0_1, .string a0_2] 23 (0, 0)) (by refine far3_ ?_ NB267_274.out; refine blk_far ?_ NB267_274.out _; exact BK267.out) hb); replace BK268 := Aside0.mk (blk_below (g := gb268) (o := .cells #[.bool false, .string (⟨#[]⟩ : ByteArray), .string (⟨#[]⟩ : ByteArray), .string (⟨#[]⟩ : ByteArray), .int .i64 0, .int .i64 0, .string (⟨#[]⟩ : ByteArray), .string (⟨#[]⟩ : ByteArray), .int .i64 0] 25 (0, 0)) (by refine far3_ ?_ NB268_274.out; refine blk_far ?_ NB268_274.out _; exact BK268.out) hb); replace BK274 := Aside0.mk (blk_below (g := gb274) (o := .cells #[.bool false, .string t271, .string t272] 23 (0, 0)) (by refine blk_put (cs := #[.bool t270, .string t271, .string t272]) ?_ 0 _ rfl; refine blk_put (cs := #[.bool t270, .string t271, .string (⟨#[]⟩ : ByteArray)]) ?_ 2 _ rfl; refine blk_put (cs := #[.bool t270, .string (⟨#[]⟩ : ByteArray), .string (⟨#[]⟩ : ByteArray)]) ?_ 1 _ rfl; refine blk_put (cs := #[.bool false, .string (⟨#[]⟩ : ByteArray), .string (⟨#[]⟩ : ByteArray)]) ?_ 0 _ rfl; exact BK274.out) hb); replace HB := Aside0.mk (below_step hb_ hb)) | ((with_reducible refine gate_dst (N := 9) rfl ?_); refine bx_ #[.bool false, .string (⟨#[]⟩ : ByteArray), .string (⟨#[]⟩ : ByteArray)] 23 ?_; intro gb279 hg w32 hbox hb; have BK279 := Aside0.mk (hbox); have GW279 := ge_ (w := w) hg; have GE279 := ge_ (w := w) hg; have NB267_279 := BK267.nl hg; have NB279_267 := BK267.ng hg; have NB268_279 := BK268.nl hg; have NB279_268 := BK268.ng hg; have NB274_279 := BK274.nl hg; have NB279_274 := BK274.ng hg; replace BK267 := BK267.bl hb; replace BK268 := BK268.bl hb; replace BK274 := BK274.bl hb; replace HB := Aside0.mk (below_step hb_ hb); clear hb hbox hg; have hnb33 := NB279_267.out; have hnc33 := NB267_279.out; have hnb34 := NB279_268.out; have hnc34 := NB268_279.out; have hnb35 := NB279_274.out; have hnc35 := NB274_279.out; obtain ⟨hcz36_0, hcz36_1, hcz36_2, hfz36_0, hfz36_1, hfz36_2⟩ := BK279.c3))
      (try simp only [Act.put, List.setIfInBounds_toArray, List.set_cons_zero, List.set_cons_succ])
      have H := HF27.out
      clear HF27
      by_cases c37 : t278 = 0
      ·rw [if_pos c37] at H
       have c37b0 : (t278 == 0) = true := beq_iff_eq.mpr c37
       have c37b1 : (t278 != 0) = false := bne_eq_false_iff_eq.mpr c37
       clear c37
       (first | rw [c37b0] | (simp only [i64_w, i32_w]; rw [c37b0]) | rw [c37b1] | skip)
       replace H := Option.bind_eq_some_iff.mp H
       obtain ⟨t280, A380, H⟩ := H
       try dsimp only at H
       have A38 := Aside0.mk A380
       clear A380
       replace H := Option.bind_eq_some_iff.mp H
       obtain ⟨t281, A390, H⟩ := H
       try dsimp only at H
       have A39 := Aside0.mk A390
       clear A390
       simp only [Option.some.injEq, Prod.mk.injEq] at H
       obtain ⟨rfl, rfl, rfl, rfl, rfl, rfl, rfl, rfl, rfl, rfl⟩ := H
       try go_wp2
       have n0_ : Aside0 ((((w32.setCell ⟨gb279, 0, none⟩ (.bool t275)).setCell ⟨gb279, 1, none⟩ (.string t276)).setCell ⟨gb279, 2, none⟩ (.string t277)).heap[gb267]? = some (.cells #[.bool a0_0, .string a0_1, .string a0_2] 23 (0, 0))) := ⟨by refine far3_ ?_ NB267_279.out; exact BK267.out⟩
       have n1_ : Aside0 ((((w32.setCell ⟨gb279, 0, none⟩ (.bool t275)).setCell ⟨gb279, 1, none⟩ (.string t276)).setCell ⟨gb279, 2, none⟩ (.string t277)).heap[gb268]? = some (.cells #[.bool false, .string (⟨#[]⟩ : ByteArray), .string (⟨#[]⟩ : ByteArray), .string (⟨#[]⟩ : ByteArray), .int .i64 0, .int .i64 0, .string (⟨#[]⟩ : ByteArray), .string (⟨#[]⟩ : ByteArray), .int .i64 0] 25 (0, 0))) := ⟨by refine far3_ ?_ NB268_279.out; exact BK268.out⟩
       have n2_ : Aside0 ((((w32.setCell ⟨gb279, 0, none⟩ (.bool t275)).setCell ⟨gb279, 1, none⟩ (.string t276)).setCell ⟨gb279, 2, none⟩ (.string t277)).heap[gb274]? = some (.cells #[.bool false, .string t271, .string t272] 23 (0, 0))) := ⟨by refine far3_ ?_ NB274_279.out; exact BK274.out⟩
       have n3_ : Aside0 ((((w32.setCell ⟨gb279, 0, none⟩ (.bool t275)).setCell ⟨gb279, 1, none⟩ (.string t276)).setCell ⟨gb279, 2, none⟩ (.string t277)).heap[gb279]? = some (.cells #[.bool t275, .string t276, .string t277] 23 (0, 0))) := ⟨by refine put3_ (cs := #[.bool false, .string (⟨#[]⟩ : ByteArray), .string (⟨#[]⟩ : ByteArray)]) ?_; exact BK279.out⟩
       have n4_ : Aside0 (Below w.heap.size w (((w32.setCell ⟨gb279, 0, none⟩ (.bool t275)).setCell ⟨gb279, 1, none⟩ (.string t276)).setCell ⟨gb279, 2, none⟩ (.string t277))) := ⟨hb_⟩
       (try clear BK267)
       (try clear BK268)
       (try clear BK274)
       (try clear BK279)
       (try clear HB)
       generalize (((w32.setCell ⟨gb279, 0, none⟩ (.bool t275)).setCell ⟨gb279, 1, none⟩ (.string t276)).setCell ⟨gb279, 2, none⟩ (.string t277)) = w40 at n0_ n1_ n2_ n3_ n4_ ⊢
       have BK267 := n0_
       have BK268 := n1_
       have BK274 := n2_
       have BK279 := n3_
       have HB := n4_
       clear n0_ n1_ n2_ n3_ n4_
       replace BK267 := Aside0.mk (blk_drew BK267.out)
       replace BK268 := Aside0.mk (blk_drew BK268.out)
       replace BK274 := Aside0.mk (blk_drew BK274.out)
       replace BK279 := Aside0.mk (blk_drew BK279.out)
       replace HB := Aside0.mk (below_drew1 HB.out)
       refine start_ (n := 19) (S := fun w' => w'.cell? ⟨gb279, 0, none⟩ = some (.bool t275) ∧ w'.cell? ⟨gb279, 1, none⟩ = some (.string t276) ∧ w'.cell? ⟨gb279, 2, none⟩ = some (.string t277) ∧ w'.cell? ⟨gb274, 0, none⟩ = some (.bool false) ∧ w'.cell? ⟨gb274, 1, none⟩ = some (.string t271) ∧ w'.cell? ⟨gb274, 2, none⟩ = some (.string t272)) (ds := []) #[false, false, false, false, false, false, false, false, false, false, false, false, false, false, false, false, false, false, false] (by kernel_rfl) rfl rfl ⟨(blk_cell BK279.out 0).trans rfl, (blk_cell BK279.out 1).trans rfl, (blk_cell BK279.out 2).trans rfl, (blk_cell BK274.out 0).trans rfl, (blk_cell BK274.out 1).trans rfl, (blk_cell BK274.out 2).trans rfl⟩ (fun hHeld => ?_); refine with_tabW operand_Of.tab13 operand_Of.bits13 (fun HT_ HW_ => ?_)
       generalize w40.drew = w41 at BK267 BK268 BK274 BK279 HB hHeld ⊢
       refine pr_ 1 (some 44) ?_
       refine pr_ 3 (some 46) ?_
       refine pr_ 6 (some 49) ?_
       refine pr_ 9 (some 52) ?_
       refine pr_ 12 (some 55) ?_
       refine pr_ 15 (some 58) ?_
       refine tk_ 0 (some 43) hHeld ?_
       refine tk_ 2 (some 45) hHeld ?_
       refine tk_ 4 (some 47) hHeld ?_
       refine pr_ 5 (some 48) ?_
       refine tk_ 7 (some 50) hHeld ?_
       refine pr_ 8 (some 51) ?_
       refine tk_ 10 (some 53) hHeld ?_
       refine tk_ 13 (some 56) hHeld ?_
       refine one_ (i := 11) (N := some 54) #[true, true, true, true, true, true, true, true, true, true, true, true, true, true, false, true, false, false, false] rfl rfl (one_of HT_.out (by kernel_rfl)) (by decide) (fun K hK => ?_)
       refine goes_ Tryz.func31 (by kernel_rfl) rfl #[.string t272] (by rfl) rfl rfl ar_ ?_
       with_reducible refine (operand_whole.calls kj10 t272 t280 _ A38.out).mono ?_
       rintro e w42 ⟨rfl, hb⟩
       refine ⟨_, rfl, ?_⟩
       replace BK267 := BK267.bl hb
       replace BK268 := BK268.bl hb
       replace BK274 := BK274.bl hb
       replace BK279 := BK279.bl hb
       replace HB := Aside0.mk (below_step hb_ hb)
       (try clear hb)
       (try clear hb2)
       (try clear hk)
       (try clear hi)
       refine hK.out _ _ ⟨(blk_cell BK279.out 0).trans rfl, (blk_cell BK279.out 1).trans rfl, (blk_cell BK279.out 2).trans rfl, (blk_cell BK274.out 0).trans rfl, (blk_cell BK274.out 1).trans rfl, (blk_cell BK274.out 2).trans rfl⟩ (fun hHeld => ?_)
       clear hK K
       refine norm_ (a' := ?_) ?_ ?_
       rotate_left
       ·show Act.put _ (some 54) _ = _
        simp only [Act.put, List.setIfInBounds_toArray, List.set_cons_zero, List.set_cons_succ, i64_w, i32_w]
        rfl
       refine one_ (i := 14) (N := some 57) #[true, true, true, true, true, true, true, true, true, true, true, true, true, true, true, true, false, false, false] rfl rfl (one_of HT_.out (by kernel_rfl)) (by decide) (fun K hK => ?_)
       refine goes_ Tryz.func31 (by kernel_rfl) rfl #[.string t277] (by rfl) rfl rfl ar_ ?_
       with_reducible refine (operand_whole.calls kj10 t277 t281 _ A39.out).mono ?_
       rintro e w43 ⟨rfl, hb⟩
       refine ⟨_, rfl, ?_⟩
       replace BK267 := BK267.bl hb
       replace BK268 := BK268.bl hb
       replace BK274 := BK274.bl hb
       replace BK279 := BK279.bl hb
       replace HB := Aside0.mk (below_step hb_ hb)
       (try clear hb)
       (try clear hb2)
       (try clear hk)
       (try clear hi)
       refine hK.out _ _ ⟨(blk_cell BK279.out 0).trans rfl, (blk_cell BK279.out 1).trans rfl, (blk_cell BK279.out 2).trans rfl, (blk_cell BK274.out 0).trans rfl, (blk_cell BK274.out 1).trans rfl, (blk_cell BK274.out 2).trans rfl⟩ (fun hHeld => ?_)
       clear hK K
       refine norm_ (a' := ?_) ?_ ?_
       rotate_left
       ·show Act.put _ (some 57) _ = _
        simp only [Act.put, List.setIfInBounds_toArray, List.set_cons_zero, List.set_cons_succ, i64_w, i32_w]
        rfl
       refine pr_ 16 (some 59) ?_
       refine one_ (i := 17) (N := none) #[true, true, true, true, true, true, true, true, true, true, true, true, true, true, true, true, true, true, false] rfl rfl (one_of HT_.out (by kernel_rfl)) (by decide) (fun K hK => ?_)
       have hs44 : w43.cell? ⟨gb268, 0, none⟩ = some (.bool false) := (blk_cell BK268.out 0).trans rfl
       have hfs44 := blk_frozen BK268.out 0
       have hns44_0 := NB267_268.out
       have hns44_2 := NB274_268.out
       have hns44_3 := NB279_268.out
       have hms44_0 := NB268_267.out
       have hms44_2 := NB268_274.out
       have hms44_3 := NB268_279.out
       have hs45 : w43.cell? ⟨gb268, 1, none⟩ = some (.string (⟨#[]⟩ : ByteArray)) := (blk_cell BK268.out 1).trans rfl
       have hfs45 := blk_frozen BK268.out 1
       have hns45_0 := NB267_268.out
       have hns45_2 := NB274_268.out
       have hns45_3 := NB279_268.out
       have hms45_0 := NB268_267.out
       have hms45_2 := NB268_274.out
       have hms45_3 := NB268_279.out
       have hs46 : w43.cell? ⟨gb268, 2, none⟩ = some (.string (⟨#[]⟩ : ByteArray)) := (blk_cell BK268.out 2).trans rfl
       have hfs46 := blk_frozen BK268.out 2
       have hns46_0 := NB267_268.out
       have hns46_2 := NB274_268.out
       have hns46_3 := NB279_268.out
       have hms46_0 := NB268_267.out
       have hms46_2 := NB268_274.out
       have hms46_3 := NB268_279.out
       have hs47 : w43.cell? ⟨gb268, 3, none⟩ = some (.string (⟨#[]⟩ : ByteArray)) := (blk_cell BK268.out 3).trans rfl
       have hfs47 := blk_frozen BK268.out 3
       have hns47_0 := NB267_268.out
       have hns47_2 := NB274_268.out
       have hns47_3 := NB279_268.out
       have hms47_0 := NB268_267.out
       have hms47_2 := NB268_274.out
       have hms47_3 := NB268_279.out
       have hs48 : w43.cell? ⟨gb268, 4, none⟩ = some (.int .i64 0) := (blk_cell BK268.out 4).trans rfl
       have hfs48 := blk_frozen BK268.out 4
       have hns48_0 := NB267_268.out
       have hns48_2 := NB274_268.out
       have hns48_3 := NB279_268.out
       have hms48_0 := NB268_267.out
       have hms48_2 := NB268_274.out
       have hms48_3 := NB268_279.out
       have hs49 : w43.cell? ⟨gb268, 5, none⟩ = some (.int .i64 0) := (blk_cell BK268.out 5).trans rfl
       have hfs49 := blk_frozen BK268.out 5
       have hns49_0 := NB267_268.out
       have hns49_2 := NB274_268.out
       have hns49_3 := NB279_268.out
       have hms49_0 := NB268_267.out
       have hms49_2 := NB268_274.out
       have hms49_3 := NB268_279.out
       have hs50 : w43.cell? ⟨gb268, 6, none⟩ = some (.string (⟨#[]⟩ : ByteArray)) := (blk_cell BK268.out 6).trans rfl
       have hfs50 := blk_frozen BK268.out 6
       have hns50_0 := NB267_268.out
       have hns50_2 := NB274_268.out
       have hns50_3 := NB279_268.out
       have hms50_0 := NB268_267.out
       have hms50_2 := NB268_274.out
       have hms50_3 := NB268_279.out
       have hs51 : w43.cell? ⟨gb268, 7, none⟩ = some (.string (⟨#[]⟩ : ByteArray)) := (blk_cell BK268.out 7).trans rfl
       have hfs51 := blk_frozen BK268.out 7
       have hns51_0 := NB267_268.out
       have hns51_2 := NB274_268.out
       have hns51_3 := NB279_268.out
       have hms51_0 := NB268_267.out
       have hms51_2 := NB268_274.out
       have hms51_3 := NB268_279.out
       have hs52 : w43.cell? ⟨gb268, 8, none⟩ = some (.int .i64 0) := (blk_cell BK268.out 8).trans rfl
       have hfs52 := blk_frozen BK268.out 8
       have hns52_0 := NB267_268.out
       have hns52_2 := NB274_268.out
       have hns52_3 := NB279_268.out
       have hms52_0 := NB268_267.out
       have hms52_2 := NB268_274.out
       have hms52_3 := NB268_279.out
       refine skip_ (w1 := ?_) (by rfl) rfl ?_ ?_
       rotate_left
       ·go_simp
        rfl
       refine hK.out _ _ ⟨((cell_far (p := ⟨gb268, _, none⟩) NB279_268.out _).trans (((cell_far (p := ⟨gb268, _, none⟩) NB279_268.out _).trans (((cell_far (p := ⟨gb268, _, none⟩) NB279_268.out _).trans (((cell_far (p := ⟨gb268, _, none⟩) NB279_268.out _).trans (((cell_far (p := ⟨gb268, _, none⟩) NB279_268.out _).trans (((cell_far (p := ⟨gb268, _, none⟩) NB279_268.out _).trans (((cell_far (p := ⟨gb268, _, none⟩) NB279_268.out _).trans (((cell_far (p := ⟨gb268, _, none⟩) NB279_268.out _).trans (((cell_far (p := ⟨gb268, _, none⟩) NB279_268.out _).trans (hHeld.1)))))))))))))))))), ((cell_far (p := ⟨gb268, _, none⟩) NB279_268.out _).trans (((cell_far (p := ⟨gb268, _, none⟩) NB279_268.out _).trans (((cell_far (p := ⟨gb268, _, none⟩) NB279_268.out _).trans (((cell_far (p := ⟨gb268, _, none⟩) NB279_268.out _).trans (((cell_far (p := ⟨gb268, _, none⟩) NB279_268.out _).trans (((cell_far (p := ⟨gb268, _, none⟩) NB279_268.out _).trans (((cell_far (p := ⟨gb268, _, none⟩) NB279_268.out _).trans (((cell_far (p := ⟨gb268, _, none⟩) NB279_268.out _).trans (((cell_far (p := ⟨gb268, _, none⟩) NB279_268.out _).trans (hHeld.2.1)))))))))))))))))), ((cell_far (p := ⟨gb268, _, none⟩) NB279_268.out _).trans (((cell_far (p := ⟨gb268, _, none⟩) NB279_268.out _).trans (((cell_far (p := ⟨gb268, _, none⟩) NB279_268.out _).trans (((cell_far (p := ⟨gb268, _, none⟩) NB279_268.out _).trans (((cell_far (p := ⟨gb268, _, none⟩) NB279_268.out _).trans (((cell_far (p := ⟨gb268, _, none⟩) NB279_268.out _).trans (((cell_far (p := ⟨gb268, _, none⟩) NB279_268.out _).trans (((cell_far (p := ⟨gb268, _, none⟩) NB279_268.out _).trans (((cell_far (p := ⟨gb268, _, none⟩) NB279_268.out _).trans (hHeld.2.2.1)))))))))))))))))), ((cell_far (p := ⟨gb268, _, none⟩) NB274_268.out _).trans (((cell_far (p := ⟨gb268, _, none⟩) NB274_268.out _).trans (((cell_far (p := ⟨gb268, _, none⟩) NB274_268.out _).trans (((cell_far (p := ⟨gb268, _, none⟩) NB274_268.out _).trans (((cell_far (p := ⟨gb268, _, none⟩) NB274_268.out _).trans (((cell_far (p := ⟨gb268, _, none⟩) NB274_268.out _).trans (((cell_far (p := ⟨gb268, _, none⟩) NB274_268.out _).trans (((cell_far (p := ⟨gb268, _, none⟩) NB274_268.out _).trans (((cell_far (p := ⟨gb268, _, none⟩) NB274_268.out _).trans (hHeld.2.2.2.1)))))))))))))))))), ((cell_far (p := ⟨gb268, _, none⟩) NB274_268.out _).trans (((cell_far (p := ⟨gb268, _, none⟩) NB274_268.out _).trans (((cell_far (p := ⟨gb268, _, none⟩) NB274_268.out _).trans (((cell_far (p := ⟨gb268, _, none⟩) NB274_268.out _).trans (((cell_far (p := ⟨gb268, _, none⟩) NB274_268.out _).trans (((cell_far (p := ⟨gb268, _, none⟩) NB274_268.out _).trans (((cell_far (p := ⟨gb268, _, none⟩) NB274_268.out _).trans (((cell_far (p := ⟨gb268, _, none⟩) NB274_268.out _).trans (((cell_far (p := ⟨gb268, _, none⟩) NB274_268.out _).trans (hHeld.2.2.2.2.1)))))))))))))))))), ((cell_far (p := ⟨gb268, _, none⟩) NB274_268.out _).trans (((cell_far (p := ⟨gb268, _, none⟩) NB274_268.out _).trans (((cell_far (p := ⟨gb268, _, none⟩) NB274_268.out _).trans (((cell_far (p := ⟨gb268, _, none⟩) NB274_268.out _).trans (((cell_far (p := ⟨gb268, _, none⟩) NB274_268.out _).trans (((cell_far (p := ⟨gb268, _, none⟩) NB274_268.out _).trans (((cell_far (p := ⟨gb268, _, none⟩) NB274_268.out _).trans (((cell_far (p := ⟨gb268, _, none⟩) NB274_268.out _).trans (((cell_far (p := ⟨gb268, _, none⟩) NB274_268.out _).trans (hHeld.2.2.2.2.2))))))))))))))))))⟩ (fun hHeld => ?_)
       clear hK K
       refine pr_ 18 (some 5) ?_
       refine done_ (done_of HT_.out (by kernel_rfl)) ?_
       (try clear hms52_3 hms52_2 hms52_0 hns52_3 hns52_2 hns52_0 hfs52 hs52 hms51_3 hms51_2 hms51_0 hns51_3 hns51_2 hns51_0 hfs51 hs51 hms50_3 hms50_2 hms50_0 hns50_3 hns50_2 hns50_0 hfs50 hs50 hms49_3 hms49_2 hms49_0 hns49_3 hns49_2 hns49_0 hfs49 hs49 hms48_3 hms48_2 hms48_0 hns48_3 hns48_2 hns48_0 hfs48 hs48 hms47_3 hms47_2 hms47_0 hns47_3 hns47_2 hns47_0 hfs47 hs47 hms46_3 hms46_2 hms46_0 hns46_3 hns46_2 hns46_0 hfs46 hs46 hms45_3 hms45_2 hms45_0 hns45_3 hns45_2 hns45_0 hfs45 hs45 hms44_3 hms44_2 hms44_0 hns44_3 hns44_2 hns44_0 hfs44 hs44)
       try go_wp2
       refine bodyPost_ret (results_ct rfl _ _ gb268 25 #[.bool t275, .string t276, .string t277, .string t271, .int .i64 (t272.size : Int), .int .i64 (t277.size : Int), .string t280, .string t281, .int .i64 a1] (0, 0) _ rfl (by refine put9_ (cs := #[.bool false, .string (⟨#[]⟩ : ByteArray), .string (⟨#[]⟩ : ByteArray), .string (⟨#[]⟩ : ByteArray), .int .i64 0, .int .i64 0, .string (⟨#[]⟩ : ByteArray), .string (⟨#[]⟩ : ByteArray), .int .i64 0]) ?_; exact BK268.out) Tryz.underlying25 rfl (by kernel_rfl)) rfl ?_
       exact fin_
      ·rw [if_neg c37] at H
       have c37b0 : (t278 == 0) = false := beq_eq_false_iff_ne.mpr c37
       have c37b1 : (t278 != 0) = true := bne_iff_ne.mpr c37
       (first | rw [c37b0] | (simp only [i64_w, i32_w]; rw [c37b0]) | rw [c37b1] | skip)
       simp only [Option.some.injEq, Prod.mk.injEq] at H
       obtain ⟨rfl, rfl, rfl, rfl, rfl, rfl, rfl, rfl, rfl, rfl⟩ := H
       have hnb53 := NB268_267.out
       have hnc53 := NB267_268.out
       have hnb54 := NB268_274.out
       have hnc54 := NB274_268.out
       have hnb55 := NB268_279.out
       have hnc55 := NB279_268.out
       obtain ⟨hcz56_0, hcz56_1, hcz56_2, hcz56_3, hcz56_4, hcz56_5, hcz56_6, hcz56_7, hcz56_8, hfz56_0, hfz56_1, hfz56_2, hfz56_3, hfz56_4, hfz56_5, hfz56_6, hfz56_7, hfz56_8⟩ := BK268.c9
       go_wp2
       refine bodyPost_ret (results_ct rfl _ _ gb268 25 #[.bool false, .string (⟨#[]⟩ : ByteArray), .string (⟨#[]⟩ : ByteArray), .string (⟨#[]⟩ : ByteArray), .int .i64 0, .int .i64 0, .string (⟨#[]⟩ : ByteArray), .string (⟨#[]⟩ : ByteArray), .int .i64 0] (0, 0) _ rfl (by refine put9_ (cs := #[.bool false, .string (⟨#[]⟩ : ByteArray), .string (⟨#[]⟩ : ByteArray), .string (⟨#[]⟩ : ByteArray), .int .i64 0, .int .i64 0, .string (⟨#[]⟩ : ByteArray), .string (⟨#[]⟩ : ByteArray), .int .i64 0]) ?_; refine far3_ ?_ NB268_279.out; exact BK268.out) Tryz.underlying25 rfl (by kernel_rfl)) rfl ?_
       exact fin_
     ·rw [if_neg c25] at H
      have c25b0 : (t273 == 0) = false := beq_eq_false_iff_ne.mpr c25
      have c25b1 : (t273 != 0) = true := bne_iff_ne.mpr c25
      (first | rw [c25b0] | (simp only [i64_w, i32_w]; rw [c25b0]) | rw [c25b1] | skip)
      simp only [Option.some.injEq, Prod.mk.injEq] at H
      obtain ⟨rfl, rfl, rfl, rfl, rfl, rfl, rfl, rfl, rfl, rfl⟩ := H
      have hnb57 := NB268_267.out
      have hnc57 := NB267_268.out
      have hnb58 := NB268_274.out
      have hnc58 := NB274_268.out
      obtain ⟨hcz59_0, hcz59_1, hcz59_2, hcz59_3, hcz59_4, hcz59_5, hcz59_6, hcz59_7, hcz59_8, hfz59_0, hfz59_1, hfz59_2, hfz59_3, hfz59_4, hfz59_5, hfz59_6, hfz59_7, hfz59_8⟩ := BK268.c9
      go_wp2
      refine bodyPost_ret (results_ct rfl _ _ gb268 25 #[.bool false, .string (⟨#[]⟩ : ByteArray), .string (⟨#[]⟩ : ByteArray), .string (⟨#[]⟩ : ByteArray), .int .i64 0, .int .i64 0, .string (⟨#[]⟩ : ByteArray), .string (⟨#[]⟩ : ByteArray), .int .i64 0] (0, 0) _ rfl (by refine put9_ (cs := #[.bool false, .string (⟨#[]⟩ : ByteArray), .string (⟨#[]⟩ : ByteArray), .string (⟨#[]⟩ : ByteArray), .int .i64 0, .int .i64 0, .string (⟨#[]⟩ : ByteArray), .string (⟨#[]⟩ : ByteArray), .int .i64 0]) ?_; refine far3_ ?_ NB268_274.out; exact BK268.out) Tryz.underlying25 rfl (by kernel_rfl)) rfl ?_
      exact fin_
 ·rw [if_neg c10] at H
  have c10b0 : (t269 == 0) = false := beq_eq_false_iff_ne.mpr c10
  have c10b1 : (t269 != 0) = true := bne_iff_ne.mpr c10
  (first | rw [c10b0] | (simp only [i64_w, i32_w]; rw [c10b0]) | rw [c10b1] | skip)
  simp only [Option.some.injEq, Prod.mk.injEq] at H
  obtain ⟨rfl, rfl, rfl, rfl, rfl, rfl, rfl, rfl, rfl, rfl⟩ := H
  have hnb60 := NB268_267.out
  have hnc60 := NB267_268.out
  obtain ⟨hcz61_0, hcz61_1, hcz61_2, hcz61_3, hcz61_4, hcz61_5, hcz61_6, hcz61_7, hcz61_8, hfz61_0, hfz61_1, hfz61_2, hfz61_3, hfz61_4, hfz61_5, hfz61_6, hfz61_7, hfz61_8⟩ := BK268.c9
  go_wp2
  refine bodyPost_ret (results_ct rfl _ _ gb268 25 #[.bool false, .string (⟨#[]⟩ : ByteArray), .string (⟨#[]⟩ : ByteArray), .string (⟨#[]⟩ : ByteArray), .int .i64 0, .int .i64 0, .string (⟨#[]⟩ : ByteArray), .string (⟨#[]⟩ : ByteArray), .int .i64 0] (0, 0) _ rfl (by refine put9_ (cs := #[.bool false, .string (⟨#[]⟩ : ByteArray), .string (⟨#[]⟩ : ByteArray), .string (⟨#[]⟩ : ByteArray), .int .i64 0, .int .i64 0, .string (⟨#[]⟩ : ByteArray), .string (⟨#[]⟩ : ByteArray), .int .i64 0]) ?_; exact BK268.out) Tryz.underlying25 rfl (by kernel_rfl)) rfl ?_
  exact fin_
attribute [local go_sem] max2_int max_two
set_option linter.unusedVariables false
set_option linter.unusedSimpArgs false
attribute [local go_sem high] eqA23 eqA25
def idiomlaw04_awake.f (k : Nat)  : Option (Bool) := (operand_Of.f k false (⟨#[49]⟩ : ByteArray) (⟨#[53, 48]⟩ : ByteArray) 0).bind fun bt282 => ((operand_Get.f k bt282.1 bt282.2.1 bt282.2.2.1 bt282.2.2.2.1 bt282.2.2.2.2.1 bt282.2.2.2.2.2.1 bt282.2.2.2.2.2.2.1 bt282.2.2.2.2.2.2.2.1 bt282.2.2.2.2.2.2.2.2.1 (⟨#[116]⟩ : ByteArray)).bind fun bt293 => (if bt282.2.2.2.2.2.2.2.2.2 = 0 then (if ((!bt282.1 && (bt282.2.1.toList == ([49] : List UInt8) && (bt282.2.2.1.toList == ([53] : List UInt8)))) && (bt282.2.2.2.1.toList == ([49] : List UInt8) && (bt282.2.2.2.2.1 == 2 && (bt282.2.2.2.2.2.1 == 1 && (bt282.2.2.2.2.2.2.1.toList == ([53, 48] : List UInt8) && (bt282.2.2.2.2.2.2.2.1.toList == ([53] : List UInt8) && (bt282.2.2.2.2.2.2.2.2.1 == 0))))))) = true then (if bt293.2.2.2 = 0 then (some (!bt293.1 && (bt293.2.1.toList == ([53] : List UInt8) && (bt293.2.2.1.toList == ([] : List UInt8))))) else (some false)) else (some false)) else (some false)))
theorem idiomlaw04_awake.mono : ∀ k, LeO (idiomlaw04_awake.f k ) (idiomlaw04_awake.f (k + 1) ) := by
 intro  k
 unfold idiomlaw04_awake.f
 repeat' first
   | (with_reducible exact operand_Get.mono _ _ _ _ _ _ _ _ _ _ _)
   | (with_reducible exact operand_Of.mono _ _ _ _ _)
   | (with_reducible exact LeO.refl _)
   | (with_reducible exact LeO.none _)
   | (with_reducible refine LeO.ite ?_ ?_)
   | (with_reducible refine LeO.bind ?_ (fun _ => ?_))
   | exact operand_Get.mono _ _ _ _ _ _ _ _ _ _ _
   | exact operand_Of.mono _ _ _ _ _
   | exact LeO.none _
   | refine LeO.ite ?_ ?_
   | refine LeO.bind ?_ (fun _ => ?_)
set_option maxHeartbeats 8000000 in
set_option maxRecDepth 100000 in
theorem idiomlaw04_awake.calls (k : Nat)  (r : Bool) (w : World) (ht : TB w) (h : idiomlaw04_awake.f k  = some r) :
    Calls Tryz.prog 7 #[] w fun e w' => e = .returned (.bool r) ∧ Below w.heap.size w w' := by
 have hu23 := Tryz.underlying23
 have hu25 := Tryz.underlying25
 have HTB := Aside0.mk ht
 clear ht
 have HB := Aside0.mk (Below.refl w.heap.size w)
 unfold idiomlaw04_awake.f at h
 have H := h
 clear h
 replace H := Option.bind_eq_some_iff.mp H
 obtain ⟨⟨t282, t283, t284, t285, t286, t287, t288, t289, t290, t291⟩, A10, H⟩ := H
 try dsimp only at H
 have A1 := Aside0.mk A10
 clear A10
 replace H := Option.bind_eq_some_iff.mp H
 obtain ⟨⟨t293, t294, t295, t296⟩, A20, H⟩ := H
 try dsimp only at H
 have A2 := Aside0.mk A20
 clear A20
 by_cases c3 : t291 = 0
 ·rw [if_pos c3] at H
  have c3b0 : (t291 == 0) = true := beq_iff_eq.mpr c3
  have c3b1 : (t291 != 0) = false := bne_eq_false_iff_eq.mpr c3
  clear c3
  by_cases c4 : ((!t282 && (t283.toList == ([49] : List UInt8) && (t284.toList == ([53] : List UInt8)))) && (t285.toList == ([49] : List UInt8) && (t286 == 2 && (t287 == 1 && (t288.toList == ([53, 48] : List UInt8) && (t289.toList == ([53] : List UInt8) && (t290 == 0))))))) = true
  ·rw [if_pos c4] at H
   have c4b0 : ((!t282 && (t283.toList == ([49] : List UInt8) && (t284.toList == ([53] : List UInt8)))) && (t285.toList == ([49] : List UInt8) && (t286 == 2 && (t287 == 1 && (t288.toList == ([53, 48] : List UInt8) && (t289.toList == ([53] : List UInt8) && (t290 == 0))))))) = true := c4
   clear c4
   by_cases c5 : t296 = 0
   ·rw [if_pos c5] at H
    have c5b0 : (t296 == 0) = true := beq_iff_eq.mpr c5
    have c5b1 : (t296 != 0) = false := bne_eq_false_iff_eq.mpr c5
    clear c5
    obtain rfl := Option.some.inj H
    go_enter Tryz.func7, Tryz.ntmps7
    go_wp2_with (first | ((with_reducible refine gate_callee (f := 13) rfl ?_); refine gL_ (some 7) Tryz.func13 #[.agg #[.bool false, .string (⟨#[49]⟩ : ByteArray), .string (⟨#[53, 48]⟩ : ByteArray)], .int .i64 0] ?_; (with_reducible refine (operand_Of.calls k false (⟨#[49]⟩ : ByteArray) (⟨#[53, 48]⟩ : ByteArray) 0 t282 t283 t284 t285 t286 t287 t288 t289 t290 t291 _ A1.out).mono ?_); rintro e w6 ⟨rfl, hb⟩; refine ⟨_, rfl, ?_⟩; replace HB := Aside0.mk (below_step hb_ hb)) | ((with_reducible refine gate_dst (N := 1) rfl ?_); refine bx_ #[.bool false, .string (⟨#[]⟩ : ByteArray), .string (⟨#[]⟩ : ByteArray), .string (⟨#[]⟩ : ByteArray), .int .i64 0, .int .i64 0, .string (⟨#[]⟩ : ByteArray), .string (⟨#[]⟩ : ByteArray), .int .i64 0] 25 ?_; intro gb292 hg w7 hbox hb; have BK292 := Aside0.mk (hbox); have GW292 := ge_ (w := w) hg; have GE292 := ge_ (w := w) hg; replace HB := Aside0.mk (below_step hb_ hb); clear hb hbox hg; obtain ⟨hcz8_0, hcz8_1, hcz8_2, hcz8_3, hcz8_4, hcz8_5, hcz8_6, hcz8_7, hcz8_8, hfz8_0, hfz8_1, hfz8_2, hfz8_3, hfz8_4, hfz8_5, hfz8_6, hfz8_7, hfz8_8⟩ := BK292.c9) | ((with_reducible refine gate_callee (f := 5) rfl ?_); refine gL_ (some 12) Tryz.func5 #[.agg #[.bool t282, .string t283, .string t284, .string t285, .int .i64 t286, .int .i64 t287, .string t288, .string t289, .int .i64 t290], .string (⟨#[116]⟩ : ByteArray)] ?_; (with_reducible refine (operand_Get.calls k t282 t283 t284 t285 t286 t287 t288 t289 t290 (⟨#[116]⟩ : ByteArray) t293 t294 t295 t296 _ (TB.below HTB.out hb_) A2.out).mono ?_); rintro e w9 ⟨rfl, hb⟩; refine ⟨_, rfl, ?_⟩; replace BK292 := Aside0.mk (blk_below (g := gb292) (o := .cells #[.bool t282, .string t283, .string t284, .string t285, .int .i64 t286, .int .i64 t287, .string t288, .string t289, .int .i64 t290] 25 (0, 0)) (by refine put9_ (cs := #[.bool false, .string (⟨#[]⟩ : ByteArray), .string (⟨#[]⟩ : ByteArray), .string (⟨#[]⟩ : ByteArray), .int .i64 0, .int .i64 0, .string (⟨#[]⟩ : ByteArray), .string (⟨#[]⟩ : ByteArray), .int .i64 0]) ?_; exact BK292.out) hb); replace HB := Aside0.mk (below_step hb_ hb)) | ((with_reducible refine gate_dst (N := 3) rfl ?_); refine bx_ #[.bool false, .string (⟨#[]⟩ : ByteArray), .string (⟨#[]⟩ : ByteArray)] 23 ?_; intro gb297 hg w10 hbox hb; have BK297 := Aside0.mk (hbox); have GW297 := ge_ (w := w) hg; have GE297 := ge_ (w := w) hg; have NB292_297 := BK292.nl hg; have NB297_292 := BK292.ng hg; replace BK292 := BK292.bl hb; replace HB := Aside0.mk (below_step hb_ hb); clear hb hbox hg; have hnb11 := NB297_292.out; have hnc11 := NB292_297.out; obtain ⟨hcz12_0, hcz12_1, hcz12_2, hfz12_0, hfz12_1, hfz12_2⟩ := BK297.c3; obtain ⟨hcz13_0, hcz13_1, hcz13_2, hcz13_3, hcz13_4, hcz13_5, hcz13_6, hcz13_7, hcz13_8, hfz13_0, hfz13_1, hfz13_2, hfz13_3, hfz13_4, hfz13_5, hfz13_6, hfz13_7, hfz13_8⟩ := BK292.c9))
    go_ret
    exact fin_
   ·rw [if_neg c5] at H
    have c5b0 : (t296 == 0) = false := beq_eq_false_iff_ne.mpr c5
    have c5b1 : (t296 != 0) = true := bne_iff_ne.mpr c5
    obtain rfl := Option.some.inj H
    go_enter Tryz.func7, Tryz.ntmps7
    go_wp2_with (first | ((with_reducible refine gate_callee (f := 13) rfl ?_); refine gL_ (some 7) Tryz.func13 #[.agg #[.bool false, .string (⟨#[49]⟩ : ByteArray), .string (⟨#[53, 48]⟩ : ByteArray)], .int .i64 0] ?_; (with_reducible refine (operand_Of.calls k false (⟨#[49]⟩ : ByteArray) (⟨#[53, 48]⟩ : ByteArray) 0 t282 t283 t284 t285 t286 t287 t288 t289 t290 t291 _ A1.out).mono ?_); rintro e w14 ⟨rfl, hb⟩; refine ⟨_, rfl, ?_⟩; replace HB := Aside0.mk (below_step hb_ hb)) | ((with_reducible refine gate_dst (N := 1) rfl ?_); refine bx_ #[.bool false, .string (⟨#[]⟩ : ByteArray), .string (⟨#[]⟩ : ByteArray), .string (⟨#[]⟩ : ByteArray), .int .i64 0, .int .i64 0, .string (⟨#[]⟩ : ByteArray), .string (⟨#[]⟩ : ByteArray), .int .i64 0] 25 ?_; intro gb292 hg w15 hbox hb; have BK292 := Aside0.mk (hbox); have GW292 := ge_ (w := w) hg; have GE292 := ge_ (w := w) hg; replace HB := Aside0.mk (below_step hb_ hb); clear hb hbox hg; obtain ⟨hcz16_0, hcz16_1, hcz16_2, hcz16_3, hcz16_4, hcz16_5, hcz16_6, hcz16_7, hcz16_8, hfz16_0, hfz16_1, hfz16_2, hfz16_3, hfz16_4, hfz16_5, hfz16_6, hfz16_7, hfz16_8⟩ := BK292.c9) | ((with_reducible refine gate_callee (f := 5) rfl ?_); refine gL_ (some 12) Tryz.func5 #[.agg #[.bool t282, .string t283, .string t284, .string t285, .int .i64 t286, .int .i64 t287, .string t288, .string t289, .int .i64 t290], .string (⟨#[116]⟩ : ByteArray)] ?_; (with_reducible refine (operand_Get.calls k t282 t283 t284 t285 t286 t287 t288 t289 t290 (⟨#[116]⟩ : ByteArray) t293 t294 t295 t296 _ (TB.below HTB.out hb_) A2.out).mono ?_); rintro e w17 ⟨rfl, hb⟩; refine ⟨_, rfl, ?_⟩; replace BK292 := Aside0.mk (blk_below (g := gb292) (o := .cells #[.bool t282, .string t283, .string t284, .string t285, .int .i64 t286, .int .i64 t287, .string t288, .string t289, .int .i64 t290] 25 (0, 0)) (by refine put9_ (cs := #[.bool false, .string (⟨#[]⟩ : ByteArray), .string (⟨#[]⟩ : ByteArray), .string (⟨#[]⟩ : ByteArray), .int .i64 0, .int .i64 0, .string (⟨#[]⟩ : ByteArray), .string (⟨#[]⟩ : ByteArray), .int .i64 0]) ?_; exact BK292.out) hb); replace HB := Aside0.mk (below_step hb_ hb)) | ((with_reducible refine gate_dst (N := 3) rfl ?_); refine bx_ #[.bool false, .string (⟨#[]⟩ : ByteArray), .string (⟨#[]⟩ : ByteArray)] 23 ?_; intro gb297 hg w18 hbox hb; have BK297 := Aside0.mk (hbox); have GW297 := ge_ (w := w) hg; have GE297 := ge_ (w := w) hg; have NB292_297 := BK292.nl hg; have NB297_292 := BK292.ng hg; replace BK292 := BK292.bl hb; replace HB := Aside0.mk (below_step hb_ hb); clear hb hbox hg; have hnb19 := NB297_292.out; have hnc19 := NB292_297.out; obtain ⟨hcz20_0, hcz20_1, hcz20_2, hfz20_0, hfz20_1, hfz20_2⟩ := BK297.c3; obtain ⟨hcz21_0, hcz21_1, hcz21_2, hcz21_3, hcz21_4, hcz21_5, hcz21_6, hcz21_7, hcz21_8, hfz21_0, hfz21_1, hfz21_2, hfz21_3, hfz21_4, hfz21_5, hfz21_6, hfz21_7, hfz21_8⟩ := BK292.c9))
    go_ret
    exact fin_
  ·rw [if_neg c4] at H
   have c4b0 : ((!t282 && (t283.toList == ([49] : List UInt8) && (t284.toList == ([53] : List UInt8)))) && (t285.toList == ([49] : List UInt8) && (t286 == 2 && (t287 == 1 && (t288.toList == ([53, 48] : List UInt8) && (t289.toList == ([53] : List UInt8) && (t290 == 0))))))) = false := by simpa using c4
   clear c4
   obtain rfl := Option.some.inj H
   go_enter Tryz.func7, Tryz.ntmps7
   go_wp2_with (first | ((with_reducible refine gate_callee (f := 13) rfl ?_); refine gL_ (some 7) Tryz.func13 #[.agg #[.bool false, .string (⟨#[49]⟩ : ByteArray), .string (⟨#[53, 48]⟩ : ByteArray)], .int .i64 0] ?_; (with_reducible refine (operand_Of.calls k false (⟨#[49]⟩ : ByteArray) (⟨#[53, 48]⟩ : ByteArray) 0 t282 t283 t284 t285 t286 t287 t288 t289 t290 t291 _ A1.out).mono ?_); rintro e w22 ⟨rfl, hb⟩; refine ⟨_, rfl, ?_⟩; replace HB := Aside0.mk (below_step hb_ hb)) | ((with_reducible refine gate_dst (N := 1) rfl ?_); refine bx_ #[.bool false, .string (⟨#[]⟩ : ByteArray), .string (⟨#[]⟩ : ByteArray), .string (⟨#[]⟩ : ByteArray), .int .i64 0, .int .i64 0, .string (⟨#[]⟩ : ByteArray), .string (⟨#[]⟩ : ByteArray), .int .i64 0] 25 ?_; intro gb292 hg w23 hbox hb; have BK292 := Aside0.mk (hbox); have GW292 := ge_ (w := w) hg; have GE292 := ge_ (w := w) hg; replace HB := Aside0.mk (below_step hb_ hb); clear hb hbox hg; obtain ⟨hcz24_0, hcz24_1, hcz24_2, hcz24_3, hcz24_4, hcz24_5, hcz24_6, hcz24_7, hcz24_8, hfz24_0, hfz24_1, hfz24_2, hfz24_3, hfz24_4, hfz24_5, hfz24_6, hfz24_7, hfz24_8⟩ := BK292.c9) | ((with_reducible refine gate_callee (f := 5) rfl ?_); refine gL_ (some 12) Tryz.func5 #[.agg #[.bool t282, .string t283, .string t284, .string t285, .int .i64 t286, .int .i64 t287, .string t288, .string t289, .int .i64 t290], .string (⟨#[116]⟩ : ByteArray)] ?_; (with_reducible refine (operand_Get.calls k t282 t283 t284 t285 t286 t287 t288 t289 t290 (⟨#[116]⟩ : ByteArray) t293 t294 t295 t296 _ (TB.below HTB.out hb_) A2.out).mono ?_); rintro e w25 ⟨rfl, hb⟩; refine ⟨_, rfl, ?_⟩; replace BK292 := Aside0.mk (blk_below (g := gb292) (o := .cells #[.bool t282, .string t283, .string t284, .string t285, .int .i64 t286, .int .i64 t287, .string t288, .string t289, .int .i64 t290] 25 (0, 0)) (by refine put9_ (cs := #[.bool false, .string (⟨#[]⟩ : ByteArray), .string (⟨#[]⟩ : ByteArray), .string (⟨#[]⟩ : ByteArray), .int .i64 0, .int .i64 0, .string (⟨#[]⟩ : ByteArray), .string (⟨#[]⟩ : ByteArray), .int .i64 0]) ?_; exact BK292.out) hb); replace HB := Aside0.mk (below_step hb_ hb)) | ((with_reducible refine gate_dst (N := 3) rfl ?_); refine bx_ #[.bool false, .string (⟨#[]⟩ : ByteArray), .string (⟨#[]⟩ : ByteArray)] 23 ?_; intro gb297 hg w26 hbox hb; have BK297 := Aside0.mk (hbox); have GW297 := ge_ (w := w) hg; have GE297 := ge_ (w := w) hg; have NB292_297 := BK292.nl hg; have NB297_292 := BK292.ng hg; replace BK292 := BK292.bl hb; replace HB := Aside0.mk (below_step hb_ hb); clear hb hbox hg; have hnb27 := NB297_292.out; have hnc27 := NB292_297.out; obtain ⟨hcz28_0, hcz28_1, hcz28_2, hfz28_0, hfz28_1, hfz28_2⟩ := BK297.c3; obtain ⟨hcz29_0, hcz29_1, hcz29_2, hcz29_3, hcz29_4, hcz29_5, hcz29_6, hcz29_7, hcz29_8, hfz29_0, hfz29_1, hfz29_2, hfz29_3, hfz29_4, hfz29_5, hfz29_6, hfz29_7, hfz29_8⟩ := BK292.c9))
   go_ret
   exact fin_
 ·rw [if_neg c3] at H
  have c3b0 : (t291 == 0) = false := beq_eq_false_iff_ne.mpr c3
  have c3b1 : (t291 != 0) = true := bne_iff_ne.mpr c3
  obtain rfl := Option.some.inj H
  go_enter Tryz.func7, Tryz.ntmps7
  go_wp2_with (first | ((with_reducible refine gate_callee (f := 13) rfl ?_); refine gL_ (some 7) Tryz.func13 #[.agg #[.bool false, .string (⟨#[49]⟩ : ByteArray), .string (⟨#[53, 48]⟩ : ByteArray)], .int .i64 0] ?_; (with_reducible refine (operand_Of.calls k false (⟨#[49]⟩ : ByteArray) (⟨#[53, 48]⟩ : ByteArray) 0 t282 t283 t284 t285 t286 t287 t288 t289 t290 t291 _ A1.out).mono ?_); rintro e w30 ⟨rfl, hb⟩; refine ⟨_, rfl, ?_⟩; replace HB := Aside0.mk (below_step hb_ hb)) | ((with_reducible refine gate_dst (N := 1) rfl ?_); refine bx_ #[.bool false, .string (⟨#[]⟩ : ByteArray), .string (⟨#[]⟩ : ByteArray), .string (⟨#[]⟩ : ByteArray), .int .i64 0, .int .i64 0, .string (⟨#[]⟩ : ByteArray), .string (⟨#[]⟩ : ByteArray), .int .i64 0] 25 ?_; intro gb292 hg w31 hbox hb; have BK292 := Aside0.mk (hbox); have GW292 := ge_ (w := w) hg; have GE292 := ge_ (w := w) hg; replace HB := Aside0.mk (below_step hb_ hb); clear hb hbox hg; obtain ⟨hcz32_0, hcz32_1, hcz32_2, hcz32_3, hcz32_4, hcz32_5, hcz32_6, hcz32_7, hcz32_8, hfz32_0, hfz32_1, hfz32_2, hfz32_3, hfz32_4, hfz32_5, hfz32_6, hfz32_7, hfz32_8⟩ := BK292.c9) | ((with_reducible refine gate_callee (f := 5) rfl ?_); refine gL_ (some 12) Tryz.func5 #[.agg #[.bool t282, .string t283, .string t284, .string t285, .int .i64 t286, .int .i64 t287, .string t288, .string t289, .int .i64 t290], .string (⟨#[116]⟩ : ByteArray)] ?_; (with_reducible refine (operand_Get.calls k t282 t283 t284 t285 t286 t287 t288 t289 t290 (⟨#[116]⟩ : ByteArray) t293 t294 t295 t296 _ (TB.below HTB.out hb_) A2.out).mono ?_); rintro e w33 ⟨rfl, hb⟩; refine ⟨_, rfl, ?_⟩; replace BK292 := Aside0.mk (blk_below (g := gb292) (o := .cells #[.bool t282, .string t283, .string t284, .string t285, .int .i64 t286, .int .i64 t287, .string t288, .string t289, .int .i64 t290] 25 (0, 0)) (by refine put9_ (cs := #[.bool false, .string (⟨#[]⟩ : ByteArray), .string (⟨#[]⟩ : ByteArray), .string (⟨#[]⟩ : ByteArray), .int .i64 0, .int .i64 0, .string (⟨#[]⟩ : ByteArray), .string (⟨#[]⟩ : ByteArray), .int .i64 0]) ?_; exact BK292.out) hb); replace HB := Aside0.mk (below_step hb_ hb)) | ((with_reducible refine gate_dst (N := 3) rfl ?_); refine bx_ #[.bool false, .string (⟨#[]⟩ : ByteArray), .string (⟨#[]⟩ : ByteArray)] 23 ?_; intro gb297 hg w34 hbox hb; have BK297 := Aside0.mk (hbox); have GW297 := ge_ (w := w) hg; have GE297 := ge_ (w := w) hg; have NB292_297 := BK292.nl hg; have NB297_292 := BK292.ng hg; replace BK292 := BK292.bl hb; replace HB := Aside0.mk (below_step hb_ hb); clear hb hbox hg; have hnb35 := NB297_292.out; have hnc35 := NB292_297.out; obtain ⟨hcz36_0, hcz36_1, hcz36_2, hfz36_0, hfz36_1, hfz36_2⟩ := BK297.c3))
  go_ret
  exact fin_
attribute [local go_sem] max2_int max_two
set_option linter.unusedVariables false
set_option linter.unusedSimpArgs false
def idiomref04_Number.l0 : Nat → ByteArray → Option (ByteArray)
  | 0, _ => none
  | k + 1, x0 => if (x0.size : Int) > 0 then (if 0 < (x0.size : Int) then (if (bt x0 0) = 48 then (if 1 ≤ (x0.size : Int) then (idiomref04_Number.l0 k (x0.extract 1 x0.size)) else (none)) else (if x0.toList = ([] : List UInt8) then (some (⟨#[48]⟩ : ByteArray)) else (some x0))) else (none)) else (if x0.toList = ([] : List UInt8) then (some (⟨#[48]⟩ : ByteArray)) else (some x0))
def idiomref04_Number.f (k : Nat) (a0 : ByteArray) : Option (ByteArray) := idiomref04_Number.l0 k a0
set_option maxHeartbeats 8000000 in
set_option maxRecDepth 100000 in
theorem idiomref04_Number.calls (k : Nat) (a0 : ByteArray) (r : ByteArray) (w : World) (h : idiomref04_Number.f k a0 = some r) :
    Calls Tryz.prog 66 #[.string a0] w fun e w' => e = .returned (.string r) ∧ Drawn0 w w' := by
 unfold idiomref04_Number.f at h
 have H := h
 clear h
 have H' := Aside0.mk H
 clear H
 go_enter Tryz.func66, Tryz.ntmps66
 go_wp2
 go_loopg [0] k (fun kq v0 w' => ∃ (x0_1 : ByteArray), v0 = .string x0_1 ∧ Aside0 (idiomref04_Number.l0 kq x0_1 = some r) ∧ Aside0 (kq ≤ k) ∧ Drawn0 w w')
 case atStart => exact ⟨(a0), (by first | rfl | (simp; done) | (simp [*]; done)), H', ⟨Nat.le_refl _⟩, by repeat (first | exact Drawn0.refl _ | apply Drawn0.step)⟩
 case round =>
  clear H'
  obtain ⟨x0_1, rfl, HA, HK1, ⟨m1, rfl⟩⟩ := hrel
  cases gk with
  | zero => exact absurd HA.out (by simp [idiomref04_Number.l0])
  | succ k1 =>
   have H := HA.out
   clear HA
   simp only [idiomref04_Number.l0] at H
   by_cases c2 : (x0_1.size : Int) > 0
   ·rw [if_pos c2] at H
    have c2b0 : decide (0 < (x0_1.size : Int)) = true := decide_eq_true c2
    have c2b1 : decide (0 < x0_1.size) = true := decide_eq_true (by omega)
    clear c2
    by_cases c3 : 0 < (x0_1.size : Int)
    ·rw [if_pos c3] at H
     have c3b0 : decide (0 < (x0_1.size : Int)) = true := decide_eq_true c3
     have c3b1 : decide (0 < x0_1.size) = true := decide_eq_true (by omega)
     clear c3
     by_cases c5 : (bt x0_1 0) = 48
     ·rw [if_pos c5] at H
      have c5b0 : ((bt x0_1 0) == 48) = true := beq_iff_eq.mpr c5
      have c5b1 : ((bt x0_1 0) != 48) = false := bne_eq_false_iff_eq.mpr c5
      clear c5
      by_cases c6 : 1 ≤ (x0_1.size : Int)
      ·rw [if_pos c6] at H
       have c6b0 := eq_true c6
       have c6b1 : decide (1 ≤ (x0_1.size : Int)) = true := decide_eq_true c6
       clear c6
       have H' := Aside0.mk H
       clear H
       have p4 : 0 ≤ (0 : Int) := (by omega)
       have q4 : 0 < x0_1.size := (by have : (0 : Int) < (x0_1.size : Int) := of_decide_eq_true (by first | (with_reducible assumption) | assumption); omega)
       have hx4 : ∀ h : 0 < x0_1.size, ((x0_1[0]'h).toNat : Int) = bt x0_1 0 := bt_at x0_1 0
       clear p4
       have qi4 : (0 < (x0_1.size : Int)) = True := eq_true (of_decide_eq_true (by first | (with_reducible assumption) | assumption))
       replace q4 := eq_true q4
       go_wp2
       go_roundg k1
       case measure => have := HK1.out; omega
       case rel => exact ⟨(x0_1.extract 1 x0_1.size), (by first | rfl | (simp; done) | (simp [*]; done)), H', ⟨by have := HK1.out; omega⟩, by repeat (first | exact Drawn0.refl _ | apply Drawn0.step)⟩
      ·rw [if_neg c6] at H
       exact absurd H (by simp)
     ·rw [if_neg c5] at H
      have c5b0 : ((bt x0_1 0) == 48) = false := beq_eq_false_iff_ne.mpr c5
      have c5b1 : ((bt x0_1 0) != 48) = true := bne_iff_ne.mpr c5
      by_cases c7 : x0_1.toList = ([] : List UInt8)
      ·rw [if_pos c7] at H
       have c7b0 : (x0_1.toList == ([] : List UInt8)) = true := beq_iff_eq.mpr c7
       have c7b1 : (x0_1.toList != ([] : List UInt8)) = false := bne_eq_false_iff_eq.mpr c7
       clear c7
       obtain rfl := Option.some.inj H
       have p4 : 0 ≤ (0 : Int) := (by omega)
       have q4 : 0 < x0_1.size := (by have : (0 : Int) < (x0_1.size : Int) := of_decide_eq_true (by first | (with_reducible assumption) | assumption); omega)
       have hx4 : ∀ h : 0 < x0_1.size, ((x0_1[0]'h).toNat : Int) = bt x0_1 0 := bt_at x0_1 0
       clear p4
       have qi4 : (0 < (x0_1.size : Int)) = True := eq_true (of_decide_eq_true (by first | (with_reducible assumption) | assumption))
       replace q4 := eq_true q4
       go_wp2
       go_ret
       exact ⟨by first | rfl | (simp; done) | (simp [*]; done), by repeat (first | exact Drawn0.refl _ | apply Drawn0.step)⟩
      ·rw [if_neg c7] at H
       have c7b0 : (x0_1.toList == ([] : List UInt8)) = false := beq_eq_false_iff_ne.mpr c7
       have c7b1 : (x0_1.toList != ([] : List UInt8)) = true := bne_iff_ne.mpr c7
       obtain rfl := Option.some.inj H
       have p4 : 0 ≤ (0 : Int) := (by omega)
       have q4 : 0 < x0_1.size := (by have : (0 : Int) < (x0_1.size : Int) := of_decide_eq_true (by first | (with_reducible assumption) | assumption); omega)
       have hx4 : ∀ h : 0 < x0_1.size, ((x0_1[0]'h).toNat : Int) = bt x0_1 0 := bt_at x0_1 0
       clear p4
       have qi4 : (0 < (x0_1.size : Int)) = True := eq_true (of_decide_eq_true (by first | (with_reducible assumption) | assumption))
       replace q4 := eq_true q4
       go_wp2
       go_ret
       exact ⟨by first | rfl | (simp; done) | (simp [*]; done), by repeat (first | exact Drawn0.refl _ | apply Drawn0.step)⟩
    ·rw [if_neg c3] at H
     exact absurd H (by simp)
   ·rw [if_neg c2] at H
    have c2b0 : decide (0 < (x0_1.size : Int)) = false := decide_eq_false c2
    have c2b1 : decide (0 < x0_1.size) = false := decide_eq_false (by omega)
    clear c2
    by_cases c8 : x0_1.toList = ([] : List UInt8)
    ·rw [if_pos c8] at H
     have c8b0 : (x0_1.toList == ([] : List UInt8)) = true := beq_iff_eq.mpr c8
     have c8b1 : (x0_1.toList != ([] : List UInt8)) = false := bne_eq_false_iff_eq.mpr c8
     clear c8
     obtain rfl := Option.some.inj H
     go_wp2
     go_ret
     exact ⟨by first | rfl | (simp; done) | (simp [*]; done), by repeat (first | exact Drawn0.refl _ | apply Drawn0.step)⟩
    ·rw [if_neg c8] at H
     have c8b0 : (x0_1.toList == ([] : List UInt8)) = false := beq_eq_false_iff_ne.mpr c8
     have c8b1 : (x0_1.toList != ([] : List UInt8)) = true := bne_iff_ne.mpr c8
     obtain rfl := Option.some.inj H
     go_wp2
     go_ret
     exact ⟨by first | rfl | (simp; done) | (simp [*]; done), by repeat (first | exact Drawn0.refl _ | apply Drawn0.step)⟩
attribute [local go_sem] max2_int max_two
set_option linter.unusedVariables false
set_option linter.unusedSimpArgs false
def idiomref04_shown.f (k : Nat) (a0_0 : Bool) (a0_1 : ByteArray) (a0_2 : ByteArray) (a1 : Int) : Option (Bool × ByteArray × ByteArray × ByteArray × Int × Int × ByteArray × ByteArray × Int) := (idiomref02_Trim.f k a0_0 a0_1 a0_2).bind fun bt155 => ((idiomref04_Number.f k a0_2).bind fun t160 => ((idiomref04_Number.f k bt155.2.2.1).bind fun t161 => (some (bt155.1, bt155.2.1, bt155.2.2.1, a0_1, (a0_2.size : Int), (bt155.2.2.1.size : Int), t160, t161, a1))))
def idiomref04_shown.T2 : Bool × List (List Nat × List Nat) := (true, [([], []), ([], []), ([1], [1]), ([], []), ([3], [3]), ([4], [4]), ([], []), ([6], [6]), ([7, 5], [7]), ([], []), ([9], [9]), ([10], [10]), ([], []), ([12], [12]), ([13], [13]), ([], []), ([0, 2, 5, 8, 11, 14, 15], [0, 2, 5, 8, 11, 14, 15]), ([16, 8, 0, 1, 2, 3, 4, 5, 6, 7, 8, 9, 10, 11, 12, 13, 14, 15, 16], [16])])
def idiomref04_shown.B2 : List Nat := [0, 0, 2, 0, 8, 24, 0, 64, 248, 0, 512, 1536, 0, 4096, 12288, 0, 65535, 131071]
theorem idiomref04_shown.tab2 : rtab .any (opsOf Tryz.f36 2) = idiomref04_shown.T2 := by kernel_rfl
theorem idiomref04_shown.bits2 : waitsOk idiomref04_shown.T2.2 idiomref04_shown.B2 = true := by kernel_rfl
set_option maxHeartbeats 8000000 in
set_option maxRecDepth 100000 in
theorem idiomref04_shown.calls (k : Nat) (a0_0 : Bool) (a0_1 : ByteArray) (a0_2 : ByteArray) (a1 : Int) (r1 : Bool) (r2 : ByteArray) (r3 : ByteArray) (r4 : ByteArray) (r5 : Int) (r6 : Int) (r7 : ByteArray) (r8 : ByteArray) (r9 : Int) (w : World) (h : idiomref04_shown.f k a0_0 a0_1 a0_2 a1 = some (r1, r2, r3, r4, r5, r6, r7, r8, r9)) :
    Calls Tryz.prog 36 #[.agg #[.bool a0_0, .string a0_1, .string a0_2], .int .i64 a1] w fun e w' => e = .returned (.agg #[.bool r1, .string r2, .string r3, .string r4, .int .i64 r5, .int .i64 r6, .string r7, .string r8, .int .i64 r9]) ∧ Below w.heap.size w w' := by
 have hu23 := Tryz.underlying23
 have hu25 := Tryz.underlying25
 have HB := Aside0.mk (Below.refl w.heap.size w)
 unfold idiomref04_shown.f at h
 have H := h
 clear h
 replace H := Option.bind_eq_some_iff.mp H
 obtain ⟨⟨t155, t156, t157, t158⟩, A30, H⟩ := H
 try dsimp only at H
 have A3 := Aside0.mk A30
 clear A30
 replace H := Option.bind_eq_some_iff.mp H
 obtain ⟨t160, A40, H⟩ := H
 try dsimp only at H
 have A4 := Aside0.mk A40
 clear A40
 replace H := Option.bind_eq_some_iff.mp H
 obtain ⟨t161, A50, H⟩ := H
 try dsimp only at H
 have A5 := Aside0.mk A50
 clear A50
 simp only [Option.some.injEq, Prod.mk.injEq] at H
 obtain ⟨rfl, rfl, rfl, rfl, rfl, rfl, rfl, rfl, rfl⟩ := H
 go_enter Tryz.func36, Tryz.ntmps36
 try go_wp2_with (first | ((with_reducible refine gate_dst (N := 2) rfl ?_); refine bx_ #[.bool a0_0, .string a0_1, .string a0_2] 23 ?_; intro gb153 hg w6 hbox hb; have BK153 := Aside0.mk (hbox); have GW153 := ge_ (w := w) hg; have GE153 := ge_ (w := w) hg; replace HB := Aside0.mk (below_step hb_ hb); clear hb hbox hg) | ((with_reducible refine gate_dst (N := 4) rfl ?_); refine bx_ #[.bool false, .string (⟨#[]⟩ : ByteArray), .string (⟨#[]⟩ : ByteArray), .string (⟨#[]⟩ : ByteArray), .int .i64 0, .int .i64 0, .string (⟨#[]⟩ : ByteArray), .string (⟨#[]⟩ : ByteArray), .int .i64 0] 25 ?_; intro gb154 hg w7 hbox hb; have BK154 := Aside0.mk (hbox); have GW154 := ge_ (w := w) hg; have GE154 := ge_ (w := w) hg; have NB153_154 := BK153.nl hg; have NB154_153 := BK153.ng hg; replace BK153 := BK153.bl hb; replace HB := Aside0.mk (below_step hb_ hb); clear hb hbox hg; have hnb8 := NB153_154.out; have hnc8 := NB154_153.out; obtain ⟨hcz9_0, hcz9_1, hcz9_2, hfz9_0, hfz9_1, hfz9_2⟩ := BK153.c3) | ((with_reducible refine gate_callee (f := 26) rfl ?_); refine gL_ (some 9) Tryz.func26 #[.agg #[.bool a0_0, .string a0_1, .string a0_2]] ?_; (with_reducible refine (idiomref02_Trim.calls k a0_0 a0_1 a0_2 t155 t156 t157 t158 _ A3.out).mono ?_); rintro e w10 ⟨rfl, hb⟩; refine ⟨_, rfl, ?_⟩; replace BK153 := BK153.bl hb; replace BK154 := BK154.bl hb; replace HB := Aside0.mk (below_step hb_ hb)) | ((with_reducible refine gate_dst (N := 5) rfl ?_); refine bx_ #[.bool false, .string (⟨#[]⟩ : ByteArray), .string (⟨#[]⟩ : ByteArray)] 23 ?_; intro gb159 hg w11 hbox hb; have BK159 := Aside0.mk (hbox); have GW159 := ge_ (w := w) hg; have GE159 := ge_ (w := w) hg; have NB153_159 := BK153.nl hg; have NB159_153 := BK153.ng hg; have NB154_159 := BK154.nl hg; have NB159_154 := BK154.ng hg; replace BK153 := BK153.bl hb; replace BK154 := BK154.bl hb; replace HB := Aside0.mk (below_step hb_ hb); clear hb hbox hg; have hnb12 := NB159_153.out; have hnc12 := NB153_159.out; have hnb13 := NB159_154.out; have hnc13 := NB154_159.out; obtain ⟨hcz14_0, hcz14_1, hcz14_2, hfz14_0, hfz14_1, hfz14_2⟩ := BK159.c3))
 have n0_ : Aside0 ((((w11.setCell ⟨gb159, 0, none⟩ (.bool t155)).setCell ⟨gb159, 1, none⟩ (.string t156)).setCell ⟨gb159, 2, none⟩ (.string t157)).heap[gb153]? = some (.cells #[.bool a0_0, .string a0_1, .string a0_2] 23 (0, 0))) := ⟨by refine far3_ ?_ NB153_159.out; exact BK153.out⟩
 have n1_ : Aside0 ((((w11.setCell ⟨gb159, 0, none⟩ (.bool t155)).setCell ⟨gb159, 1, none⟩ (.string t156)).setCell ⟨gb159, 2, none⟩ (.string t157)).heap[gb154]? = some (.cells #[.bool false, .string (⟨#[]⟩ : ByteArray), .string (⟨#[]⟩ : ByteArray), .string (⟨#[]⟩ : ByteArray), .int .i64 0, .int .i64 0, .string (⟨#[]⟩ : ByteArray), .string (⟨#[]⟩ : ByteArray), .int .i64 0] 25 (0, 0))) := ⟨by refine far3_ ?_ NB154_159.out; exact BK154.out⟩
 have n2_ : Aside0 ((((w11.setCell ⟨gb159, 0, none⟩ (.bool t155)).setCell ⟨gb159, 1, none⟩ (.string t156)).setCell ⟨gb159, 2, none⟩ (.string t157)).heap[gb159]? = some (.cells #[.bool t155, .string t156, .string t157] 23 (0, 0))) := ⟨by refine put3_ (cs := #[.bool false, .string (⟨#[]⟩ : ByteArray), .string (⟨#[]⟩ : ByteArray)]) ?_; exact BK159.out⟩
 have n3_ : Aside0 (Below w.heap.size w (((w11.setCell ⟨gb159, 0, none⟩ (.bool t155)).setCell ⟨gb159, 1, none⟩ (.string t156)).setCell ⟨gb159, 2, none⟩ (.string t157))) := ⟨hb_⟩
 (try clear BK153)
 (try clear BK154)
 (try clear BK159)
 (try clear HB)
 generalize (((w11.setCell ⟨gb159, 0, none⟩ (.bool t155)).setCell ⟨gb159, 1, none⟩ (.string t156)).setCell ⟨gb159, 2, none⟩ (.string t157)) = w15 at n0_ n1_ n2_ n3_ ⊢
 have BK153 := n0_
 have BK154 := n1_
 have BK159 := n2_
 have HB := n3_
 clear n0_ n1_ n2_ n3_
 replace BK153 := Aside0.mk (blk_drew BK153.out)
 replace BK154 := Aside0.mk (blk_drew BK154.out)
 replace BK159 := Aside0.mk (blk_drew BK159.out)
 replace HB := Aside0.mk (below_drew1 HB.out)
 refine start_ (n := 18) (S := fun w' => w'.cell? ⟨gb159, 0, none⟩ = some (.bool t155) ∧ w'.cell? ⟨gb159, 1, none⟩ = some (.string t156) ∧ w'.cell? ⟨gb159, 2, none⟩ = some (.string t157) ∧ w'.cell? ⟨gb153, 0, none⟩ = some (.bool a0_0) ∧ w'.cell? ⟨gb153, 1, none⟩ = some (.string a0_1) ∧ w'.cell? ⟨gb153, 2, none⟩ = some (.string a0_2)) (ds := []) #[false, false, false, false, false, false, false, false, false, false, false, false, false, false, false, false, false, false] (by kernel_rfl) rfl rfl ⟨(blk_cell BK159.out 0).trans rfl, (blk_cell BK159.out 1).trans rfl, (blk_cell BK159.out 2).trans rfl, (blk_cell BK153.out 0).trans rfl, (blk_cell BK153.out 1).trans rfl, (blk_cell BK153.out 2).trans rfl⟩ (fun hHeld => ?_); refine with_tabW idiomref04_shown.tab2 idiomref04_shown.bits2 (fun HT_ HW_ => ?_)
 generalize w15.drew = w16 at BK153 BK154 BK159 HB hHeld ⊢
 refine pr_ 1 (some 13) ?_
 refine pr_ 3 (some 15) ?_
 refine pr_ 6 (some 18) ?_
 refine pr_ 9 (some 21) ?_
 refine pr_ 12 (some 24) ?_
 refine pr_ 15 (some 27) ?_
 refine tk_ 0 (some 12) hHeld ?_
 refine tk_ 2 (some 14) hHeld ?_
 refine tk_ 4 (some 16) hHeld ?_
 refine tk_ 7 (some 19) hHeld ?_
 refine tk_ 10 (some 22) hHeld ?_
 refine pr_ 11 (some 23) ?_
 refine tk_ 13 (some 25) hHeld ?_
 refine pr_ 14 (some 26) ?_
 refine one_ (i := 5) (N := some 17) #[true, true, true, true, true, true, true, true, false, true, true, true, true, true, true, true, false, false] rfl rfl (one_of HT_.out (by kernel_rfl)) (by decide) (fun K hK => ?_)
 refine goes_ Tryz.func66 (by kernel_rfl) rfl #[.string a0_2] (by rfl) rfl rfl ar_ ?_
 with_reducible refine (idiomref04_Number.calls k a0_2 t160 _ A4.out).mono ?_
 rintro e w' ⟨rfl, ⟨nd, rfl⟩⟩
 refine ⟨_, rfl, ?_⟩
 refine hK.out _ _ ⟨(blk_cell BK159.out 0).trans rfl, (blk_cell BK159.out 1).trans rfl, (blk_cell BK159.out 2).trans rfl, (blk_cell BK153.out 0).trans rfl, (blk_cell BK153.out 1).trans rfl, (blk_cell BK153.out 2).trans rfl⟩ (fun hHeld => ?_)
 clear hK K
 refine norm_ (a' := ?_) ?_ ?_
 rotate_left
 ·show Act.put _ (some 17) _ = _
  simp only [Act.put, List.setIfInBounds_toArray, List.set_cons_zero, List.set_cons_succ, i64_w, i32_w]
  rfl
 refine one_ (i := 8) (N := some 20) #[true, true, true, true, true, true, true, true, true, true, true, true, true, true, true, true, false, false] rfl rfl (one_of HT_.out (by kernel_rfl)) (by decide) (fun K hK => ?_)
 refine goes_ Tryz.func66 (by kernel_rfl) rfl #[.string t157] (by rfl) rfl rfl ar_ ?_
 with_reducible refine (idiomref04_Number.calls k t157 t161 _ A5.out).mono ?_
 rintro e w' ⟨rfl, ⟨nd, rfl⟩⟩
 refine ⟨_, rfl, ?_⟩
 refine hK.out _ _ ⟨(blk_cell BK159.out 0).trans rfl, (blk_cell BK159.out 1).trans rfl, (blk_cell BK159.out 2).trans rfl, (blk_cell BK153.out 0).trans rfl, (blk_cell BK153.out 1).trans rfl, (blk_cell BK153.out 2).trans rfl⟩ (fun hHeld => ?_)
 clear hK K
 refine norm_ (a' := ?_) ?_ ?_
 rotate_left
 ·show Act.put _ (some 20) _ = _
  simp only [Act.put, List.setIfInBounds_toArray, List.set_cons_zero, List.set_cons_succ, i64_w, i32_w]
  rfl
 refine pr_ 16 (some 28) ?_
 refine one_ (i := 17) (N := none) #[true, true, true, true, true, true, true, true, true, true, true, true, true, true, true, true, true, true] rfl rfl (one_of HT_.out (by kernel_rfl)) (by decide) (fun K hK => ?_)
 have hs17 : w16.cell? ⟨gb154, 0, none⟩ = some (.bool false) := (blk_cell BK154.out 0).trans rfl
 have hfs17 := blk_frozen BK154.out 0
 have hns17_0 := NB153_154.out
 have hns17_2 := NB159_154.out
 have hms17_0 := NB154_153.out
 have hms17_2 := NB154_159.out
 have hs18 : w16.cell? ⟨gb154, 1, none⟩ = some (.string (⟨#[]⟩ : ByteArray)) := (blk_cell BK154.out 1).trans rfl
 have hfs18 := blk_frozen BK154.out 1
 have hns18_0 := NB153_154.out
 have hns18_2 := NB159_154.out
 have hms18_0 := NB154_153.out
 have hms18_2 := NB154_159.out
 have hs19 : w16.cell? ⟨gb154, 2, none⟩ = some (.string (⟨#[]⟩ : ByteArray)) := (blk_cell BK154.out 2).trans rfl
 have hfs19 := blk_frozen BK154.out 2
 have hns19_0 := NB153_154.out
 have hns19_2 := NB159_154.out
 have hms19_0 := NB154_153.out
 have hms19_2 := NB154_159.out
 have hs20 : w16.cell? ⟨gb154, 3, none⟩ = some (.string (⟨#[]⟩ : ByteArray)) := (blk_cell BK154.out 3).trans rfl
 have hfs20 := blk_frozen BK154.out 3
 have hns20_0 := NB153_154.out
 have hns20_2 := NB159_154.out
 have hms20_0 := NB154_153.out
 have hms20_2 := NB154_159.out
 have hs21 : w16.cell? ⟨gb154, 4, none⟩ = some (.int .i64 0) := (blk_cell BK154.out 4).trans rfl
 have hfs21 := blk_frozen BK154.out 4
 have hns21_0 := NB153_154.out
 have hns21_2 := NB159_154.out
 have hms21_0 := NB154_153.out
 have hms21_2 := NB154_159.out
 have hs22 : w16.cell? ⟨gb154, 5, none⟩ = some (.int .i64 0) := (blk_cell BK154.out 5).trans rfl
 have hfs22 := blk_frozen BK154.out 5
 have hns22_0 := NB153_154.out
 have hns22_2 := NB159_154.out
 have hms22_0 := NB154_153.out
 have hms22_2 := NB154_159.out
 have hs23 : w16.cell? ⟨gb154, 6, none⟩ = some (.string (⟨#[]⟩ : ByteArray)) := (blk_cell BK154.out 6).trans rfl
 have hfs23 := blk_frozen BK154.out 6
 have hns23_0 := NB153_154.out
 have hns23_2 := NB159_154.out
 have hms23_0 := NB154_153.out
 have hms23_2 := NB154_159.out
 have hs24 : w16.cell? ⟨gb154, 7, none⟩ = some (.string (⟨#[]⟩ : ByteArray)) := (blk_cell BK154.out 7).trans rfl
 have hfs24 := blk_frozen BK154.out 7
 have hns24_0 := NB153_154.out
 have hns24_2 := NB159_154.out
 have hms24_0 := NB154_153.out
 have hms24_2 := NB154_159.out
 have hs25 : w16.cell? ⟨gb154, 8, none⟩ = some (.int .i64 0) := (blk_cell BK154.out 8).trans rfl
 have hfs25 := blk_frozen BK154.out 8
 have hns25_0 := NB153_154.out
 have hns25_2 := NB159_154.out
 have hms25_0 := NB154_153.out
 have hms25_2 := NB154_159.out
 refine skip_ (w1 := ?_) (by rfl) rfl ?_ ?_
 rotate_left
 ·go_simp
  rfl
 refine hK.out _ _ ⟨((cell_far (p := ⟨gb154, _, none⟩) NB159_154.out _).trans (((cell_far (p := ⟨gb154, _, none⟩) NB159_154.out _).trans (((cell_far (p := ⟨gb154, _, none⟩) NB159_154.out _).trans (((cell_far (p := ⟨gb154, _, none⟩) NB159_154.out _).trans (((cell_far (p := ⟨gb154, _, none⟩) NB159_154.out _).trans (((cell_far (p := ⟨gb154, _, none⟩) NB159_154.out _).trans (((cell_far (p := ⟨gb154, _, none⟩) NB159_154.out _).trans (((cell_far (p := ⟨gb154, _, none⟩) NB159_154.out _).trans (((cell_far (p := ⟨gb154, _, none⟩) NB159_154.out _).trans (hHeld.1)))))))))))))))))), ((cell_far (p := ⟨gb154, _, none⟩) NB159_154.out _).trans (((cell_far (p := ⟨gb154, _, none⟩) NB159_154.out _).trans (((cell_far (p := ⟨gb154, _, none⟩) NB159_154.out _).trans (((cell_far (p := ⟨gb154, _, none⟩) NB159_154.out _).trans (((cell_far (p := ⟨gb154, _, none⟩) NB159_154.out _).trans (((cell_far (p := ⟨gb154, _, none⟩) NB159_154.out _).trans (((cell_far (p := ⟨gb154, _, none⟩) NB159_154.out _).trans (((cell_far (p := ⟨gb154, _, none⟩) NB159_154.out _).trans (((cell_far (p := ⟨gb154, _, none⟩) NB159_154.out _).trans (hHeld.2.1)))))))))))))))))), ((cell_far (p := ⟨gb154, _, none⟩) NB159_154.out _).trans (((cell_far (p := ⟨gb154, _, none⟩) NB159_154.out _).trans (((cell_far (p := ⟨gb154, _, none⟩) NB159_154.out _).trans (((cell_far (p := ⟨gb154, _, none⟩) NB159_154.out _).trans (((cell_far (p := ⟨gb154, _, none⟩) NB159_154.out _).trans (((cell_far (p := ⟨gb154, _, none⟩) NB159_154.out _).trans (((cell_far (p := ⟨gb154, _, none⟩) NB159_154.out _).trans (((cell_far (p := ⟨gb154, _, none⟩) NB159_154.out _).trans (((cell_far (p := ⟨gb154, _, none⟩) NB159_154.out _).trans (hHeld.2.2.1)))))))))))))))))), ((cell_far (p := ⟨gb154, _, none⟩) NB153_154.out _).trans (((cell_far (p := ⟨gb154, _, none⟩) NB153_154.out _).trans (((cell_far (p := ⟨gb154, _, none⟩) NB153_154.out _).trans (((cell_far (p := ⟨gb154, _, none⟩) NB153_154.out _).trans (((cell_far (p := ⟨gb154, _, none⟩) NB153_154.out _).trans (((cell_far (p := ⟨gb154, _, none⟩) NB153_154.out _).trans (((cell_far (p := ⟨gb154, _, none⟩) NB153_154.out _).trans (((cell_far (p := ⟨gb154, _, none⟩) NB153_154.out _).trans (((cell_far (p := ⟨gb154, _, none⟩) NB153_154.out _).trans (hHeld.2.2.2.1)))))))))))))))))), ((cell_far (p := ⟨gb154, _, none⟩) NB153_154.out _).trans (((cell_far (p := ⟨gb154, _, none⟩) NB153_154.out _).trans (((cell_far (p := ⟨gb154, _, none⟩) NB153_154.out _).trans (((cell_far (p := ⟨gb154, _, none⟩) NB153_154.out _).trans (((cell_far (p := ⟨gb154, _, none⟩) NB153_154.out _).trans (((cell_far (p := ⟨gb154, _, none⟩) NB153_154.out _).trans (((cell_far (p := ⟨gb154, _, none⟩) NB153_154.out _).trans (((cell_far (p := ⟨gb154, _, none⟩) NB153_154.out _).trans (((cell_far (p := ⟨gb154, _, none⟩) NB153_154.out _).trans (hHeld.2.2.2.2.1)))))))))))))))))), ((cell_far (p := ⟨gb154, _, none⟩) NB153_154.out _).trans (((cell_far (p := ⟨gb154, _, none⟩) NB153_154.out _).trans (((cell_far (p := ⟨gb154, _, none⟩) NB153_154.out _).trans (((cell_far (p := ⟨gb154, _, none⟩) NB153_154.out _).trans (((cell_far (p := ⟨gb154, _, none⟩) NB153_154.out _).trans (((cell_far (p := ⟨gb154, _, none⟩) NB153_154.out _).trans (((cell_far (p := ⟨gb154, _, none⟩) NB153_154.out _).trans (((cell_far (p := ⟨gb154, _, none⟩) NB153_154.out _).trans (((cell_far (p := ⟨gb154, _, none⟩) NB153_154.out _).trans (hHeld.2.2.2.2.2))))))))))))))))))⟩ (fun hHeld => ?_)
 clear hK K
 refine done_ (done_of HT_.out (by kernel_rfl)) ?_
 (try clear hms25_2 hms25_0 hns25_2 hns25_0 hfs25 hs25 hms24_2 hms24_0 hns24_2 hns24_0 hfs24 hs24 hms23_2 hms23_0 hns23_2 hns23_0 hfs23 hs23 hms22_2 hms22_0 hns22_2 hns22_0 hfs22 hs22 hms21_2 hms21_0 hns21_2 hns21_0 hfs21 hs21 hms20_2 hms20_0 hns20_2 hns20_0 hfs20 hs20 hms19_2 hms19_0 hns19_2 hns19_0 hfs19 hs19 hms18_2 hms18_0 hns18_2 hns18_0 hfs18 hs18 hms17_2 hms17_0 hns17_2 hns17_0 hfs17 hs17)
 try go_wp2
 refine bodyPost_ret (results_cell_row rfl _ _ gb154 25 #[.bool t155, .string t156, .string t157, .string a0_1, .int .i64 (a0_2.size : Int), .int .i64 (t157.size : Int), .string t160, .string t161, .int .i64 a1] (0, 0) _ rfl (by refine put9_ (cs := #[.bool false, .string (⟨#[]⟩ : ByteArray), .string (⟨#[]⟩ : ByteArray), .string (⟨#[]⟩ : ByteArray), .int .i64 0, .int .i64 0, .string (⟨#[]⟩ : ByteArray), .string (⟨#[]⟩ : ByteArray), .int .i64 0]) ?_; exact BK154.out) Tryz.underlying25 rfl (by kernel_rfl)) rfl ?_
 exact fin_
attribute [local go_sem] max2_int max_two
set_option linter.unusedVariables false
set_option linter.unusedSimpArgs false
def idiomref04_Of.j0 : Nat → Int → Int → Bool → ByteArray → ByteArray → Option (Bool × ByteArray × ByteArray × ByteArray × Int × Int × ByteArray × ByteArray × Int × Int)
  | 0, _, _, _, _, _ => none
  | k + 1, x1, x6, x619000, x619001, x619002 => if x6 = 0 then ((idiomref02_Shift.f k x619000 x619001 x619002 x1).bind fun bt631 => (if bt631.2.2.2 = 0 then ((idiomref04_shown.f k false bt631.2.1 bt631.2.2.1 x1).bind fun bt636 => (some (bt636.1, bt636.2.1, bt636.2.2.1, bt636.2.2.2.1, bt636.2.2.2.2.1, bt636.2.2.2.2.2.1, bt636.2.2.2.2.2.2.1, bt636.2.2.2.2.2.2.2.1, bt636.2.2.2.2.2.2.2.2, 0))) else (some (false, (⟨#[]⟩ : ByteArray), (⟨#[]⟩ : ByteArray), (⟨#[]⟩ : ByteArray), 0, 0, (⟨#[]⟩ : ByteArray), (⟨#[]⟩ : ByteArray), 0, bt631.2.2.2)))) else (some (false, (⟨#[]⟩ : ByteArray), (⟨#[]⟩ : ByteArray), (⟨#[]⟩ : ByteArray), 0, 0, (⟨#[]⟩ : ByteArray), (⟨#[]⟩ : ByteArray), 0, x6))
def idiomref04_Of.f (k : Nat) (a0_0 : Bool) (a0_1 : ByteArray) (a0_2 : ByteArray) (a1 : Int) : Option (Bool × ByteArray × ByteArray × ByteArray × Int × Int × ByteArray × ByteArray × Int × Int) := (idiomref02_Check.f k a0_0 a0_1 a0_2).bind fun t620 => (if a1 < 0 then ((idiomref02_If.f true 1).bind fun t621 => ((idiomref02_First.f k (([t620, t621] : List Int))).bind fun t625 => (idiomref04_Of.j0 k a1 t625 a0_0 a0_1 a0_2))) else ((idiomref02_If.f (decide (a1 > 40)) 1).bind fun t626 => ((idiomref02_First.f k (([t620, t626] : List Int))).bind fun t630 => (idiomref04_Of.j0 k a1 t630 a0_0 a0_1 a0_2))))
set_option maxHeartbeats 8000000 in
set_option maxRecDepth 100000 in
theorem idiomref04_Of.calls (k : Nat) (a0_0 : Bool) (a0_1 : ByteArray) (a0_2 : ByteArray) (a1 : Int) (r1 : Bool) (r2 : ByteArray) (r3 : ByteArray) (r4 : ByteArray) (r5 : Int) (r6 : Int) (r7 : ByteArray) (r8 : ByteArray) (r9 : Int) (r10 : Int) (w : World) (h : idiomref04_Of.f k a0_0 a0_1 a0_2 a1 = some (r1, r2, r3, r4, r5, r6, r7, r8, r9, r10)) :
    Calls Tryz.prog 14 #[.agg #[.bool a0_0, .string a0_1, .string a0_2], .int .i64 a1] w fun e w' => e = .returned (.tuple #[.agg #[.bool r1, .string r2, .string r3, .string r4, .int .i64 r5, .int .i64 r6, .string r7, .string r8, .int .i64 r9], .int .i64 r10]) ∧ Below w.heap.size w w' := by
 have hu23 := Tryz.underlying23
 have hu25 := Tryz.underlying25
 have HB := Aside0.mk (Below.refl w.heap.size w)
 unfold idiomref04_Of.f at h
 have H := h
 clear h
 have HC3 := Aside0.mk H
 clear H
 go_enter Tryz.func14, Tryz.ntmps14
 go_upto_region 1 with (first | ((with_reducible refine gate_dst (N := 2) rfl ?_); refine bx_ #[.bool a0_0, .string a0_1, .string a0_2] 23 ?_; intro gb618 hg w4 hbox hb; have BK618 := Aside0.mk (hbox); have GW618 := ge_ (w := w) hg; have GE618 := ge_ (w := w) hg; replace HB := Aside0.mk (below_step hb_ hb); clear hb hbox hg) | ((with_reducible refine gate_dst (N := 4) rfl ?_); refine bx_ #[.bool false, .string (⟨#[]⟩ : ByteArray), .string (⟨#[]⟩ : ByteArray), .string (⟨#[]⟩ : ByteArray), .int .i64 0, .int .i64 0, .string (⟨#[]⟩ : ByteArray), .string (⟨#[]⟩ : ByteArray), .int .i64 0] 25 ?_; intro gb619 hg w5 hbox hb; have BK619 := Aside0.mk (hbox); have GW619 := ge_ (w := w) hg; have GE619 := ge_ (w := w) hg; have NB618_619 := Aside0.mk ((by rw [hg]; exact Nat.ne_of_lt (blk_lt (g := gb618) (o := .cells #[.bool a0_0, .string a0_1, .string a0_2] 23 (0, 0)) (by (with_reducible repeat (first | refine blk_drewN ?_ _ | refine blk_drew ?_ | refine blk_alloc ?_ _)); exact BK618.out)) : gb618 ≠ gb619)); have NB619_618 := Aside0.mk ((by rw [hg]; exact Nat.ne_of_gt (blk_lt (g := gb618) (o := .cells #[.bool a0_0, .string a0_1, .string a0_2] 23 (0, 0)) (by (with_reducible repeat (first | refine blk_drewN ?_ _ | refine blk_drew ?_ | refine blk_alloc ?_ _)); exact BK618.out)) : gb619 ≠ gb618)); replace BK618 := Aside0.mk (blk_below (g := gb618) (o := .cells #[.bool a0_0, .string a0_1, .string a0_2] 23 (0, 0)) (by (with_reducible repeat (first | refine blk_drewN ?_ _ | refine blk_drew ?_ | refine blk_alloc ?_ _)); exact BK618.out) hb); replace HB := Aside0.mk (below_step hb_ hb); clear hb hbox hg))
 (try simp only [Act.put, List.setIfInBounds_toArray, List.set_cons_zero, List.set_cons_succ])
 go_cut [6] (fun v6 wc => ∃ (kq : Nat) (x6_2 : Int), v6 = .int .i64 x6_2 ∧ Aside0 (idiomref04_Of.j0 kq a1 x6_2 a0_0 a0_1 a0_2 = some (r1, r2, r3, r4, r5, r6, r7, r8, r9, r10)) ∧ Aside0 (kq ≤ k) ∧ Aside0 (wc.heap[gb618]? = some (.cells #[.bool a0_0, .string a0_1, .string a0_2] 23 (0, 0))) ∧ Aside0 (wc.heap[gb619]? = some (.cells #[.bool false, .string (⟨#[]⟩ : ByteArray), .string (⟨#[]⟩ : ByteArray), .string (⟨#[]⟩ : ByteArray), .int .i64 0, .int .i64 0, .string (⟨#[]⟩ : ByteArray), .string (⟨#[]⟩ : ByteArray), .int .i64 0] 25 (0, 0))) ∧ Aside0 (Below w.heap.size w wc))
 case first =>
  have H := HC3.out
  clear HC3
  replace H := Option.bind_eq_some_iff.mp H
  obtain ⟨t620, A60, H⟩ := H
  try dsimp only at H
  have A6 := Aside0.mk A60
  clear A60
  by_cases c7 : a1 < 0
  ·rw [if_pos c7] at H
   have c7b0 : decide (a1 < 0) = true := decide_eq_true c7
   clear c7
   (first | rw [c7b0] | (simp only [i64_w, i32_w]; rw [c7b0]) | skip)
   replace H := Option.bind_eq_some_iff.mp H
   obtain ⟨t621, A80, H⟩ := H
   try dsimp only at H
   have A8 := Aside0.mk A80
   clear A80
   obtain ⟨y622, hy622⟩ : ∃ y_ : List Int, y_ = (([t620, t621] : List Int)) := ⟨_, rfl⟩
   rw [← hy622] at H
   have Ny622 := Aside0.mk hy622
   clear hy622
   replace H := Option.bind_eq_some_iff.mp H
   obtain ⟨t625, A90, H⟩ := H
   try dsimp only at H
   have A9 := Aside0.mk A90
   clear A90
   have H' := Aside0.mk H
   clear H
   have hnb10 := NB618_619.out
   have hnc10 := NB619_618.out
   obtain ⟨hcz11_0, hcz11_1, hcz11_2, hfz11_0, hfz11_1, hfz11_2⟩ := BK618.c3
   go_wp2_with (first | ((with_reducible refine gate_callee (f := 33) rfl ?_); refine gL_ (some 10) Tryz.func33 #[.agg #[.bool a0_0, .string a0_1, .string a0_2]] ?_; (with_reducible refine (idiomref02_Check.calls k a0_0 a0_1 a0_2 t620 _ A6.out).mono ?_); rintro e w12 ⟨rfl, hb⟩; refine ⟨_, rfl, ?_⟩; replace BK618 := Aside0.mk (blk_below (g := gb618) (o := .cells #[.bool a0_0, .string a0_1, .string a0_2] 23 (0, 0)) (by (with_reducible repeat (first | refine blk_drewN ?_ _ | refine blk_drew ?_ | refine blk_alloc ?_ _)); exact BK618.out) hb); replace BK619 := Aside0.mk (blk_below (g := gb619) (o := .cells #[.bool false, .string (⟨#[]⟩ : ByteArray), .string (⟨#[]⟩ : ByteArray), .string (⟨#[]⟩ : ByteArray), .int .i64 0, .int .i64 0, .string (⟨#[]⟩ : ByteArray), .string (⟨#[]⟩ : ByteArray), .int .i64 0] 25 (0, 0)) (by (with_reducible repeat (first | refine blk_drewN ?_ _ | refine blk_drew ?_ | refine blk_alloc ?_ _)); exact BK619.out) hb); replace HB := Aside0.mk (below_step hb_ hb)) | ((with_reducible refine gate_callee (f := 34) rfl ?_); refine gL_ (some 17) Tryz.func34 #[.bool true, .int .i64 1] ?_; (with_reducible refine (idiomref02_If.calls true 1 t621 _ A8.out).mono ?_); rintro e w' ⟨rfl, ⟨nd, rfl⟩⟩; refine ⟨_, rfl, ?_⟩) | ((with_reducible refine gate_dst (N := 18) rfl ?_); refine Kd.R_lit (Kd.int .i64) _ 29 ?hg (N := 18) ?hd (xs := ([t620, t621] : List Int)) (inner := [.int .i64 t620, .int .i64 t621]) (ok := fun _ => True) (okp := fun _ => True) ?hr ?hp (fun _ hk => hk) trivial (Below.refl _ _) (Nat.le_refl _) (by simp) ?_; (case hd => rfl); (case hg => rfl); (case hr => first | (go_simp; done) | (go_simp; rfl)); (case hp => exact (Reps.one (show Kd.M (Kd.int .i64) _ _ _ t620 [.int .i64 t620] from rfl) (Reps.one (show Kd.M (Kd.int .i64) _ _ _ t621 [.int .i64 t621] from rfl) (Reps.none _ _)))); intro v623 w13 ho14 hb hg_ hnew_; clear hg_ hnew_; (first | rw [← Ny622.out] at ho14 | (simp only [Int.reduceToNat] at ho14; rw [← Ny622.out] at ho14)); have HO624 := Aside0.mk (Kd.R_lower ho14 (below_size hb_)); replace BK618 := Aside0.mk (blk_below (g := gb618) (o := .cells #[.bool a0_0, .string a0_1, .string a0_2] 23 (0, 0)) (by (with_reducible repeat (first | refine blk_drewN ?_ _ | refine blk_drew ?_ | refine blk_alloc ?_ _)); exact BK618.out) hb); replace BK619 := Aside0.mk (blk_below (g := gb619) (o := .cells #[.bool false, .string (⟨#[]⟩ : ByteArray), .string (⟨#[]⟩ : ByteArray), .string (⟨#[]⟩ : ByteArray), .int .i64 0, .int .i64 0, .string (⟨#[]⟩ : ByteArray), .string (⟨#[]⟩ : ByteArray), .int .i64 0] 25 (0, 0)) (by (with_reducible repeat (first | refine blk_drewN ?_ _ | refine blk_drew ?_ | refine blk_alloc ?_ _)); exact BK619.out) hb); replace HB := Aside0.mk (below_step hb_ hb); clear hb ho14; obtain ⟨Ao15, co15, eo15⟩ := Kd.R_slice HO624.out; subst eo15) | ((with_reducible refine gate_callee (f := 32) rfl ?_); refine gL_ (some 19) Tryz.func32 #[.slice Ao15 y622.length co15] ?_; (with_reducible refine (idiomref02_First.calls k _ _ y622 t625 _ ?side1 ?side2 A9.out).mono ?_); (case side1 => repeat (first | exact (Kd.R_reads' HO624.out).2.2 | (with_reducible refine Kd.C_alloc ?_ _) | (with_reducible refine Kd.C_drewN ?_ _) | (with_reducible refine Kd.C_drew ?_))); (case side2 => exact (Kd.R_reads' HO624.out).2.1); rintro e w' ⟨rfl, ⟨nd, rfl⟩⟩; refine ⟨_, rfl, ?_⟩))
   go_meet
   case rel => exact ⟨_, (t625), (by first | rfl | (simp; done) | (simp [*]; done)), H', ⟨by first | omega | exact Nat.le_refl _⟩, ⟨by (with_reducible repeat (first | refine blk_drewN ?_ _ | refine blk_drew ?_ | refine blk_alloc ?_ _)); exact BK618.out⟩, ⟨by (with_reducible repeat (first | refine blk_drewN ?_ _ | refine blk_drew ?_ | refine blk_alloc ?_ _)); exact BK619.out⟩, ⟨hb_⟩⟩
  ·rw [if_neg c7] at H
   have c7b0 : decide (a1 < 0) = false := decide_eq_false c7
   clear c7
   (first | rw [c7b0] | (simp only [i64_w, i32_w]; rw [c7b0]) | skip)
   replace H := Option.bind_eq_some_iff.mp H
   obtain ⟨t626, A160, H⟩ := H
   try dsimp only at H
   have A16 := Aside0.mk A160
   clear A160
   obtain ⟨y627, hy627⟩ : ∃ y_ : List Int, y_ = (([t620, t626] : List Int)) := ⟨_, rfl⟩
   rw [← hy627] at H
   have Ny627 := Aside0.mk hy627
   clear hy627
   replace H := Option.bind_eq_some_iff.mp H
   obtain ⟨t630, A170, H⟩ := H
   try dsimp only at H
   have A17 := Aside0.mk A170
   clear A170
   have H' := Aside0.mk H
   clear H
   have hnb18 := NB618_619.out
   have hnc18 := NB619_618.out
   obtain ⟨hcz19_0, hcz19_1, hcz19_2, hfz19_0, hfz19_1, hfz19_2⟩ := BK618.c3
   go_wp2_with (first | ((with_reducible refine gate_callee (f := 33) rfl ?_); refine gL_ (some 10) Tryz.func33 #[.agg #[.bool a0_0, .string a0_1, .string a0_2]] ?_; (with_reducible refine (idiomref02_Check.calls k a0_0 a0_1 a0_2 t620 _ A6.out).mono ?_); rintro e w20 ⟨rfl, hb⟩; refine ⟨_, rfl, ?_⟩; replace BK618 := Aside0.mk (blk_below (g := gb618) (o := .cells #[.bool a0_0, .string a0_1, .string a0_2] 23 (0, 0)) (by (with_reducible repeat (first | refine blk_drewN ?_ _ | refine blk_drew ?_ | refine blk_alloc ?_ _)); exact BK618.out) hb); replace BK619 := Aside0.mk (blk_below (g := gb619) (o := .cells #[.bool false, .string (⟨#[]⟩ : ByteArray), .string (⟨#[]⟩ : ByteArray), .string (⟨#[]⟩ : ByteArray), .int .i64 0, .int .i64 0, .string (⟨#[]⟩ : ByteArray), .string (⟨#[]⟩ : ByteArray), .int .i64 0] 25 (0, 0)) (by (with_reducible repeat (first | refine blk_drewN ?_ _ | refine blk_drew ?_ | refine blk_alloc ?_ _)); exact BK619.out) hb); replace HB := Aside0.mk (below_step hb_ hb)) | ((with_reducible refine gate_callee (f := 34) rfl ?_); refine gL_ (some 17) Tryz.func34 #[.bool (decide (a1 > 40)), .int .i64 1] ?_; (with_reducible refine (idiomref02_If.calls (decide (a1 > 40)) 1 t626 _ A16.out).mono ?_); rintro e w' ⟨rfl, ⟨nd, rfl⟩⟩; refine ⟨_, rfl, ?_⟩) | ((with_reducible refine gate_dst (N := 18) rfl ?_); refine Kd.R_lit (Kd.int .i64) _ 29 ?hg (N := 18) ?hd (xs := ([t620, t626] : List Int)) (inner := [.int .i64 t620, .int .i64 t626]) (ok := fun _ => True) (okp := fun _ => True) ?hr ?hp (fun _ hk => hk) trivial (Below.refl _ _) (Nat.le_refl _) (by simp) ?_; (case hd => rfl); (case hg => rfl); (case hr => first | (go_simp; done) | (go_simp; rfl)); (case hp => exact (Reps.one (show Kd.M (Kd.int .i64) _ _ _ t620 [.int .i64 t620] from rfl) (Reps.one (show Kd.M (Kd.int .i64) _ _ _ t626 [.int .i64 t626] from rfl) (Reps.none _ _)))); intro v628 w21 ho22 hb hg_ hnew_; clear hg_ hnew_; (first | rw [← Ny627.out] at ho22 | (simp only [Int.reduceToNat] at ho22; rw [← Ny627.out] at ho22)); have HO629 := Aside0.mk (Kd.R_lower ho22 (below_size hb_)); replace BK618 := Aside0.mk (blk_below (g := gb618) (o := .cells #[.bool a0_0, .string a0_1, .string a0_2] 23 (0, 0)) (by (with_reducible repeat (first | refine blk_drewN ?_ _ | refine blk_drew ?_ | refine blk_alloc ?_ _)); exact BK618.out) hb); replace BK619 := Aside0.mk (blk_below (g := gb619) (o := .cells #[.bool false, .string (⟨#[]⟩ : ByteArray), .string (⟨#[]⟩ : ByteArray), .string (⟨#[]⟩ : ByteArray), .int .i64 0, .int .i64 0, .string (⟨#[]⟩ : ByteArray), .string (⟨#[]⟩ : ByteArray), .int .i64 0] 25 (0, 0)) (by (with_reducible repeat (first | refine blk_drewN ?_ _ | refine blk_drew ?_ | refine blk_alloc ?_ _)); exact BK619.out) hb); replace HB := Aside0.mk (below_step hb_ hb); clear hb ho22; obtain ⟨Ao23, co23, eo23⟩ := Kd.R_slice HO629.out; subst eo23) | ((with_reducible refine gate_callee (f := 32) rfl ?_); refine gL_ (some 19) Tryz.func32 #[.slice Ao23 y627.length co23] ?_; (with_reducible refine (idiomref02_First.calls k _ _ y627 t630 _ ?side1 ?side2 A17.out).mono ?_); (case side1 => repeat (first | exact (Kd.R_reads' HO629.out).2.2 | (with_reducible refine Kd.C_alloc ?_ _) | (with_reducible refine Kd.C_drewN ?_ _) | (with_reducible refine Kd.C_drew ?_))); (case side2 => exact (Kd.R_reads' HO629.out).2.1); rintro e w' ⟨rfl, ⟨nd, rfl⟩⟩; refine ⟨_, rfl, ?_⟩))
   go_meet
   case rel => exact ⟨_, (t630), (by first | rfl | (simp; done) | (simp [*]; done)), H', ⟨by first | omega | exact Nat.le_refl _⟩, ⟨by (with_reducible repeat (first | refine blk_drewN ?_ _ | refine blk_drew ?_ | refine blk_alloc ?_ _)); exact BK618.out⟩, ⟨by (with_reducible repeat (first | refine blk_drewN ?_ _ | refine blk_drew ?_ | refine blk_alloc ?_ _)); exact BK619.out⟩, ⟨hb_⟩⟩
 case rest =>
  clear HC3
  obtain ⟨kq, x6_2, rfl, HA, HJ2, BK618, BK619, HB⟩ := hcut
  cases kq with
  | zero => exact absurd HA.out (by simp [idiomref04_Of.j0])
  | succ kj2 =>
   have H := HA.out
   clear HA
   simp only [idiomref04_Of.j0] at H
   by_cases c24 : x6_2 = 0
   ·rw [if_pos c24] at H
    have c24b0 : (x6_2 == 0) = true := beq_iff_eq.mpr c24
    have c24b1 : (x6_2 != 0) = false := bne_eq_false_iff_eq.mpr c24
    clear c24
    replace H := Option.bind_eq_some_iff.mp H
    obtain ⟨⟨t631, t632, t633, t634⟩, A250, H⟩ := H
    try dsimp only at H
    have A25 := Aside0.mk A250
    clear A250
    have HF26 := Aside0.mk H
    clear H
    have hnb27 := NB618_619.out
    have hnc27 := NB619_618.out
    obtain ⟨hcz28_0, hcz28_1, hcz28_2, hfz28_0, hfz28_1, hfz28_2⟩ := BK618.c3
    go_upto_if 31 with (first | ((with_reducible refine gate_callee (f := 35) rfl ?_); refine gL_ (some 27) Tryz.func35 #[.agg #[.bool a0_0, .string a0_1, .string a0_2], .int .i64 a1] ?_; (with_reducible refine (idiomref02_Shift.calls kj2 a0_0 a0_1 a0_2 a1 t631 t632 t633 t634 _ A25.out).mono ?_); rintro e w29 ⟨rfl, hb⟩; refine ⟨_, rfl, ?_⟩; replace BK618 := Aside0.mk (blk_below (g := gb618) (o := .cells #[.bool a0_0, .string a0_1, .string a0_2] 23 (0, 0)) (by (with_reducible repeat (first | refine blk_drewN ?_ _ | refine blk_drew ?_ | refine blk_alloc ?_ _)); exact BK618.out) hb); replace BK619 := Aside0.mk (blk_below (g := gb619) (o := .cells #[.bool false, .string (⟨#[]⟩ : ByteArray), .string (⟨#[]⟩ : ByteArray), .string (⟨#[]⟩ : ByteArray), .int .i64 0, .int .i64 0, .string (⟨#[]⟩ : ByteArray), .string (⟨#[]⟩ : ByteArray), .int .i64 0] 25 (0, 0)) (by (with_reducible repeat (first | refine blk_drewN ?_ _ | refine blk_drew ?_ | refine blk_alloc ?_ _)); exact BK619.out) hb); replace HB := Aside0.mk (below_step hb_ hb)) | ((with_reducible refine gate_dst (N := 7) rfl ?_); refine bx_ #[.bool false, .string (⟨#[]⟩ : ByteArray), .string (⟨#[]⟩ : ByteArray)] 23 ?_; intro gb635 hg w30 hbox hb; have BK635 := Aside0.mk (hbox); have GW635 := ge_ (w := w) hg; have GE635 := ge_ (w := w) hg; have NB618_635 := Aside0.mk ((by rw [hg]; exact Nat.ne_of_lt (blk_lt (g := gb618) (o := .cells #[.bool a0_0, .string a0_1, .string a0_2] 23 (0, 0)) (by (with_reducible repeat (first | refine blk_drewN ?_ _ | refine blk_drew ?_ | refine blk_alloc ?_ _)); exact BK618.out)) : gb618 ≠ gb635)); have NB635_618 := Aside0.mk ((by rw [hg]; exact Nat.ne_of_gt (blk_lt (g := gb618) (o := .cells #[.bool a0_0, .string a0_1, .string a0_2] 23 (0, 0)) (by (with_reducible repeat (first | refine blk_drewN ?_ _ | refine blk_drew ?_ | refine blk_alloc ?_ _)); exact BK618.out)) : gb635 ≠ gb618)); have NB619_635 := Aside0.mk ((by rw [hg]; exact Nat.ne_of_lt (blk_lt (g := gb619) (o := .cells #[.bool false, .string (⟨#[]⟩ : ByteArray), .string (⟨#[]⟩ : ByteArray), .string (⟨#[]⟩ : ByteArray), .int .i64 0, .int .i64 0, .string (⟨#[]⟩ : ByteArray), .string (⟨#[]⟩ : ByteArray), .int .i64 0] 25 (0, 0)) (by (with_reducible repeat (first | refine blk_drewN ?_ _ | refine blk_drew ?_ | refine blk_alloc ?_ _)); exact BK619.out)) : gb619 ≠ gb635)); have NB635_619 := Aside0.mk ((by rw [hg]; exact Nat.ne_of_gt (blk_lt (g := gb619) (o := .cells #[.bool false, .string (⟨#[]⟩ : ByteArray), .string (⟨#[]⟩ : ByteArray), .string (⟨#[]⟩ : ByteArray), .int .i64 0, .int .i64 0, .string (⟨#[]⟩ : ByteArray), .string (⟨#[]⟩ : ByteArray), .int .i64 0] 25 (0, 0)) (by (with_reducible repeat (first | refine blk_drewN ?_ _ | refine blk_drew ?_ | refine blk_alloc ?_ _)); exact BK619.out)) : gb635 ≠ gb619)); replace BK618 := Aside0.mk (blk_below (g := gb618) (o := .cells #[.bool a0_0, .string a0_1, .string a0_2] 23 (0, 0)) (by (with_reducible repeat (first | refine blk_drewN ?_ _ | refine blk_drew ?_ | refine blk_alloc ?_ _)); exact BK618.out) hb); replace BK619 := Aside0.mk (blk_below (g := gb619) (o := .cells #[.bool false, .string (⟨#[]⟩ : ByteArray), .string (⟨#[]⟩ : ByteArray), .string (⟨#[]⟩ : ByteArray), .int .i64 0, .int .i64 0, .string (⟨#[]⟩ : ByteArray), .string (⟨#[]⟩ : ByteArray), .int .i64 0] 25 (0, 0)) (by (with_reducible repeat (first | refine blk_drewN ?_ _ | refine blk_drew ?_ | refine blk_alloc ?_ _)); exact BK619.out) hb); replace HB := Aside0.mk (below_step hb_ hb); clear hb hbox hg; have hnb31 := NB635_618.out; have hnc31 := NB618_635.out; have hnb32 := NB635_619.out; have hnc32 := NB619_635.out; obtain ⟨hcz33_0, hcz33_1, hcz33_2, hfz33_0, hfz33_1, hfz33_2⟩ := BK635.c3))
    (try simp only [Act.put, List.setIfInBounds_toArray, List.set_cons_zero, List.set_cons_succ])
    have H := HF26.out
    clear HF26
    by_cases c34 : t634 = 0
    ·rw [if_pos c34] at H
     have c34b0 : (t634 == 0) = true := beq_iff_eq.mpr c34
     have c34b1 : (t634 != 0) = false := bne_eq_false_iff_eq.mpr c34
     clear c34
     (first | rw [c34b0] | (simp only [i64_w, i32_w]; rw [c34b0]) | rw [c34b1] | skip)
     replace H := Option.bind_eq_some_iff.mp H
     obtain ⟨⟨t636, t637, t638, t639, t640, t641, t642, t643, t644⟩, A350, H⟩ := H
     try dsimp only at H
     have A35 := Aside0.mk A350
     clear A350
     simp only [Option.some.injEq, Prod.mk.injEq] at H
     obtain ⟨rfl, rfl, rfl, rfl, rfl, rfl, rfl, rfl, rfl, rfl⟩ := H
     have hnb36 := NB635_618.out
     have hnc36 := NB618_635.out
     have hnb37 := NB635_619.out
     have hnc37 := NB619_635.out
     obtain ⟨hcz38_0, hcz38_1, hcz38_2, hfz38_0, hfz38_1, hfz38_2⟩ := BK635.c3
     go_wp2_with (first | ((with_reducible refine gate_callee (f := 36) rfl ?_); refine gL_ (some 37) Tryz.func36 #[.agg #[.bool false, .string t632, .string t633], .int .i64 a1] ?_; (with_reducible refine (idiomref04_shown.calls kj2 false t632 t633 a1 t636 t637 t638 t639 t640 t641 t642 t643 t644 _ A35.out).mono ?_); rintro e w39 ⟨rfl, hb⟩; refine ⟨_, rfl, ?_⟩; replace BK618 := Aside0.mk (blk_below (g := gb618) (o := .cells #[.bool a0_0, .string a0_1, .string a0_2] 23 (0, 0)) (by (with_reducible repeat (first | refine blk_drewN ?_ _ | refine blk_drew ?_ | refine blk_alloc ?_ _)); refine blk_far ?_ NB618_635.out _; (with_reducible repeat (first | refine blk_drewN ?_ _ | refine blk_drew ?_ | refine blk_alloc ?_ _)); refine blk_far ?_ NB618_635.out _; (with_reducible repeat (first | refine blk_drewN ?_ _ | refine blk_drew ?_ | refine blk_alloc ?_ _)); refine blk_far ?_ NB618_635.out _; (with_reducible repeat (first | refine blk_drewN ?_ _ | refine blk_drew ?_ | refine blk_alloc ?_ _)); refine blk_far ?_ NB618_635.out _; (with_reducible repeat (first | refine blk_drewN ?_ _ | refine blk_drew ?_ | refine blk_alloc ?_ _)); exact BK618.out) hb); replace BK619 := Aside0.mk (blk_below (g := gb619) (o := .cells #[.bool false, .string (⟨#[]⟩ : ByteArray), .string (⟨#[]⟩ : ByteArray), .string (⟨#[]⟩ : ByteArray), .int .i64 0, .int .i64 0, .string (⟨#[]⟩ : ByteArray), .string (⟨#[]⟩ : ByteArray), .int .i64 0] 25 (0, 0)) (by (with_reducible repeat (first | refine blk_drewN ?_ _ | refine blk_drew ?_ | refine blk_alloc ?_ _)); refine blk_far ?_ NB619_635.out _; (with_reducible repeat (first | refine blk_drewN ?_ _ | refine blk_drew ?_ | refine blk_alloc ?_ _)); refine blk_far ?_ NB619_635.out _; (with_reducible repeat (first | refine blk_drewN ?_ _ | refine blk_drew ?_ | refine blk_alloc ?_ _)); refine blk_far ?_ NB619_635.out _; (with_reducible repeat (first | refine blk_drewN ?_ _ | refine blk_drew ?_ | refine blk_alloc ?_ _)); refine blk_far ?_ NB619_635.out _; (with_reducible repeat (first | refine blk_drewN ?_ _ | refine blk_drew ?_ | refine blk_alloc ?_ _)); exact BK619.out) hb); replace BK635 := Aside0.mk (blk_below (g := gb635) (o := .cells #[.bool false, .string t632, .string t633] 23 (0, 0)) (by (with_reducible repeat (first | refine blk_drewN ?_ _ | refine blk_drew ?_ | refine blk_alloc ?_ _)); refine blk_put (cs := #[.bool t631, .string t632, .string t633]) ?_ 0 _ rfl; (with_reducible repeat (first | refine blk_drewN ?_ _ | refine blk_drew ?_ | refine blk_alloc ?_ _)); refine blk_put (cs := #[.bool t631, .string t632, .string (⟨#[]⟩ : ByteArray)]) ?_ 2 _ rfl; (with_reducible repeat (first | refine blk_drewN ?_ _ | refine blk_drew ?_ | refine blk_alloc ?_ _)); refine blk_put (cs := #[.bool t631, .string (⟨#[]⟩ : ByteArray), .string (⟨#[]⟩ : ByteArray)]) ?_ 1 _ rfl; (with_reducible repeat (first | refine blk_drewN ?_ _ | refine blk_drew ?_ | refine blk_alloc ?_ _)); refine blk_put (cs := #[.bool false, .string (⟨#[]⟩ : ByteArray), .string (⟨#[]⟩ : ByteArray)]) ?_ 0 _ rfl; (with_reducible repeat (first | refine blk_drewN ?_ _ | refine blk_drew ?_ | refine blk_alloc ?_ _)); exact BK635.out) hb); replace HB := Aside0.mk (below_step hb_ hb); have hnb40 := NB619_618.out; have hnc40 := NB618_619.out; obtain ⟨hcz41_0, hcz41_1, hcz41_2, hcz41_3, hcz41_4, hcz41_5, hcz41_6, hcz41_7, hcz41_8, hfz41_0, hfz41_1, hfz41_2, hfz41_3, hfz41_4, hfz41_5, hfz41_6, hfz41_7, hfz41_8⟩ := BK619.c9))
     refine bodyPost_ret (results_ct rfl _ _ gb619 25 #[.bool t636, .string t637, .string t638, .string t639, .int .i64 t640, .int .i64 t641, .string t642, .string t643, .int .i64 t644] (0, 0) _ rfl (by (with_reducible repeat (first | refine blk_drewN ?_ _ | refine blk_drew ?_ | refine blk_alloc ?_ _)); refine blk_put (cs := #[.bool t636, .string t637, .string t638, .string t639, .int .i64 t640, .int .i64 t641, .string t642, .string t643, .int .i64 0]) ?_ 8 _ rfl; (with_reducible repeat (first | refine blk_drewN ?_ _ | refine blk_drew ?_ | refine blk_alloc ?_ _)); refine blk_put (cs := #[.bool t636, .string t637, .string t638, .string t639, .int .i64 t640, .int .i64 t641, .string t642, .string (⟨#[]⟩ : ByteArray), .int .i64 0]) ?_ 7 _ rfl; (with_reducible repeat (first | refine blk_drewN ?_ _ | refine blk_drew ?_ | refine blk_alloc ?_ _)); refine blk_put (cs := #[.bool t636, .string t637, .string t638, .string t639, .int .i64 t640, .int .i64 t641, .string (⟨#[]⟩ : ByteArray), .string (⟨#[]⟩ : ByteArray), .int .i64 0]) ?_ 6 _ rfl; (with_reducible repeat (first | refine blk_drewN ?_ _ | refine blk_drew ?_ | refine blk_alloc ?_ _)); refine blk_put (cs := #[.bool t636, .string t637, .string t638, .string t639, .int .i64 t640, .int .i64 0, .string (⟨#[]⟩ : ByteArray), .string (⟨#[]⟩ : ByteArray), .int .i64 0]) ?_ 5 _ rfl; (with_reducible repeat (first | refine blk_drewN ?_ _ | refine blk_drew ?_ | refine blk_alloc ?_ _)); refine blk_put (cs := #[.bool t636, .string t637, .string t638, .string t639, .int .i64 0, .int .i64 0, .string (⟨#[]⟩ : ByteArray), .string (⟨#[]⟩ : ByteArray), .int .i64 0]) ?_ 4 _ rfl; (with_reducible repeat (first | refine blk_drewN ?_ _ | refine blk_drew ?_ | refine blk_alloc ?_ _)); refine blk_put (cs := #[.bool t636, .string t637, .string t638, .string (⟨#[]⟩ : ByteArray), .int .i64 0, .int .i64 0, .string (⟨#[]⟩ : ByteArray), .string (⟨#[]⟩ : ByteArray), .int .i64 0]) ?_ 3 _ rfl; (with_reducible repeat (first | refine blk_drewN ?_ _ | refine blk_drew ?_ | refine blk_alloc ?_ _)); refine blk_put (cs := #[.bool t636, .string t637, .string (⟨#[]⟩ : ByteArray), .string (⟨#[]⟩ : ByteArray), .int .i64 0, .int .i64 0, .string (⟨#[]⟩ : ByteArray), .string (⟨#[]⟩ : ByteArray), .int .i64 0]) ?_ 2 _ rfl; (with_reducible repeat (first | refine blk_drewN ?_ _ | refine blk_drew ?_ | refine blk_alloc ?_ _)); refine blk_put (cs := #[.bool t636, .string (⟨#[]⟩ : ByteArray), .string (⟨#[]⟩ : ByteArray), .string (⟨#[]⟩ : ByteArray), .int .i64 0, .int .i64 0, .string (⟨#[]⟩ : ByteArray), .string (⟨#[]⟩ : ByteArray), .int .i64 0]) ?_ 1 _ rfl; (with_reducible repeat (first | refine blk_drewN ?_ _ | refine blk_drew ?_ | refine blk_alloc ?_ _)); refine blk_put (cs := #[.bool false, .string (⟨#[]⟩ : ByteArray), .string (⟨#[]⟩ : ByteArray), .string (⟨#[]⟩ : ByteArray), .int .i64 0, .int .i64 0, .string (⟨#[]⟩ : ByteArray), .string (⟨#[]⟩ : ByteArray), .int .i64 0]) ?_ 0 _ rfl; (with_reducible repeat (first | refine blk_drewN ?_ _ | refine blk_drew ?_ | refine blk_alloc ?_ _)); exact BK619.out) Tryz.underlying25 rfl (by kernel_rfl)) rfl ?_
     exact fin_
    ·rw [if_neg c34] at H
     have c34b0 : (t634 == 0) = false := beq_eq_false_iff_ne.mpr c34
     have c34b1 : (t634 != 0) = true := bne_iff_ne.mpr c34
     (first | rw [c34b0] | (simp only [i64_w, i32_w]; rw [c34b0]) | rw [c34b1] | skip)
     simp only [Option.some.injEq, Prod.mk.injEq] at H
     obtain ⟨rfl, rfl, rfl, rfl, rfl, rfl, rfl, rfl, rfl, rfl⟩ := H
     have hnb42 := NB619_618.out
     have hnc42 := NB618_619.out
     have hnb43 := NB619_635.out
     have hnc43 := NB635_619.out
     obtain ⟨hcz44_0, hcz44_1, hcz44_2, hcz44_3, hcz44_4, hcz44_5, hcz44_6, hcz44_7, hcz44_8, hfz44_0, hfz44_1, hfz44_2, hfz44_3, hfz44_4, hfz44_5, hfz44_6, hfz44_7, hfz44_8⟩ := BK619.c9
     go_wp2
     refine bodyPost_ret (results_ct rfl _ _ gb619 25 #[.bool false, .string (⟨#[]⟩ : ByteArray), .string (⟨#[]⟩ : ByteArray), .string (⟨#[]⟩ : ByteArray), .int .i64 0, .int .i64 0, .string (⟨#[]⟩ : ByteArray), .string (⟨#[]⟩ : ByteArray), .int .i64 0] (0, 0) _ rfl (by (with_reducible repeat (first | refine blk_drewN ?_ _ | refine blk_drew ?_ | refine blk_alloc ?_ _)); refine blk_put (cs := #[.bool false, .string (⟨#[]⟩ : ByteArray), .string (⟨#[]⟩ : ByteArray), .string (⟨#[]⟩ : ByteArray), .int .i64 0, .int .i64 0, .string (⟨#[]⟩ : ByteArray), .string (⟨#[]⟩ : ByteArray), .int .i64 0]) ?_ 8 _ rfl; (with_reducible repeat (first | refine blk_drewN ?_ _ | refine blk_drew ?_ | refine blk_alloc ?_ _)); refine blk_put (cs := #[.bool false, .string (⟨#[]⟩ : ByteArray), .string (⟨#[]⟩ : ByteArray), .string (⟨#[]⟩ : ByteArray), .int .i64 0, .int .i64 0, .string (⟨#[]⟩ : ByteArray), .string (⟨#[]⟩ : ByteArray), .int .i64 0]) ?_ 7 _ rfl; (with_reducible repeat (first | refine blk_drewN ?_ _ | refine blk_drew ?_ | refine blk_alloc ?_ _)); refine blk_put (cs := #[.bool false, .string (⟨#[]⟩ : ByteArray), .string (⟨#[]⟩ : ByteArray), .string (⟨#[]⟩ : ByteArray), .int .i64 0, .int .i64 0, .string (⟨#[]⟩ : ByteArray), .string (⟨#[]⟩ : ByteArray), .int .i64 0]) ?_ 6 _ rfl; (with_reducible repeat (first | refine blk_drewN ?_ _ | refine blk_drew ?_ | refine blk_alloc ?_ _)); refine blk_put (cs := #[.bool false, .string (⟨#[]⟩ : ByteArray), .string (⟨#[]⟩ : ByteArray), .string (⟨#[]⟩ : ByteArray), .int .i64 0, .int .i64 0, .string (⟨#[]⟩ : ByteArray), .string (⟨#[]⟩ : ByteArray), .int .i64 0]) ?_ 5 _ rfl; (with_reducible repeat (first | refine blk_drewN ?_ _ | refine blk_drew ?_ | refine blk_alloc ?_ _)); refine blk_put (cs := #[.bool false, .string (⟨#[]⟩ : ByteArray), .string (⟨#[]⟩ : ByteArray), .string (⟨#[]⟩ : ByteArray), .int .i64 0, .int .i64 0, .string (⟨#[]⟩ : ByteArray), .string (⟨#[]⟩ : ByteArray), .int .i64 0]) ?_ 4 _ rfl; (with_reducible repeat (first | refine blk_drewN ?_ _ | refine blk_drew ?_ | refine blk_alloc ?_ _)); refine blk_put (cs := #[.bool false, .string (⟨#[]⟩ : ByteArray), .string (⟨#[]⟩ : ByteArray), .string (⟨#[]⟩ : ByteArray), .int .i64 0, .int .i64 0, .string (⟨#[]⟩ : ByteArray), .string (⟨#[]⟩ : ByteArray), .int .i64 0]) ?_ 3 _ rfl; (with_reducible repeat (first | refine blk_drewN ?_ _ | refine blk_drew ?_ | refine blk_alloc ?_ _)); refine blk_put (cs := #[.bool false, .string (⟨#[]⟩ : ByteArray), .string (⟨#[]⟩ : ByteArray), .string (⟨#[]⟩ : ByteArray), .int .i64 0, .int .i64 0, .string (⟨#[]⟩ : ByteArray), .string (⟨#[]⟩ : ByteArray), .int .i64 0]) ?_ 2 _ rfl; (with_reducible repeat (first | refine blk_drewN ?_ _ | refine blk_drew ?_ | refine blk_alloc ?_ _)); refine blk_put (cs := #[.bool false, .string (⟨#[]⟩ : ByteArray), .string (⟨#[]⟩ : ByteArray), .string (⟨#[]⟩ : ByteArray), .int .i64 0, .int .i64 0, .string (⟨#[]⟩ : ByteArray), .string (⟨#[]⟩ : ByteArray), .int .i64 0]) ?_ 1 _ rfl; (with_reducible repeat (first | refine blk_drewN ?_ _ | refine blk_drew ?_ | refine blk_alloc ?_ _)); refine blk_put (cs := #[.bool false, .string (⟨#[]⟩ : ByteArray), .string (⟨#[]⟩ : ByteArray), .string (⟨#[]⟩ : ByteArray), .int .i64 0, .int .i64 0, .string (⟨#[]⟩ : ByteArray), .string (⟨#[]⟩ : ByteArray), .int .i64 0]) ?_ 0 _ rfl; (with_reducible repeat (first | refine blk_drewN ?_ _ | refine blk_drew ?_ | refine blk_alloc ?_ _)); refine blk_far ?_ NB619_635.out _; (with_reducible repeat (first | refine blk_drewN ?_ _ | refine blk_drew ?_ | refine blk_alloc ?_ _)); refine blk_far ?_ NB619_635.out _; (with_reducible repeat (first | refine blk_drewN ?_ _ | refine blk_drew ?_ | refine blk_alloc ?_ _)); refine blk_far ?_ NB619_635.out _; (with_reducible repeat (first | refine blk_drewN ?_ _ | refine blk_drew ?_ | refine blk_alloc ?_ _)); exact BK619.out) Tryz.underlying25 rfl (by kernel_rfl)) rfl ?_
     exact fin_
   ·rw [if_neg c24] at H
    have c24b0 : (x6_2 == 0) = false := beq_eq_false_iff_ne.mpr c24
    have c24b1 : (x6_2 != 0) = true := bne_iff_ne.mpr c24
    simp only [Option.some.injEq, Prod.mk.injEq] at H
    obtain ⟨rfl, rfl, rfl, rfl, rfl, rfl, rfl, rfl, rfl, rfl⟩ := H
    have hnb45 := NB619_618.out
    have hnc45 := NB618_619.out
    obtain ⟨hcz46_0, hcz46_1, hcz46_2, hcz46_3, hcz46_4, hcz46_5, hcz46_6, hcz46_7, hcz46_8, hfz46_0, hfz46_1, hfz46_2, hfz46_3, hfz46_4, hfz46_5, hfz46_6, hfz46_7, hfz46_8⟩ := BK619.c9
    go_wp2
    refine bodyPost_ret (results_ct rfl _ _ gb619 25 #[.bool false, .string (⟨#[]⟩ : ByteArray), .string (⟨#[]⟩ : ByteArray), .string (⟨#[]⟩ : ByteArray), .int .i64 0, .int .i64 0, .string (⟨#[]⟩ : ByteArray), .string (⟨#[]⟩ : ByteArray), .int .i64 0] (0, 0) _ rfl (by (with_reducible repeat (first | refine blk_drewN ?_ _ | refine blk_drew ?_ | refine blk_alloc ?_ _)); refine blk_put (cs := #[.bool false, .string (⟨#[]⟩ : ByteArray), .string (⟨#[]⟩ : ByteArray), .string (⟨#[]⟩ : ByteArray), .int .i64 0, .int .i64 0, .string (⟨#[]⟩ : ByteArray), .string (⟨#[]⟩ : ByteArray), .int .i64 0]) ?_ 8 _ rfl; (with_reducible repeat (first | refine blk_drewN ?_ _ | refine blk_drew ?_ | refine blk_alloc ?_ _)); refine blk_put (cs := #[.bool false, .string (⟨#[]⟩ : ByteArray), .string (⟨#[]⟩ : ByteArray), .string (⟨#[]⟩ : ByteArray), .int .i64 0, .int .i64 0, .string (⟨#[]⟩ : ByteArray), .string (⟨#[]⟩ : ByteArray), .int .i64 0]) ?_ 7 _ rfl; (with_reducible repeat (first | refine blk_drewN ?_ _ | refine blk_drew ?_ | refine blk_alloc ?_ _)); refine blk_put (cs := #[.bool false, .string (⟨#[]⟩ : ByteArray), .string (⟨#[]⟩ : ByteArray), .string (⟨#[]⟩ : ByteArray), .int .i64 0, .int .i64 0, .string (⟨#[]⟩ : ByteArray), .string (⟨#[]⟩ : ByteArray), .int .i64 0]) ?_ 6 _ rfl; (with_reducible repeat (first | refine blk_drewN ?_ _ | refine blk_drew ?_ | refine blk_alloc ?_ _)); refine blk_put (cs := #[.bool false, .string (⟨#[]⟩ : ByteArray), .string (⟨#[]⟩ : ByteArray), .string (⟨#[]⟩ : ByteArray), .int .i64 0, .int .i64 0, .string (⟨#[]⟩ : ByteArray), .string (⟨#[]⟩ : ByteArray), .int .i64 0]) ?_ 5 _ rfl; (with_reducible repeat (first | refine blk_drewN ?_ _ | refine blk_drew ?_ | refine blk_alloc ?_ _)); refine blk_put (cs := #[.bool false, .string (⟨#[]⟩ : ByteArray), .string (⟨#[]⟩ : ByteArray), .string (⟨#[]⟩ : ByteArray), .int .i64 0, .int .i64 0, .string (⟨#[]⟩ : ByteArray), .string (⟨#[]⟩ : ByteArray), .int .i64 0]) ?_ 4 _ rfl; (with_reducible repeat (first | refine blk_drewN ?_ _ | refine blk_drew ?_ | refine blk_alloc ?_ _)); refine blk_put (cs := #[.bool false, .string (⟨#[]⟩ : ByteArray), .string (⟨#[]⟩ : ByteArray), .string (⟨#[]⟩ : ByteArray), .int .i64 0, .int .i64 0, .string (⟨#[]⟩ : ByteArray), .string (⟨#[]⟩ : ByteArray), .int .i64 0]) ?_ 3 _ rfl; (with_reducible repeat (first | refine blk_drewN ?_ _ | refine blk_drew ?_ | refine blk_alloc ?_ _)); refine blk_put (cs := #[.bool false, .string (⟨#[]⟩ : ByteArray), .string (⟨#[]⟩ : ByteArray), .string (⟨#[]⟩ : ByteArray), .int .i64 0, .int .i64 0, .string (⟨#[]⟩ : ByteArray), .string (⟨#[]⟩ : ByteArray), .int .i64 0]) ?_ 2 _ rfl; (with_reducible repeat (first | refine blk_drewN ?_ _ | refine blk_drew ?_ | refine blk_alloc ?_ _)); refine blk_put (cs := #[.bool false, .string (⟨#[]⟩ : ByteArray), .string (⟨#[]⟩ : ByteArray), .string (⟨#[]⟩ : ByteArray), .int .i64 0, .int .i64 0, .string (⟨#[]⟩ : ByteArray), .string (⟨#[]⟩ : ByteArray), .int .i64 0]) ?_ 1 _ rfl; (with_reducible repeat (first | refine blk_drewN ?_ _ | refine blk_drew ?_ | refine blk_alloc ?_ _)); refine blk_put (cs := #[.bool false, .string (⟨#[]⟩ : ByteArray), .string (⟨#[]⟩ : ByteArray), .string (⟨#[]⟩ : ByteArray), .int .i64 0, .int .i64 0, .string (⟨#[]⟩ : ByteArray), .string (⟨#[]⟩ : ByteArray), .int .i64 0]) ?_ 0 _ rfl; (with_reducible repeat (first | refine blk_drewN ?_ _ | refine blk_drew ?_ | refine blk_alloc ?_ _)); exact BK619.out) Tryz.underlying25 rfl (by kernel_rfl)) rfl ?_
    exact fin_
attribute [local go_sem] max2_int max_two
set_option linter.unusedVariables false
set_option linter.unusedSimpArgs false
attribute [local go_sem high] eqA25
def idiomref04_Check.j0 : Nat → Bool → Bool → ByteArray → ByteArray → ByteArray → Int → Int → ByteArray → ByteArray → Int → Option (Int)
  | 0, _, _, _, _, _, _, _, _, _, _ => none
  | k + 1, x42, x178000, x178001, x178002, x178003, x178004, x178005, x178006, x178007, x178008 => if x42 = true then (some 40) else ((idiomref02_Pad.f k x178000 x178001 x178002 x178004).bind fun bt179 => (if bt179.2.2.2 = 0 then ((idiomref04_shown.f k bt179.1 bt179.2.1 bt179.2.2.1 x178008).bind fun bt184 => (if ((!(bt184.1 == x178000) || (!(bt184.2.1.toList == x178001.toList) || (!(bt184.2.2.1.toList == x178002.toList)))) || (!(bt184.2.2.2.1.toList == x178003.toList) || (!(bt184.2.2.2.2.1 == x178004) || (!(bt184.2.2.2.2.2.1 == x178005) || (!(bt184.2.2.2.2.2.2.1.toList == x178006.toList) || (!(bt184.2.2.2.2.2.2.2.1.toList == x178007.toList) || (!(bt184.2.2.2.2.2.2.2.2 == x178008)))))))) = true then (some 40) else (some 0))) else (some 40)))
def idiomref04_Check.f (k : Nat) (a0_0 : Bool) (a0_1 : ByteArray) (a0_2 : ByteArray) (a0_3 : ByteArray) (a0_4 : Int) (a0_5 : Int) (a0_6 : ByteArray) (a0_7 : ByteArray) (a0_8 : Int) : Option (Int) := (idiomref02_Check.f k a0_0 a0_1 a0_2).bind fun t178 => (if t178 = 0 then (if a0_0 = true then (idiomref04_Check.j0 k true a0_0 a0_1 a0_2 a0_3 a0_4 a0_5 a0_6 a0_7 a0_8) else (if a0_8 < 0 then (idiomref04_Check.j0 k true a0_0 a0_1 a0_2 a0_3 a0_4 a0_5 a0_6 a0_7 a0_8) else (if a0_8 > 40 then (idiomref04_Check.j0 k true a0_0 a0_1 a0_2 a0_3 a0_4 a0_5 a0_6 a0_7 a0_8) else (if a0_4 < (a0_2.size : Int) then (idiomref04_Check.j0 k true a0_0 a0_1 a0_2 a0_3 a0_4 a0_5 a0_6 a0_7 a0_8) else (idiomref04_Check.j0 k (decide (a0_4 > (wrap64 (40 - (a0_1.size : Int))))) a0_0 a0_1 a0_2 a0_3 a0_4 a0_5 a0_6 a0_7 a0_8))))) else (idiomref04_Check.j0 k true a0_0 a0_1 a0_2 a0_3 a0_4 a0_5 a0_6 a0_7 a0_8))
def idiomref04_Check.T4 : Bool × List (List Nat × List Nat) := (true, [([], []), ([0], [0]), ([1], [1]), ([2], [2]), ([2], [2]), ([4, 2], [2, 4]), ([3, 5, 2, 2], [2, 3, 5]), ([2], [2]), ([6, 7, 2], [2, 6, 7]), ([2, 8], [2, 8])])
def idiomref04_Check.B4 : List Nat := [0, 1, 3, 7, 7, 23, 63, 7, 255, 511]
theorem idiomref04_Check.tab4 : rtab .any (opsOf Tryz.f17 4) = idiomref04_Check.T4 := by kernel_rfl
theorem idiomref04_Check.bits4 : waitsOk idiomref04_Check.T4.2 idiomref04_Check.B4 = true := by kernel_rfl
set_option maxHeartbeats 8000000 in
set_option maxRecDepth 100000 in
theorem idiomref04_Check.calls (k : Nat) (a0_0 : Bool) (a0_1 : ByteArray) (a0_2 : ByteArray) (a0_3 : ByteArray) (a0_4 : Int) (a0_5 : Int) (a0_6 : ByteArray) (a0_7 : ByteArray) (a0_8 : Int) (r : Int) (w : World) (h : idiomref04_Check.f k a0_0 a0_1 a0_2 a0_3 a0_4 a0_5 a0_6 a0_7 a0_8 = some r) :
    Calls Tryz.prog 17 #[.agg #[.bool a0_0, .string a0_1, .string a0_2, .string a0_3, .int .i64 a0_4, .int .i64 a0_5, .string a0_6, .string a0_7, .int .i64 a0_8]] w fun e w' => e = .returned (.int .i64 r) ∧ Below w.heap.size w w' := by
 have hu25 := Tryz.underlying25
 have hu23 := Tryz.underlying23
 have HB := Aside0.mk (Below.refl w.heap.size w)
 unfold idiomref04_Check.f at h
 have H := h
 clear h
 have HC2 := Aside0.mk H
 clear H
 go_enter Tryz.func17, Tryz.ntmps17
 go_upto_region 1 with (first | ((with_reducible refine gate_dst (N := 1) rfl ?_); (try (refine gate_guard (by rfl) ?_; dsimp only)); refine box_event ?hg (N := 1) ?hd (cs := #[.bool a0_0, .string a0_1, .string a0_2, .string a0_3, .int .i64 a0_4, .int .i64 a0_5, .string a0_6, .string a0_7, .int .i64 a0_8]) (t := 25) ?hr ?_; (case hd => rfl); (case hg => rfl); (case hr => first | (go_simp; done) | (go_simp; rfl)); intro gb177 hg w3 hbox hb; have BK177 := Aside0.mk (hbox); have GW177 := ge_ (w := w) hg; have GE177 := ge_ (w := w) hg; replace HB := Aside0.mk (below_step hb_ hb); clear hb hbox hg))
 (try simp only [Act.put, List.setIfInBounds_toArray, List.set_cons_zero, List.set_cons_succ])
 go_cut [42] (fun v42 wc => ∃ (kq : Nat) (x42_1 : Bool), v42 = .bool x42_1 ∧ Aside0 (idiomref04_Check.j0 kq x42_1 a0_0 a0_1 a0_2 a0_3 a0_4 a0_5 a0_6 a0_7 a0_8 = some r) ∧ Aside0 (kq ≤ k) ∧ Aside0 (wc.heap[gb177]? = some (.cells #[.bool a0_0, .string a0_1, .string a0_2, .string a0_3, .int .i64 a0_4, .int .i64 a0_5, .string a0_6, .string a0_7, .int .i64 a0_8] 25 (0, 0))) ∧ Aside0 (Below w.heap.size w wc))
 case first =>
  have H := HC2.out
  clear HC2
  replace H := Option.bind_eq_some_iff.mp H
  obtain ⟨t178, A40, H⟩ := H
  try dsimp only at H
  have A4 := Aside0.mk A40
  clear A40
  by_cases c5 : t178 = 0
  ·rw [if_pos c5] at H
   have c5b0 : (t178 == 0) = true := beq_iff_eq.mpr c5
   have c5b1 : (t178 != 0) = false := bne_eq_false_iff_eq.mpr c5
   clear c5
   (first | rw [c5b0] | (simp only [i64_w, i32_w]; rw [c5b0]) | rw [c5b1] | skip)
   by_cases c6 : a0_0 = true
   ·subst c6
    have H1 : (idiomref04_Check.j0 k true true a0_1 a0_2 a0_3 a0_4 a0_5 a0_6 a0_7 a0_8) = some r := by rw [if_pos rfl] at H; exact H
    clear H
    have H := H1
    clear H1
    have H' := Aside0.mk H
    clear H
    obtain ⟨hcz7_0, hcz7_1, hcz7_2, hcz7_3, hcz7_4, hcz7_5, hcz7_6, hcz7_7, hcz7_8, hfz7_0, hfz7_1, hfz7_2, hfz7_3, hfz7_4, hfz7_5, hfz7_6, hfz7_7, hfz7_8⟩ := BK177.c9
    go_wp2_with (first | ((with_reducible refine gate_callee (f := 33) rfl ?_); refine gL_ (some 7) Tryz.func33 #[.agg #[.bool true, .string a0_1, .string a0_2]] ?_; (with_reducible refine (idiomref02_Check.calls k true a0_1 a0_2 t178 _ A4.out).mono ?_); rintro e w8 ⟨rfl, hb⟩; refine ⟨_, rfl, ?_⟩; replace BK177 := BK177.bl hb; replace HB := Aside0.mk (below_step hb_ hb); obtain ⟨hcz9_0, hcz9_1, hcz9_2, hcz9_3, hcz9_4, hcz9_5, hcz9_6, hcz9_7, hcz9_8, hfz9_0, hfz9_1, hfz9_2, hfz9_3, hfz9_4, hfz9_5, hfz9_6, hfz9_7, hfz9_8⟩ := BK177.c9))
    go_meet
    case rel => exact ⟨_, (true), (by first | rfl | (simp; done) | (simp [*]; done)), H', ⟨by first | omega | exact Nat.le_refl _⟩, ⟨by exact BK177.out⟩, ⟨hb_⟩⟩
   ·replace c6 := Bool.eq_false_iff.mpr c6
    subst c6
    have H1 : (if a0_8 < 0 then (idiomref04_Check.j0 k true false a0_1 a0_2 a0_3 a0_4 a0_5 a0_6 a0_7 a0_8) else (if a0_8 > 40 then (idiomref04_Check.j0 k true false a0_1 a0_2 a0_3 a0_4 a0_5 a0_6 a0_7 a0_8) else (if a0_4 < (a0_2.size : Int) then (idiomref04_Check.j0 k true false a0_1 a0_2 a0_3 a0_4 a0_5 a0_6 a0_7 a0_8) else (idiomref04_Check.j0 k (decide (a0_4 > (wrap64 (40 - (a0_1.size : Int))))) false a0_1 a0_2 a0_3 a0_4 a0_5 a0_6 a0_7 a0_8)))) = some r := by rw [if_neg (show ¬ (false = true) by decide)] at H; exact H
    clear H
    have H := H1
    clear H1
    by_cases c10 : a0_8 < 0
    ·rw [if_pos c10] at H
     have c10b0 : decide (a0_8 < 0) = true := decide_eq_true c10
     clear c10
     have H' := Aside0.mk H
     clear H
     obtain ⟨hcz11_0, hcz11_1, hcz11_2, hcz11_3, hcz11_4, hcz11_5, hcz11_6, hcz11_7, hcz11_8, hfz11_0, hfz11_1, hfz11_2, hfz11_3, hfz11_4, hfz11_5, hfz11_6, hfz11_7, hfz11_8⟩ := BK177.c9
     go_wp2_with (first | ((with_reducible refine gate_callee (f := 33) rfl ?_); refine gL_ (some 7) Tryz.func33 #[.agg #[.bool false, .string a0_1, .string a0_2]] ?_; (with_reducible refine (idiomref02_Check.calls k false a0_1 a0_2 t178 _ A4.out).mono ?_); rintro e w12 ⟨rfl, hb⟩; refine ⟨_, rfl, ?_⟩; replace BK177 := BK177.bl hb; replace HB := Aside0.mk (below_step hb_ hb); obtain ⟨hcz13_0, hcz13_1, hcz13_2, hcz13_3, hcz13_4, hcz13_5, hcz13_6, hcz13_7, hcz13_8, hfz13_0, hfz13_1, hfz13_2, hfz13_3, hfz13_4, hfz13_5, hfz13_6, hfz13_7, hfz13_8⟩ := BK177.c9))
     go_meet
     case rel => exact ⟨_, (true), (by first | rfl | (simp; done) | (simp [*]; done)), H', ⟨by first | omega | exact Nat.le_refl _⟩, ⟨by exact BK177.out⟩, ⟨hb_⟩⟩
    ·rw [if_neg c10] at H
     have c10b0 : decide (a0_8 < 0) = false := decide_eq_false c10
     clear c10
     by_cases c14 : a0_8 > 40
     ·rw [if_pos c14] at H
      have c14b0 : decide (40 < a0_8) = true := decide_eq_true c14
      clear c14
      have H' := Aside0.mk H
      clear H
      obtain ⟨hcz15_0, hcz15_1, hcz15_2, hcz15_3, hcz15_4, hcz15_5, hcz15_6, hcz15_7, hcz15_8, hfz15_0, hfz15_1, hfz15_2, hfz15_3, hfz15_4, hfz15_5, hfz15_6, hfz15_7, hfz15_8⟩ := BK177.c9
      go_wp2_with (first | ((with_reducible refine gate_callee (f := 33) rfl ?_); refine gL_ (some 7) Tryz.func33 #[.agg #[.bool false, .string a0_1, .string a0_2]] ?_; (with_reducible refine (idiomref02_Check.calls k false a0_1 a0_2 t178 _ A4.out).mono ?_); rintro e w16 ⟨rfl, hb⟩; refine ⟨_, rfl, ?_⟩; replace BK177 := BK177.bl hb; replace HB := Aside0.mk (below_step hb_ hb); obtain ⟨hcz17_0, hcz17_1, hcz17_2, hcz17_3, hcz17_4, hcz17_5, hcz17_6, hcz17_7, hcz17_8, hfz17_0, hfz17_1, hfz17_2, hfz17_3, hfz17_4, hfz17_5, hfz17_6, hfz17_7, hfz17_8⟩ := BK177.c9))
      go_meet
      case rel => exact ⟨_, (true), (by first | rfl | (simp; done) | (simp [*]; done)), H', ⟨by first | omega | exact Nat.le_refl _⟩, ⟨by exact BK177.out⟩, ⟨hb_⟩⟩
     ·rw [if_neg c14] at H
      have c14b0 : decide (40 < a0_8) = false := decide_eq_false c14
      clear c14
      by_cases c18 : a0_4 < (a0_2.size : Int)
      ·rw [if_pos c18] at H
       have c18b0 : decide (a0_4 < (a0_2.size : Int)) = true := decide_eq_true c18
       clear c18
       have H' := Aside0.mk H
       clear H
       obtain ⟨hcz19_0, hcz19_1, hcz19_2, hcz19_3, hcz19_4, hcz19_5, hcz19_6, hcz19_7, hcz19_8, hfz19_0, hfz19_1, hfz19_2, hfz19_3, hfz19_4, hfz19_5, hfz19_6, hfz19_7, hfz19_8⟩ := BK177.c9
       go_wp2_with (first | ((with_reducible refine gate_callee (f := 33) rfl ?_); refine gL_ (some 7) Tryz.func33 #[.agg #[.bool false, .string a0_1, .string a0_2]] ?_; (with_reducible refine (idiomref02_Check.calls k false a0_1 a0_2 t178 _ A4.out).mono ?_); rintro e w20 ⟨rfl, hb⟩; refine ⟨_, rfl, ?_⟩; replace BK177 := BK177.bl hb; replace HB := Aside0.mk (below_step hb_ hb); obtain ⟨hcz21_0, hcz21_1, hcz21_2, hcz21_3, hcz21_4, hcz21_5, hcz21_6, hcz21_7, hcz21_8, hfz21_0, hfz21_1, hfz21_2, hfz21_3, hfz21_4, hfz21_5, hfz21_6, hfz21_7, hfz21_8⟩ := BK177.c9))
       go_meet
       case rel => exact ⟨_, (true), (by first | rfl | (simp; done) | (simp [*]; done)), H', ⟨by first | omega | exact Nat.le_refl _⟩, ⟨by exact BK177.out⟩, ⟨hb_⟩⟩
      ·rw [if_neg c18] at H
       have c18b0 : decide (a0_4 < (a0_2.size : Int)) = false := decide_eq_false c18
       clear c18
       have H' := Aside0.mk H
       clear H
       obtain ⟨hcz22_0, hcz22_1, hcz22_2, hcz22_3, hcz22_4, hcz22_5, hcz22_6, hcz22_7, hcz22_8, hfz22_0, hfz22_1, hfz22_2, hfz22_3, hfz22_4, hfz22_5, hfz22_6, hfz22_7, hfz22_8⟩ := BK177.c9
       go_wp2_with (first | ((with_reducible refine gate_callee (f := 33) rfl ?_); refine gL_ (some 7) Tryz.func33 #[.agg #[.bool false, .string a0_1, .string a0_2]] ?_; (with_reducible refine (idiomref02_Check.calls k false a0_1 a0_2 t178 _ A4.out).mono ?_); rintro e w23 ⟨rfl, hb⟩; refine ⟨_, rfl, ?_⟩; replace BK177 := BK177.bl hb; replace HB := Aside0.mk (below_step hb_ hb); obtain ⟨hcz24_0, hcz24_1, hcz24_2, hcz24_3, hcz24_4, hcz24_5, hcz24_6, hcz24_7, hcz24_8, hfz24_0, hfz24_1, hfz24_2, hfz24_3, hfz24_4, hfz24_5, hfz24_6, hfz24_7, hfz24_8⟩ := BK177.c9))
       go_meet
       case rel => exact ⟨_, (decide (a0_4 > (wrap64 (40 - (a0_1.size : Int))))), (by first | rfl | (simp; done) | (simp [*]; done)), H', ⟨by first | omega | exact Nat.le_refl _⟩, ⟨by exact BK177.out⟩, ⟨hb_⟩⟩
  ·rw [if_neg c5] at H
   have c5b0 : (t178 == 0) = false := beq_eq_false_iff_ne.mpr c5
   have c5b1 : (t178 != 0) = true := bne_iff_ne.mpr c5
   (first | rw [c5b0] | (simp only [i64_w, i32_w]; rw [c5b0]) | rw [c5b1] | skip)
   have H' := Aside0.mk H
   clear H
   obtain ⟨hcz25_0, hcz25_1, hcz25_2, hcz25_3, hcz25_4, hcz25_5, hcz25_6, hcz25_7, hcz25_8, hfz25_0, hfz25_1, hfz25_2, hfz25_3, hfz25_4, hfz25_5, hfz25_6, hfz25_7, hfz25_8⟩ := BK177.c9
   go_wp2_with (first | ((with_reducible refine gate_callee (f := 33) rfl ?_); refine gL_ (some 7) Tryz.func33 #[.agg #[.bool a0_0, .string a0_1, .string a0_2]] ?_; (with_reducible refine (idiomref02_Check.calls k a0_0 a0_1 a0_2 t178 _ A4.out).mono ?_); rintro e w26 ⟨rfl, hb⟩; refine ⟨_, rfl, ?_⟩; replace BK177 := BK177.bl hb; replace HB := Aside0.mk (below_step hb_ hb)))
   go_meet
   case rel => exact ⟨_, (true), (by first | rfl | (simp; done) | (simp [*]; done)), H', ⟨by first | omega | exact Nat.le_refl _⟩, ⟨by exact BK177.out⟩, ⟨hb_⟩⟩
 case rest =>
  clear HC2
  obtain ⟨kq, x42_1, rfl, HA, HJ1, BK177, HB⟩ := hcut
  cases kq with
  | zero => exact absurd HA.out (by simp [idiomref04_Check.j0])
  | succ kj1 =>
   have H := HA.out
   clear HA
   simp only [idiomref04_Check.j0] at H
   by_cases c27 : x42_1 = true
   ·subst c27
    have H1 : (some 40) = some r := by rw [if_pos rfl] at H; exact H
    clear H
    have H := H1
    clear H1
    obtain rfl := Option.some.inj H
    go_wp2
    go_ret
    exact fin_
   ·replace c27 := Bool.eq_false_iff.mpr c27
    subst c27
    have H1 : ((idiomref02_Pad.f kj1 a0_0 a0_1 a0_2 a0_4).bind fun bt179 => (if bt179.2.2.2 = 0 then ((idiomref04_shown.f kj1 bt179.1 bt179.2.1 bt179.2.2.1 a0_8).bind fun bt184 => (if ((!(bt184.1 == a0_0) || (!(bt184.2.1.toList == a0_1.toList) || (!(bt184.2.2.1.toList == a0_2.toList)))) || (!(bt184.2.2.2.1.toList == a0_3.toList) || (!(bt184.2.2.2.2.1 == a0_4) || (!(bt184.2.2.2.2.2.1 == a0_5) || (!(bt184.2.2.2.2.2.2.1.toList == a0_6.toList) || (!(bt184.2.2.2.2.2.2.2.1.toList == a0_7.toList) || (!(bt184.2.2.2.2.2.2.2.2 == a0_8)))))))) = true then (some 40) else (some 0))) else (some 40))) = some r := by rw [if_neg (show ¬ (false = true) by decide)] at H; exact H
    clear H
    have H := H1
    clear H1
    replace H := Option.bind_eq_some_iff.mp H
    obtain ⟨⟨t179, t180, t181, t182⟩, A280, H⟩ := H
    try dsimp only at H
    have A28 := Aside0.mk A280
    clear A280
    by_cases c29 : t182 = 0
    ·rw [if_pos c29] at H
     have c29b0 : (t182 == 0) = true := beq_iff_eq.mpr c29
     have c29b1 : (t182 != 0) = false := bne_eq_false_iff_eq.mpr c29
     clear c29
     replace H := Option.bind_eq_some_iff.mp H
     obtain ⟨⟨t184, t185, t186, t187, t188, t189, t190, t191, t192⟩, A300, H⟩ := H
     try dsimp only at H
     have A30 := Aside0.mk A300
     clear A300
     have HF31 := Aside0.mk H
     clear H
     obtain ⟨hcz32_0, hcz32_1, hcz32_2, hcz32_3, hcz32_4, hcz32_5, hcz32_6, hcz32_7, hcz32_8, hfz32_0, hfz32_1, hfz32_2, hfz32_3, hfz32_4, hfz32_5, hfz32_6, hfz32_7, hfz32_8⟩ := BK177.c9
     try go_wp2_with (first | ((with_reducible refine gate_callee (f := 39) rfl ?_); refine gL_ (some 48) Tryz.func39 #[.agg #[.bool a0_0, .string a0_1, .string a0_2], .int .i64 a0_4] ?_; (with_reducible refine (idiomref02_Pad.calls kj1 a0_0 a0_1 a0_2 a0_4 t179 t180 t181 t182 _ A28.out).mono ?_); rintro e w33 ⟨rfl, hb⟩; refine ⟨_, rfl, ?_⟩; replace BK177 := BK177.bl hb; replace HB := Aside0.mk (below_step hb_ hb)) | ((with_reducible refine gate_dst (N := 3) rfl ?_); (try (refine gate_guard (by rfl) ?_; dsimp only)); refine box_event ?hg (N := 3) ?hd (cs := #[.bool false, .string (⟨#[]⟩ : ByteArray), .string (⟨#[]⟩ : ByteArray)]) (t := 23) ?hr ?_; (case hd => rfl); (case hg => rfl); (case hr => first | (go_simp; done) | (go_simp; rfl)); intro gb183 hg w34 hbox hb; have BK183 := Aside0.mk (hbox); have GW183 := ge_ (w := w) hg; have GE183 := ge_ (w := w) hg; have NB177_183 := BK177.nl hg; have NB183_177 := BK177.ng hg; replace BK177 := BK177.bl hb; replace HB := Aside0.mk (below_step hb_ hb); clear hb hbox hg; have hnb35 := NB183_177.out; have hnc35 := NB177_183.out; obtain ⟨hcz36_0, hcz36_1, hcz36_2, hfz36_0, hfz36_1, hfz36_2⟩ := BK183.c3))
     have n0_ : Aside0 ((((w34.setCell ⟨gb183, 0, none⟩ (.bool t179)).setCell ⟨gb183, 1, none⟩ (.string t180)).setCell ⟨gb183, 2, none⟩ (.string t181)).heap[gb177]? = some (.cells #[.bool a0_0, .string a0_1, .string a0_2, .string a0_3, .int .i64 a0_4, .int .i64 a0_5, .string a0_6, .string a0_7, .int .i64 a0_8] 25 (0, 0))) := ⟨by refine far3_ ?_ NB177_183.out; exact BK177.out⟩
     have n1_ : Aside0 ((((w34.setCell ⟨gb183, 0, none⟩ (.bool t179)).setCell ⟨gb183, 1, none⟩ (.string t180)).setCell ⟨gb183, 2, none⟩ (.string t181)).heap[gb183]? = some (.cells #[.bool t179, .string t180, .string t181] 23 (0, 0))) := ⟨by refine put3_ (cs := #[.bool false, .string (⟨#[]⟩ : ByteArray), .string (⟨#[]⟩ : ByteArray)]) ?_; exact BK183.out⟩
     have n2_ : Aside0 (Below w.heap.size w (((w34.setCell ⟨gb183, 0, none⟩ (.bool t179)).setCell ⟨gb183, 1, none⟩ (.string t180)).setCell ⟨gb183, 2, none⟩ (.string t181))) := ⟨hb_⟩
     (try clear BK177)
     (try clear BK183)
     (try clear HB)
     generalize (((w34.setCell ⟨gb183, 0, none⟩ (.bool t179)).setCell ⟨gb183, 1, none⟩ (.string t180)).setCell ⟨gb183, 2, none⟩ (.string t181)) = w37 at n0_ n1_ n2_ ⊢
     have BK177 := n0_
     have BK183 := n1_
     have HB := n2_
     clear n0_ n1_ n2_
     replace BK177 := Aside0.mk (blk_drew BK177.out)
     replace BK183 := Aside0.mk (blk_drew BK183.out)
     replace HB := Aside0.mk (below_drew1 HB.out)
     refine start_ (n := 10) (S := fun w' => w'.cell? ⟨gb183, 0, none⟩ = some (.bool t179) ∧ w'.cell? ⟨gb183, 1, none⟩ = some (.string t180) ∧ w'.cell? ⟨gb183, 2, none⟩ = some (.string t181) ∧ w'.cell? ⟨gb177, 0, none⟩ = some (.bool a0_0) ∧ w'.cell? ⟨gb177, 1, none⟩ = some (.string a0_1) ∧ w'.cell? ⟨gb177, 2, none⟩ = some (.string a0_2) ∧ w'.cell? ⟨gb177, 3, none⟩ = some (.string a0_3) ∧ w'.cell? ⟨gb177, 4, none⟩ = some (.int .i64 a0_4) ∧ w'.cell? ⟨gb177, 5, none⟩ = some (.int .i64 a0_5) ∧ w'.cell? ⟨gb177, 6, none⟩ = some (.string a0_6) ∧ w'.cell? ⟨gb177, 7, none⟩ = some (.string a0_7) ∧ w'.cell? ⟨gb177, 8, none⟩ = some (.int .i64 a0_8)) (ds := []) #[false, false, false, false, false, false, false, false, false, false] (by kernel_rfl) rfl rfl ⟨(blk_cell BK183.out 0).trans rfl, (blk_cell BK183.out 1).trans rfl, (blk_cell BK183.out 2).trans rfl, (blk_cell BK177.out 0).trans rfl, (blk_cell BK177.out 1).trans rfl, (blk_cell BK177.out 2).trans rfl, (blk_cell BK177.out 3).trans rfl, (blk_cell BK177.out 4).trans rfl, (blk_cell BK177.out 5).trans rfl, (blk_cell BK177.out 6).trans rfl, (blk_cell BK177.out 7).trans rfl, (blk_cell BK177.out 8).trans rfl⟩ (fun hHeld => ?_); refine with_tabW idiomref04_Check.tab4 idiomref04_Check.bits4 (fun HT_ HW_ => ?_)
     generalize w37.drew = w38 at BK177 BK183 HB hHeld ⊢
     refine pr_ 0 (some 51) ?_
     refine pr_ 1 (some 52) ?_
     refine pr_ 2 (some 53) ?_
     refine pr_ 4 (some 55) ?_
     refine tk_ 3 (some 54) hHeld ?_
     refine tk_ 5 (some 56) hHeld ?_
     refine tk_ 7 (some 58) hHeld ?_
     refine one_ (i := 6) (N := some 57) #[true, true, true, true, true, true, true, true, false, false] rfl rfl (one_of HT_.out (by kernel_rfl)) (by decide) (fun K hK => ?_)
     refine goes_ Tryz.func36 (by kernel_rfl) rfl #[.agg #[.bool t179, .string t180, .string t181], .int .i64 a0_8] (by rfl) rfl rfl ar_ ?_
     with_reducible refine (idiomref04_shown.calls kj1 t179 t180 t181 a0_8 t184 t185 t186 t187 t188 t189 t190 t191 t192 _ A30.out).mono ?_
     rintro e w39 ⟨rfl, hb⟩
     refine ⟨_, rfl, ?_⟩
     replace BK177 := BK177.bl hb
     replace BK183 := BK183.bl hb
     replace HB := Aside0.mk (below_step hb_ hb)
     (try clear hb)
     (try clear hb2)
     (try clear hk)
     (try clear hi)
     refine hK.out _ _ ⟨(blk_cell BK183.out 0).trans rfl, (blk_cell BK183.out 1).trans rfl, (blk_cell BK183.out 2).trans rfl, (blk_cell BK177.out 0).trans rfl, (blk_cell BK177.out 1).trans rfl, (blk_cell BK177.out 2).trans rfl, (blk_cell BK177.out 3).trans rfl, (blk_cell BK177.out 4).trans rfl, (blk_cell BK177.out 5).trans rfl, (blk_cell BK177.out 6).trans rfl, (blk_cell BK177.out 7).trans rfl, (blk_cell BK177.out 8).trans rfl⟩ (fun hHeld => ?_)
     clear hK K
     refine norm_ (a' := ?_) ?_ ?_
     rotate_left
     ·show Act.put _ (some 57) _ = _
      simp only [Act.put, List.setIfInBounds_toArray, List.set_cons_zero, List.set_cons_succ, i64_w, i32_w]
      rfl
     refine pr_ 8 (some 59) ?_
     refine pr_ 9 (some 60) ?_
     refine done_ (done_of HT_.out (by kernel_rfl)) ?_
     go_upto_if 60 with (fail)
     have H := HF31.out
     clear HF31
     by_cases c40 : ((!(t184 == a0_0) || (!(t185.toList == a0_1.toList) || (!(t186.toList == a0_2.toList)))) || (!(t187.toList == a0_3.toList) || (!(t188 == a0_4) || (!(t189 == a0_5) || (!(t190.toList == a0_6.toList) || (!(t191.toList == a0_7.toList) || (!(t192 == a0_8)))))))) = true
     ·rw [if_pos c40] at H
      have c40b0 : ((!(t184 == a0_0) || (!(t185.toList == a0_1.toList) || (!(t186.toList == a0_2.toList)))) || (!(t187.toList == a0_3.toList) || (!(t188 == a0_4) || (!(t189 == a0_5) || (!(t190.toList == a0_6.toList) || (!(t191.toList == a0_7.toList) || (!(t192 == a0_8)))))))) = true := c40
      clear c40
      (first | rw [c40b0] | (simp only [i64_w, i32_w]; rw [c40b0]) | skip)
      obtain rfl := Option.some.inj H
      go_wp2
      go_ret
      exact fin_
     ·rw [if_neg c40] at H
      have c40b0 : ((!(t184 == a0_0) || (!(t185.toList == a0_1.toList) || (!(t186.toList == a0_2.toList)))) || (!(t187.toList == a0_3.toList) || (!(t188 == a0_4) || (!(t189 == a0_5) || (!(t190.toList == a0_6.toList) || (!(t191.toList == a0_7.toList) || (!(t192 == a0_8)))))))) = false := by simpa using c40
      clear c40
      (first | rw [c40b0] | (simp only [i64_w, i32_w]; rw [c40b0]) | skip)
      obtain rfl := Option.some.inj H
      go_wp2
      go_ret
      exact fin_
    ·rw [if_neg c29] at H
     have c29b0 : (t182 == 0) = false := beq_eq_false_iff_ne.mpr c29
     have c29b1 : (t182 != 0) = true := bne_iff_ne.mpr c29
     obtain rfl := Option.some.inj H
     obtain ⟨hcz41_0, hcz41_1, hcz41_2, hcz41_3, hcz41_4, hcz41_5, hcz41_6, hcz41_7, hcz41_8, hfz41_0, hfz41_1, hfz41_2, hfz41_3, hfz41_4, hfz41_5, hfz41_6, hfz41_7, hfz41_8⟩ := BK177.c9
     try go_wp2_with (first | ((with_reducible refine gate_callee (f := 39) rfl ?_); refine gL_ (some 48) Tryz.func39 #[.agg #[.bool a0_0, .string a0_1, .string a0_2], .int .i64 a0_4] ?_; (with_reducible refine (idiomref02_Pad.calls kj1 a0_0 a0_1 a0_2 a0_4 t179 t180 t181 t182 _ A28.out).mono ?_); rintro e w42 ⟨rfl, hb⟩; refine ⟨_, rfl, ?_⟩; replace BK177 := BK177.bl hb; replace HB := Aside0.mk (below_step hb_ hb)) | ((with_reducible refine gate_dst (N := 3) rfl ?_); (try (refine gate_guard (by rfl) ?_; dsimp only)); refine box_event ?hg (N := 3) ?hd (cs := #[.bool false, .string (⟨#[]⟩ : ByteArray), .string (⟨#[]⟩ : ByteArray)]) (t := 23) ?hr ?_; (case hd => rfl); (case hg => rfl); (case hr => first | (go_simp; done) | (go_simp; rfl)); intro gb183 hg w43 hbox hb; have BK183 := Aside0.mk (hbox); have GW183 := ge_ (w := w) hg; have GE183 := ge_ (w := w) hg; have NB177_183 := BK177.nl hg; have NB183_177 := BK177.ng hg; replace BK177 := BK177.bl hb; replace HB := Aside0.mk (below_step hb_ hb); clear hb hbox hg; have hnb44 := NB183_177.out; have hnc44 := NB177_183.out; obtain ⟨hcz45_0, hcz45_1, hcz45_2, hfz45_0, hfz45_1, hfz45_2⟩ := BK183.c3))
     have n0_ : Aside0 ((((w43.setCell ⟨gb183, 0, none⟩ (.bool t179)).setCell ⟨gb183, 1, none⟩ (.string t180)).setCell ⟨gb183, 2, none⟩ (.string t181)).heap[gb177]? = some (.cells #[.bool a0_0, .string a0_1, .string a0_2, .string a0_3, .int .i64 a0_4, .int .i64 a0_5, .string a0_6, .string a0_7, .int .i64 a0_8] 25 (0, 0))) := ⟨by refine far3_ ?_ NB177_183.out; exact BK177.out⟩
     have n1_ : Aside0 ((((w43.setCell ⟨gb183, 0, none⟩ (.bool t179)).setCell ⟨gb183, 1, none⟩ (.string t180)).setCell ⟨gb183, 2, none⟩ (.string t181)).heap[gb183]? = some (.cells #[.bool t179, .string t180, .string t181] 23 (0, 0))) := ⟨by refine put3_ (cs := #[.bool false, .string (⟨#[]⟩ : ByteArray), .string (⟨#[]⟩ : ByteArray)]) ?_; exact BK183.out⟩
     have n2_ : Aside0 (Below w.heap.size w (((w43.setCell ⟨gb183, 0, none⟩ (.bool t179)).setCell ⟨gb183, 1, none⟩ (.string t180)).setCell ⟨gb183, 2, none⟩ (.string t181))) := ⟨hb_⟩
     (try clear BK177)
     (try clear BK183)
     (try clear HB)
     generalize (((w43.setCell ⟨gb183, 0, none⟩ (.bool t179)).setCell ⟨gb183, 1, none⟩ (.string t180)).setCell ⟨gb183, 2, none⟩ (.string t181)) = w46 at n0_ n1_ n2_ ⊢
     have BK177 := n0_
     have BK183 := n1_
     have HB := n2_
     clear n0_ n1_ n2_
     replace BK177 := Aside0.mk (blk_drew BK177.out)
     replace BK183 := Aside0.mk (blk_drew BK183.out)
     replace HB := Aside0.mk (below_drew1 HB.out)
     refine start_ (n := 10) (S := fun w' => True) (ds := []) #[false, false, false, false, false, false, false, false, false, false] (by kernel_rfl) rfl rfl trivial (fun hHeld => ?_); refine with_tabW idiomref04_Check.tab4 idiomref04_Check.bits4 (fun HT_ HW_ => ?_)
     generalize w46.drew = w47 at BK177 BK183 HB hHeld ⊢
     refine pr_ 0 (some 51) ?_
     refine pr_ 1 (some 52) ?_
     refine pr_ 2 (some 53) ?_
     refine pu_ 3 (some 54) (a' := ?_) ?_ ?_
     rotate_left
     ·simp only [Act.put, List.setIfInBounds_toArray, List.set_cons_zero, List.set_cons_succ, i64_w, i32_w]
      rfl
     refine pu_ 4 (some 55) (a' := ?_) ?_ ?_
     rotate_left
     ·simp only [Act.put, List.setIfInBounds_toArray, List.set_cons_zero, List.set_cons_succ, i64_w, i32_w]
      rfl
     refine pu_ 5 (some 56) (a' := ?_) ?_ ?_
     rotate_left
     ·simp only [Act.put, List.setIfInBounds_toArray, List.set_cons_zero, List.set_cons_succ, i64_w, i32_w]
      rfl
     refine pu_ 6 (some 57) (a' := ?_) ?_ ?_
     rotate_left
     ·simp only [Act.put, List.setIfInBounds_toArray, List.set_cons_zero, List.set_cons_succ, i64_w, i32_w]
      rfl
     refine pu_ 7 (some 58) (a' := ?_) ?_ ?_
     rotate_left
     ·simp only [Act.put, List.setIfInBounds_toArray, List.set_cons_zero, List.set_cons_succ, i64_w, i32_w]
      rfl
     refine pu_ 8 (some 59) (a' := ?_) ?_ ?_
     rotate_left
     ·simp only [Act.put, List.setIfInBounds_toArray, List.set_cons_zero, List.set_cons_succ, i64_w, i32_w]
      rfl
     refine pr_ 9 (some 60) ?_
     refine done_ (done_of HT_.out (by kernel_rfl)) ?_
     try go_wp2
     go_ret
     exact fin_
attribute [local go_sem] max2_int max_two
set_option linter.unusedVariables false
set_option linter.unusedSimpArgs false
def operand_number.f (a0 : ByteArray) : Option (Bool) := if a0.toList = ([] : List UInt8) then (some false) else (if (a0.size : Int) > 40 then (some false) else (if (a0.size : Int) > 1 then (if 0 < (a0.size : Int) then (if (bt a0 0) = 48 then (some false) else ((strings_Trim.f a0 (⟨#[48, 49, 50, 51, 52, 53, 54, 55, 56, 57]⟩ : ByteArray)).bind fun t298 => (some (t298.toList == ([] : List UInt8))))) else (none)) else ((strings_Trim.f a0 (⟨#[48, 49, 50, 51, 52, 53, 54, 55, 56, 57]⟩ : ByteArray)).bind fun t299 => (some (t299.toList == ([] : List UInt8))))))
set_option maxHeartbeats 8000000 in
set_option maxRecDepth 100000 in
theorem operand_number.calls (a0 : ByteArray) (r : Bool) (w : World) (h : operand_number.f a0 = some r) :
    Calls Tryz.prog 19 #[.string a0] w fun e w' => e = .returned (.bool r) ∧ Below w.heap.size w w' := by
 have HB := Aside0.mk (Below.refl w.heap.size w)
 unfold operand_number.f at h
 have H := h
 clear h
 by_cases c2 : a0.toList = ([] : List UInt8)
 ·rw [if_pos c2] at H
  have c2b0 : (a0.toList == ([] : List UInt8)) = true := beq_iff_eq.mpr c2
  have c2b1 : (a0.toList != ([] : List UInt8)) = false := bne_eq_false_iff_eq.mpr c2
  clear c2
  obtain rfl := Option.some.inj H
  go_enter Tryz.func19, Tryz.ntmps19
  go_wp2
  go_ret
  exact fin_
 ·rw [if_neg c2] at H
  have c2b0 : (a0.toList == ([] : List UInt8)) = false := beq_eq_false_iff_ne.mpr c2
  have c2b1 : (a0.toList != ([] : List UInt8)) = true := bne_iff_ne.mpr c2
  by_cases c3 : (a0.size : Int) > 40
  ·rw [if_pos c3] at H
   have c3b0 : decide (40 < (a0.size : Int)) = true := decide_eq_true c3
   have c3b1 : decide (40 < a0.size) = true := decide_eq_true (by omega)
   clear c3
   obtain rfl := Option.some.inj H
   go_enter Tryz.func19, Tryz.ntmps19
   go_wp2
   go_ret
   exact fin_
  ·rw [if_neg c3] at H
   have c3b0 : decide (40 < (a0.size : Int)) = false := decide_eq_false c3
   have c3b1 : decide (40 < a0.size) = false := decide_eq_false (by omega)
   clear c3
   by_cases c4 : (a0.size : Int) > 1
   ·rw [if_pos c4] at H
    have c4b0 : decide (1 < (a0.size : Int)) = true := decide_eq_true c4
    have c4b1 : decide (1 < a0.size) = true := decide_eq_true (by omega)
    clear c4
    by_cases c5 : 0 < (a0.size : Int)
    ·rw [if_pos c5] at H
     have c5b0 : decide (0 < (a0.size : Int)) = true := decide_eq_true c5
     have c5b1 : decide (0 < a0.size) = true := decide_eq_true (by omega)
     clear c5
     by_cases c7 : (bt a0 0) = 48
     ·rw [if_pos c7] at H
      have c7b0 : ((bt a0 0) == 48) = true := beq_iff_eq.mpr c7
      have c7b1 : ((bt a0 0) != 48) = false := bne_eq_false_iff_eq.mpr c7
      clear c7
      obtain rfl := Option.some.inj H
      have p6 : 0 ≤ (0 : Int) := (by omega)
      have q6 : 0 < a0.size := (by have : (0 : Int) < (a0.size : Int) := of_decide_eq_true (by first | (with_reducible assumption) | assumption); omega)
      have hx6 : ∀ h : 0 < a0.size, ((a0[0]'h).toNat : Int) = bt a0 0 := bt_at a0 0
      clear p6
      have qi6 : (0 < (a0.size : Int)) = True := eq_true (of_decide_eq_true (by first | (with_reducible assumption) | assumption))
      replace q6 := eq_true q6
      go_enter Tryz.func19, Tryz.ntmps19
      go_wp2
      go_ret
      exact fin_
     ·rw [if_neg c7] at H
      have c7b0 : ((bt a0 0) == 48) = false := beq_eq_false_iff_ne.mpr c7
      have c7b1 : ((bt a0 0) != 48) = true := bne_iff_ne.mpr c7
      replace H := Option.bind_eq_some_iff.mp H
      obtain ⟨t298, A80, H⟩ := H
      try dsimp only at H
      have A8 := Aside0.mk A80
      clear A80
      obtain rfl := Option.some.inj H
      have p6 : 0 ≤ (0 : Int) := (by omega)
      have q6 : 0 < a0.size := (by have : (0 : Int) < (a0.size : Int) := of_decide_eq_true (by first | (with_reducible assumption) | assumption); omega)
      have hx6 : ∀ h : 0 < a0.size, ((a0[0]'h).toNat : Int) = bt a0 0 := bt_at a0 0
      clear p6
      have qi6 : (0 < (a0.size : Int)) = True := eq_true (of_decide_eq_true (by first | (with_reducible assumption) | assumption))
      replace q6 := eq_true q6
      go_enter Tryz.func19, Tryz.ntmps19
      go_wp2_with (first | ((with_reducible refine gate_callee (f := 24) rfl ?_); refine gL_ (some 21) Tryz.func24 #[.string a0, .string (⟨#[48, 49, 50, 51, 52, 53, 54, 55, 56, 57]⟩ : ByteArray)] ?_; (with_reducible refine (strings_Trim.calls a0 (⟨#[48, 49, 50, 51, 52, 53, 54, 55, 56, 57]⟩ : ByteArray) t298 _ A8.out).mono ?_); rintro e w9 ⟨rfl, hb⟩; refine ⟨_, rfl, ?_⟩; replace HB := Aside0.mk (below_step hb_ hb)))
      go_ret
      exact fin_
    ·rw [if_neg c5] at H
     exact absurd H (by simp)
   ·rw [if_neg c4] at H
    have c4b0 : decide (1 < (a0.size : Int)) = false := decide_eq_false c4
    have c4b1 : decide (1 < a0.size) = false := decide_eq_false (by omega)
    clear c4
    replace H := Option.bind_eq_some_iff.mp H
    obtain ⟨t299, A100, H⟩ := H
    try dsimp only at H
    have A10 := Aside0.mk A100
    clear A100
    obtain rfl := Option.some.inj H
    go_enter Tryz.func19, Tryz.ntmps19
    go_wp2_with (first | ((with_reducible refine gate_callee (f := 24) rfl ?_); refine gL_ (some 21) Tryz.func24 #[.string a0, .string (⟨#[48, 49, 50, 51, 52, 53, 54, 55, 56, 57]⟩ : ByteArray)] ?_; (with_reducible refine (strings_Trim.calls a0 (⟨#[48, 49, 50, 51, 52, 53, 54, 55, 56, 57]⟩ : ByteArray) t299 _ A10.out).mono ?_); rintro e w11 ⟨rfl, hb⟩; refine ⟨_, rfl, ?_⟩; replace HB := Aside0.mk (below_step hb_ hb)))
    go_ret
    exact fin_
attribute [local go_sem] max2_int max_two
set_option linter.unusedVariables false
set_option linter.unusedSimpArgs false
def idiomref04_Get.f (k : Nat) (a0_0 : Bool) (a0_1 : ByteArray) (a0_2 : ByteArray) (a0_3 : ByteArray) (a0_4 : Int) (a0_5 : Int) (a0_6 : ByteArray) (a0_7 : ByteArray) (a0_8 : Int) (a1 : ByteArray) : Option (Bool × ByteArray × ByteArray × Int) := (idiomref04_Check.f k a0_0 a0_1 a0_2 a0_3 a0_4 a0_5 a0_6 a0_7 a0_8).bind fun t195 => (if t195 = 0 then (if a1.toList = ([110] : List UInt8) then (some (a0_0, a0_1, a0_2, 0)) else (if a1.toList = ([105] : List UInt8) then (some (false, a0_3, (⟨#[]⟩ : ByteArray), 0)) else (if a1.toList = ([102] : List UInt8) then (some (false, a0_6, (⟨#[]⟩ : ByteArray), 0)) else (if a1.toList = ([116] : List UInt8) then (some (false, a0_7, (⟨#[]⟩ : ByteArray), 0)) else (if a1.toList = ([118] : List UInt8) then ((strconv_Itoa.f a0_4).bind fun t196 => (some (false, t196, (⟨#[]⟩ : ByteArray), 0))) else (if a1.toList = ([119] : List UInt8) then ((strconv_Itoa.f a0_5).bind fun t197 => (some (false, t197, (⟨#[]⟩ : ByteArray), 0))) else (if a1.toList = ([99] : List UInt8) then ((strconv_Itoa.f a0_8).bind fun t198 => (some (false, t198, (⟨#[]⟩ : ByteArray), 0))) else (if a1.toList = ([101] : List UInt8) then ((strconv_Itoa.f a0_8).bind fun t199 => (some (false, t199, (⟨#[]⟩ : ByteArray), 0))) else (some (false, (⟨#[]⟩ : ByteArray), (⟨#[]⟩ : ByteArray), 40)))))))))) else (some (false, (⟨#[]⟩ : ByteArray), (⟨#[]⟩ : ByteArray), t195)))
set_option maxHeartbeats 8000000 in
set_option maxRecDepth 100000 in
theorem idiomref04_Get.calls (k : Nat) (a0_0 : Bool) (a0_1 : ByteArray) (a0_2 : ByteArray) (a0_3 : ByteArray) (a0_4 : Int) (a0_5 : Int) (a0_6 : ByteArray) (a0_7 : ByteArray) (a0_8 : Int) (a1 : ByteArray) (r1 : Bool) (r2 : ByteArray) (r3 : ByteArray) (r4 : Int) (w : World) (ht : TB w) (h : idiomref04_Get.f k a0_0 a0_1 a0_2 a0_3 a0_4 a0_5 a0_6 a0_7 a0_8 a1 = some (r1, r2, r3, r4)) :
    Calls Tryz.prog 6 #[.agg #[.bool a0_0, .string a0_1, .string a0_2, .string a0_3, .int .i64 a0_4, .int .i64 a0_5, .string a0_6, .string a0_7, .int .i64 a0_8], .string a1] w fun e w' => e = .returned (.tuple #[.agg #[.bool r1, .string r2, .string r3], .int .i64 r4]) ∧ Below w.heap.size w w' := by
 have hu25 := Tryz.underlying25
 have hu23 := Tryz.underlying23
 have HTB := Aside0.mk ht
 clear ht
 have HB := Aside0.mk (Below.refl w.heap.size w)
 unfold idiomref04_Get.f at h
 have H := h
 clear h
 replace H := Option.bind_eq_some_iff.mp H
 obtain ⟨t195, A30, H⟩ := H
 try dsimp only at H
 have A3 := Aside0.mk A30
 clear A30
 have HF4 := Aside0.mk H
 clear H
 go_enter Tryz.func6, Tryz.ntmps6
 go_upto_if 10 with (first | ((with_reducible refine gate_dst (N := 2) rfl ?_); refine bx_ #[.bool a0_0, .string a0_1, .string a0_2, .string a0_3, .int .i64 a0_4, .int .i64 a0_5, .string a0_6, .string a0_7, .int .i64 a0_8] 25 ?_; intro gb193 hg w5 hbox hb; have BK193 := Aside0.mk (hbox); have GW193 := ge_ (w := w) hg; have GE193 := ge_ (w := w) hg; replace HB := Aside0.mk (below_step hb_ hb); clear hb hbox hg) | ((with_reducible refine gate_dst (N := 4) rfl ?_); refine bx_ #[.bool false, .string (⟨#[]⟩ : ByteArray), .string (⟨#[]⟩ : ByteArray)] 23 ?_; intro gb194 hg w6 hbox hb; have BK194 := Aside0.mk (hbox); have GW194 := ge_ (w := w) hg; have GE194 := ge_ (w := w) hg; have NB193_194 := BK193.nl hg; have NB194_193 := BK193.ng hg; replace BK193 := BK193.bl hb; replace HB := Aside0.mk (below_step hb_ hb); clear hb hbox hg; have hnb7 := NB193_194.out; have hnc7 := NB194_193.out; obtain ⟨hcz8_0, hcz8_1, hcz8_2, hcz8_3, hcz8_4, hcz8_5, hcz8_6, hcz8_7, hcz8_8, hfz8_0, hfz8_1, hfz8_2, hfz8_3, hfz8_4, hfz8_5, hfz8_6, hfz8_7, hfz8_8⟩ := BK193.c9) | ((with_reducible refine gate_callee (f := 17) rfl ?_); refine gL_ (some 8) Tryz.func17 #[.agg #[.bool a0_0, .string a0_1, .string a0_2, .string a0_3, .int .i64 a0_4, .int .i64 a0_5, .string a0_6, .string a0_7, .int .i64 a0_8]] ?_; (with_reducible refine (idiomref04_Check.calls k a0_0 a0_1 a0_2 a0_3 a0_4 a0_5 a0_6 a0_7 a0_8 t195 _ A3.out).mono ?_); rintro e w9 ⟨rfl, hb⟩; refine ⟨_, rfl, ?_⟩; replace BK193 := BK193.bl hb; replace BK194 := BK194.bl hb; replace HB := Aside0.mk (below_step hb_ hb)))
 (try simp only [Act.put, List.setIfInBounds_toArray, List.set_cons_zero, List.set_cons_succ])
 have H := HF4.out
 clear HF4
 by_cases c10 : t195 = 0
 ·rw [if_pos c10] at H
  have c10b0 : (t195 == 0) = true := beq_iff_eq.mpr c10
  have c10b1 : (t195 != 0) = false := bne_eq_false_iff_eq.mpr c10
  clear c10
  (first | rw [c10b0] | (simp only [i64_w, i32_w]; rw [c10b0]) | rw [c10b1] | skip)
  by_cases c11 : a1.toList = ([110] : List UInt8)
  ·rw [if_pos c11] at H
   have c11b0 : (a1.toList == ([110] : List UInt8)) = true := beq_iff_eq.mpr c11
   have c11b1 : (a1.toList != ([110] : List UInt8)) = false := bne_eq_false_iff_eq.mpr c11
   clear c11
   simp only [Option.some.injEq, Prod.mk.injEq] at H
   obtain ⟨rfl, rfl, rfl, rfl⟩ := H
   have hnb12 := NB193_194.out
   have hnc12 := NB194_193.out
   obtain ⟨hcz13_0, hcz13_1, hcz13_2, hcz13_3, hcz13_4, hcz13_5, hcz13_6, hcz13_7, hcz13_8, hfz13_0, hfz13_1, hfz13_2, hfz13_3, hfz13_4, hfz13_5, hfz13_6, hfz13_7, hfz13_8⟩ := BK193.c9
   obtain ⟨hcz14_0, hcz14_1, hcz14_2, hfz14_0, hfz14_1, hfz14_2⟩ := BK194.c3
   go_wp2
   refine bodyPost_ret (results_ct rfl _ _ gb194 23 #[.bool a0_0, .string a0_1, .string a0_2] (0, 0) _ rfl (by refine put3_ (cs := #[.bool false, .string (⟨#[]⟩ : ByteArray), .string (⟨#[]⟩ : ByteArray)]) ?_; exact BK194.out) Tryz.underlying23 rfl (by kernel_rfl)) rfl ?_
   exact fin_
  ·rw [if_neg c11] at H
   have c11b0 : (a1.toList == ([110] : List UInt8)) = false := beq_eq_false_iff_ne.mpr c11
   have c11b1 : (a1.toList != ([110] : List UInt8)) = true := bne_iff_ne.mpr c11
   by_cases c15 : a1.toList = ([105] : List UInt8)
   ·rw [if_pos c15] at H
    have c15b0 : (a1.toList == ([105] : List UInt8)) = true := beq_iff_eq.mpr c15
    have c15b1 : (a1.toList != ([105] : List UInt8)) = false := bne_eq_false_iff_eq.mpr c15
    clear c15
    simp only [Option.some.injEq, Prod.mk.injEq] at H
    obtain ⟨rfl, rfl, rfl, rfl⟩ := H
    have hnb16 := NB193_194.out
    have hnc16 := NB194_193.out
    obtain ⟨hcz17_0, hcz17_1, hcz17_2, hcz17_3, hcz17_4, hcz17_5, hcz17_6, hcz17_7, hcz17_8, hfz17_0, hfz17_1, hfz17_2, hfz17_3, hfz17_4, hfz17_5, hfz17_6, hfz17_7, hfz17_8⟩ := BK193.c9
    obtain ⟨hcz18_0, hcz18_1, hcz18_2, hfz18_0, hfz18_1, hfz18_2⟩ := BK194.c3
    go_wp2
    refine bodyPost_ret (results_ct rfl _ _ gb194 23 #[.bool false, .string a0_3, .string (⟨#[]⟩ : ByteArray)] (0, 0) _ rfl (by refine put3_ (cs := #[.bool false, .string (⟨#[]⟩ : ByteArray), .string (⟨#[]⟩ : ByteArray)]) ?_; exact BK194.out) Tryz.underlying23 rfl (by kernel_rfl)) rfl ?_
    exact fin_
   ·rw [if_neg c15] at H
    have c15b0 : (a1.toList == ([105] : List UInt8)) = false := beq_eq_false_iff_ne.mpr c15
    have c15b1 : (a1.toList != ([105] : List UInt8)) = true := bne_iff_ne.mpr c15
    by_cases c19 : a1.toList = ([102] : List UInt8)
    ·rw [if_pos c19] at H
     have c19b0 : (a1.toList == ([102] : List UInt8)) = true := beq_iff_eq.mpr c19
     have c19b1 : (a1.toList != ([102] : List UInt8)) = false := bne_eq_false_iff_eq.mpr c19
     clear c19
     simp only [Option.some.injEq, Prod.mk.injEq] at H
     obtain ⟨rfl, rfl, rfl, rfl⟩ := H
     have hnb20 := NB193_194.out
     have hnc20 := NB194_193.out
     obtain ⟨hcz21_0, hcz21_1, hcz21_2, hcz21_3, hcz21_4, hcz21_5, hcz21_6, hcz21_7, hcz21_8, hfz21_0, hfz21_1, hfz21_2, hfz21_3, hfz21_4, hfz21_5, hfz21_6, hfz21_7, hfz21_8⟩ := BK193.c9
     obtain ⟨hcz22_0, hcz22_1, hcz22_2, hfz22_0, hfz22_1, hfz22_2⟩ := BK194.c3
     go_wp2
     refine bodyPost_ret (results_ct rfl _ _ gb194 23 #[.bool false, .string a0_6, .string (⟨#[]⟩ : ByteArray)] (0, 0) _ rfl (by refine put3_ (cs := #[.bool false, .string (⟨#[]⟩ : ByteArray), .string (⟨#[]⟩ : ByteArray)]) ?_; exact BK194.out) Tryz.underlying23 rfl (by kernel_rfl)) rfl ?_
     exact fin_
    ·rw [if_neg c19] at H
     have c19b0 : (a1.toList == ([102] : List UInt8)) = false := beq_eq_false_iff_ne.mpr c19
     have c19b1 : (a1.toList != ([102] : List UInt8)) = true := bne_iff_ne.mpr c19
     by_cases c23 : a1.toList = ([116] : List UInt8)
     ·rw [if_pos c23] at H
      have c23b0 : (a1.toList == ([116] : List UInt8)) = true := beq_iff_eq.mpr c23
      have c23b1 : (a1.toList != ([116] : List UInt8)) = false := bne_eq_false_iff_eq.mpr c23
      clear c23
      simp only [Option.some.injEq, Prod.mk.injEq] at H
      obtain ⟨rfl, rfl, rfl, rfl⟩ := H
      have hnb24 := NB193_194.out
      have hnc24 := NB194_193.out
      obtain ⟨hcz25_0, hcz25_1, hcz25_2, hcz25_3, hcz25_4, hcz25_5, hcz25_6, hcz25_7, hcz25_8, hfz25_0, hfz25_1, hfz25_2, hfz25_3, hfz25_4, hfz25_5, hfz25_6, hfz25_7, hfz25_8⟩ := BK193.c9
      obtain ⟨hcz26_0, hcz26_1, hcz26_2, hfz26_0, hfz26_1, hfz26_2⟩ := BK194.c3
      go_wp2
      refine bodyPost_ret (results_ct rfl _ _ gb194 23 #[.bool false, .string a0_7, .string (⟨#[]⟩ : ByteArray)] (0, 0) _ rfl (by refine put3_ (cs := #[.bool false, .string (⟨#[]⟩ : ByteArray), .string (⟨#[]⟩ : ByteArray)]) ?_; exact BK194.out) Tryz.underlying23 rfl (by kernel_rfl)) rfl ?_
      exact fin_
     ·rw [if_neg c23] at H
      have c23b0 : (a1.toList == ([116] : List UInt8)) = false := beq_eq_false_iff_ne.mpr c23
      have c23b1 : (a1.toList != ([116] : List UInt8)) = true := bne_iff_ne.mpr c23
      by_cases c27 : a1.toList = ([118] : List UInt8)
      ·rw [if_pos c27] at H
       have c27b0 : (a1.toList == ([118] : List UInt8)) = true := beq_iff_eq.mpr c27
       have c27b1 : (a1.toList != ([118] : List UInt8)) = false := bne_eq_false_iff_eq.mpr c27
       clear c27
       replace H := Option.bind_eq_some_iff.mp H
       obtain ⟨t196, A280, H⟩ := H
       try dsimp only at H
       have A28 := Aside0.mk A280
       clear A280
       simp only [Option.some.injEq, Prod.mk.injEq] at H
       obtain ⟨rfl, rfl, rfl, rfl⟩ := H
       have hnb29 := NB193_194.out
       have hnc29 := NB194_193.out
       obtain ⟨hcz30_0, hcz30_1, hcz30_2, hcz30_3, hcz30_4, hcz30_5, hcz30_6, hcz30_7, hcz30_8, hfz30_0, hfz30_1, hfz30_2, hfz30_3, hfz30_4, hfz30_5, hfz30_6, hfz30_7, hfz30_8⟩ := BK193.c9
       go_wp2_with (first | ((with_reducible refine gate_callee (f := 18) rfl ?_); refine gL_ (some 37) Tryz.func18 #[.int .i64 a0_4] ?_; (with_reducible refine (strconv_Itoa.calls a0_4 t196 _ (TB.below HTB.out hb_) A28.out).mono ?_); rintro e w31 ⟨rfl, hb⟩; refine ⟨_, rfl, ?_⟩; replace BK193 := BK193.bl hb; replace BK194 := BK194.bl hb; replace HB := Aside0.mk (below_step hb_ hb); obtain ⟨hcz32_0, hcz32_1, hcz32_2, hfz32_0, hfz32_1, hfz32_2⟩ := BK194.c3))
       refine bodyPost_ret (results_ct rfl _ _ gb194 23 #[.bool false, .string t196, .string (⟨#[]⟩ : ByteArray)] (0, 0) _ rfl (by refine put3_ (cs := #[.bool false, .string (⟨#[]⟩ : ByteArray), .string (⟨#[]⟩ : ByteArray)]) ?_; exact BK194.out) Tryz.underlying23 rfl (by kernel_rfl)) rfl ?_
       exact fin_
      ·rw [if_neg c27] at H
       have c27b0 : (a1.toList == ([118] : List UInt8)) = false := beq_eq_false_iff_ne.mpr c27
       have c27b1 : (a1.toList != ([118] : List UInt8)) = true := bne_iff_ne.mpr c27
       by_cases c33 : a1.toList = ([119] : List UInt8)
       ·rw [if_pos c33] at H
        have c33b0 : (a1.toList == ([119] : List UInt8)) = true := beq_iff_eq.mpr c33
        have c33b1 : (a1.toList != ([119] : List UInt8)) = false := bne_eq_false_iff_eq.mpr c33
        clear c33
        replace H := Option.bind_eq_some_iff.mp H
        obtain ⟨t197, A340, H⟩ := H
        try dsimp only at H
        have A34 := Aside0.mk A340
        clear A340
        simp only [Option.some.injEq, Prod.mk.injEq] at H
        obtain ⟨rfl, rfl, rfl, rfl⟩ := H
        have hnb35 := NB193_194.out
        have hnc35 := NB194_193.out
        obtain ⟨hcz36_0, hcz36_1, hcz36_2, hcz36_3, hcz36_4, hcz36_5, hcz36_6, hcz36_7, hcz36_8, hfz36_0, hfz36_1, hfz36_2, hfz36_3, hfz36_4, hfz36_5, hfz36_6, hfz36_7, hfz36_8⟩ := BK193.c9
        go_wp2_with (first | ((with_reducible refine gate_callee (f := 18) rfl ?_); refine gL_ (some 43) Tryz.func18 #[.int .i64 a0_5] ?_; (with_reducible refine (strconv_Itoa.calls a0_5 t197 _ (TB.below HTB.out hb_) A34.out).mono ?_); rintro e w37 ⟨rfl, hb⟩; refine ⟨_, rfl, ?_⟩; replace BK193 := BK193.bl hb; replace BK194 := BK194.bl hb; replace HB := Aside0.mk (below_step hb_ hb); obtain ⟨hcz38_0, hcz38_1, hcz38_2, hfz38_0, hfz38_1, hfz38_2⟩ := BK194.c3))
        refine bodyPost_ret (results_ct rfl _ _ gb194 23 #[.bool false, .string t197, .string (⟨#[]⟩ : ByteArray)] (0, 0) _ rfl (by refine put3_ (cs := #[.bool false, .string (⟨#[]⟩ : ByteArray), .string (⟨#[]⟩ : ByteArray)]) ?_; exact BK194.out) Tryz.underlying23 rfl (by kernel_rfl)) rfl ?_
        exact fin_
       ·rw [if_neg c33] at H
        have c33b0 : (a1.toList == ([119] : List UInt8)) = false := beq_eq_false_iff_ne.mpr c33
        have c33b1 : (a1.toList != ([119] : List UInt8)) = true := bne_iff_ne.mpr c33
        by_cases c39 : a1.toList = ([99] : List UInt8)
        ·rw [if_pos c39] at H
         have c39b0 : (a1.toList == ([99] : List UInt8)) = true := beq_iff_eq.mpr c39
         have c39b1 : (a1.toList != ([99] : List UInt8)) = false := bne_eq_false_iff_eq.mpr c39
         clear c39
         replace H := Option.bind_eq_some_iff.mp H
         obtain ⟨t198, A400, H⟩ := H
         try dsimp only at H
         have A40 := Aside0.mk A400
         clear A400
         simp only [Option.some.injEq, Prod.mk.injEq] at H
         obtain ⟨rfl, rfl, rfl, rfl⟩ := H
         have hnb41 := NB193_194.out
         have hnc41 := NB194_193.out
         obtain ⟨hcz42_0, hcz42_1, hcz42_2, hcz42_3, hcz42_4, hcz42_5, hcz42_6, hcz42_7, hcz42_8, hfz42_0, hfz42_1, hfz42_2, hfz42_3, hfz42_4, hfz42_5, hfz42_6, hfz42_7, hfz42_8⟩ := BK193.c9
         go_wp2_with (first | ((with_reducible refine gate_callee (f := 18) rfl ?_); refine gL_ (some 50) Tryz.func18 #[.int .i64 a0_8] ?_; (with_reducible refine (strconv_Itoa.calls a0_8 t198 _ (TB.below HTB.out hb_) A40.out).mono ?_); rintro e w43 ⟨rfl, hb⟩; refine ⟨_, rfl, ?_⟩; replace BK193 := BK193.bl hb; replace BK194 := BK194.bl hb; replace HB := Aside0.mk (below_step hb_ hb); obtain ⟨hcz44_0, hcz44_1, hcz44_2, hfz44_0, hfz44_1, hfz44_2⟩ := BK194.c3))
         refine bodyPost_ret (results_ct rfl _ _ gb194 23 #[.bool false, .string t198, .string (⟨#[]⟩ : ByteArray)] (0, 0) _ rfl (by refine put3_ (cs := #[.bool false, .string (⟨#[]⟩ : ByteArray), .string (⟨#[]⟩ : ByteArray)]) ?_; exact BK194.out) Tryz.underlying23 rfl (by kernel_rfl)) rfl ?_
         exact fin_
        ·rw [if_neg c39] at H
         have c39b0 : (a1.toList == ([99] : List UInt8)) = false := beq_eq_false_iff_ne.mpr c39
         have c39b1 : (a1.toList != ([99] : List UInt8)) = true := bne_iff_ne.mpr c39
         by_cases c45 : a1.toList = ([101] : List UInt8)
         ·rw [if_pos c45] at H
          have c45b0 : (a1.toList == ([101] : List UInt8)) = true := beq_iff_eq.mpr c45
          have c45b1 : (a1.toList != ([101] : List UInt8)) = false := bne_eq_false_iff_eq.mpr c45
          clear c45
          replace H := Option.bind_eq_some_iff.mp H
          obtain ⟨t199, A460, H⟩ := H
          try dsimp only at H
          have A46 := Aside0.mk A460
          clear A460
          simp only [Option.some.injEq, Prod.mk.injEq] at H
          obtain ⟨rfl, rfl, rfl, rfl⟩ := H
          have hnb47 := NB193_194.out
          have hnc47 := NB194_193.out
          obtain ⟨hcz48_0, hcz48_1, hcz48_2, hcz48_3, hcz48_4, hcz48_5, hcz48_6, hcz48_7, hcz48_8, hfz48_0, hfz48_1, hfz48_2, hfz48_3, hfz48_4, hfz48_5, hfz48_6, hfz48_7, hfz48_8⟩ := BK193.c9
          go_wp2_with (first | ((with_reducible refine gate_callee (f := 18) rfl ?_); refine gL_ (some 50) Tryz.func18 #[.int .i64 a0_8] ?_; (with_reducible refine (strconv_Itoa.calls a0_8 t199 _ (TB.below HTB.out hb_) A46.out).mono ?_); rintro e w49 ⟨rfl, hb⟩; refine ⟨_, rfl, ?_⟩; replace BK193 := BK193.bl hb; replace BK194 := BK194.bl hb; replace HB := Aside0.mk (below_step hb_ hb); obtain ⟨hcz50_0, hcz50_1, hcz50_2, hfz50_0, hfz50_1, hfz50_2⟩ := BK194.c3))
          refine bodyPost_ret (results_ct rfl _ _ gb194 23 #[.bool false, .string t199, .string (⟨#[]⟩ : ByteArray)] (0, 0) _ rfl (by refine put3_ (cs := #[.bool false, .string (⟨#[]⟩ : ByteArray), .string (⟨#[]⟩ : ByteArray)]) ?_; exact BK194.out) Tryz.underlying23 rfl (by kernel_rfl)) rfl ?_
          exact fin_
         ·rw [if_neg c45] at H
          have c45b0 : (a1.toList == ([101] : List UInt8)) = false := beq_eq_false_iff_ne.mpr c45
          have c45b1 : (a1.toList != ([101] : List UInt8)) = true := bne_iff_ne.mpr c45
          simp only [Option.some.injEq, Prod.mk.injEq] at H
          obtain ⟨rfl, rfl, rfl, rfl⟩ := H
          have hnb51 := NB194_193.out
          have hnc51 := NB193_194.out
          obtain ⟨hcz52_0, hcz52_1, hcz52_2, hfz52_0, hfz52_1, hfz52_2⟩ := BK194.c3
          go_wp2
          refine bodyPost_ret (results_ct rfl _ _ gb194 23 #[.bool false, .string (⟨#[]⟩ : ByteArray), .string (⟨#[]⟩ : ByteArray)] (0, 0) _ rfl (by refine put3_ (cs := #[.bool false, .string (⟨#[]⟩ : ByteArray), .string (⟨#[]⟩ : ByteArray)]) ?_; exact BK194.out) Tryz.underlying23 rfl (by kernel_rfl)) rfl ?_
          exact fin_
 ·rw [if_neg c10] at H
  have c10b0 : (t195 == 0) = false := beq_eq_false_iff_ne.mpr c10
  have c10b1 : (t195 != 0) = true := bne_iff_ne.mpr c10
  (first | rw [c10b0] | (simp only [i64_w, i32_w]; rw [c10b0]) | rw [c10b1] | skip)
  simp only [Option.some.injEq, Prod.mk.injEq] at H
  obtain ⟨rfl, rfl, rfl, rfl⟩ := H
  have hnb53 := NB194_193.out
  have hnc53 := NB193_194.out
  obtain ⟨hcz54_0, hcz54_1, hcz54_2, hfz54_0, hfz54_1, hfz54_2⟩ := BK194.c3
  go_wp2
  refine bodyPost_ret (results_ct rfl _ _ gb194 23 #[.bool false, .string (⟨#[]⟩ : ByteArray), .string (⟨#[]⟩ : ByteArray)] (0, 0) _ rfl (by refine put3_ (cs := #[.bool false, .string (⟨#[]⟩ : ByteArray), .string (⟨#[]⟩ : ByteArray)]) ?_; exact BK194.out) Tryz.underlying23 rfl (by kernel_rfl)) rfl ?_
  exact fin_
attribute [local go_sem] max2_int max_two
set_option linter.unusedVariables false
set_option linter.unusedSimpArgs false
def operand_Mod.f (k : Nat) (a0_0 : Bool) (a0_1 : ByteArray) (a0_2 : ByteArray) (a0_3 : ByteArray) (a0_4 : Int) (a0_5 : Int) (a0_6 : ByteArray) (a0_7 : ByteArray) (a0_8 : Int) (a1 : ByteArray) (a2 : ByteArray) : Option (Bool × ByteArray × ByteArray × Int) := (operand_Get.f k a0_0 a0_1 a0_2 a0_3 a0_4 a0_5 a0_6 a0_7 a0_8 a1).bind fun bt402 => (if bt402.2.2.2 = 0 then (if a2.toList = ([] : List UInt8) then (some (bt402.1, bt402.2.1, bt402.2.2.1, 0)) else ((operand_number.f a2).bind fun t407 => (if t407 = true then (if a2.toList = ([48] : List UInt8) then (some (false, (⟨#[]⟩ : ByteArray), (⟨#[]⟩ : ByteArray), 40)) else ((decimal_Rem.f k bt402.1 bt402.2.1 bt402.2.2.1 false a2 (⟨#[]⟩ : ByteArray)).bind fun bt408 => (some (bt408.1, bt408.2.1, bt408.2.2.1, bt408.2.2.2)))) else (some (false, (⟨#[]⟩ : ByteArray), (⟨#[]⟩ : ByteArray), 40))))) else (some (false, (⟨#[]⟩ : ByteArray), (⟨#[]⟩ : ByteArray), bt402.2.2.2)))
set_option maxHeartbeats 8000000 in
set_option maxRecDepth 100000 in
theorem operand_Mod.calls (k : Nat) (a0_0 : Bool) (a0_1 : ByteArray) (a0_2 : ByteArray) (a0_3 : ByteArray) (a0_4 : Int) (a0_5 : Int) (a0_6 : ByteArray) (a0_7 : ByteArray) (a0_8 : Int) (a1 : ByteArray) (a2 : ByteArray) (r1 : Bool) (r2 : ByteArray) (r3 : ByteArray) (r4 : Int) (w : World) (ht : TB w) (h : operand_Mod.f k a0_0 a0_1 a0_2 a0_3 a0_4 a0_5 a0_6 a0_7 a0_8 a1 a2 = some (r1, r2, r3, r4)) :
    Calls Tryz.prog 8 #[.agg #[.bool a0_0, .string a0_1, .string a0_2, .string a0_3, .int .i64 a0_4, .int .i64 a0_5, .string a0_6, .string a0_7, .int .i64 a0_8], .string a1, .string a2] w fun e w' => e = .returned (.tuple #[.agg #[.bool r1, .string r2, .string r3], .int .i64 r4]) ∧ Below w.heap.size w w' := by
 have hu25 := Tryz.underlying25
 have hu23 := Tryz.underlying23
 have HTB := Aside0.mk ht
 clear ht
 have HB := Aside0.mk (Below.refl w.heap.size w)
 unfold operand_Mod.f at h
 have H := h
 clear h
 replace H := Option.bind_eq_some_iff.mp H
 obtain ⟨⟨t402, t403, t404, t405⟩, A40, H⟩ := H
 try dsimp only at H
 have A4 := Aside0.mk A40
 clear A40
 have HF5 := Aside0.mk H
 clear H
 go_enter Tryz.func8, Tryz.ntmps8
 go_upto_if 17 with (first | ((with_reducible refine gate_dst (N := 3) rfl ?_); refine bx_ #[.bool a0_0, .string a0_1, .string a0_2, .string a0_3, .int .i64 a0_4, .int .i64 a0_5, .string a0_6, .string a0_7, .int .i64 a0_8] 25 ?_; intro gb400 hg w6 hbox hb; have BK400 := Aside0.mk (hbox); have GW400 := ge_ (w := w) hg; have GE400 := ge_ (w := w) hg; replace HB := Aside0.mk (below_step hb_ hb); clear hb hbox hg) | ((with_reducible refine gate_dst (N := 6) rfl ?_); refine bx_ #[.bool false, .string (⟨#[]⟩ : ByteArray), .string (⟨#[]⟩ : ByteArray)] 23 ?_; intro gb401 hg w7 hbox hb; have BK401 := Aside0.mk (hbox); have GW401 := ge_ (w := w) hg; have GE401 := ge_ (w := w) hg; have NB400_401 := BK400.nl hg; have NB401_400 := BK400.ng hg; replace BK400 := BK400.bl hb; replace HB := Aside0.mk (below_step hb_ hb); clear hb hbox hg; have hnb8 := NB400_401.out; have hnc8 := NB401_400.out; obtain ⟨hcz9_0, hcz9_1, hcz9_2, hcz9_3, hcz9_4, hcz9_5, hcz9_6, hcz9_7, hcz9_8, hfz9_0, hfz9_1, hfz9_2, hfz9_3, hfz9_4, hfz9_5, hfz9_6, hfz9_7, hfz9_8⟩ := BK400.c9) | ((with_reducible refine gate_callee (f := 5) rfl ?_); refine gL_ (some 13) Tryz.func5 #[.agg #[.bool a0_0, .string a0_1, .string a0_2, .string a0_3, .int .i64 a0_4, .int .i64 a0_5, .string a0_6, .string a0_7, .int .i64 a0_8], .string a1] ?_; (with_reducible refine (operand_Get.calls k a0_0 a0_1 a0_2 a0_3 a0_4 a0_5 a0_6 a0_7 a0_8 a1 t402 t403 t404 t405 _ (TB.below HTB.out hb_) A4.out).mono ?_); rintro e w10 ⟨rfl, hb⟩; refine ⟨_, rfl, ?_⟩; replace BK400 := BK400.bl hb; replace BK401 := BK401.bl hb; replace HB := Aside0.mk (below_step hb_ hb)) | ((with_reducible refine gate_dst (N := 8) rfl ?_); refine bx_ #[.bool false, .string (⟨#[]⟩ : ByteArray), .string (⟨#[]⟩ : ByteArray)] 23 ?_; intro gb406 hg w11 hbox hb; have BK406 := Aside0.mk (hbox); have GW406 := ge_ (w := w) hg; have GE406 := ge_ (w := w) hg; have NB400_406 := BK400.nl hg; have NB406_400 := BK400.ng hg; have NB401_406 := BK401.nl hg; have NB406_401 := BK401.ng hg; replace BK400 := BK400.bl hb; replace BK401 := BK401.bl hb; replace HB := Aside0.mk (below_step hb_ hb); clear hb hbox hg; have hnb12 := NB406_400.out; have hnc12 := NB400_406.out; have hnb13 := NB406_401.out; have hnc13 := NB401_406.out; obtain ⟨hcz14_0, hcz14_1, hcz14_2, hfz14_0, hfz14_1, hfz14_2⟩ := BK406.c3))
 (try simp only [Act.put, List.setIfInBounds_toArray, List.set_cons_zero, List.set_cons_succ])
 have H := HF5.out
 clear HF5
 by_cases c15 : t405 = 0
 ·rw [if_pos c15] at H
  have c15b0 : (t405 == 0) = true := beq_iff_eq.mpr c15
  have c15b1 : (t405 != 0) = false := bne_eq_false_iff_eq.mpr c15
  clear c15
  (first | rw [c15b0] | (simp only [i64_w, i32_w]; rw [c15b0]) | rw [c15b1] | skip)
  by_cases c16 : a2.toList = ([] : List UInt8)
  ·rw [if_pos c16] at H
   have c16b0 : (a2.toList == ([] : List UInt8)) = true := beq_iff_eq.mpr c16
   have c16b1 : (a2.toList != ([] : List UInt8)) = false := bne_eq_false_iff_eq.mpr c16
   clear c16
   simp only [Option.some.injEq, Prod.mk.injEq] at H
   obtain ⟨rfl, rfl, rfl, rfl⟩ := H
   have hnb17 := NB406_400.out
   have hnc17 := NB400_406.out
   have hnb18 := NB406_401.out
   have hnc18 := NB401_406.out
   obtain ⟨hcz19_0, hcz19_1, hcz19_2, hfz19_0, hfz19_1, hfz19_2⟩ := BK406.c3
   have hnb20 := NB401_400.out
   have hnc20 := NB400_401.out
   obtain ⟨hcz21_0, hcz21_1, hcz21_2, hfz21_0, hfz21_1, hfz21_2⟩ := BK401.c3
   go_wp2
   refine bodyPost_ret (results_ct rfl _ _ gb401 23 #[.bool t402, .string t403, .string t404] (0, 0) _ rfl (by refine put3_ (cs := #[.bool false, .string (⟨#[]⟩ : ByteArray), .string (⟨#[]⟩ : ByteArray)]) ?_; refine far3_ ?_ NB401_406.out; exact BK401.out) Tryz.underlying23 rfl (by kernel_rfl)) rfl ?_
   exact fin_
  ·rw [if_neg c16] at H
   have c16b0 : (a2.toList == ([] : List UInt8)) = false := beq_eq_false_iff_ne.mpr c16
   have c16b1 : (a2.toList != ([] : List UInt8)) = true := bne_iff_ne.mpr c16
   replace H := Option.bind_eq_some_iff.mp H
   obtain ⟨t407, A220, H⟩ := H
   try dsimp only at H
   have A22 := Aside0.mk A220
   clear A220
   by_cases c23 : t407 = true
   ·subst c23
    have H1 : (if a2.toList = ([48] : List UInt8) then (some (false, (⟨#[]⟩ : ByteArray), (⟨#[]⟩ : ByteArray), 40)) else ((decimal_Rem.f k t402 t403 t404 false a2 (⟨#[]⟩ : ByteArray)).bind fun bt408 => (some (bt408.1, bt408.2.1, bt408.2.2.1, bt408.2.2.2)))) = some (r1, r2, r3, r4) := by rw [if_pos rfl] at H; exact H
    clear H
    have H := H1
    clear H1
    have HF24 := Aside0.mk H
    clear H
    go_upto_if 29 with (first | ((with_reducible refine gate_callee (f := 19) rfl ?_); refine gL_ (some 24) Tryz.func19 #[.string a2] ?_; (with_reducible refine (operand_number.calls a2 true _ A22.out).mono ?_); rintro e w25 ⟨rfl, hb⟩; refine ⟨_, rfl, ?_⟩; replace BK400 := Aside0.mk (blk_below (g := gb400) (o := .cells #[.bool a0_0, .string a0_1, .string a0_2, .string a0_3, .int .i64 a0_4, .int .i64 a0_5, .string a0_6, .string a0_7, .int .i64 a0_8] 25 (0, 0)) (by refine far3_ ?_ NB400_406.out; exact BK400.out) hb); replace BK401 := Aside0.mk (blk_below (g := gb401) (o := .cells #[.bool false, .string (⟨#[]⟩ : ByteArray), .string (⟨#[]⟩ : ByteArray)] 23 (0, 0)) (by refine far3_ ?_ NB401_406.out; exact BK401.out) hb); replace BK406 := Aside0.mk (blk_below (g := gb406) (o := .cells #[.bool t402, .string t403, .string t404] 23 (0, 0)) (by refine put3_ (cs := #[.bool false, .string (⟨#[]⟩ : ByteArray), .string (⟨#[]⟩ : ByteArray)]) ?_; exact BK406.out) hb); replace HB := Aside0.mk (below_step hb_ hb)))
    (try simp only [Act.put, List.setIfInBounds_toArray, List.set_cons_zero, List.set_cons_succ])
    have H := HF24.out
    clear HF24
    by_cases c26 : a2.toList = ([48] : List UInt8)
    ·rw [if_pos c26] at H
     have c26b0 : (a2.toList == ([48] : List UInt8)) = true := beq_iff_eq.mpr c26
     have c26b1 : (a2.toList != ([48] : List UInt8)) = false := bne_eq_false_iff_eq.mpr c26
     clear c26
     (first | rw [c26b0] | (simp only [i64_w, i32_w]; rw [c26b0]) | rw [c26b1] | skip)
     simp only [Option.some.injEq, Prod.mk.injEq] at H
     obtain ⟨rfl, rfl, rfl, rfl⟩ := H
     have hnb27 := NB401_400.out
     have hnc27 := NB400_401.out
     have hnb28 := NB401_406.out
     have hnc28 := NB406_401.out
     obtain ⟨hcz29_0, hcz29_1, hcz29_2, hfz29_0, hfz29_1, hfz29_2⟩ := BK401.c3
     go_wp2
     refine bodyPost_ret (results_ct rfl _ _ gb401 23 #[.bool false, .string (⟨#[]⟩ : ByteArray), .string (⟨#[]⟩ : ByteArray)] (0, 0) _ rfl (by refine put3_ (cs := #[.bool false, .string (⟨#[]⟩ : ByteArray), .string (⟨#[]⟩ : ByteArray)]) ?_; exact BK401.out) Tryz.underlying23 rfl (by kernel_rfl)) rfl ?_
     exact fin_
    ·rw [if_neg c26] at H
     have c26b0 : (a2.toList == ([48] : List UInt8)) = false := beq_eq_false_iff_ne.mpr c26
     have c26b1 : (a2.toList != ([48] : List UInt8)) = true := bne_iff_ne.mpr c26
     (first | rw [c26b0] | (simp only [i64_w, i32_w]; rw [c26b0]) | rw [c26b1] | skip)
     replace H := Option.bind_eq_some_iff.mp H
     obtain ⟨⟨t408, t409, t410, t411⟩, A300, H⟩ := H
     try dsimp only at H
     have A30 := Aside0.mk A300
     clear A300
     simp only [Option.some.injEq, Prod.mk.injEq] at H
     obtain ⟨rfl, rfl, rfl, rfl⟩ := H
     have hnb31 := NB406_400.out
     have hnc31 := NB400_406.out
     have hnb32 := NB406_401.out
     have hnc32 := NB401_406.out
     obtain ⟨hcz33_0, hcz33_1, hcz33_2, hfz33_0, hfz33_1, hfz33_2⟩ := BK406.c3
     go_wp2_with (first | ((with_reducible refine gate_callee (f := 20) rfl ?_); refine gL_ (some 34) Tryz.func20 #[.agg #[.bool t402, .string t403, .string t404], .agg #[.bool false, .string a2, .string (⟨#[]⟩ : ByteArray)]] ?_; (with_reducible refine (decimal_Rem.calls k t402 t403 t404 false a2 (⟨#[]⟩ : ByteArray) t408 t409 t410 t411 _ A30.out).mono ?_); rintro e w34 ⟨rfl, hb⟩; refine ⟨_, rfl, ?_⟩; replace BK400 := BK400.bl hb; replace BK401 := BK401.bl hb; replace BK406 := BK406.bl hb; replace HB := Aside0.mk (below_step hb_ hb); have hnb35 := NB401_400.out; have hnc35 := NB400_401.out; obtain ⟨hcz36_0, hcz36_1, hcz36_2, hfz36_0, hfz36_1, hfz36_2⟩ := BK401.c3))
     refine bodyPost_ret (results_ct rfl _ _ gb401 23 #[.bool t408, .string t409, .string t410] (0, 0) _ rfl (by refine put3_ (cs := #[.bool false, .string (⟨#[]⟩ : ByteArray), .string (⟨#[]⟩ : ByteArray)]) ?_; exact BK401.out) Tryz.underlying23 rfl (by kernel_rfl)) rfl ?_
     exact fin_
   ·replace c23 := Bool.eq_false_iff.mpr c23
    subst c23
    have H1 : (some (false, (⟨#[]⟩ : ByteArray), (⟨#[]⟩ : ByteArray), 40)) = some (r1, r2, r3, r4) := by rw [if_neg (show ¬ (false = true) by decide)] at H; exact H
    clear H
    have H := H1
    clear H1
    simp only [Option.some.injEq, Prod.mk.injEq] at H
    obtain ⟨rfl, rfl, rfl, rfl⟩ := H
    go_wp2_with (first | ((with_reducible refine gate_callee (f := 19) rfl ?_); refine gL_ (some 24) Tryz.func19 #[.string a2] ?_; (with_reducible refine (operand_number.calls a2 false _ A22.out).mono ?_); rintro e w37 ⟨rfl, hb⟩; refine ⟨_, rfl, ?_⟩; replace BK400 := Aside0.mk (blk_below (g := gb400) (o := .cells #[.bool a0_0, .string a0_1, .string a0_2, .string a0_3, .int .i64 a0_4, .int .i64 a0_5, .string a0_6, .string a0_7, .int .i64 a0_8] 25 (0, 0)) (by refine far3_ ?_ NB400_406.out; exact BK400.out) hb); replace BK401 := Aside0.mk (blk_below (g := gb401) (o := .cells #[.bool false, .string (⟨#[]⟩ : ByteArray), .string (⟨#[]⟩ : ByteArray)] 23 (0, 0)) (by refine far3_ ?_ NB401_406.out; exact BK401.out) hb); replace BK406 := Aside0.mk (blk_below (g := gb406) (o := .cells #[.bool t402, .string t403, .string t404] 23 (0, 0)) (by refine put3_ (cs := #[.bool false, .string (⟨#[]⟩ : ByteArray), .string (⟨#[]⟩ : ByteArray)]) ?_; exact BK406.out) hb); replace HB := Aside0.mk (below_step hb_ hb); have hnb38 := NB401_400.out; have hnc38 := NB400_401.out; have hnb39 := NB401_406.out; have hnc39 := NB406_401.out; obtain ⟨hcz40_0, hcz40_1, hcz40_2, hfz40_0, hfz40_1, hfz40_2⟩ := BK401.c3))
    refine bodyPost_ret (results_ct rfl _ _ gb401 23 #[.bool false, .string (⟨#[]⟩ : ByteArray), .string (⟨#[]⟩ : ByteArray)] (0, 0) _ rfl (by refine put3_ (cs := #[.bool false, .string (⟨#[]⟩ : ByteArray), .string (⟨#[]⟩ : ByteArray)]) ?_; exact BK401.out) Tryz.underlying23 rfl (by kernel_rfl)) rfl ?_
    exact fin_
 ·rw [if_neg c15] at H
  have c15b0 : (t405 == 0) = false := beq_eq_false_iff_ne.mpr c15
  have c15b1 : (t405 != 0) = true := bne_iff_ne.mpr c15
  (first | rw [c15b0] | (simp only [i64_w, i32_w]; rw [c15b0]) | rw [c15b1] | skip)
  simp only [Option.some.injEq, Prod.mk.injEq] at H
  obtain ⟨rfl, rfl, rfl, rfl⟩ := H
  have hnb41 := NB401_400.out
  have hnc41 := NB400_401.out
  have hnb42 := NB401_406.out
  have hnc42 := NB406_401.out
  obtain ⟨hcz43_0, hcz43_1, hcz43_2, hfz43_0, hfz43_1, hfz43_2⟩ := BK401.c3
  go_wp2
  refine bodyPost_ret (results_ct rfl _ _ gb401 23 #[.bool false, .string (⟨#[]⟩ : ByteArray), .string (⟨#[]⟩ : ByteArray)] (0, 0) _ rfl (by refine put3_ (cs := #[.bool false, .string (⟨#[]⟩ : ByteArray), .string (⟨#[]⟩ : ByteArray)]) ?_; refine far3_ ?_ NB401_406.out; exact BK401.out) Tryz.underlying23 rfl (by kernel_rfl)) rfl ?_
  exact fin_
attribute [local go_sem] max2_int max_two
set_option linter.unusedVariables false
set_option linter.unusedSimpArgs false
def idiomref04_IsNumber.f (k : Nat) (a0 : ByteArray) : Option (Bool) := if (a0.size : Int) > 0 then (if (a0.size : Int) ≤ 40 then ((idiomref02_Digits.f k a0).bind fun t412 => (if t412 = true then (if 0 < (a0.size : Int) then (if (bt a0 0) = 48 then (some ((a0.size : Int) == 1)) else (some true)) else (none)) else (some false))) else (some false)) else (some false)
set_option maxHeartbeats 8000000 in
set_option maxRecDepth 100000 in
theorem idiomref04_IsNumber.calls (k : Nat) (a0 : ByteArray) (r : Bool) (w : World) (h : idiomref04_IsNumber.f k a0 = some r) :
    Calls Tryz.prog 21 #[.string a0] w fun e w' => e = .returned (.bool r) ∧ Drawn0 w w' := by
 unfold idiomref04_IsNumber.f at h
 have H := h
 clear h
 by_cases c2 : (a0.size : Int) > 0
 ·rw [if_pos c2] at H
  have c2b0 : decide (0 < (a0.size : Int)) = true := decide_eq_true c2
  have c2b1 : decide (0 < a0.size) = true := decide_eq_true (by omega)
  clear c2
  by_cases c3 : (a0.size : Int) ≤ 40
  ·rw [if_pos c3] at H
   have c3b0 : decide ((a0.size : Int) ≤ 40) = true := decide_eq_true c3
   have c3b1 : decide (a0.size ≤ 40) = true := decide_eq_true (by omega)
   clear c3
   replace H := Option.bind_eq_some_iff.mp H
   obtain ⟨t412, A40, H⟩ := H
   try dsimp only at H
   have A4 := Aside0.mk A40
   clear A40
   by_cases c5 : t412 = true
   ·subst c5
    have H1 : (if 0 < (a0.size : Int) then (if (bt a0 0) = 48 then (some ((a0.size : Int) == 1)) else (some true)) else (none)) = some r := by rw [if_pos rfl] at H; exact H
    clear H
    have H := H1
    clear H1
    by_cases c6 : 0 < (a0.size : Int)
    ·rw [if_pos c6] at H
     have c6b0 : decide (0 < (a0.size : Int)) = true := decide_eq_true c6
     have c6b1 : decide (0 < a0.size) = true := decide_eq_true (by omega)
     clear c6
     by_cases c8 : (bt a0 0) = 48
     ·rw [if_pos c8] at H
      have c8b0 : ((bt a0 0) == 48) = true := beq_iff_eq.mpr c8
      have c8b1 : ((bt a0 0) != 48) = false := bne_eq_false_iff_eq.mpr c8
      clear c8
      obtain rfl := Option.some.inj H
      go_enter Tryz.func21, Tryz.ntmps21
      go_wp2_with (first | (go_at_call 43; (with_reducible refine (idiomref02_Digits.calls k a0 true _ A4.out).mono ?_); rintro e w' ⟨rfl, ⟨nd, rfl⟩⟩; have p7 : 0 ≤ (0 : Int) := (by omega); have q7 : 0 < a0.size := (by have : (0 : Int) < (a0.size : Int) := of_decide_eq_true (by first | (with_reducible assumption) | assumption); omega); have hx7 : ∀ h : 0 < a0.size, ((a0[0]'h).toNat : Int) = bt a0 0 := bt_at a0 0; clear p7; have qi7 : (0 < (a0.size : Int)) = True := eq_true (of_decide_eq_true (by first | (with_reducible assumption) | assumption)); replace q7 := eq_true q7))
      go_ret
      exact ⟨by first | rfl | (simp; done) | (simp [*]; done), by repeat (first | exact Drawn0.refl _ | apply Drawn0.step)⟩
     ·rw [if_neg c8] at H
      have c8b0 : ((bt a0 0) == 48) = false := beq_eq_false_iff_ne.mpr c8
      have c8b1 : ((bt a0 0) != 48) = true := bne_iff_ne.mpr c8
      obtain rfl := Option.some.inj H
      go_enter Tryz.func21, Tryz.ntmps21
      go_wp2_with (first | (go_at_call 43; (with_reducible refine (idiomref02_Digits.calls k a0 true _ A4.out).mono ?_); rintro e w' ⟨rfl, ⟨nd, rfl⟩⟩; have p7 : 0 ≤ (0 : Int) := (by omega); have q7 : 0 < a0.size := (by have : (0 : Int) < (a0.size : Int) := of_decide_eq_true (by first | (with_reducible assumption) | assumption); omega); have hx7 : ∀ h : 0 < a0.size, ((a0[0]'h).toNat : Int) = bt a0 0 := bt_at a0 0; clear p7; have qi7 : (0 < (a0.size : Int)) = True := eq_true (of_decide_eq_true (by first | (with_reducible assumption) | assumption)); replace q7 := eq_true q7))
      go_ret
      exact ⟨by first | rfl | (simp; done) | (simp [*]; done), by repeat (first | exact Drawn0.refl _ | apply Drawn0.step)⟩
    ·rw [if_neg c6] at H
     exact absurd H (by simp)
   ·replace c5 := Bool.eq_false_iff.mpr c5
    subst c5
    have H1 : (some false) = some r := by rw [if_neg (show ¬ (false = true) by decide)] at H; exact H
    clear H
    have H := H1
    clear H1
    obtain rfl := Option.some.inj H
    go_enter Tryz.func21, Tryz.ntmps21
    go_wp2_with (first | (go_at_call 43; (with_reducible refine (idiomref02_Digits.calls k a0 false _ A4.out).mono ?_); rintro e w' ⟨rfl, ⟨nd, rfl⟩⟩))
    go_ret
    exact ⟨by first | rfl | (simp; done) | (simp [*]; done), by repeat (first | exact Drawn0.refl _ | apply Drawn0.step)⟩
  ·rw [if_neg c3] at H
   have c3b0 : decide ((a0.size : Int) ≤ 40) = false := decide_eq_false c3
   have c3b1 : decide (a0.size ≤ 40) = false := decide_eq_false (by omega)
   clear c3
   obtain rfl := Option.some.inj H
   go_enter Tryz.func21, Tryz.ntmps21
   go_wp2
   go_ret
   exact ⟨by first | rfl | (simp; done) | (simp [*]; done), by repeat (first | exact Drawn0.refl _ | apply Drawn0.step)⟩
 ·rw [if_neg c2] at H
  have c2b0 : decide (0 < (a0.size : Int)) = false := decide_eq_false c2
  have c2b1 : decide (0 < a0.size) = false := decide_eq_false (by omega)
  clear c2
  obtain rfl := Option.some.inj H
  go_enter Tryz.func21, Tryz.ntmps21
  go_wp2
  go_ret
  exact ⟨by first | rfl | (simp; done) | (simp [*]; done), by repeat (first | exact Drawn0.refl _ | apply Drawn0.step)⟩
end Go.Proofs.YtihjcaglhjepdaaGreatDoor.P
