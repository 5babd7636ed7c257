/- A part of the proof. Part 3 of 6; its texts were written by programs, some out of the kit's print. -/
import Derived.Test.YtihjcaglhjepdaaDoorZOp1
namespace Go.Proofs.YtihjcaglhjepdaaDoor.P
open Go.RowKit Go.Proofs.YtihjcaglhjepdaaDoorW.PrintWords Go.Proofs.YtihjcaglhjepdaaDoorW.PrintLast Go.Proofs.YtihjcaglhjepdaaDoorW.PrintMore
attribute [local go_sem] max2_int max_two
set_option linter.unusedVariables false
set_option linter.unusedSimpArgs false
def operand_Of.j0 : Nat → Int → Bool → Bool → ByteArray → ByteArray → Option (Bool × ByteArray × ByteArray × ByteArray × Int × Int × ByteArray × ByteArray × Int × Int)
  | 0, _, _, _, _, _ => none
  | k + 1, x1, x21, x920000, x920001, x920002 => if x21 = true then (some (false, (⟨#[]⟩ : ByteArray), (⟨#[]⟩ : ByteArray), (⟨#[]⟩ : ByteArray), 0, 0, (⟨#[]⟩ : ByteArray), (⟨#[]⟩ : ByteArray), 0, 1)) else ((decimal_Shift.f k x920000 x920001 x920002 x1).bind fun bt922 => (if bt922.2.2.2 = 0 then ((decimal_Trim.f k false bt922.2.1 bt922.2.2.1).bind fun bt927 => (if bt927.2.2.2 = 0 then ((operand_whole.f k bt922.2.2.1).bind fun t932 => ((operand_whole.f k bt927.2.2.1).bind fun t933 => (some (bt927.1, bt927.2.1, bt927.2.2.1, bt922.2.1, (bt922.2.2.1.size : Int), (bt927.2.2.1.size : Int), t932, t933, x1, 0)))) else (some (false, (⟨#[]⟩ : ByteArray), (⟨#[]⟩ : ByteArray), (⟨#[]⟩ : ByteArray), 0, 0, (⟨#[]⟩ : ByteArray), (⟨#[]⟩ : ByteArray), 0, bt927.2.2.2)))) else (some (false, (⟨#[]⟩ : ByteArray), (⟨#[]⟩ : ByteArray), (⟨#[]⟩ : ByteArray), 0, 0, (⟨#[]⟩ : ByteArray), (⟨#[]⟩ : ByteArray), 0, bt922.2.2.2))))
def operand_Of.f (k : Nat) (a0_0 : Bool) (a0_1 : ByteArray) (a0_2 : ByteArray) (a1 : Int) : Option (Bool × ByteArray × ByteArray × ByteArray × Int × Int × ByteArray × ByteArray × Int × Int) := (decimal_Check.f k a0_0 a0_1 a0_2).bind fun t921 => (if t921 = 0 then (if a1 < 0 then (operand_Of.j0 k a1 true a0_0 a0_1 a0_2) else (operand_Of.j0 k a1 (decide (a1 > 40)) a0_0 a0_1 a0_2)) else (some (false, (⟨#[]⟩ : ByteArray), (⟨#[]⟩ : ByteArray), (⟨#[]⟩ : ByteArray), 0, 0, (⟨#[]⟩ : ByteArray), (⟨#[]⟩ : ByteArray), 0, t921)))
theorem operand_Of.mono_l : ∀ k, (∀ y0 y1 y2 y3 y4, LeO (operand_Of.j0 k y0 y1 y2 y3 y4) (operand_Of.j0 (k + 1) y0 y1 y2 y3 y4))
  | 0 => fun _ _ _ _ _ r h => by simp [operand_Of.j0] at h
  | k + 1 => by
    have ih0 := operand_Of.mono_l k
    · intro y0 y1 y2 y3 y4
      unfold operand_Of.j0
      repeat' first
      | (with_reducible exact ih0 _ _ _ _ _)
      | (with_reducible exact decimal_Check.mono _ _ _ _)
      | (with_reducible exact decimal_Shift.mono _ _ _ _ _)
      | (with_reducible exact decimal_Trim.mono _ _ _ _)
      | (with_reducible exact operand_whole.mono _ _)
      | (with_reducible exact LeO.refl _)
      | (with_reducible exact LeO.none _)
      | (with_reducible refine LeO.ite ?_ ?_)
      | (with_reducible refine LeO.bind ?_ (fun _ => ?_))
      | exact ih0 _ _ _ _ _
      | exact decimal_Check.mono _ _ _ _
      | exact decimal_Shift.mono _ _ _ _ _
      | exact decimal_Trim.mono _ _ _ _
      | exact operand_whole.mono _ _
      | exact LeO.none _
      | refine LeO.ite ?_ ?_
      | refine LeO.bind ?_ (fun _ => ?_)
theorem operand_Of.mono : ∀ a0 a1 a2 a3 k, LeO (operand_Of.f k a0 a1 a2 a3) (operand_Of.f (k + 1) a0 a1 a2 a3) := by
 intro a0 a1 a2 a3 k
 have ih0 := operand_Of.mono_l k
 unfold operand_Of.f
 repeat' first
   | (with_reducible exact ih0 _ _ _ _ _)
   | (with_reducible exact decimal_Check.mono _ _ _ _)
   | (with_reducible exact decimal_Shift.mono _ _ _ _ _)
   | (with_reducible exact decimal_Trim.mono _ _ _ _)
   | (with_reducible exact operand_whole.mono _ _)
   | (with_reducible exact LeO.refl _)
   | (with_reducible exact LeO.none _)
   | (with_reducible refine LeO.ite ?_ ?_)
   | (with_reducible refine LeO.bind ?_ (fun _ => ?_))
   | exact ih0 _ _ _ _ _
   | exact decimal_Check.mono _ _ _ _
   | exact decimal_Shift.mono _ _ _ _ _
   | exact decimal_Trim.mono _ _ _ _
   | exact operand_whole.mono _ _
   | exact LeO.none _
   | refine LeO.ite ?_ ?_
   | refine LeO.bind ?_ (fun _ => ?_)
def operand_Of.T13 : Bool × List (List Nat × List Nat) := (true, [([], []), ([], []), ([1], [1]), ([], []), ([3], [3]), ([4], [4]), ([], []), ([6], [6]), ([7], [7]), ([], []), ([9], [9]), ([10], [10]), ([], []), ([12], [12]), ([13, 11], [13]), ([], []), ([0, 2, 5, 8, 11, 14, 15], [0, 2, 5, 8, 11, 14, 15]), ([16, 14, 0, 1, 2, 3, 4, 5, 6, 7, 8, 9, 10, 11, 12, 13, 14, 15, 16], [16]), ([17, 0, 1, 2, 3, 4, 5, 6, 7, 8, 9, 10, 11, 12, 13, 14, 15, 16, 17], [])])
def operand_Of.B13 : List Nat := [0, 0, 2, 0, 8, 24, 0, 64, 192, 0, 512, 1536, 0, 4096, 15872, 0, 65535, 131071, 262143]
theorem operand_Of.tab13 : rtab .any (opsOf Tryd.f45 13) = operand_Of.T13 := by kernel_rfl
theorem operand_Of.bits13 : waitsOk operand_Of.T13.2 operand_Of.B13 = true := by kernel_rfl
set_option maxHeartbeats 8000000 in
set_option maxRecDepth 100000 in
theorem operand_Of.calls (k : Nat) (a0_0 : Bool) (a0_1 : ByteArray) (a0_2 : ByteArray) (a1 : Int) (r1 : Bool) (r2 : ByteArray) (r3 : ByteArray) (r4 : ByteArray) (r5 : Int) (r6 : Int) (r7 : ByteArray) (r8 : ByteArray) (r9 : Int) (r10 : Int) (w : World) (h : operand_Of.f k a0_0 a0_1 a0_2 a1 = some (r1, r2, r3, r4, r5, r6, r7, r8, r9, r10)) :
    Calls Tryd.prog 45 #[.agg #[.bool a0_0, .string a0_1, .string a0_2], .int .i64 a1] w fun e w' => e = .returned (.tuple #[.agg #[.bool r1, .string r2, .string r3, .string r4, .int .i64 r5, .int .i64 r6, .string r7, .string r8, .int .i64 r9], .int .i64 r10]) ∧ Below w.heap.size w w' := by
 have hu23 := Tryd.underlying23
 have hu45 := Tryd.underlying45
 have HB := Aside0.mk (Below.refl w.heap.size w)
 unfold operand_Of.f at h
 have H := h
 clear h
 replace H := Option.bind_eq_some_iff.mp H
 obtain ⟨t921, A30, H⟩ := H
 try dsimp only at H
 have A3 := Aside0.mk A30
 clear A30
 have HF4 := Aside0.mk H
 clear H
 go_enter Tryd.func45, Tryd.ntmps45
 go_upto_if 13 with (first | ((with_reducible refine gate_dst (N := 2) rfl ?_); refine bx_ #[.bool a0_0, .string a0_1, .string a0_2] 23 ?_; intro gb919 hg w5 hbox hb; have BK919 := Aside0.mk (hbox); have GW919 := Aside0.mk ((by rw [hg]; exact (below_size hb_) : w.heap.size ≤ gb919)); have GE919 := Aside0.mk ((by rw [hg]; exact (below_size hb_) : w.heap.size ≤ gb919)); replace HB := Aside0.mk (below_step hb_ hb); clear hb hbox hg) | ((with_reducible refine gate_dst (N := 4) rfl ?_); refine bx_ #[.bool false, .string (⟨#[]⟩ : ByteArray), .string (⟨#[]⟩ : ByteArray), .string (⟨#[]⟩ : ByteArray), .int .i64 0, .int .i64 0, .string (⟨#[]⟩ : ByteArray), .string (⟨#[]⟩ : ByteArray), .int .i64 0] 45 ?_; intro gb920 hg w6 hbox hb; have BK920 := Aside0.mk (hbox); have GW920 := Aside0.mk ((by rw [hg]; exact (below_size hb_) : w.heap.size ≤ gb920)); have GE920 := Aside0.mk ((by rw [hg]; exact (below_size hb_) : w.heap.size ≤ gb920)); have NB919_920 := BK919.nl hg; have NB920_919 := BK919.ng hg; replace BK919 := BK919.bl hb; replace HB := Aside0.mk (below_step hb_ hb); clear hb hbox hg; have hnb7 := NB919_920.out; have hnc7 := NB920_919.out; obtain ⟨hcz8_0, hcz8_1, hcz8_2, hfz8_0, hfz8_1, hfz8_2⟩ := BK919.c3) | ((with_reducible refine gate_callee (f := 19) rfl ?_); refine gL_ (some 11) Tryd.func19 #[.agg #[.bool a0_0, .string a0_1, .string a0_2]] ?_; (with_reducible refine (decimal_Check.calls k a0_0 a0_1 a0_2 t921 _ A3.out).mono ?_); rintro e w9 ⟨rfl, hb⟩; refine ⟨_, rfl, ?_⟩; replace BK919 := BK919.bl hb; replace BK920 := BK920.bl hb; replace HB := Aside0.mk (below_step hb_ hb)))
 (try simp only [Act.put, List.setIfInBounds_toArray, List.set_cons_zero, List.set_cons_succ])
 have H := HF4.out
 clear HF4
 by_cases c10 : t921 = 0
 ·rw [if_pos c10] at H
  have c10b0 : (t921 == 0) = true := beq_iff_eq.mpr c10
  have c10b1 : (t921 != 0) = false := bne_eq_false_iff_eq.mpr c10
  clear c10
  (first | rw [c10b0] | (simp only [i64_w, i32_w]; rw [c10b0]) | rw [c10b1] | skip)
  have HC11 := Aside0.mk H
  clear H
  go_upto_region 4 with (fail)
  go_cut [21] (fun v21 wc => ∃ (kq : Nat) (x21_10 : Bool), v21 = .bool x21_10 ∧ Aside0 (operand_Of.j0 kq a1 x21_10 a0_0 a0_1 a0_2 = some (r1, r2, r3, r4, r5, r6, r7, r8, r9, r10)) ∧ Aside0 (kq ≤ k) ∧ Aside0 (wc.heap[gb919]? = some (.cells #[.bool a0_0, .string a0_1, .string a0_2] 23 (0, 0))) ∧ Aside0 (wc.heap[gb920]? = some (.cells #[.bool false, .string (⟨#[]⟩ : ByteArray), .string (⟨#[]⟩ : ByteArray), .string (⟨#[]⟩ : ByteArray), .int .i64 0, .int .i64 0, .string (⟨#[]⟩ : ByteArray), .string (⟨#[]⟩ : ByteArray), .int .i64 0] 45 (0, 0))) ∧ Aside0 (Below w.heap.size w wc))
  case first =>
   have H := HC11.out
   clear HC11
   by_cases c12 : a1 < 0
   ·rw [if_pos c12] at H
    have c12b0 : decide (a1 < 0) = true := decide_eq_true c12
    clear c12
    (first | rw [c12b0] | (simp only [i64_w, i32_w]; rw [c12b0]) | skip)
    have H' := Aside0.mk H
    clear H
    go_wp2
    go_meet
    case rel => exact ⟨_, (true), (by first | rfl | (simp; done) | (simp [*]; done)), H', ⟨by first | omega | exact Nat.le_refl _⟩, ⟨by exact BK919.out⟩, ⟨by exact BK920.out⟩, ⟨by repeat (first | (with_reducible first | exact HB.out | apply below_alloc | apply pw_below_drewN | apply below_drew1 | refine below_set ?_ GE919.out | refine below_set ?_ GE920.out) | exact HB.out)⟩⟩
   ·rw [if_neg c12] at H
    have c12b0 : decide (a1 < 0) = false := decide_eq_false c12
    clear c12
    (first | rw [c12b0] | (simp only [i64_w, i32_w]; rw [c12b0]) | skip)
    have H' := Aside0.mk H
    clear H
    go_wp2
    go_meet
    case rel => exact ⟨_, (decide (a1 > 40)), (by first | rfl | (simp; done) | (simp [*]; done)), H', ⟨by first | omega | exact Nat.le_refl _⟩, ⟨by exact BK919.out⟩, ⟨by exact BK920.out⟩, ⟨by repeat (first | (with_reducible first | exact HB.out | apply below_alloc | apply pw_below_drewN | apply below_drew1 | refine below_set ?_ GE919.out | refine below_set ?_ GE920.out) | exact HB.out)⟩⟩
  case rest =>
   clear HC11
   (try clear c10); (try clear c10b0); (try clear c10b1); (try clear hcz8_0); (try clear hcz8_1); (try clear hcz8_2); (try clear hfz8_0); (try clear hfz8_1); (try clear hfz8_2)
   obtain ⟨kq, x21_10, rfl, HA, HJ10, BK919, BK920, HB⟩ := hcut
   cases kq with
   | zero => exact absurd HA.out (by simp [operand_Of.j0])
   | succ kj10 =>
    have H := HA.out
    clear HA
    simp only [operand_Of.j0] at H
    by_cases c13 : x21_10 = true
    ·subst c13
     have H1 : (some (false, (⟨#[]⟩ : ByteArray), (⟨#[]⟩ : ByteArray), (⟨#[]⟩ : ByteArray), 0, 0, (⟨#[]⟩ : ByteArray), (⟨#[]⟩ : ByteArray), 0, 1)) = some (r1, r2, r3, r4, r5, r6, r7, r8, r9, r10) := by rw [if_pos rfl] at H; exact H
     clear H
     have H := H1
     clear H1
     simp only [Option.some.injEq, Prod.mk.injEq] at H
     obtain ⟨rfl, rfl, rfl, rfl, rfl, rfl, rfl, rfl, rfl, rfl⟩ := H
     have hnb14 := NB920_919.out
     have hnc14 := NB919_920.out
     have hcz15_0 : wc.cell? ⟨gb920, 0, none⟩ = some (.bool false) := (blk_cell BK920.out 0).trans rfl
     have hcz15_1 : wc.cell? ⟨gb920, 1, none⟩ = some (.string (⟨#[]⟩ : ByteArray)) := (blk_cell BK920.out 1).trans rfl
     have hcz15_2 : wc.cell? ⟨gb920, 2, none⟩ = some (.string (⟨#[]⟩ : ByteArray)) := (blk_cell BK920.out 2).trans rfl
     have hcz15_3 : wc.cell? ⟨gb920, 3, none⟩ = some (.string (⟨#[]⟩ : ByteArray)) := (blk_cell BK920.out 3).trans rfl
     have hcz15_4 : wc.cell? ⟨gb920, 4, none⟩ = some (.int .i64 0) := (blk_cell BK920.out 4).trans rfl
     have hcz15_5 : wc.cell? ⟨gb920, 5, none⟩ = some (.int .i64 0) := (blk_cell BK920.out 5).trans rfl
     have hcz15_6 : wc.cell? ⟨gb920, 6, none⟩ = some (.string (⟨#[]⟩ : ByteArray)) := (blk_cell BK920.out 6).trans rfl
     have hcz15_7 : wc.cell? ⟨gb920, 7, none⟩ = some (.string (⟨#[]⟩ : ByteArray)) := (blk_cell BK920.out 7).trans rfl
     have hcz15_8 : wc.cell? ⟨gb920, 8, none⟩ = some (.int .i64 0) := (blk_cell BK920.out 8).trans rfl
     have hfz15_0 := blk_frozen BK920.out 0
     have hfz15_1 := blk_frozen BK920.out 1
     have hfz15_2 := blk_frozen BK920.out 2
     have hfz15_3 := blk_frozen BK920.out 3
     have hfz15_4 := blk_frozen BK920.out 4
     have hfz15_5 := blk_frozen BK920.out 5
     have hfz15_6 := blk_frozen BK920.out 6
     have hfz15_7 := blk_frozen BK920.out 7
     have hfz15_8 := blk_frozen BK920.out 8
     go_wp2
     refine bodyPost_ret (results_ct rfl _ _ gb920 45 #[.bool false, .string (⟨#[]⟩ : ByteArray), .string (⟨#[]⟩ : ByteArray), .string (⟨#[]⟩ : ByteArray), .int .i64 0, .int .i64 0, .string (⟨#[]⟩ : ByteArray), .string (⟨#[]⟩ : ByteArray), .int .i64 0] (0, 0) _ rfl (by refine blk_put (cs := #[.bool false, .string (⟨#[]⟩ : ByteArray), .string (⟨#[]⟩ : ByteArray), .string (⟨#[]⟩ : ByteArray), .int .i64 0, .int .i64 0, .string (⟨#[]⟩ : ByteArray), .string (⟨#[]⟩ : ByteArray), .int .i64 0]) ?_ 8 _ rfl; refine blk_put (cs := #[.bool false, .string (⟨#[]⟩ : ByteArray), .string (⟨#[]⟩ : ByteArray), .string (⟨#[]⟩ : ByteArray), .int .i64 0, .int .i64 0, .string (⟨#[]⟩ : ByteArray), .string (⟨#[]⟩ : ByteArray), .int .i64 0]) ?_ 7 _ rfl; refine blk_put (cs := #[.bool false, .string (⟨#[]⟩ : ByteArray), .string (⟨#[]⟩ : ByteArray), .string (⟨#[]⟩ : ByteArray), .int .i64 0, .int .i64 0, .string (⟨#[]⟩ : ByteArray), .string (⟨#[]⟩ : ByteArray), .int .i64 0]) ?_ 6 _ rfl; refine blk_put (cs := #[.bool false, .string (⟨#[]⟩ : ByteArray), .string (⟨#[]⟩ : ByteArray), .string (⟨#[]⟩ : ByteArray), .int .i64 0, .int .i64 0, .string (⟨#[]⟩ : ByteArray), .string (⟨#[]⟩ : ByteArray), .int .i64 0]) ?_ 5 _ rfl; refine blk_put (cs := #[.bool false, .string (⟨#[]⟩ : ByteArray), .string (⟨#[]⟩ : ByteArray), .string (⟨#[]⟩ : ByteArray), .int .i64 0, .int .i64 0, .string (⟨#[]⟩ : ByteArray), .string (⟨#[]⟩ : ByteArray), .int .i64 0]) ?_ 4 _ rfl; refine blk_put (cs := #[.bool false, .string (⟨#[]⟩ : ByteArray), .string (⟨#[]⟩ : ByteArray), .string (⟨#[]⟩ : ByteArray), .int .i64 0, .int .i64 0, .string (⟨#[]⟩ : ByteArray), .string (⟨#[]⟩ : ByteArray), .int .i64 0]) ?_ 3 _ rfl; refine blk_put (cs := #[.bool false, .string (⟨#[]⟩ : ByteArray), .string (⟨#[]⟩ : ByteArray), .string (⟨#[]⟩ : ByteArray), .int .i64 0, .int .i64 0, .string (⟨#[]⟩ : ByteArray), .string (⟨#[]⟩ : ByteArray), .int .i64 0]) ?_ 2 _ rfl; refine blk_put (cs := #[.bool false, .string (⟨#[]⟩ : ByteArray), .string (⟨#[]⟩ : ByteArray), .string (⟨#[]⟩ : ByteArray), .int .i64 0, .int .i64 0, .string (⟨#[]⟩ : ByteArray), .string (⟨#[]⟩ : ByteArray), .int .i64 0]) ?_ 1 _ rfl; refine blk_put (cs := #[.bool false, .string (⟨#[]⟩ : ByteArray), .string (⟨#[]⟩ : ByteArray), .string (⟨#[]⟩ : ByteArray), .int .i64 0, .int .i64 0, .string (⟨#[]⟩ : ByteArray), .string (⟨#[]⟩ : ByteArray), .int .i64 0]) ?_ 0 _ rfl; exact BK920.out) Tryd.underlying45 rfl (by kernel_rfl)) rfl ?_
     exact ⟨by first | rfl | (simp [errW_none, errW_some] <;> rfl) | (simp [*, errW_none, errW_some] <;> rfl) | (simp [bne_nil_]; done), by repeat (first | (with_reducible first | exact HB.out | apply below_alloc | apply pw_below_drewN | apply below_drew1 | refine below_set ?_ GE919.out | refine below_set ?_ GE920.out) | exact HB.out)⟩
    ·replace c13 := Bool.eq_false_iff.mpr c13
     subst c13
     have H1 : ((decimal_Shift.f kj10 a0_0 a0_1 a0_2 a1).bind fun bt922 => (if bt922.2.2.2 = 0 then ((decimal_Trim.f kj10 false bt922.2.1 bt922.2.2.1).bind fun bt927 => (if bt927.2.2.2 = 0 then ((operand_whole.f kj10 bt922.2.2.1).bind fun t932 => ((operand_whole.f kj10 bt927.2.2.1).bind fun t933 => (some (bt927.1, bt927.2.1, bt927.2.2.1, bt922.2.1, (bt922.2.2.1.size : Int), (bt927.2.2.1.size : Int), t932, t933, a1, 0)))) else (some (false, (⟨#[]⟩ : ByteArray), (⟨#[]⟩ : ByteArray), (⟨#[]⟩ : ByteArray), 0, 0, (⟨#[]⟩ : ByteArray), (⟨#[]⟩ : ByteArray), 0, bt927.2.2.2)))) else (some (false, (⟨#[]⟩ : ByteArray), (⟨#[]⟩ : ByteArray), (⟨#[]⟩ : ByteArray), 0, 0, (⟨#[]⟩ : ByteArray), (⟨#[]⟩ : ByteArray), 0, bt922.2.2.2)))) = some (r1, r2, r3, r4, r5, r6, r7, r8, r9, r10) := by rw [if_neg (show ¬ (false = true) by decide)] at H; exact H
     clear H
     have H := H1
     clear H1
     replace H := Option.bind_eq_some_iff.mp H
     obtain ⟨⟨t922, t923, t924, t925⟩, A160, H⟩ := H
     try dsimp only at H
     have A16 := Aside0.mk A160
     clear A160
     have HF17 := Aside0.mk H
     clear H
     have hnb18 := NB919_920.out
     have hnc18 := NB920_919.out
     obtain ⟨hcz19_0, hcz19_1, hcz19_2, hfz19_0, hfz19_1, hfz19_2⟩ := BK919.c3
     go_upto_if 30 with (first | ((with_reducible refine gate_callee (f := 39) rfl ?_); refine gL_ (some 26) Tryd.func39 #[.agg #[.bool a0_0, .string a0_1, .string a0_2], .int .i64 a1] ?_; (with_reducible refine (decimal_Shift.calls kj10 a0_0 a0_1 a0_2 a1 t922 t923 t924 t925 _ A16.out).mono ?_); rintro e w20 ⟨rfl, hb⟩; refine ⟨_, rfl, ?_⟩; replace BK919 := BK919.bl hb; replace BK920 := BK920.bl hb; replace HB := Aside0.mk (below_step hb_ hb)) | ((with_reducible refine gate_dst (N := 7) rfl ?_); refine bx_ #[.bool false, .string (⟨#[]⟩ : ByteArray), .string (⟨#[]⟩ : ByteArray)] 23 ?_; intro gb926 hg w21 hbox hb; have BK926 := Aside0.mk (hbox); have GW926 := Aside0.mk ((by rw [hg]; exact (below_size hb_) : w.heap.size ≤ gb926)); have GE926 := Aside0.mk ((by rw [hg]; exact (below_size hb_) : w.heap.size ≤ gb926)); have NB919_926 := BK919.nl hg; have NB926_919 := BK919.ng hg; have NB920_926 := BK920.nl hg; have NB926_920 := BK920.ng hg; replace BK919 := BK919.bl hb; replace BK920 := BK920.bl hb; replace HB := Aside0.mk (below_step hb_ hb); clear hb hbox hg; have hnb22 := NB926_919.out; have hnc22 := NB919_926.out; have hnb23 := NB926_920.out; have hnc23 := NB920_926.out; obtain ⟨hcz24_0, hcz24_1, hcz24_2, hfz24_0, hfz24_1, hfz24_2⟩ := BK926.c3))
     (try simp only [Act.put, List.setIfInBounds_toArray, List.set_cons_zero, List.set_cons_succ])
     have H := HF17.out
     clear HF17
     by_cases c25 : t925 = 0
     ·rw [if_pos c25] at H
      have c25b0 : (t925 == 0) = true := beq_iff_eq.mpr c25
      have c25b1 : (t925 != 0) = false := bne_eq_false_iff_eq.mpr c25
      clear c25
      (first | rw [c25b0] | (simp only [i64_w, i32_w]; rw [c25b0]) | rw [c25b1] | skip)
      replace H := Option.bind_eq_some_iff.mp H
      obtain ⟨⟨t927, t928, t929, t930⟩, A260, H⟩ := H
      try dsimp only at H
      have A26 := Aside0.mk A260
      clear A260
      have HF27 := Aside0.mk H
      clear H
      have hnb28 := NB926_919.out
      have hnc28 := NB919_926.out
      have hnb29 := NB926_920.out
      have hnc29 := NB920_926.out
      obtain ⟨hcz30_0, hcz30_1, hcz30_2, hfz30_0, hfz30_1, hfz30_2⟩ := BK926.c3
      go_upto_if 40 with (first | ((with_reducible refine gate_callee (f := 40) rfl ?_); refine gL_ (some 36) Tryd.func40 #[.agg #[.bool false, .string t923, .string t924]] ?_; (with_reducible refine (decimal_Trim.calls kj10 false t923 t924 t927 t928 t929 t930 _ A26.out).mono ?_); rintro e w31 ⟨rfl, hb⟩; refine ⟨_, rfl, ?_⟩; replace BK919 := Aside0.mk (blk_below (g := gb919) (o := .cells #[.bool a0_0, .string a0_1, .string a0_2] 23 (0, 0)) (by refine blk_far ?_ NB919_926.out _; refine blk_far ?_ NB919_926.out _; refine blk_far ?_ NB919_926.out _; refine blk_far ?_ NB919_926.out _; exact BK919.out) hb); replace BK920 := Aside0.mk (blk_below (g := gb920) (o := .cells #[.bool false, .string (⟨#[]⟩ : ByteArray), .string (⟨#[]⟩ : ByteArray), .string (⟨#[]⟩ : ByteArray), .int .i64 0, .int .i64 0, .string (⟨#[]⟩ : ByteArray), .string (⟨#[]⟩ : ByteArray), .int .i64 0] 45 (0, 0)) (by refine blk_far ?_ NB920_926.out _; refine blk_far ?_ NB920_926.out _; refine blk_far ?_ NB920_926.out _; refine blk_far ?_ NB920_926.out _; exact BK920.out) hb); replace BK926 := Aside0.mk (blk_below (g := gb926) (o := .cells #[.bool false, .string t923, .string t924] 23 (0, 0)) (by refine blk_put (cs := #[.bool t922, .string t923, .string t924]) ?_ 0 _ rfl; refine blk_put (cs := #[.bool t922, .string t923, .string (⟨#[]⟩ : ByteArray)]) ?_ 2 _ rfl; refine blk_put (cs := #[.bool t922, .string (⟨#[]⟩ : ByteArray), .string (⟨#[]⟩ : ByteArray)]) ?_ 1 _ rfl; refine blk_put (cs := #[.bool false, .string (⟨#[]⟩ : ByteArray), .string (⟨#[]⟩ : ByteArray)]) ?_ 0 _ rfl; exact BK926.out) hb); replace HB := Aside0.mk (below_step hb_ hb)) | ((with_reducible refine gate_dst (N := 9) rfl ?_); refine bx_ #[.bool false, .string (⟨#[]⟩ : ByteArray), .string (⟨#[]⟩ : ByteArray)] 23 ?_; intro gb931 hg w32 hbox hb; have BK931 := Aside0.mk (hbox); have GW931 := Aside0.mk ((by rw [hg]; exact (below_size hb_) : w.heap.size ≤ gb931)); have GE931 := Aside0.mk ((by rw [hg]; exact (below_size hb_) : w.heap.size ≤ gb931)); have NB919_931 := BK919.nl hg; have NB931_919 := BK919.ng hg; have NB920_931 := BK920.nl hg; have NB931_920 := BK920.ng hg; have NB926_931 := BK926.nl hg; have NB931_926 := BK926.ng hg; replace BK919 := BK919.bl hb; replace BK920 := BK920.bl hb; replace BK926 := BK926.bl hb; replace HB := Aside0.mk (below_step hb_ hb); clear hb hbox hg; have hnb33 := NB931_919.out; have hnc33 := NB919_931.out; have hnb34 := NB931_920.out; have hnc34 := NB920_931.out; have hnb35 := NB931_926.out; have hnc35 := NB926_931.out; obtain ⟨hcz36_0, hcz36_1, hcz36_2, hfz36_0, hfz36_1, hfz36_2⟩ := BK931.c3))
      (try simp only [Act.put, List.setIfInBounds_toArray, List.set_cons_zero, List.set_cons_succ])
      have H := HF27.out
      clear HF27
      by_cases c37 : t930 = 0
      ·rw [if_pos c37] at H
       have c37b0 : (t930 == 0) = true := beq_iff_eq.mpr c37
       have c37b1 : (t930 != 0) = false := bne_eq_false_iff_eq.mpr c37
       clear c37
       (first | rw [c37b0] | (simp only [i64_w, i32_w]; rw [c37b0]) | rw [c37b1] | skip)
       replace H := Option.bind_eq_some_iff.mp H
       obtain ⟨t932, A380, H⟩ := H
       try dsimp only at H
       have A38 := Aside0.mk A380
       clear A380
       replace H := Option.bind_eq_some_iff.mp H
       obtain ⟨t933, A390, H⟩ := H
       try dsimp only at H
       have A39 := Aside0.mk A390
       clear A390
       simp only [Option.some.injEq, Prod.mk.injEq] at H
       obtain ⟨rfl, rfl, rfl, rfl, rfl, rfl, rfl, rfl, rfl, rfl⟩ := H
       try go_wp2
       have n0_ : Aside0 ((((w32.setCell ⟨gb931, 0, none⟩ (.bool t927)).setCell ⟨gb931, 1, none⟩ (.string t928)).setCell ⟨gb931, 2, none⟩ (.string t929)).heap[gb919]? = some (.cells #[.bool a0_0, .string a0_1, .string a0_2] 23 (0, 0))) := ⟨by refine blk_far ?_ NB919_931.out _; refine blk_far ?_ NB919_931.out _; refine blk_far ?_ NB919_931.out _; exact BK919.out⟩
       have n1_ : Aside0 ((((w32.setCell ⟨gb931, 0, none⟩ (.bool t927)).setCell ⟨gb931, 1, none⟩ (.string t928)).setCell ⟨gb931, 2, none⟩ (.string t929)).heap[gb920]? = some (.cells #[.bool false, .string (⟨#[]⟩ : ByteArray), .string (⟨#[]⟩ : ByteArray), .string (⟨#[]⟩ : ByteArray), .int .i64 0, .int .i64 0, .string (⟨#[]⟩ : ByteArray), .string (⟨#[]⟩ : ByteArray), .int .i64 0] 45 (0, 0))) := ⟨by refine blk_far ?_ NB920_931.out _; refine blk_far ?_ NB920_931.out _; refine blk_far ?_ NB920_931.out _; exact BK920.out⟩
       have n2_ : Aside0 ((((w32.setCell ⟨gb931, 0, none⟩ (.bool t927)).setCell ⟨gb931, 1, none⟩ (.string t928)).setCell ⟨gb931, 2, none⟩ (.string t929)).heap[gb926]? = some (.cells #[.bool false, .string t923, .string t924] 23 (0, 0))) := ⟨by refine blk_far ?_ NB926_931.out _; refine blk_far ?_ NB926_931.out _; refine blk_far ?_ NB926_931.out _; exact BK926.out⟩
       have n3_ : Aside0 ((((w32.setCell ⟨gb931, 0, none⟩ (.bool t927)).setCell ⟨gb931, 1, none⟩ (.string t928)).setCell ⟨gb931, 2, none⟩ (.string t929)).heap[gb931]? = some (.cells #[.bool t927, .string t928, .string t929] 23 (0, 0))) := ⟨by refine blk_put (cs := #[.bool t927, .string t928, .string (⟨#[]⟩ : ByteArray)]) ?_ 2 _ rfl; refine blk_put (cs := #[.bool t927, .string (⟨#[]⟩ : ByteArray), .string (⟨#[]⟩ : ByteArray)]) ?_ 1 _ rfl; refine blk_put (cs := #[.bool false, .string (⟨#[]⟩ : ByteArray), .string (⟨#[]⟩ : ByteArray)]) ?_ 0 _ rfl; exact BK931.out⟩
       have n4_ : Aside0 (Below w.heap.size w (((w32.setCell ⟨gb931, 0, none⟩ (.bool t927)).setCell ⟨gb931, 1, none⟩ (.string t928)).setCell ⟨gb931, 2, none⟩ (.string t929))) := ⟨by repeat (first | (with_reducible first | exact HB.out | apply below_alloc | apply pw_below_drewN | apply below_drew1 | refine below_set ?_ GE919.out | refine below_set ?_ GE920.out | refine below_set ?_ GE926.out | refine below_set ?_ GE931.out) | exact HB.out)⟩
       (try clear BK919)
       (try clear BK920)
       (try clear BK926)
       (try clear BK931)
       (try clear HB)
       generalize (((w32.setCell ⟨gb931, 0, none⟩ (.bool t927)).setCell ⟨gb931, 1, none⟩ (.string t928)).setCell ⟨gb931, 2, none⟩ (.string t929)) = w40 at n0_ n1_ n2_ n3_ n4_ ⊢
       have BK919 := n0_
       have BK920 := n1_
       have BK926 := n2_
       have BK931 := n3_
       have HB := n4_
       clear n0_ n1_ n2_ n3_ n4_
       replace BK919 := Aside0.mk (blk_drew BK919.out)
       replace BK920 := Aside0.mk (blk_drew BK920.out)
       replace BK926 := Aside0.mk (blk_drew BK926.out)
       replace BK931 := Aside0.mk (blk_drew BK931.out)
       replace HB := Aside0.mk (below_drew1 HB.out)
       refine start_ (n := 19) (S := fun w' => w'.cell? ⟨gb931, 0, none⟩ = some (.bool t927) ∧ w'.cell? ⟨gb931, 1, none⟩ = some (.string t928) ∧ w'.cell? ⟨gb931, 2, none⟩ = some (.string t929) ∧ w'.cell? ⟨gb926, 0, none⟩ = some (.bool false) ∧ w'.cell? ⟨gb926, 1, none⟩ = some (.string t923) ∧ w'.cell? ⟨gb926, 2, none⟩ = some (.string t924)) (ds := []) #[false, false, false, false, false, false, false, false, false, false, false, false, false, false, false, false, false, false, false] (by kernel_rfl) rfl rfl ⟨(blk_cell BK931.out 0).trans rfl, (blk_cell BK931.out 1).trans rfl, (blk_cell BK931.out 2).trans rfl, (blk_cell BK926.out 0).trans rfl, (blk_cell BK926.out 1).trans rfl, (blk_cell BK926.out 2).trans rfl⟩ (fun hHeld => ?_); refine with_tabW operand_Of.tab13 operand_Of.bits13 (fun HT_ HW_ => ?_)
       generalize w40.drew = w41 at BK919 BK920 BK926 BK931 HB hHeld ⊢
       refine pr_ 1 (some 44) ?_
       refine pr_ 3 (some 46) ?_
       refine pr_ 6 (some 49) ?_
       refine pr_ 9 (some 52) ?_
       refine pr_ 12 (some 55) ?_
       refine pr_ 15 (some 58) ?_
       refine tk_ 0 (some 43) hHeld ?_
       refine tk_ 2 (some 45) hHeld ?_
       refine tk_ 4 (some 47) hHeld ?_
       refine pr_ 5 (some 48) ?_
       refine tk_ 7 (some 50) hHeld ?_
       refine pr_ 8 (some 51) ?_
       refine tk_ 10 (some 53) hHeld ?_
       refine tk_ 13 (some 56) hHeld ?_
       refine one_ (i := 11) (N := some 54) #[true, true, true, true, true, true, true, true, true, true, true, true, true, true, false, true, false, false, false] rfl rfl (one_of HT_.out (by kernel_rfl)) (by decide) (fun K hK => ?_)
       refine goes_ Tryd.func82 (by kernel_rfl) rfl #[.string t924] (by rfl) rfl rfl ar_ ?_
       with_reducible refine (operand_whole.calls kj10 t924 t932 _ A38.out).mono ?_
       rintro e w42 ⟨rfl, hb⟩
       refine ⟨_, rfl, ?_⟩
       replace BK919 := BK919.bl hb
       replace BK920 := BK920.bl hb
       replace BK926 := BK926.bl hb
       replace BK931 := BK931.bl hb
       replace HB := Aside0.mk (below_step hb_ hb)
       (try clear hb)
       (try clear hb2)
       (try clear hk)
       (try clear hi)
       refine hK.out _ _ ⟨(blk_cell BK931.out 0).trans rfl, (blk_cell BK931.out 1).trans rfl, (blk_cell BK931.out 2).trans rfl, (blk_cell BK926.out 0).trans rfl, (blk_cell BK926.out 1).trans rfl, (blk_cell BK926.out 2).trans rfl⟩ (fun hHeld => ?_)
       clear hK K
       refine norm_ (a' := ?_) ?_ ?_
       rotate_left
       ·show Act.put _ (some 54) _ = _
        simp only [Act.put, List.setIfInBounds_toArray, List.set_cons_zero, List.set_cons_succ, i64_w, i32_w]
        rfl
       refine one_ (i := 14) (N := some 57) #[true, true, true, true, true, true, true, true, true, true, true, true, true, true, true, true, false, false, false] rfl rfl (one_of HT_.out (by kernel_rfl)) (by decide) (fun K hK => ?_)
       refine goes_ Tryd.func82 (by kernel_rfl) rfl #[.string t929] (by rfl) rfl rfl ar_ ?_
       with_reducible refine (operand_whole.calls kj10 t929 t933 _ A39.out).mono ?_
       rintro e w43 ⟨rfl, hb⟩
       refine ⟨_, rfl, ?_⟩
       replace BK919 := BK919.bl hb
       replace BK920 := BK920.bl hb
       replace BK926 := BK926.bl hb
       replace BK931 := BK931.bl hb
       replace HB := Aside0.mk (below_step hb_ hb)
       (try clear hb)
       (try clear hb2)
       (try clear hk)
       (try clear hi)
       refine hK.out _ _ ⟨(blk_cell BK931.out 0).trans rfl, (blk_cell BK931.out 1).trans rfl, (blk_cell BK931.out 2).trans rfl, (blk_cell BK926.out 0).trans rfl, (blk_cell BK926.out 1).trans rfl, (blk_cell BK926.out 2).trans rfl⟩ (fun hHeld => ?_)
       clear hK K
       refine norm_ (a' := ?_) ?_ ?_
       rotate_left
       ·show Act.put _ (some 57) _ = _
        simp only [Act.put, List.setIfInBounds_toArray, List.set_cons_zero, List.set_cons_succ, i64_w, i32_w]
        rfl
       refine pr_ 16 (some 59) ?_
       refine one_ (i := 17) (N := none) #[true, true, true, true, true, true, true, true, true, true, true, true, true, true, true, true, true, true, false] rfl rfl (one_of HT_.out (by kernel_rfl)) (by decide) (fun K hK => ?_)
       have hs44 : w43.cell? ⟨gb920, 0, none⟩ = some (.bool false) := (blk_cell BK920.out 0).trans rfl
       have hfs44 := blk_frozen BK920.out 0
       have hns44_0 := NB919_920.out
       have hns44_2 := NB926_920.out
       have hns44_3 := NB931_920.out
       have hms44_0 := NB920_919.out
       have hms44_2 := NB920_926.out
       have hms44_3 := NB920_931.out
       have hs45 : w43.cell? ⟨gb920, 1, none⟩ = some (.string (⟨#[]⟩ : ByteArray)) := (blk_cell BK920.out 1).trans rfl
       have hfs45 := blk_frozen BK920.out 1
       have hns45_0 := NB919_920.out
       have hns45_2 := NB926_920.out
       have hns45_3 := NB931_920.out
       have hms45_0 := NB920_919.out
       have hms45_2 := NB920_926.out
       have hms45_3 := NB920_931.out
       have hs46 : w43.cell? ⟨gb920, 2, none⟩ = some (.string (⟨#[]⟩ : ByteArray)) := (blk_cell BK920.out 2).trans rfl
       have hfs46 := blk_frozen BK920.out 2
       have hns46_0 := NB919_920.out
       have hns46_2 := NB926_920.out
       have hns46_3 := NB931_920.out
       have hms46_0 := NB920_919.out
       have hms46_2 := NB920_926.out
       have hms46_3 := NB920_931.out
       have hs47 : w43.cell? ⟨gb920, 3, none⟩ = some (.string (⟨#[]⟩ : ByteArray)) := (blk_cell BK920.out 3).trans rfl
       have hfs47 := blk_frozen BK920.out 3
       have hns47_0 := NB919_920.out
       have hns47_2 := NB926_920.out
       have hns47_3 := NB931_920.out
       have hms47_0 := NB920_919.out
       have hms47_2 := NB920_926.out
       have hms47_3 := NB920_931.out
       have hs48 : w43.cell? ⟨gb920, 4, none⟩ = some (.int .i64 0) := (blk_cell BK920.out 4).trans rfl
       have hfs48 := blk_frozen BK920.out 4
       have hns48_0 := NB919_920.out
       have hns48_2 := NB926_920.out
       have hns48_3 := NB931_920.out
       have hms48_0 := NB920_919.out
       have hms48_2 := NB920_926.out
       have hms48_3 := NB920_931.out
       have hs49 : w43.cell? ⟨gb920, 5, none⟩ = some (.int .i64 0) := (blk_cell BK920.out 5).trans rfl
       have hfs49 := blk_frozen BK920.out 5
       have hns49_0 := NB919_920.out
       have hns49_2 := NB926_920.out
       have hns49_3 := NB931_920.out
       have hms49_0 := NB920_919.out
       have hms49_2 := NB920_926.out
       have hms49_3 := NB920_931.out
       have hs50 : w43.cell? ⟨gb920, 6, none⟩ = some (.string (⟨#[]⟩ : ByteArray)) := (blk_cell BK920.out 6).trans rfl
       have hfs50 := blk_frozen BK920.out 6
       have hns50_0 := NB919_920.out
       have hns50_2 := NB926_920.out
       have hns50_3 := NB931_920.out
       have hms50_0 := NB920_919.out
       have hms50_2 := NB920_926.out
       have hms50_3 := NB920_931.out
       have hs51 : w43.cell? ⟨gb920, 7, none⟩ = some (.string (⟨#[]⟩ : ByteArray)) := (blk_cell BK920.out 7).trans rfl
       have hfs51 := blk_frozen BK920.out 7
       have hns51_0 := NB919_920.out
       have hns51_2 := NB926_920.out
       have hns51_3 := NB931_920.out
       have hms51_0 := NB920_919.out
       have hms51_2 := NB920_926.out
       have hms51_3 := NB920_931.out
       have hs52 : w43.cell? ⟨gb920, 8, none⟩ = some (.int .i64 0) := (blk_cell BK920.out 8).trans rfl
       have hfs52 := blk_frozen BK920.out 8
       have hns52_0 := NB919_920.out
       have hns52_2 := NB926_920.out
       have hns52_3 := NB931_920.out
       have hms52_0 := NB920_919.out
       have hms52_2 := NB920_926.out
       have hms52_3 := NB920_931.out
       refine skip_ (w1 := ?_) (by rfl) rfl ?_ ?_
       rotate_left
       ·go_simp
        rfl
       refine hK.out _ _ ⟨((cell_far (p := ⟨gb920, _, none⟩) NB931_920.out _).trans (((cell_far (p := ⟨gb920, _, none⟩) NB931_920.out _).trans (((cell_far (p := ⟨gb920, _, none⟩) NB931_920.out _).trans (((cell_far (p := ⟨gb920, _, none⟩) NB931_920.out _).trans (((cell_far (p := ⟨gb920, _, none⟩) NB931_920.out _).trans (((cell_far (p := ⟨gb920, _, none⟩) NB931_920.out _).trans (((cell_far (p := ⟨gb920, _, none⟩) NB931_920.out _).trans (((cell_far (p := ⟨gb920, _, none⟩) NB931_920.out _).trans (((cell_far (p := ⟨gb920, _, none⟩) NB931_920.out _).trans (hHeld.1)))))))))))))))))), ((cell_far (p := ⟨gb920, _, none⟩) NB931_920.out _).trans (((cell_far (p := ⟨gb920, _, none⟩) NB931_920.out _).trans (((cell_far (p := ⟨gb920, _, none⟩) NB931_920.out _).trans (((cell_far (p := ⟨gb920, _, none⟩) NB931_920.out _).trans (((cell_far (p := ⟨gb920, _, none⟩) NB931_920.out _).trans (((cell_far (p := ⟨gb920, _, none⟩) NB931_920.out _).trans (((cell_far (p := ⟨gb920, _, none⟩) NB931_920.out _).trans (((cell_far (p := ⟨gb920, _, none⟩) NB931_920.out _).trans (((cell_far (p := ⟨gb920, _, none⟩) NB931_920.out _).trans (hHeld.2.1)))))))))))))))))), ((cell_far (p := ⟨gb920, _, none⟩) NB931_920.out _).trans (((cell_far (p := ⟨gb920, _, none⟩) NB931_920.out _).trans (((cell_far (p := ⟨gb920, _, none⟩) NB931_920.out _).trans (((cell_far (p := ⟨gb920, _, none⟩) NB931_920.out _).trans (((cell_far (p := ⟨gb920, _, none⟩) NB931_920.out _).trans (((cell_far (p := ⟨gb920, _, none⟩) NB931_920.out _).trans (((cell_far (p := ⟨gb920, _, none⟩) NB931_920.out _).trans (((cell_far (p := ⟨gb920, _, none⟩) NB931_920.out _).trans (((cell_far (p := ⟨gb920, _, none⟩) NB931_920.out _).trans (hHeld.2.2.1)))))))))))))))))), ((cell_far (p := ⟨gb920, _, none⟩) NB926_920.out _).trans (((cell_far (p := ⟨gb920, _, none⟩) NB926_920.out _).trans (((cell_far (p := ⟨gb920, _, none⟩) NB926_920.out _).trans (((cell_far (p := ⟨gb920, _, none⟩) NB926_920.out _).trans (((cell_far (p := ⟨gb920, _, none⟩) NB926_920.out _).trans (((cell_far (p := ⟨gb920, _, none⟩) NB926_920.out _).trans (((cell_far (p := ⟨gb920, _, none⟩) NB926_920.out _).trans (((cell_far (p := ⟨gb920, _, none⟩) NB926_920.out _).trans (((cell_far (p := ⟨gb920, _, none⟩) NB926_920.out _).trans (hHeld.2.2.2.1)))))))))))))))))), ((cell_far (p := ⟨gb920, _, none⟩) NB926_920.out _).trans (((cell_far (p := ⟨gb920, _, none⟩) NB926_920.out _).trans (((cell_far (p := ⟨gb920, _, none⟩) NB926_920.out _).trans (((cell_far (p := ⟨gb920, _, none⟩) NB926_920.out _).trans (((cell_far (p := ⟨gb920, _, none⟩) NB926_920.out _).trans (((cell_far (p := ⟨gb920, _, none⟩) NB926_920.out _).trans (((cell_far (p := ⟨gb920, _, none⟩) NB926_920.out _).trans (((cell_far (p := ⟨gb920, _, none⟩) NB926_920.out _).trans (((cell_far (p := ⟨gb920, _, none⟩) NB926_920.out _).trans (hHeld.2.2.2.2.1)))))))))))))))))), ((cell_far (p := ⟨gb920, _, none⟩) NB926_920.out _).trans (((cell_far (p := ⟨gb920, _, none⟩) NB926_920.out _).trans (((cell_far (p := ⟨gb920, _, none⟩) NB926_920.out _).trans (((cell_far (p := ⟨gb920, _, none⟩) NB926_920.out _).trans (((cell_far (p := ⟨gb920, _, none⟩) NB926_920.out _).trans (((cell_far (p := ⟨gb920, _, none⟩) NB926_920.out _).trans (((cell_far (p := ⟨gb920, _, none⟩) NB926_920.out _).trans (((cell_far (p := ⟨gb920, _, none⟩) NB926_920.out _).trans (((cell_far (p := ⟨gb920, _, none⟩) NB926_920.out _).trans (hHeld.2.2.2.2.2))))))))))))))))))⟩ (fun hHeld => ?_)
       clear hK K
       refine pr_ 18 (some 5) ?_
       refine done_ (done_of HT_.out (by kernel_rfl)) ?_
       (try clear hms52_3 hms52_2 hms52_0 hns52_3 hns52_2 hns52_0 hfs52 hs52 hms51_3 hms51_2 hms51_0 hns51_3 hns51_2 hns51_0 hfs51 hs51 hms50_3 hms50_2 hms50_0 hns50_3 hns50_2 hns50_0 hfs50 hs50 hms49_3 hms49_2 hms49_0 hns49_3 hns49_2 hns49_0 hfs49 hs49 hms48_3 hms48_2 hms48_0 hns48_3 hns48_2 hns48_0 hfs48 hs48 hms47_3 hms47_2 hms47_0 hns47_3 hns47_2 hns47_0 hfs47 hs47 hms46_3 hms46_2 hms46_0 hns46_3 hns46_2 hns46_0 hfs46 hs46 hms45_3 hms45_2 hms45_0 hns45_3 hns45_2 hns45_0 hfs45 hs45 hms44_3 hms44_2 hms44_0 hns44_3 hns44_2 hns44_0 hfs44 hs44)
       try go_wp2
       refine bodyPost_ret (results_ct rfl _ _ gb920 45 #[.bool t927, .string t928, .string t929, .string t923, .int .i64 (t924.size : Int), .int .i64 (t929.size : Int), .string t932, .string t933, .int .i64 a1] (0, 0) _ rfl (by refine blk_put (cs := #[.bool t927, .string t928, .string t929, .string t923, .int .i64 (t924.size : Int), .int .i64 (t929.size : Int), .string t932, .string t933, .int .i64 0]) ?_ 8 _ rfl; refine blk_put (cs := #[.bool t927, .string t928, .string t929, .string t923, .int .i64 (t924.size : Int), .int .i64 (t929.size : Int), .string t932, .string (⟨#[]⟩ : ByteArray), .int .i64 0]) ?_ 7 _ rfl; refine blk_put (cs := #[.bool t927, .string t928, .string t929, .string t923, .int .i64 (t924.size : Int), .int .i64 (t929.size : Int), .string (⟨#[]⟩ : ByteArray), .string (⟨#[]⟩ : ByteArray), .int .i64 0]) ?_ 6 _ rfl; refine blk_put (cs := #[.bool t927, .string t928, .string t929, .string t923, .int .i64 (t924.size : Int), .int .i64 0, .string (⟨#[]⟩ : ByteArray), .string (⟨#[]⟩ : ByteArray), .int .i64 0]) ?_ 5 _ rfl; refine blk_put (cs := #[.bool t927, .string t928, .string t929, .string t923, .int .i64 0, .int .i64 0, .string (⟨#[]⟩ : ByteArray), .string (⟨#[]⟩ : ByteArray), .int .i64 0]) ?_ 4 _ rfl; refine blk_put (cs := #[.bool t927, .string t928, .string t929, .string (⟨#[]⟩ : ByteArray), .int .i64 0, .int .i64 0, .string (⟨#[]⟩ : ByteArray), .string (⟨#[]⟩ : ByteArray), .int .i64 0]) ?_ 3 _ rfl; refine blk_put (cs := #[.bool t927, .string t928, .string (⟨#[]⟩ : ByteArray), .string (⟨#[]⟩ : ByteArray), .int .i64 0, .int .i64 0, .string (⟨#[]⟩ : ByteArray), .string (⟨#[]⟩ : ByteArray), .int .i64 0]) ?_ 2 _ rfl; refine blk_put (cs := #[.bool t927, .string (⟨#[]⟩ : ByteArray), .string (⟨#[]⟩ : ByteArray), .string (⟨#[]⟩ : ByteArray), .int .i64 0, .int .i64 0, .string (⟨#[]⟩ : ByteArray), .string (⟨#[]⟩ : ByteArray), .int .i64 0]) ?_ 1 _ rfl; refine blk_put (cs := #[.bool false, .string (⟨#[]⟩ : ByteArray), .string (⟨#[]⟩ : ByteArray), .string (⟨#[]⟩ : ByteArray), .int .i64 0, .int .i64 0, .string (⟨#[]⟩ : ByteArray), .string (⟨#[]⟩ : ByteArray), .int .i64 0]) ?_ 0 _ rfl; exact BK920.out) Tryd.underlying45 rfl (by kernel_rfl)) rfl ?_
       exact ⟨by first | rfl | (simp [errW_none, errW_some] <;> rfl) | (simp [*, errW_none, errW_some] <;> rfl) | (simp [bne_nil_]; done), by repeat (first | (with_reducible first | exact HB.out | apply below_alloc | apply pw_below_drewN | apply below_drew1 | refine below_set ?_ GE919.out | refine below_set ?_ GE920.out | refine below_set ?_ GE926.out | refine below_set ?_ GE931.out) | exact HB.out)⟩
      ·rw [if_neg c37] at H
       have c37b0 : (t930 == 0) = false := beq_eq_false_iff_ne.mpr c37
       have c37b1 : (t930 != 0) = true := bne_iff_ne.mpr c37
       (first | rw [c37b0] | (simp only [i64_w, i32_w]; rw [c37b0]) | rw [c37b1] | skip)
       simp only [Option.some.injEq, Prod.mk.injEq] at H
       obtain ⟨rfl, rfl, rfl, rfl, rfl, rfl, rfl, rfl, rfl, rfl⟩ := H
       have hnb53 := NB920_919.out
       have hnc53 := NB919_920.out
       have hnb54 := NB920_926.out
       have hnc54 := NB926_920.out
       have hnb55 := NB920_931.out
       have hnc55 := NB931_920.out
       have hcz56_0 : w32.cell? ⟨gb920, 0, none⟩ = some (.bool false) := (blk_cell BK920.out 0).trans rfl
       have hcz56_1 : w32.cell? ⟨gb920, 1, none⟩ = some (.string (⟨#[]⟩ : ByteArray)) := (blk_cell BK920.out 1).trans rfl
       have hcz56_2 : w32.cell? ⟨gb920, 2, none⟩ = some (.string (⟨#[]⟩ : ByteArray)) := (blk_cell BK920.out 2).trans rfl
       have hcz56_3 : w32.cell? ⟨gb920, 3, none⟩ = some (.string (⟨#[]⟩ : ByteArray)) := (blk_cell BK920.out 3).trans rfl
       have hcz56_4 : w32.cell? ⟨gb920, 4, none⟩ = some (.int .i64 0) := (blk_cell BK920.out 4).trans rfl
       have hcz56_5 : w32.cell? ⟨gb920, 5, none⟩ = some (.int .i64 0) := (blk_cell BK920.out 5).trans rfl
       have hcz56_6 : w32.cell? ⟨gb920, 6, none⟩ = some (.string (⟨#[]⟩ : ByteArray)) := (blk_cell BK920.out 6).trans rfl
       have hcz56_7 : w32.cell? ⟨gb920, 7, none⟩ = some (.string (⟨#[]⟩ : ByteArray)) := (blk_cell BK920.out 7).trans rfl
       have hcz56_8 : w32.cell? ⟨gb920, 8, none⟩ = some (.int .i64 0) := (blk_cell BK920.out 8).trans rfl
       have hfz56_0 := blk_frozen BK920.out 0
       have hfz56_1 := blk_frozen BK920.out 1
       have hfz56_2 := blk_frozen BK920.out 2
       have hfz56_3 := blk_frozen BK920.out 3
       have hfz56_4 := blk_frozen BK920.out 4
       have hfz56_5 := blk_frozen BK920.out 5
       have hfz56_6 := blk_frozen BK920.out 6
       have hfz56_7 := blk_frozen BK920.out 7
       have hfz56_8 := blk_frozen BK920.out 8
       go_wp2
       refine bodyPost_ret (results_ct rfl _ _ gb920 45 #[.bool false, .string (⟨#[]⟩ : ByteArray), .string (⟨#[]⟩ : ByteArray), .string (⟨#[]⟩ : ByteArray), .int .i64 0, .int .i64 0, .string (⟨#[]⟩ : ByteArray), .string (⟨#[]⟩ : ByteArray), .int .i64 0] (0, 0) _ rfl (by refine blk_put (cs := #[.bool false, .string (⟨#[]⟩ : ByteArray), .string (⟨#[]⟩ : ByteArray), .string (⟨#[]⟩ : ByteArray), .int .i64 0, .int .i64 0, .string (⟨#[]⟩ : ByteArray), .string (⟨#[]⟩ : ByteArray), .int .i64 0]) ?_ 8 _ rfl; refine blk_put (cs := #[.bool false, .string (⟨#[]⟩ : ByteArray), .string (⟨#[]⟩ : ByteArray), .string (⟨#[]⟩ : ByteArray), .int .i64 0, .int .i64 0, .string (⟨#[]⟩ : ByteArray), .string (⟨#[]⟩ : ByteArray), .int .i64 0]) ?_ 7 _ rfl; refine blk_put (cs := #[.bool false, .string (⟨#[]⟩ : ByteArray), .string (⟨#[]⟩ : ByteArray), .string (⟨#[]⟩ : ByteArray), .int .i64 0, .int .i64 0, .string (⟨#[]⟩ : ByteArray), .string (⟨#[]⟩ : ByteArray), .int .i64 0]) ?_ 6 _ rfl; refine blk_put (cs := #[.bool false, .string (⟨#[]⟩ : ByteArray), .string (⟨#[]⟩ : ByteArray), .string (⟨#[]⟩ : ByteArray), .int .i64 0, .int .i64 0, .string (⟨#[]⟩ : ByteArray), .string (⟨#[]⟩ : ByteArray), .int .i64 0]) ?_ 5 _ rfl; refine blk_put (cs := #[.bool false, .string (⟨#[]⟩ : ByteArray), .string (⟨#[]⟩ : ByteArray), .string (⟨#[]⟩ : ByteArray), .int .i64 0, .int .i64 0, .string (⟨#[]⟩ : ByteArray), .string (⟨#[]⟩ : ByteArray), .int .i64 0]) ?_ 4 _ rfl; refine blk_put (cs := #[.bool false, .string (⟨#[]⟩ : ByteArray), .string (⟨#[]⟩ : ByteArray), .string (⟨#[]⟩ : ByteArray), .int .i64 0, .int .i64 0, .string (⟨#[]⟩ : ByteArray), .string (⟨#[]⟩ : ByteArray), .int .i64 0]) ?_ 3 _ rfl; refine blk_put (cs := #[.bool false, .string (⟨#[]⟩ : ByteArray), .string (⟨#[]⟩ : ByteArray), .string (⟨#[]⟩ : ByteArray), .int .i64 0, .int .i64 0, .string (⟨#[]⟩ : ByteArray), .string (⟨#[]⟩ : ByteArray), .int .i64 0]) ?_ 2 _ rfl; refine blk_put (cs := #[.bool false, .string (⟨#[]⟩ : ByteArray), .string (⟨#[]⟩ : ByteArray), .string (⟨#[]⟩ : ByteArray), .int .i64 0, .int .i64 0, .string (⟨#[]⟩ : ByteArray), .string (⟨#[]⟩ : ByteArray), .int .i64 0]) ?_ 1 _ rfl; refine blk_put (cs := #[.bool false, .string (⟨#[]⟩ : ByteArray), .string (⟨#[]⟩ : ByteArray), .string (⟨#[]⟩ : ByteArray), .int .i64 0, .int .i64 0, .string (⟨#[]⟩ : ByteArray), .string (⟨#[]⟩ : ByteArray), .int .i64 0]) ?_ 0 _ rfl; refine blk_far ?_ NB920_931.out _; refine blk_far ?_ NB920_931.out _; refine blk_far ?_ NB920_931.out _; exact BK920.out) Tryd.underlying45 rfl (by kernel_rfl)) rfl ?_
       exact ⟨by first | rfl | (simp [errW_none, errW_some] <;> rfl) | (simp [*, errW_none, errW_some] <;> rfl) | (simp [bne_nil_]; done), by repeat (first | (with_reducible first | exact HB.out | apply below_alloc | apply pw_below_drewN | apply below_drew1 | refine below_set ?_ GE919.out | refine below_set ?_ GE920.out | refine below_set ?_ GE926.out | refine below_set ?_ GE931.out) | exact HB.out)⟩
     ·rw [if_neg c25] at H
      have c25b0 : (t925 == 0) = false := beq_eq_false_iff_ne.mpr c25
      have c25b1 : (t925 != 0) = true := bne_iff_ne.mpr c25
      (first | rw [c25b0] | (simp only [i64_w, i32_w]; rw [c25b0]) | rw [c25b1] | skip)
      simp only [Option.some.injEq, Prod.mk.injEq] at H
      obtain ⟨rfl, rfl, rfl, rfl, rfl, rfl, rfl, rfl, rfl, rfl⟩ := H
      have hnb57 := NB920_919.out
      have hnc57 := NB919_920.out
      have hnb58 := NB920_926.out
      have hnc58 := NB926_920.out
      have hcz59_0 : w21.cell? ⟨gb920, 0, none⟩ = some (.bool false) := (blk_cell BK920.out 0).trans rfl
      have hcz59_1 : w21.cell? ⟨gb920, 1, none⟩ = some (.string (⟨#[]⟩ : ByteArray)) := (blk_cell BK920.out 1).trans rfl
      have hcz59_2 : w21.cell? ⟨gb920, 2, none⟩ = some (.string (⟨#[]⟩ : ByteArray)) := (blk_cell BK920.out 2).trans rfl
      have hcz59_3 : w21.cell? ⟨gb920, 3, none⟩ = some (.string (⟨#[]⟩ : ByteArray)) := (blk_cell BK920.out 3).trans rfl
      have hcz59_4 : w21.cell? ⟨gb920, 4, none⟩ = some (.int .i64 0) := (blk_cell BK920.out 4).trans rfl
      have hcz59_5 : w21.cell? ⟨gb920, 5, none⟩ = some (.int .i64 0) := (blk_cell BK920.out 5).trans rfl
      have hcz59_6 : w21.cell? ⟨gb920, 6, none⟩ = some (.string (⟨#[]⟩ : ByteArray)) := (blk_cell BK920.out 6).trans rfl
      have hcz59_7 : w21.cell? ⟨gb920, 7, none⟩ = some (.string (⟨#[]⟩ : ByteArray)) := (blk_cell BK920.out 7).trans rfl
      have hcz59_8 : w21.cell? ⟨gb920, 8, none⟩ = some (.int .i64 0) := (blk_cell BK920.out 8).trans rfl
      have hfz59_0 := blk_frozen BK920.out 0
      have hfz59_1 := blk_frozen BK920.out 1
      have hfz59_2 := blk_frozen BK920.out 2
      have hfz59_3 := blk_frozen BK920.out 3
      have hfz59_4 := blk_frozen BK920.out 4
      have hfz59_5 := blk_frozen BK920.out 5
      have hfz59_6 := blk_frozen BK920.out 6
      have hfz59_7 := blk_frozen BK920.out 7
      have hfz59_8 := blk_frozen BK920.out 8
      go_wp2
      refine bodyPost_ret (results_ct rfl _ _ gb920 45 #[.bool false, .string (⟨#[]⟩ : ByteArray), .string (⟨#[]⟩ : ByteArray), .string (⟨#[]⟩ : ByteArray), .int .i64 0, .int .i64 0, .string (⟨#[]⟩ : ByteArray), .string (⟨#[]⟩ : ByteArray), .int .i64 0] (0, 0) _ rfl (by refine blk_put (cs := #[.bool false, .string (⟨#[]⟩ : ByteArray), .string (⟨#[]⟩ : ByteArray), .string (⟨#[]⟩ : ByteArray), .int .i64 0, .int .i64 0, .string (⟨#[]⟩ : ByteArray), .string (⟨#[]⟩ : ByteArray), .int .i64 0]) ?_ 8 _ rfl; refine blk_put (cs := #[.bool false, .string (⟨#[]⟩ : ByteArray), .string (⟨#[]⟩ : ByteArray), .string (⟨#[]⟩ : ByteArray), .int .i64 0, .int .i64 0, .string (⟨#[]⟩ : ByteArray), .string (⟨#[]⟩ : ByteArray), .int .i64 0]) ?_ 7 _ rfl; refine blk_put (cs := #[.bool false, .string (⟨#[]⟩ : ByteArray), .string (⟨#[]⟩ : ByteArray), .string (⟨#[]⟩ : ByteArray), .int .i64 0, .int .i64 0, .string (⟨#[]⟩ : ByteArray), .string (⟨#[]⟩ : ByteArray), .int .i64 0]) ?_ 6 _ rfl; refine blk_put (cs := #[.bool false, .string (⟨#[]⟩ : ByteArray), .string (⟨#[]⟩ : ByteArray), .string (⟨#[]⟩ : ByteArray), .int .i64 0, .int .i64 0, .string (⟨#[]⟩ : ByteArray), .string (⟨#[]⟩ : ByteArray), .int .i64 0]) ?_ 5 _ rfl; refine blk_put (cs := #[.bool false, .string (⟨#[]⟩ : ByteArray), .string (⟨#[]⟩ : ByteArray), .string (⟨#[]⟩ : ByteArray), .int .i64 0, .int .i64 0, .string (⟨#[]⟩ : ByteArray), .string (⟨#[]⟩ : ByteArray), .int .i64 0]) ?_ 4 _ rfl; refine blk_put (cs := #[.bool false, .string (⟨#[]⟩ : ByteArray), .string (⟨#[]⟩ : ByteArray), .string (⟨#[]⟩ : ByteArray), .int .i64 0, .int .i64 0, .string (⟨#[]⟩ : ByteArray), .string (⟨#[]⟩ : ByteArray), .int .i64 0]) ?_ 3 _ rfl; refine blk_put (cs := #[.bool false, .string (⟨#[]⟩ : ByteArray), .string (⟨#[]⟩ : ByteArray), .string (⟨#[]⟩ : ByteArray), .int .i64 0, .int .i64 0, .string (⟨#[]⟩ : ByteArray), .string (⟨#[]⟩ : ByteArray), .int .i64 0]) ?_ 2 _ rfl; refine blk_put (cs := #[.bool false, .string (⟨#[]⟩ : ByteArray), .string (⟨#[]⟩ : ByteArray), .string (⟨#[]⟩ : ByteArray), .int .i64 0, .int .i64 0, .string (⟨#[]⟩ : ByteArray), .string (⟨#[]⟩ : ByteArray), .int .i64 0]) ?_ 1 _ rfl; refine blk_put (cs := #[.bool false, .string (⟨#[]⟩ : ByteArray), .string (⟨#[]⟩ : ByteArray), .string (⟨#[]⟩ : ByteArray), .int .i64 0, .int .i64 0, .string (⟨#[]⟩ : ByteArray), .string (⟨#[]⟩ : ByteArray), .int .i64 0]) ?_ 0 _ rfl; refine blk_far ?_ NB920_926.out _; refine blk_far ?_ NB920_926.out _; refine blk_far ?_ NB920_926.out _; exact BK920.out) Tryd.underlying45 rfl (by kernel_rfl)) rfl ?_
      exact ⟨by first | rfl | (simp [errW_none, errW_some] <;> rfl) | (simp [*, errW_none, errW_some] <;> rfl) | (simp [bne_nil_]; done), by repeat (first | (with_reducible first | exact HB.out | apply below_alloc | apply pw_below_drewN | apply below_drew1 | refine below_set ?_ GE919.out | refine below_set ?_ GE920.out | refine below_set ?_ GE926.out) | exact HB.out)⟩
 ·rw [if_neg c10] at H
  have c10b0 : (t921 == 0) = false := beq_eq_false_iff_ne.mpr c10
  have c10b1 : (t921 != 0) = true := bne_iff_ne.mpr c10
  (first | rw [c10b0] | (simp only [i64_w, i32_w]; rw [c10b0]) | rw [c10b1] | skip)
  simp only [Option.some.injEq, Prod.mk.injEq] at H
  obtain ⟨rfl, rfl, rfl, rfl, rfl, rfl, rfl, rfl, rfl, rfl⟩ := H
  have hnb60 := NB920_919.out
  have hnc60 := NB919_920.out
  have hcz61_0 : w9.cell? ⟨gb920, 0, none⟩ = some (.bool false) := (blk_cell BK920.out 0).trans rfl
  have hcz61_1 : w9.cell? ⟨gb920, 1, none⟩ = some (.string (⟨#[]⟩ : ByteArray)) := (blk_cell BK920.out 1).trans rfl
  have hcz61_2 : w9.cell? ⟨gb920, 2, none⟩ = some (.string (⟨#[]⟩ : ByteArray)) := (blk_cell BK920.out 2).trans rfl
  have hcz61_3 : w9.cell? ⟨gb920, 3, none⟩ = some (.string (⟨#[]⟩ : ByteArray)) := (blk_cell BK920.out 3).trans rfl
  have hcz61_4 : w9.cell? ⟨gb920, 4, none⟩ = some (.int .i64 0) := (blk_cell BK920.out 4).trans rfl
  have hcz61_5 : w9.cell? ⟨gb920, 5, none⟩ = some (.int .i64 0) := (blk_cell BK920.out 5).trans rfl
  have hcz61_6 : w9.cell? ⟨gb920, 6, none⟩ = some (.string (⟨#[]⟩ : ByteArray)) := (blk_cell BK920.out 6).trans rfl
  have hcz61_7 : w9.cell? ⟨gb920, 7, none⟩ = some (.string (⟨#[]⟩ : ByteArray)) := (blk_cell BK920.out 7).trans rfl
  have hcz61_8 : w9.cell? ⟨gb920, 8, none⟩ = some (.int .i64 0) := (blk_cell BK920.out 8).trans rfl
  have hfz61_0 := blk_frozen BK920.out 0
  have hfz61_1 := blk_frozen BK920.out 1
  have hfz61_2 := blk_frozen BK920.out 2
  have hfz61_3 := blk_frozen BK920.out 3
  have hfz61_4 := blk_frozen BK920.out 4
  have hfz61_5 := blk_frozen BK920.out 5
  have hfz61_6 := blk_frozen BK920.out 6
  have hfz61_7 := blk_frozen BK920.out 7
  have hfz61_8 := blk_frozen BK920.out 8
  go_wp2
  refine bodyPost_ret (results_ct rfl _ _ gb920 45 #[.bool false, .string (⟨#[]⟩ : ByteArray), .string (⟨#[]⟩ : ByteArray), .string (⟨#[]⟩ : ByteArray), .int .i64 0, .int .i64 0, .string (⟨#[]⟩ : ByteArray), .string (⟨#[]⟩ : ByteArray), .int .i64 0] (0, 0) _ rfl (by refine blk_put (cs := #[.bool false, .string (⟨#[]⟩ : ByteArray), .string (⟨#[]⟩ : ByteArray), .string (⟨#[]⟩ : ByteArray), .int .i64 0, .int .i64 0, .string (⟨#[]⟩ : ByteArray), .string (⟨#[]⟩ : ByteArray), .int .i64 0]) ?_ 8 _ rfl; refine blk_put (cs := #[.bool false, .string (⟨#[]⟩ : ByteArray), .string (⟨#[]⟩ : ByteArray), .string (⟨#[]⟩ : ByteArray), .int .i64 0, .int .i64 0, .string (⟨#[]⟩ : ByteArray), .string (⟨#[]⟩ : ByteArray), .int .i64 0]) ?_ 7 _ rfl; refine blk_put (cs := #[.bool false, .string (⟨#[]⟩ : ByteArray), .string (⟨#[]⟩ : ByteArray), .string (⟨#[]⟩ : ByteArray), .int .i64 0, .int .i64 0, .string (⟨#[]⟩ : ByteArray), .string (⟨#[]⟩ : ByteArray), .int .i64 0]) ?_ 6 _ rfl; refine blk_put (cs := #[.bool false, .string (⟨#[]⟩ : ByteArray), .string (⟨#[]⟩ : ByteArray), .string (⟨#[]⟩ : ByteArray), .int .i64 0, .int .i64 0, .string (⟨#[]⟩ : ByteArray), .string (⟨#[]⟩ : ByteArray), .int .i64 0]) ?_ 5 _ rfl; refine blk_put (cs := #[.bool false, .string (⟨#[]⟩ : ByteArray), .string (⟨#[]⟩ : ByteArray), .string (⟨#[]⟩ : ByteArray), .int .i64 0, .int .i64 0, .string (⟨#[]⟩ : ByteArray), .string (⟨#[]⟩ : ByteArray), .int .i64 0]) ?_ 4 _ rfl; refine blk_put (cs := #[.bool false, .string (⟨#[]⟩ : ByteArray), .string (⟨#[]⟩ : ByteArray), .string (⟨#[]⟩ : ByteArray), .int .i64 0, .int .i64 0, .string (⟨#[]⟩ : ByteArray), .string (⟨#[]⟩ : ByteArray), .int .i64 0]) ?_ 3 _ rfl; refine blk_put (cs := #[.bool false, .string (⟨#[]⟩ : ByteArray), .string (⟨#[]⟩ : ByteArray), .string (⟨#[]⟩ : ByteArray), .int .i64 0, .int .i64 0, .string (⟨#[]⟩ : ByteArray), .string (⟨#[]⟩ : ByteArray), .int .i64 0]) ?_ 2 _ rfl; refine blk_put (cs := #[.bool false, .string (⟨#[]⟩ : ByteArray), .string (⟨#[]⟩ : ByteArray), .string (⟨#[]⟩ : ByteArray), .int .i64 0, .int .i64 0, .string (⟨#[]⟩ : ByteArray), .string (⟨#[]⟩ : ByteArray), .int .i64 0]) ?_ 1 _ rfl; refine blk_put (cs := #[.bool false, .string (⟨#[]⟩ : ByteArray), .string (⟨#[]⟩ : ByteArray), .string (⟨#[]⟩ : ByteArray), .int .i64 0, .int .i64 0, .string (⟨#[]⟩ : ByteArray), .string (⟨#[]⟩ : ByteArray), .int .i64 0]) ?_ 0 _ rfl; exact BK920.out) Tryd.underlying45 rfl (by kernel_rfl)) rfl ?_
  exact ⟨by first | rfl | (simp [errW_none, errW_some] <;> rfl) | (simp [*, errW_none, errW_some] <;> rfl) | (simp [bne_nil_]; done), by repeat (first | (with_reducible first | exact HB.out | apply below_alloc | apply pw_below_drewN | apply below_drew1 | refine below_set ?_ GE919.out | refine below_set ?_ GE920.out) | exact HB.out)⟩
end Go.Proofs.YtihjcaglhjepdaaDoor.P
namespace Go.Proofs.YtihjcaglhjepdaaDoor.P
open Go.RowKit Go.Proofs.YtihjcaglhjepdaaDoorW.PrintWords Go.Proofs.YtihjcaglhjepdaaDoorW.PrintLast Go.Proofs.YtihjcaglhjepdaaDoorW.PrintMore
attribute [local go_sem] max2_int max_two
set_option linter.unusedVariables false
set_option linter.unusedSimpArgs false
def idiomref04_Number.l0 : Nat → ByteArray → Option (ByteArray)
  | 0, _ => none
  | k + 1, x0 => if (x0.size : Int) > 0 then (if 0 < (x0.size : Int) then (if (bt x0 0) = 48 then (if 1 ≤ (x0.size : Int) then (idiomref04_Number.l0 k (x0.extract 1 x0.size)) else (none)) else (if x0.toList = ([] : List UInt8) then (some (⟨#[48]⟩ : ByteArray)) else (some x0))) else (none)) else (if x0.toList = ([] : List UInt8) then (some (⟨#[48]⟩ : ByteArray)) else (some x0))
def idiomref04_Number.f (k : Nat) (a0 : ByteArray) : Option (ByteArray) := idiomref04_Number.l0 k a0
end Go.Proofs.YtihjcaglhjepdaaDoor.P
namespace Go.Proofs.YtihjcaglhjepdaaDoor.P
open Go.RowKit Go.Proofs.YtihjcaglhjepdaaDoorW.PrintWords Go.Proofs.YtihjcaglhjepdaaDoorW.PrintLast Go.Proofs.YtihjcaglhjepdaaDoorW.PrintMore
attribute [local go_sem] max2_int max_two
set_option linter.unusedVariables false
set_option linter.unusedSimpArgs false
def idiomref04_shown.f (k : Nat) (a0_0 : Bool) (a0_1 : ByteArray) (a0_2 : ByteArray) (a1 : Int) : Option (Bool × ByteArray × ByteArray × ByteArray × Int × Int × ByteArray × ByteArray × Int) := (idiomref02_Trim.f k a0_0 a0_1 a0_2).bind fun bt936 => ((idiomref04_Number.f k a0_2).bind fun t941 => ((idiomref04_Number.f k bt936.2.2.1).bind fun t942 => (some (bt936.1, bt936.2.1, bt936.2.2.1, a0_1, (a0_2.size : Int), (bt936.2.2.1.size : Int), t941, t942, a1))))
end Go.Proofs.YtihjcaglhjepdaaDoor.P
namespace Go.Proofs.YtihjcaglhjepdaaDoor.P
open Go.RowKit Go.Proofs.YtihjcaglhjepdaaDoorW.PrintWords Go.Proofs.YtihjcaglhjepdaaDoorW.PrintLast Go.Proofs.YtihjcaglhjepdaaDoorW.PrintMore
attribute [local go_sem] max2_int max_two
set_option linter.unusedVariables false
set_option linter.unusedSimpArgs false
def idiomref04_Of.j0 : Nat → Int → Int → Bool → ByteArray → ByteArray → Option (Bool × ByteArray × ByteArray × ByteArray × Int × Int × ByteArray × ByteArray × Int × Int)
  | 0, _, _, _, _, _ => none
  | k + 1, x1, x6, x944000, x944001, x944002 => if x6 = 0 then ((idiomref02_Shift.f k x944000 x944001 x944002 x1).bind fun bt956 => (if bt956.2.2.2 = 0 then ((idiomref04_shown.f k false bt956.2.1 bt956.2.2.1 x1).bind fun bt961 => (some (bt961.1, bt961.2.1, bt961.2.2.1, bt961.2.2.2.1, bt961.2.2.2.2.1, bt961.2.2.2.2.2.1, bt961.2.2.2.2.2.2.1, bt961.2.2.2.2.2.2.2.1, bt961.2.2.2.2.2.2.2.2, 0))) else (some (false, (⟨#[]⟩ : ByteArray), (⟨#[]⟩ : ByteArray), (⟨#[]⟩ : ByteArray), 0, 0, (⟨#[]⟩ : ByteArray), (⟨#[]⟩ : ByteArray), 0, bt956.2.2.2)))) else (some (false, (⟨#[]⟩ : ByteArray), (⟨#[]⟩ : ByteArray), (⟨#[]⟩ : ByteArray), 0, 0, (⟨#[]⟩ : ByteArray), (⟨#[]⟩ : ByteArray), 0, x6))
def idiomref04_Of.f (k : Nat) (a0_0 : Bool) (a0_1 : ByteArray) (a0_2 : ByteArray) (a1 : Int) : Option (Bool × ByteArray × ByteArray × ByteArray × Int × Int × ByteArray × ByteArray × Int × Int) := (idiomref02_Check.f k a0_0 a0_1 a0_2).bind fun t945 => (if a1 < 0 then ((idiomref02_If.f true 1).bind fun t946 => ((idiomref02_First.f k (([t945, t946] : List Int))).bind fun t950 => (idiomref04_Of.j0 k a1 t950 a0_0 a0_1 a0_2))) else ((idiomref02_If.f (decide (a1 > 40)) 1).bind fun t951 => ((idiomref02_First.f k (([t945, t951] : List Int))).bind fun t955 => (idiomref04_Of.j0 k a1 t955 a0_0 a0_1 a0_2))))
end Go.Proofs.YtihjcaglhjepdaaDoor.P
namespace Go.Proofs.YtihjcaglhjepdaaDoor.P
open Go.RowKit Go.Proofs.YtihjcaglhjepdaaDoorW.PrintWords Go.Proofs.YtihjcaglhjepdaaDoorW.PrintLast Go.Proofs.YtihjcaglhjepdaaDoorW.PrintMore
attribute [local go_sem] max2_int max_two
set_option linter.unusedVariables false
set_option linter.unusedSimpArgs false
def stringslite_HasSuffix.f (a0 : ByteArray) (a1 : ByteArray) : Option (Bool) := if (a0.size : Int) ≥ (a1.size : Int) then (if 0 ≤ (wrap64 ((a0.size : Int) - (a1.size : Int))) then (if (wrap64 ((a0.size : Int) - (a1.size : Int))) ≤ (a0.size : Int) then (some ((a0.extract ((wrap64 ((a0.size : Int) - (a1.size : Int))) : Int).toNat a0.size).toList == a1.toList)) else (none)) else (none)) else (some false)
set_option maxHeartbeats 8000000 in
set_option maxRecDepth 100000 in
theorem stringslite_HasSuffix.calls (a0 : ByteArray) (a1 : ByteArray) (r : Bool) (w : World) (h : stringslite_HasSuffix.f a0 a1 = some r) :
    Calls Tryd.prog 112 #[.string a0, .string a1] w fun e w' => e = .returned (.bool r) ∧ Drawn0 w w' := by
 unfold stringslite_HasSuffix.f at h
 have H := h
 clear h
 by_cases c3 : (a0.size : Int) ≥ (a1.size : Int)
 ·rw [if_pos c3] at H
  have c3b0 : decide ((a1.size : Int) ≤ (a0.size : Int)) = true := decide_eq_true c3
  have c3b1 : decide (a1.size ≤ a0.size) = true := decide_eq_true (Int.ofNat_le.mp c3)
  clear c3
  obtain ⟨ji4, hji4⟩ : ∃ j_ : Int, (wrap64 ((a0.size : Int) - (a1.size : Int))) = j_ := ⟨_, rfl⟩
  replace H : (if 0 ≤ (ji4) then (if (ji4) ≤ (a0.size : Int) then (some ((a0.extract ((ji4) : Int).toNat a0.size).toList == a1.toList)) else (none)) else (none)) = some r := by first | (rw [hji4] at H; exact H) | (simp only [hji4] at H ⊢; exact H)
  have hji4w : (IntKind.i64.wrap ((a0.size : Int) - (a1.size : Int))) = ji4 := (i64_w _).trans hji4
  by_cases c5 : 0 ≤ (ji4)
  ·rw [if_pos c5] at H
   have c5b0 := eq_true c5
   have c5b1 : decide (0 ≤ (ji4)) = true := decide_eq_true c5
   clear c5
   by_cases c6 : (ji4) ≤ (a0.size : Int)
   ·rw [if_pos c6] at H
    have c6b0 := eq_true c6
    have c6b1 : decide ((ji4) ≤ (a0.size : Int)) = true := decide_eq_true c6
    clear c6
    obtain rfl := Option.some.inj H
    go_enter Tryd.func112, Tryd.ntmps112
    go_wp2
    go_ret
    exact ⟨by first | rfl | (simp; done) | (simp only [← hji4] <;> (first | rfl | simp)) | (simp [*]; done), by repeat (first | exact Drawn0.refl _ | apply Drawn0.step)⟩
   ·rw [if_neg c6] at H
    exact absurd H (by simp)
  ·rw [if_neg c5] at H
   exact absurd H (by simp)
 ·rw [if_neg c3] at H
  have c3b0 : decide ((a1.size : Int) ≤ (a0.size : Int)) = false := decide_eq_false c3
  have c3b1 : decide (a1.size ≤ a0.size) = false := decide_eq_false (fun h => c3 (Int.ofNat_le.mpr h))
  clear c3
  obtain rfl := Option.some.inj H
  go_enter Tryd.func112, Tryd.ntmps112
  go_wp2
  go_ret
  exact ⟨by first | rfl | (simp; done) | (simp [*]; done), by repeat (first | exact Drawn0.refl _ | apply Drawn0.step)⟩
end Go.Proofs.YtihjcaglhjepdaaDoor.P
namespace Go.Proofs.YtihjcaglhjepdaaDoor.P
open Go.RowKit Go.Proofs.YtihjcaglhjepdaaDoorW.PrintWords Go.Proofs.YtihjcaglhjepdaaDoorW.PrintLast Go.Proofs.YtihjcaglhjepdaaDoorW.PrintMore
attribute [local go_sem] max2_int max_two
set_option linter.unusedVariables false
set_option linter.unusedSimpArgs false
def strings_HasSuffix.f (a0 : ByteArray) (a1 : ByteArray) : Option (Bool) := (stringslite_HasSuffix.f a0 a1).bind fun t970 => (some t970)
set_option maxHeartbeats 8000000 in
set_option maxRecDepth 100000 in
theorem strings_HasSuffix.calls (a0 : ByteArray) (a1 : ByteArray) (r : Bool) (w : World) (h : strings_HasSuffix.f a0 a1 = some r) :
    Calls Tryd.prog 84 #[.string a0, .string a1] w fun e w' => e = .returned (.bool r) ∧ Drawn0 w w' := by
 unfold strings_HasSuffix.f at h
 have H := h
 clear h
 replace H := Option.bind_eq_some_iff.mp H
 obtain ⟨t970, A30, H⟩ := H
 try dsimp only at H
 have A3 := Aside0.mk A30
 clear A30
 obtain rfl := Option.some.inj H
 go_enter Tryd.func84, Tryd.ntmps84
 go_wp2_with (first | ((with_reducible refine gate_callee (f := 112) rfl ?_); refine gL_ (some 7) Tryd.func112 #[.string a0, .string a1] ?_; (with_reducible refine (stringslite_HasSuffix.calls a0 a1 t970 _ A3.out).mono ?_); rintro e w' ⟨rfl, ⟨nd, rfl⟩⟩; refine ⟨_, rfl, ?_⟩))
 go_ret
 exact ⟨by first | rfl | (simp; done) | (simp [*]; done), by repeat (first | exact Drawn0.refl _ | apply Drawn0.step)⟩
end Go.Proofs.YtihjcaglhjepdaaDoor.P
namespace Go.Proofs.YtihjcaglhjepdaaDoor.P
open Go.RowKit Go.Proofs.YtihjcaglhjepdaaDoorW.PrintWords Go.Proofs.YtihjcaglhjepdaaDoorW.PrintLast Go.Proofs.YtihjcaglhjepdaaDoorW.PrintMore
attribute [local go_sem] max2_int max_two
set_option linter.unusedVariables false
set_option linter.unusedSimpArgs false
def operand_Check.j0 : Nat → Bool → Bool → ByteArray → ByteArray → ByteArray → Int → Int → ByteArray → ByteArray → Int → Bool → ByteArray → ByteArray → Option (Int)
  | 0, _, _, _, _, _, _, _, _, _, _, _, _, _ => none
  | k + 1, x45, x972000, x972001, x972002, x972003, x972004, x972005, x972006, x972007, x972008, x973000, x973001, x973002 => if x45 = true then (some 40) else ((strings_Repeat.f (⟨#[48]⟩ : ByteArray) (wrap64 (x972004 - (x973002.size : Int)))).bind fun t975 => (if x973002.size + t975.size ≤ 9223372036854775807 then (if x972003.toList = x973001.toList then (if x972005 = (x973002.size : Int) then ((operand_whole.f k (x973002 ++ t975)).bind fun t976 => (if x972006.toList = t976.toList then ((operand_whole.f k x973002).bind fun t977 => (if x972007.toList = t977.toList then (some 0) else (some 40))) else (some 40))) else (some 40)) else (some 40)) else (none)))
def operand_Check.f (k : Nat) (a0_0 : Bool) (a0_1 : ByteArray) (a0_2 : ByteArray) (a0_3 : ByteArray) (a0_4 : Int) (a0_5 : Int) (a0_6 : ByteArray) (a0_7 : ByteArray) (a0_8 : Int) : Option (Int) := (decimal_Check.f k a0_0 a0_1 a0_2).bind fun t973 => (if t973 = 0 then (if a0_0 = true then (operand_Check.j0 k true a0_0 a0_1 a0_2 a0_3 a0_4 a0_5 a0_6 a0_7 a0_8 a0_0 a0_1 a0_2) else ((strings_HasSuffix.f a0_2 (⟨#[48]⟩ : ByteArray)).bind fun t974 => (if t974 = true then (operand_Check.j0 k true a0_0 a0_1 a0_2 a0_3 a0_4 a0_5 a0_6 a0_7 a0_8 a0_0 a0_1 a0_2) else (if a0_4 < (a0_2.size : Int) then (operand_Check.j0 k true a0_0 a0_1 a0_2 a0_3 a0_4 a0_5 a0_6 a0_7 a0_8 a0_0 a0_1 a0_2) else (if a0_4 > (wrap64 (40 - (a0_1.size : Int))) then (operand_Check.j0 k true a0_0 a0_1 a0_2 a0_3 a0_4 a0_5 a0_6 a0_7 a0_8 a0_0 a0_1 a0_2) else (if a0_8 < 0 then (operand_Check.j0 k true a0_0 a0_1 a0_2 a0_3 a0_4 a0_5 a0_6 a0_7 a0_8 a0_0 a0_1 a0_2) else (operand_Check.j0 k (decide (a0_8 > 40)) a0_0 a0_1 a0_2 a0_3 a0_4 a0_5 a0_6 a0_7 a0_8 a0_0 a0_1 a0_2))))))) else (operand_Check.j0 k true a0_0 a0_1 a0_2 a0_3 a0_4 a0_5 a0_6 a0_7 a0_8 a0_0 a0_1 a0_2))
theorem operand_Check.mono_l : ∀ k, (∀ y0 y1 y2 y3 y4 y5 y6 y7 y8 y9 y10 y11 y12, LeO (operand_Check.j0 k y0 y1 y2 y3 y4 y5 y6 y7 y8 y9 y10 y11 y12) (operand_Check.j0 (k + 1) y0 y1 y2 y3 y4 y5 y6 y7 y8 y9 y10 y11 y12))
  | 0 => fun _ _ _ _ _ _ _ _ _ _ _ _ _ r h => by simp [operand_Check.j0] at h
  | k + 1 => by
    have ih0 := operand_Check.mono_l k
    · intro y0 y1 y2 y3 y4 y5 y6 y7 y8 y9 y10 y11 y12
      unfold operand_Check.j0
      repeat' first
      | (with_reducible exact ih0 _ _ _ _ _ _ _ _ _ _ _ _ _)
      | (with_reducible exact decimal_Check.mono _ _ _ _)
      | (with_reducible exact operand_whole.mono _ _)
      | (with_reducible exact LeO.refl _)
      | (with_reducible exact LeO.none _)
      | (with_reducible refine LeO.ite ?_ ?_)
      | (with_reducible refine LeO.bind ?_ (fun _ => ?_))
      | exact ih0 _ _ _ _ _ _ _ _ _ _ _ _ _
      | exact decimal_Check.mono _ _ _ _
      | exact operand_whole.mono _ _
      | exact LeO.none _
      | refine LeO.ite ?_ ?_
      | refine LeO.bind ?_ (fun _ => ?_)
theorem operand_Check.mono : ∀ a0 a1 a2 a3 a4 a5 a6 a7 a8 k, LeO (operand_Check.f k a0 a1 a2 a3 a4 a5 a6 a7 a8) (operand_Check.f (k + 1) a0 a1 a2 a3 a4 a5 a6 a7 a8) := by
 intro a0 a1 a2 a3 a4 a5 a6 a7 a8 k
 have ih0 := operand_Check.mono_l k
 unfold operand_Check.f
 repeat' first
   | (with_reducible exact ih0 _ _ _ _ _ _ _ _ _ _ _ _ _)
   | (with_reducible exact decimal_Check.mono _ _ _ _)
   | (with_reducible exact operand_whole.mono _ _)
   | (with_reducible exact LeO.refl _)
   | (with_reducible exact LeO.none _)
   | (with_reducible refine LeO.ite ?_ ?_)
   | (with_reducible refine LeO.bind ?_ (fun _ => ?_))
   | exact ih0 _ _ _ _ _ _ _ _ _ _ _ _ _
   | exact decimal_Check.mono _ _ _ _
   | exact operand_whole.mono _ _
   | exact LeO.none _
   | refine LeO.ite ?_ ?_
   | refine LeO.bind ?_ (fun _ => ?_)
def operand_Check.T4 : Bool × List (List Nat × List Nat) := (true, [([], []), ([0], [0]), ([], []), ([2], [2]), ([], []), ([4], [4]), ([5], [5]), ([3, 6], [3, 6]), ([7], [7]), ([1, 8], [1, 8]), ([9, 8, 0, 1, 2, 3, 4, 5, 6, 7, 8, 9], [9])])
def operand_Check.B4 : List Nat := [0, 1, 0, 4, 0, 16, 48, 124, 252, 511, 1023]
theorem operand_Check.tab4 : rtab .any (opsOf Tryd.f47 4) = operand_Check.T4 := by kernel_rfl
theorem operand_Check.bits4 : waitsOk operand_Check.T4.2 operand_Check.B4 = true := by kernel_rfl
def operand_Check.T5 : Bool × List (List Nat × List Nat) := (true, [([], []), ([0], [0]), ([], []), ([2], [2]), ([1, 3], [1, 3]), ([4], [4]), ([5], [5]), ([6, 5], [5, 6]), ([5], [5]), ([8, 5], [5, 8]), ([9, 5], [5, 9]), ([7, 10, 5], [5, 7, 10]), ([5, 11], [5, 11]), ([12, 5], [12]), ([13], [13]), ([14, 13], [13, 14]), ([13], [13]), ([16, 13, 13], [13, 16]), ([15, 17, 13], [13, 15, 17]), ([13, 18], [13, 18]), ([19, 17], [19]), ([20], [20]), ([21, 20], [20, 21]), ([20], [20]), ([23, 20], [20, 23]), ([24, 20, 20], [20, 24]), ([22, 25, 20], [20, 22, 25]), ([20, 26], [20, 26])])
def operand_Check.B5 : List Nat := [0, 1, 0, 4, 15, 31, 63, 127, 63, 319, 831, 2047, 4095, 8191, 16383, 32767, 16383, 81919, 262143, 524287, 1048575, 2097151, 4194303, 2097151, 10485759, 27262975, 67108863, 134217727]
theorem operand_Check.tab5 : rtab .any (opsOf Tryd.f47 5) = operand_Check.T5 := by kernel_rfl
theorem operand_Check.bits5 : waitsOk operand_Check.T5.2 operand_Check.B5 = true := by kernel_rfl
set_option maxHeartbeats 8000000 in
set_option maxRecDepth 100000 in
theorem operand_Check.calls (k : Nat) (a0_0 : Bool) (a0_1 : ByteArray) (a0_2 : ByteArray) (a0_3 : ByteArray) (a0_4 : Int) (a0_5 : Int) (a0_6 : ByteArray) (a0_7 : ByteArray) (a0_8 : Int) (r : Int) (w : World) (h : operand_Check.f k a0_0 a0_1 a0_2 a0_3 a0_4 a0_5 a0_6 a0_7 a0_8 = some r) :
    Calls Tryd.prog 47 #[.agg #[.bool a0_0, .string a0_1, .string a0_2, .string a0_3, .int .i64 a0_4, .int .i64 a0_5, .string a0_6, .string a0_7, .int .i64 a0_8]] w fun e w' => e = .returned (.int .i64 r) ∧ Below w.heap.size w w' := by
 have hu45 := Tryd.underlying45
 have hu23 := Tryd.underlying23
 have HB := Aside0.mk (Below.refl w.heap.size w)
 unfold operand_Check.f at h
 have H := h
 clear h
 have HC2 := Aside0.mk H
 clear H
 go_enter Tryd.func47, Tryd.ntmps47
 go_upto_region 2 with (first | ((with_reducible refine gate_dst (N := 1) rfl ?_); (try (refine gate_guard (by rfl) ?_; dsimp only)); refine box_event ?hg (N := 1) ?hd (cs := #[.bool a0_0, .string a0_1, .string a0_2, .string a0_3, .int .i64 a0_4, .int .i64 a0_5, .string a0_6, .string a0_7, .int .i64 a0_8]) (t := 45) ?hr ?_; (case hd => rfl); (case hg => rfl); (case hr => first | (go_simp; done) | (go_simp; rfl)); intro gb971 hg w3 hbox hb; have BK971 := Aside0.mk (hbox); have GW971 := Aside0.mk ((by rw [hg]; exact (below_size hb_) : w.heap.size ≤ gb971)); have GE971 := Aside0.mk ((by rw [hg]; exact (below_size hb_) : w.heap.size ≤ gb971)); replace HB := Aside0.mk (below_step hb_ hb); clear hb hbox hg; have hcz4_0 : w3.cell? ⟨gb971, 0, none⟩ = some (.bool a0_0) := (blk_cell BK971.out 0).trans rfl; have hcz4_1 : w3.cell? ⟨gb971, 1, none⟩ = some (.string a0_1) := (blk_cell BK971.out 1).trans rfl; have hcz4_2 : w3.cell? ⟨gb971, 2, none⟩ = some (.string a0_2) := (blk_cell BK971.out 2).trans rfl; have hcz4_3 : w3.cell? ⟨gb971, 3, none⟩ = some (.string a0_3) := (blk_cell BK971.out 3).trans rfl; have hcz4_4 : w3.cell? ⟨gb971, 4, none⟩ = some (.int .i64 a0_4) := (blk_cell BK971.out 4).trans rfl; have hcz4_5 : w3.cell? ⟨gb971, 5, none⟩ = some (.int .i64 a0_5) := (blk_cell BK971.out 5).trans rfl; have hcz4_6 : w3.cell? ⟨gb971, 6, none⟩ = some (.string a0_6) := (blk_cell BK971.out 6).trans rfl; have hcz4_7 : w3.cell? ⟨gb971, 7, none⟩ = some (.string a0_7) := (blk_cell BK971.out 7).trans rfl; have hcz4_8 : w3.cell? ⟨gb971, 8, none⟩ = some (.int .i64 a0_8) := (blk_cell BK971.out 8).trans rfl; have hfz4_0 := blk_frozen BK971.out 0; have hfz4_1 := blk_frozen BK971.out 1; have hfz4_2 := blk_frozen BK971.out 2; have hfz4_3 := blk_frozen BK971.out 3; have hfz4_4 := blk_frozen BK971.out 4; have hfz4_5 := blk_frozen BK971.out 5; have hfz4_6 := blk_frozen BK971.out 6; have hfz4_7 := blk_frozen BK971.out 7; have hfz4_8 := blk_frozen BK971.out 8) | ((with_reducible refine gate_dst (N := 3) rfl ?_); (try (refine gate_guard (by rfl) ?_; dsimp only)); refine box_event ?hg (N := 3) ?hd (cs := #[.bool false, .string (⟨#[]⟩ : ByteArray), .string (⟨#[]⟩ : ByteArray)]) (t := 23) ?hr ?_; (case hd => rfl); (case hg => rfl); (case hr => first | (go_simp; done) | (go_simp; rfl)); intro gb972 hg w5 hbox hb; have BK972 := Aside0.mk (hbox); have GW972 := Aside0.mk ((by rw [hg]; exact (below_size hb_) : w.heap.size ≤ gb972)); have GE972 := Aside0.mk ((by rw [hg]; exact (below_size hb_) : w.heap.size ≤ gb972)); have NB971_972 := BK971.nl hg; have NB972_971 := BK971.ng hg; replace BK971 := BK971.bl hb; replace HB := Aside0.mk (below_step hb_ hb); clear hb hbox hg; have hnb6 := NB972_971.out; have hnc6 := NB971_972.out; obtain ⟨hcz7_0, hcz7_1, hcz7_2, hfz7_0, hfz7_1, hfz7_2⟩ := BK972.c3))
 (try simp only [Act.put, List.setIfInBounds_toArray, List.set_cons_zero, List.set_cons_succ])
 go_cut [45] (fun v45 wc => ∃ (kq : Nat) (x45_1 : Bool), v45 = .bool x45_1 ∧ Aside0 (operand_Check.j0 kq x45_1 a0_0 a0_1 a0_2 a0_3 a0_4 a0_5 a0_6 a0_7 a0_8 a0_0 a0_1 a0_2 = some r) ∧ Aside0 (kq ≤ k) ∧ Aside0 (wc.heap[gb971]? = some (.cells #[.bool a0_0, .string a0_1, .string a0_2, .string a0_3, .int .i64 a0_4, .int .i64 a0_5, .string a0_6, .string a0_7, .int .i64 a0_8] 45 (0, 0))) ∧ Aside0 (wc.heap[gb972]? = some (.cells #[.bool a0_0, .string a0_1, .string a0_2] 23 (0, 0))) ∧ Aside0 (Below w.heap.size w wc))
 case first =>
  have H := HC2.out
  clear HC2
  replace H := Option.bind_eq_some_iff.mp H
  obtain ⟨t973, A80, H⟩ := H
  try dsimp only at H
  have A8 := Aside0.mk A80
  clear A80
  by_cases c9 : t973 = 0
  ·rw [if_pos c9] at H
   have c9b0 : (t973 == 0) = true := beq_iff_eq.mpr c9
   have c9b1 : (t973 != 0) = false := bne_eq_false_iff_eq.mpr c9
   clear c9
   (first | rw [c9b0] | (simp only [i64_w, i32_w]; rw [c9b0]) | rw [c9b1] | skip)
   by_cases c10 : a0_0 = true
   ·subst c10
    have H1 : (operand_Check.j0 k true true a0_1 a0_2 a0_3 a0_4 a0_5 a0_6 a0_7 a0_8 true a0_1 a0_2) = some r := by rw [if_pos rfl] at H; exact H
    clear H
    have H := H1
    clear H1
    have H' := Aside0.mk H
    clear H
    have hnb11 := NB972_971.out
    have hnc11 := NB971_972.out
    obtain ⟨hcz12_0, hcz12_1, hcz12_2, hfz12_0, hfz12_1, hfz12_2⟩ := BK972.c3
    go_wp2_with (first | ((with_reducible refine gate_callee (f := 19) rfl ?_); refine gL_ (some 8) Tryd.func19 #[.agg #[.bool true, .string a0_1, .string a0_2]] ?_; (with_reducible refine (decimal_Check.calls k true a0_1 a0_2 t973 _ A8.out).mono ?_); rintro e w13 ⟨rfl, hb⟩; refine ⟨_, rfl, ?_⟩; replace BK971 := Aside0.mk (blk_below (g := gb971) (o := .cells #[.bool true, .string a0_1, .string a0_2, .string a0_3, .int .i64 a0_4, .int .i64 a0_5, .string a0_6, .string a0_7, .int .i64 a0_8] 45 (0, 0)) (by refine blk_far ?_ NB971_972.out _; refine blk_far ?_ NB971_972.out _; refine blk_far ?_ NB971_972.out _; exact BK971.out) hb); replace BK972 := Aside0.mk (blk_below (g := gb972) (o := .cells #[.bool true, .string a0_1, .string a0_2] 23 (0, 0)) (by refine blk_put (cs := #[.bool true, .string a0_1, .string (⟨#[]⟩ : ByteArray)]) ?_ 2 _ rfl; refine blk_put (cs := #[.bool true, .string (⟨#[]⟩ : ByteArray), .string (⟨#[]⟩ : ByteArray)]) ?_ 1 _ rfl; refine blk_put (cs := #[.bool false, .string (⟨#[]⟩ : ByteArray), .string (⟨#[]⟩ : ByteArray)]) ?_ 0 _ rfl; exact BK972.out) hb); replace HB := Aside0.mk (below_step hb_ hb); obtain ⟨hcz14_0, hcz14_1, hcz14_2, hfz14_0, hfz14_1, hfz14_2⟩ := BK972.c3))
    go_meet
    case rel => exact ⟨_, (true), (by first | rfl | (simp; done) | (simp [*]; done)), H', ⟨by first | omega | exact Nat.le_refl _⟩, ⟨by exact BK971.out⟩, ⟨by exact BK972.out⟩, ⟨by repeat (first | (with_reducible first | exact HB.out | apply below_alloc | apply pw_below_drewN | apply below_drew1 | refine below_set ?_ GE971.out | refine below_set ?_ GE972.out) | exact HB.out)⟩⟩
   ·replace c10 := Bool.eq_false_iff.mpr c10
    subst c10
    have H1 : ((strings_HasSuffix.f a0_2 (⟨#[48]⟩ : ByteArray)).bind fun t974 => (if t974 = true then (operand_Check.j0 k true false a0_1 a0_2 a0_3 a0_4 a0_5 a0_6 a0_7 a0_8 false a0_1 a0_2) else (if a0_4 < (a0_2.size : Int) then (operand_Check.j0 k true false a0_1 a0_2 a0_3 a0_4 a0_5 a0_6 a0_7 a0_8 false a0_1 a0_2) else (if a0_4 > (wrap64 (40 - (a0_1.size : Int))) then (operand_Check.j0 k true false a0_1 a0_2 a0_3 a0_4 a0_5 a0_6 a0_7 a0_8 false a0_1 a0_2) else (if a0_8 < 0 then (operand_Check.j0 k true false a0_1 a0_2 a0_3 a0_4 a0_5 a0_6 a0_7 a0_8 false a0_1 a0_2) else (operand_Check.j0 k (decide (a0_8 > 40)) false a0_1 a0_2 a0_3 a0_4 a0_5 a0_6 a0_7 a0_8 false a0_1 a0_2)))))) = some r := by rw [if_neg (show ¬ (false = true) by decide)] at H; exact H
    clear H
    have H := H1
    clear H1
    replace H := Option.bind_eq_some_iff.mp H
    obtain ⟨t974, A150, H⟩ := H
    try dsimp only at H
    have A15 := Aside0.mk A150
    clear A150
    by_cases c16 : t974 = true
    ·subst c16
     have H1 : (operand_Check.j0 k true false a0_1 a0_2 a0_3 a0_4 a0_5 a0_6 a0_7 a0_8 false a0_1 a0_2) = some r := by rw [if_pos rfl] at H; exact H
     clear H
     have H := H1
     clear H1
     have H' := Aside0.mk H
     clear H
     have hnb17 := NB972_971.out
     have hnc17 := NB971_972.out
     obtain ⟨hcz18_0, hcz18_1, hcz18_2, hfz18_0, hfz18_1, hfz18_2⟩ := BK972.c3
     go_wp2_with (first | ((with_reducible refine gate_callee (f := 19) rfl ?_); refine gL_ (some 8) Tryd.func19 #[.agg #[.bool false, .string a0_1, .string a0_2]] ?_; (with_reducible refine (decimal_Check.calls k false a0_1 a0_2 t973 _ A8.out).mono ?_); rintro e w19 ⟨rfl, hb⟩; refine ⟨_, rfl, ?_⟩; replace BK971 := Aside0.mk (blk_below (g := gb971) (o := .cells #[.bool false, .string a0_1, .string a0_2, .string a0_3, .int .i64 a0_4, .int .i64 a0_5, .string a0_6, .string a0_7, .int .i64 a0_8] 45 (0, 0)) (by refine blk_far ?_ NB971_972.out _; refine blk_far ?_ NB971_972.out _; refine blk_far ?_ NB971_972.out _; exact BK971.out) hb); replace BK972 := Aside0.mk (blk_below (g := gb972) (o := .cells #[.bool false, .string a0_1, .string a0_2] 23 (0, 0)) (by refine blk_put (cs := #[.bool false, .string a0_1, .string (⟨#[]⟩ : ByteArray)]) ?_ 2 _ rfl; refine blk_put (cs := #[.bool false, .string (⟨#[]⟩ : ByteArray), .string (⟨#[]⟩ : ByteArray)]) ?_ 1 _ rfl; refine blk_put (cs := #[.bool false, .string (⟨#[]⟩ : ByteArray), .string (⟨#[]⟩ : ByteArray)]) ?_ 0 _ rfl; exact BK972.out) hb); replace HB := Aside0.mk (below_step hb_ hb); obtain ⟨hcz20_0, hcz20_1, hcz20_2, hfz20_0, hfz20_1, hfz20_2⟩ := BK972.c3) | (go_at_call 84; (with_reducible refine (strings_HasSuffix.calls a0_2 (⟨#[48]⟩ : ByteArray) true _ A15.out).mono ?_); rintro e w' ⟨rfl, ⟨nd, rfl⟩⟩))
     go_meet
     case rel => exact ⟨_, (true), (by first | rfl | (simp; done) | (simp [*]; done)), H', ⟨by first | omega | exact Nat.le_refl _⟩, ⟨by exact BK971.out⟩, ⟨by exact BK972.out⟩, ⟨by repeat (first | (with_reducible first | exact HB.out | apply below_alloc | apply pw_below_drewN | apply below_drew1 | refine below_set ?_ GE971.out | refine below_set ?_ GE972.out) | exact HB.out)⟩⟩
    ·replace c16 := Bool.eq_false_iff.mpr c16
     subst c16
     have H1 : (if a0_4 < (a0_2.size : Int) then (operand_Check.j0 k true false a0_1 a0_2 a0_3 a0_4 a0_5 a0_6 a0_7 a0_8 false a0_1 a0_2) else (if a0_4 > (wrap64 (40 - (a0_1.size : Int))) then (operand_Check.j0 k true false a0_1 a0_2 a0_3 a0_4 a0_5 a0_6 a0_7 a0_8 false a0_1 a0_2) else (if a0_8 < 0 then (operand_Check.j0 k true false a0_1 a0_2 a0_3 a0_4 a0_5 a0_6 a0_7 a0_8 false a0_1 a0_2) else (operand_Check.j0 k (decide (a0_8 > 40)) false a0_1 a0_2 a0_3 a0_4 a0_5 a0_6 a0_7 a0_8 false a0_1 a0_2)))) = some r := by rw [if_neg (show ¬ (false = true) by decide)] at H; exact H
     clear H
     have H := H1
     clear H1
     by_cases c21 : a0_4 < (a0_2.size : Int)
     ·rw [if_pos c21] at H
      have c21b0 : decide (a0_4 < (a0_2.size : Int)) = true := decide_eq_true c21
      clear c21
      have H' := Aside0.mk H
      clear H
      have hnb22 := NB972_971.out
      have hnc22 := NB971_972.out
      obtain ⟨hcz23_0, hcz23_1, hcz23_2, hfz23_0, hfz23_1, hfz23_2⟩ := BK972.c3
      go_wp2_with (first | ((with_reducible refine gate_callee (f := 19) rfl ?_); refine gL_ (some 8) Tryd.func19 #[.agg #[.bool false, .string a0_1, .string a0_2]] ?_; (with_reducible refine (decimal_Check.calls k false a0_1 a0_2 t973 _ A8.out).mono ?_); rintro e w24 ⟨rfl, hb⟩; refine ⟨_, rfl, ?_⟩; replace BK971 := Aside0.mk (blk_below (g := gb971) (o := .cells #[.bool false, .string a0_1, .string a0_2, .string a0_3, .int .i64 a0_4, .int .i64 a0_5, .string a0_6, .string a0_7, .int .i64 a0_8] 45 (0, 0)) (by refine blk_far ?_ NB971_972.out _; refine blk_far ?_ NB971_972.out _; refine blk_far ?_ NB971_972.out _; exact BK971.out) hb); replace BK972 := Aside0.mk (blk_below (g := gb972) (o := .cells #[.bool false, .string a0_1, .string a0_2] 23 (0, 0)) (by refine blk_put (cs := #[.bool false, .string a0_1, .string (⟨#[]⟩ : ByteArray)]) ?_ 2 _ rfl; refine blk_put (cs := #[.bool false, .string (⟨#[]⟩ : ByteArray), .string (⟨#[]⟩ : ByteArray)]) ?_ 1 _ rfl; refine blk_put (cs := #[.bool false, .string (⟨#[]⟩ : ByteArray), .string (⟨#[]⟩ : ByteArray)]) ?_ 0 _ rfl; exact BK972.out) hb); replace HB := Aside0.mk (below_step hb_ hb); obtain ⟨hcz25_0, hcz25_1, hcz25_2, hfz25_0, hfz25_1, hfz25_2⟩ := BK972.c3) | (go_at_call 84; (with_reducible refine (strings_HasSuffix.calls a0_2 (⟨#[48]⟩ : ByteArray) false _ A15.out).mono ?_); rintro e w' ⟨rfl, ⟨nd, rfl⟩⟩; have hcz26_0 : w24.cell? ⟨gb971, 0, none⟩ = some (.bool false) := (blk_cell BK971.out 0).trans rfl; have hcz26_1 : w24.cell? ⟨gb971, 1, none⟩ = some (.string a0_1) := (blk_cell BK971.out 1).trans rfl; have hcz26_2 : w24.cell? ⟨gb971, 2, none⟩ = some (.string a0_2) := (blk_cell BK971.out 2).trans rfl; have hcz26_3 : w24.cell? ⟨gb971, 3, none⟩ = some (.string a0_3) := (blk_cell BK971.out 3).trans rfl; have hcz26_4 : w24.cell? ⟨gb971, 4, none⟩ = some (.int .i64 a0_4) := (blk_cell BK971.out 4).trans rfl; have hcz26_5 : w24.cell? ⟨gb971, 5, none⟩ = some (.int .i64 a0_5) := (blk_cell BK971.out 5).trans rfl; have hcz26_6 : w24.cell? ⟨gb971, 6, none⟩ = some (.string a0_6) := (blk_cell BK971.out 6).trans rfl; have hcz26_7 : w24.cell? ⟨gb971, 7, none⟩ = some (.string a0_7) := (blk_cell BK971.out 7).trans rfl; have hcz26_8 : w24.cell? ⟨gb971, 8, none⟩ = some (.int .i64 a0_8) := (blk_cell BK971.out 8).trans rfl; have hfz26_0 := blk_frozen BK971.out 0; have hfz26_1 := blk_frozen BK971.out 1; have hfz26_2 := blk_frozen BK971.out 2; have hfz26_3 := blk_frozen BK971.out 3; have hfz26_4 := blk_frozen BK971.out 4; have hfz26_5 := blk_frozen BK971.out 5; have hfz26_6 := blk_frozen BK971.out 6; have hfz26_7 := blk_frozen BK971.out 7; have hfz26_8 := blk_frozen BK971.out 8))
      go_meet
      case rel => exact ⟨_, (true), (by first | rfl | (simp; done) | (simp [*]; done)), H', ⟨by first | omega | exact Nat.le_refl _⟩, ⟨by exact BK971.out⟩, ⟨by exact BK972.out⟩, ⟨by repeat (first | (with_reducible first | exact HB.out | apply below_alloc | apply pw_below_drewN | apply below_drew1 | refine below_set ?_ GE971.out | refine below_set ?_ GE972.out) | exact HB.out)⟩⟩
     ·rw [if_neg c21] at H
      have c21b0 : decide (a0_4 < (a0_2.size : Int)) = false := decide_eq_false c21
      clear c21
      by_cases c27 : a0_4 > (wrap64 (40 - (a0_1.size : Int)))
      ·rw [if_pos c27] at H
       have c27b0 : decide ((wrap64 (40 - (a0_1.size : Int))) < a0_4) = true := decide_eq_true c27
       clear c27
       have H' := Aside0.mk H
       clear H
       have hnb28 := NB972_971.out
       have hnc28 := NB971_972.out
       obtain ⟨hcz29_0, hcz29_1, hcz29_2, hfz29_0, hfz29_1, hfz29_2⟩ := BK972.c3
       go_wp2_with (first | ((with_reducible refine gate_callee (f := 19) rfl ?_); refine gL_ (some 8) Tryd.func19 #[.agg #[.bool false, .string a0_1, .string a0_2]] ?_; (with_reducible refine (decimal_Check.calls k false a0_1 a0_2 t973 _ A8.out).mono ?_); rintro e w30 ⟨rfl, hb⟩; refine ⟨_, rfl, ?_⟩; replace BK971 := Aside0.mk (blk_below (g := gb971) (o := .cells #[.bool false, .string a0_1, .string a0_2, .string a0_3, .int .i64 a0_4, .int .i64 a0_5, .string a0_6, .string a0_7, .int .i64 a0_8] 45 (0, 0)) (by refine blk_far ?_ NB971_972.out _; refine blk_far ?_ NB971_972.out _; refine blk_far ?_ NB971_972.out _; exact BK971.out) hb); replace BK972 := Aside0.mk (blk_below (g := gb972) (o := .cells #[.bool false, .string a0_1, .string a0_2] 23 (0, 0)) (by refine blk_put (cs := #[.bool false, .string a0_1, .string (⟨#[]⟩ : ByteArray)]) ?_ 2 _ rfl; refine blk_put (cs := #[.bool false, .string (⟨#[]⟩ : ByteArray), .string (⟨#[]⟩ : ByteArray)]) ?_ 1 _ rfl; refine blk_put (cs := #[.bool false, .string (⟨#[]⟩ : ByteArray), .string (⟨#[]⟩ : ByteArray)]) ?_ 0 _ rfl; exact BK972.out) hb); replace HB := Aside0.mk (below_step hb_ hb); obtain ⟨hcz31_0, hcz31_1, hcz31_2, hfz31_0, hfz31_1, hfz31_2⟩ := BK972.c3) | (go_at_call 84; (with_reducible refine (strings_HasSuffix.calls a0_2 (⟨#[48]⟩ : ByteArray) false _ A15.out).mono ?_); rintro e w' ⟨rfl, ⟨nd, rfl⟩⟩; have hcz32_0 : w30.cell? ⟨gb971, 0, none⟩ = some (.bool false) := (blk_cell BK971.out 0).trans rfl; have hcz32_1 : w30.cell? ⟨gb971, 1, none⟩ = some (.string a0_1) := (blk_cell BK971.out 1).trans rfl; have hcz32_2 : w30.cell? ⟨gb971, 2, none⟩ = some (.string a0_2) := (blk_cell BK971.out 2).trans rfl; have hcz32_3 : w30.cell? ⟨gb971, 3, none⟩ = some (.string a0_3) := (blk_cell BK971.out 3).trans rfl; have hcz32_4 : w30.cell? ⟨gb971, 4, none⟩ = some (.int .i64 a0_4) := (blk_cell BK971.out 4).trans rfl; have hcz32_5 : w30.cell? ⟨gb971, 5, none⟩ = some (.int .i64 a0_5) := (blk_cell BK971.out 5).trans rfl; have hcz32_6 : w30.cell? ⟨gb971, 6, none⟩ = some (.string a0_6) := (blk_cell BK971.out 6).trans rfl; have hcz32_7 : w30.cell? ⟨gb971, 7, none⟩ = some (.string a0_7) := (blk_cell BK971.out 7).trans rfl; have hcz32_8 : w30.cell? ⟨gb971, 8, none⟩ = some (.int .i64 a0_8) := (blk_cell BK971.out 8).trans rfl; have hfz32_0 := blk_frozen BK971.out 0; have hfz32_1 := blk_frozen BK971.out 1; have hfz32_2 := blk_frozen BK971.out 2; have hfz32_3 := blk_frozen BK971.out 3; have hfz32_4 := blk_frozen BK971.out 4; have hfz32_5 := blk_frozen BK971.out 5; have hfz32_6 := blk_frozen BK971.out 6; have hfz32_7 := blk_frozen BK971.out 7; have hfz32_8 := blk_frozen BK971.out 8))
       go_meet
       case rel => exact ⟨_, (true), (by first | rfl | (simp; done) | (simp [*]; done)), H', ⟨by first | omega | exact Nat.le_refl _⟩, ⟨by exact BK971.out⟩, ⟨by exact BK972.out⟩, ⟨by repeat (first | (with_reducible first | exact HB.out | apply below_alloc | apply pw_below_drewN | apply below_drew1 | refine below_set ?_ GE971.out | refine below_set ?_ GE972.out) | exact HB.out)⟩⟩
      ·rw [if_neg c27] at H
       have c27b0 : decide ((wrap64 (40 - (a0_1.size : Int))) < a0_4) = false := decide_eq_false c27
       clear c27
       by_cases c33 : a0_8 < 0
       ·rw [if_pos c33] at H
        have c33b0 : decide (a0_8 < 0) = true := decide_eq_true c33
        clear c33
        have H' := Aside0.mk H
        clear H
        have hnb34 := NB972_971.out
        have hnc34 := NB971_972.out
        obtain ⟨hcz35_0, hcz35_1, hcz35_2, hfz35_0, hfz35_1, hfz35_2⟩ := BK972.c3
        go_wp2_with (first | ((with_reducible refine gate_callee (f := 19) rfl ?_); refine gL_ (some 8) Tryd.func19 #[.agg #[.bool false, .string a0_1, .string a0_2]] ?_; (with_reducible refine (decimal_Check.calls k false a0_1 a0_2 t973 _ A8.out).mono ?_); rintro e w36 ⟨rfl, hb⟩; refine ⟨_, rfl, ?_⟩; replace BK971 := Aside0.mk (blk_below (g := gb971) (o := .cells #[.bool false, .string a0_1, .string a0_2, .string a0_3, .int .i64 a0_4, .int .i64 a0_5, .string a0_6, .string a0_7, .int .i64 a0_8] 45 (0, 0)) (by refine blk_far ?_ NB971_972.out _; refine blk_far ?_ NB971_972.out _; refine blk_far ?_ NB971_972.out _; exact BK971.out) hb); replace BK972 := Aside0.mk (blk_below (g := gb972) (o := .cells #[.bool false, .string a0_1, .string a0_2] 23 (0, 0)) (by refine blk_put (cs := #[.bool false, .string a0_1, .string (⟨#[]⟩ : ByteArray)]) ?_ 2 _ rfl; refine blk_put (cs := #[.bool false, .string (⟨#[]⟩ : ByteArray), .string (⟨#[]⟩ : ByteArray)]) ?_ 1 _ rfl; refine blk_put (cs := #[.bool false, .string (⟨#[]⟩ : ByteArray), .string (⟨#[]⟩ : ByteArray)]) ?_ 0 _ rfl; exact BK972.out) hb); replace HB := Aside0.mk (below_step hb_ hb); obtain ⟨hcz37_0, hcz37_1, hcz37_2, hfz37_0, hfz37_1, hfz37_2⟩ := BK972.c3) | (go_at_call 84; (with_reducible refine (strings_HasSuffix.calls a0_2 (⟨#[48]⟩ : ByteArray) false _ A15.out).mono ?_); rintro e w' ⟨rfl, ⟨nd, rfl⟩⟩; have hcz38_0 : w36.cell? ⟨gb971, 0, none⟩ = some (.bool false) := (blk_cell BK971.out 0).trans rfl; have hcz38_1 : w36.cell? ⟨gb971, 1, none⟩ = some (.string a0_1) := (blk_cell BK971.out 1).trans rfl; have hcz38_2 : w36.cell? ⟨gb971, 2, none⟩ = some (.string a0_2) := (blk_cell BK971.out 2).trans rfl; have hcz38_3 : w36.cell? ⟨gb971, 3, none⟩ = some (.string a0_3) := (blk_cell BK971.out 3).trans rfl; have hcz38_4 : w36.cell? ⟨gb971, 4, none⟩ = some (.int .i64 a0_4) := (blk_cell BK971.out 4).trans rfl; have hcz38_5 : w36.cell? ⟨gb971, 5, none⟩ = some (.int .i64 a0_5) := (blk_cell BK971.out 5).trans rfl; have hcz38_6 : w36.cell? ⟨gb971, 6, none⟩ = some (.string a0_6) := (blk_cell BK971.out 6).trans rfl; have hcz38_7 : w36.cell? ⟨gb971, 7, none⟩ = some (.string a0_7) := (blk_cell BK971.out 7).trans rfl; have hcz38_8 : w36.cell? ⟨gb971, 8, none⟩ = some (.int .i64 a0_8) := (blk_cell BK971.out 8).trans rfl; have hfz38_0 := blk_frozen BK971.out 0; have hfz38_1 := blk_frozen BK971.out 1; have hfz38_2 := blk_frozen BK971.out 2; have hfz38_3 := blk_frozen BK971.out 3; have hfz38_4 := blk_frozen BK971.out 4; have hfz38_5 := blk_frozen BK971.out 5; have hfz38_6 := blk_frozen BK971.out 6; have hfz38_7 := blk_frozen BK971.out 7; have hfz38_8 := blk_frozen BK971.out 8))
        go_meet
        case rel => exact ⟨_, (true), (by first | rfl | (simp; done) | (simp [*]; done)), H', ⟨by first | omega | exact Nat.le_refl _⟩, ⟨by exact BK971.out⟩, ⟨by exact BK972.out⟩, ⟨by repeat (first | (with_reducible first | exact HB.out | apply below_alloc | apply pw_below_drewN | apply below_drew1 | refine below_set ?_ GE971.out | refine below_set ?_ GE972.out) | exact HB.out)⟩⟩
       ·rw [if_neg c33] at H
        have c33b0 : decide (a0_8 < 0) = false := decide_eq_false c33
        clear c33
        have H' := Aside0.mk H
        clear H
        have hnb39 := NB972_971.out
        have hnc39 := NB971_972.out
        obtain ⟨hcz40_0, hcz40_1, hcz40_2, hfz40_0, hfz40_1, hfz40_2⟩ := BK972.c3
        go_wp2_with (first | ((with_reducible refine gate_callee (f := 19) rfl ?_); refine gL_ (some 8) Tryd.func19 #[.agg #[.bool false, .string a0_1, .string a0_2]] ?_; (with_reducible refine (decimal_Check.calls k false a0_1 a0_2 t973 _ A8.out).mono ?_); rintro e w41 ⟨rfl, hb⟩; refine ⟨_, rfl, ?_⟩; replace BK971 := Aside0.mk (blk_below (g := gb971) (o := .cells #[.bool false, .string a0_1, .string a0_2, .string a0_3, .int .i64 a0_4, .int .i64 a0_5, .string a0_6, .string a0_7, .int .i64 a0_8] 45 (0, 0)) (by refine blk_far ?_ NB971_972.out _; refine blk_far ?_ NB971_972.out _; refine blk_far ?_ NB971_972.out _; exact BK971.out) hb); replace BK972 := Aside0.mk (blk_below (g := gb972) (o := .cells #[.bool false, .string a0_1, .string a0_2] 23 (0, 0)) (by refine blk_put (cs := #[.bool false, .string a0_1, .string (⟨#[]⟩ : ByteArray)]) ?_ 2 _ rfl; refine blk_put (cs := #[.bool false, .string (⟨#[]⟩ : ByteArray), .string (⟨#[]⟩ : ByteArray)]) ?_ 1 _ rfl; refine blk_put (cs := #[.bool false, .string (⟨#[]⟩ : ByteArray), .string (⟨#[]⟩ : ByteArray)]) ?_ 0 _ rfl; exact BK972.out) hb); replace HB := Aside0.mk (below_step hb_ hb); obtain ⟨hcz42_0, hcz42_1, hcz42_2, hfz42_0, hfz42_1, hfz42_2⟩ := BK972.c3) | (go_at_call 84; (with_reducible refine (strings_HasSuffix.calls a0_2 (⟨#[48]⟩ : ByteArray) false _ A15.out).mono ?_); rintro e w' ⟨rfl, ⟨nd, rfl⟩⟩; have hcz43_0 : w41.cell? ⟨gb971, 0, none⟩ = some (.bool false) := (blk_cell BK971.out 0).trans rfl; have hcz43_1 : w41.cell? ⟨gb971, 1, none⟩ = some (.string a0_1) := (blk_cell BK971.out 1).trans rfl; have hcz43_2 : w41.cell? ⟨gb971, 2, none⟩ = some (.string a0_2) := (blk_cell BK971.out 2).trans rfl; have hcz43_3 : w41.cell? ⟨gb971, 3, none⟩ = some (.string a0_3) := (blk_cell BK971.out 3).trans rfl; have hcz43_4 : w41.cell? ⟨gb971, 4, none⟩ = some (.int .i64 a0_4) := (blk_cell BK971.out 4).trans rfl; have hcz43_5 : w41.cell? ⟨gb971, 5, none⟩ = some (.int .i64 a0_5) := (blk_cell BK971.out 5).trans rfl; have hcz43_6 : w41.cell? ⟨gb971, 6, none⟩ = some (.string a0_6) := (blk_cell BK971.out 6).trans rfl; have hcz43_7 : w41.cell? ⟨gb971, 7, none⟩ = some (.string a0_7) := (blk_cell BK971.out 7).trans rfl; have hcz43_8 : w41.cell? ⟨gb971, 8, none⟩ = some (.int .i64 a0_8) := (blk_cell BK971.out 8).trans rfl; have hfz43_0 := blk_frozen BK971.out 0; have hfz43_1 := blk_frozen BK971.out 1; have hfz43_2 := blk_frozen BK971.out 2; have hfz43_3 := blk_frozen BK971.out 3; have hfz43_4 := blk_frozen BK971.out 4; have hfz43_5 := blk_frozen BK971.out 5; have hfz43_6 := blk_frozen BK971.out 6; have hfz43_7 := blk_frozen BK971.out 7; have hfz43_8 := blk_frozen BK971.out 8))
        go_meet
        case rel => exact ⟨_, (decide (a0_8 > 40)), (by first | rfl | (simp; done) | (simp [*]; done)), H', ⟨by first | omega | exact Nat.le_refl _⟩, ⟨by exact BK971.out⟩, ⟨by exact BK972.out⟩, ⟨by repeat (first | (with_reducible first | exact HB.out | apply below_alloc | apply pw_below_drewN | apply below_drew1 | refine below_set ?_ GE971.out | refine below_set ?_ GE972.out) | exact HB.out)⟩⟩
  ·rw [if_neg c9] at H
   have c9b0 : (t973 == 0) = false := beq_eq_false_iff_ne.mpr c9
   have c9b1 : (t973 != 0) = true := bne_iff_ne.mpr c9
   (first | rw [c9b0] | (simp only [i64_w, i32_w]; rw [c9b0]) | rw [c9b1] | skip)
   have H' := Aside0.mk H
   clear H
   have hnb44 := NB972_971.out
   have hnc44 := NB971_972.out
   obtain ⟨hcz45_0, hcz45_1, hcz45_2, hfz45_0, hfz45_1, hfz45_2⟩ := BK972.c3
   go_wp2_with (first | ((with_reducible refine gate_callee (f := 19) rfl ?_); refine gL_ (some 8) Tryd.func19 #[.agg #[.bool a0_0, .string a0_1, .string a0_2]] ?_; (with_reducible refine (decimal_Check.calls k a0_0 a0_1 a0_2 t973 _ A8.out).mono ?_); rintro e w46 ⟨rfl, hb⟩; refine ⟨_, rfl, ?_⟩; replace BK971 := Aside0.mk (blk_below (g := gb971) (o := .cells #[.bool a0_0, .string a0_1, .string a0_2, .string a0_3, .int .i64 a0_4, .int .i64 a0_5, .string a0_6, .string a0_7, .int .i64 a0_8] 45 (0, 0)) (by refine blk_far ?_ NB971_972.out _; refine blk_far ?_ NB971_972.out _; refine blk_far ?_ NB971_972.out _; exact BK971.out) hb); replace BK972 := Aside0.mk (blk_below (g := gb972) (o := .cells #[.bool a0_0, .string a0_1, .string a0_2] 23 (0, 0)) (by refine blk_put (cs := #[.bool a0_0, .string a0_1, .string (⟨#[]⟩ : ByteArray)]) ?_ 2 _ rfl; refine blk_put (cs := #[.bool a0_0, .string (⟨#[]⟩ : ByteArray), .string (⟨#[]⟩ : ByteArray)]) ?_ 1 _ rfl; refine blk_put (cs := #[.bool false, .string (⟨#[]⟩ : ByteArray), .string (⟨#[]⟩ : ByteArray)]) ?_ 0 _ rfl; exact BK972.out) hb); replace HB := Aside0.mk (below_step hb_ hb)))
   go_meet
   case rel => exact ⟨_, (true), (by first | rfl | (simp; done) | (simp [*]; done)), H', ⟨by first | omega | exact Nat.le_refl _⟩, ⟨by exact BK971.out⟩, ⟨by exact BK972.out⟩, ⟨by repeat (first | (with_reducible first | exact HB.out | apply below_alloc | apply pw_below_drewN | apply below_drew1 | refine below_set ?_ GE971.out | refine below_set ?_ GE972.out) | exact HB.out)⟩⟩
 case rest =>
  clear HC2
  (try clear hcz4_0); (try clear hcz4_1); (try clear hcz4_2); (try clear hcz4_3); (try clear hcz4_4); (try clear hcz4_5); (try clear hcz4_6); (try clear hcz4_7); (try clear hcz4_8); (try clear hcz7_0); (try clear hcz7_1); (try clear hcz7_2); (try clear hfz4_0); (try clear hfz4_1); (try clear hfz4_2); (try clear hfz4_3); (try clear hfz4_4); (try clear hfz4_5); (try clear hfz4_6); (try clear hfz4_7); (try clear hfz4_8); (try clear hfz7_0); (try clear hfz7_1); (try clear hfz7_2)
  obtain ⟨kq, x45_1, rfl, HA, HJ1, BK971, BK972, HB⟩ := hcut
  cases kq with
  | zero => exact absurd HA.out (by simp [operand_Check.j0])
  | succ kj1 =>
   have H := HA.out
   clear HA
   simp only [operand_Check.j0] at H
   by_cases c47 : x45_1 = true
   ·subst c47
    have H1 : (some 40) = some r := by rw [if_pos rfl] at H; exact H
    clear H
    have H := H1
    clear H1
    obtain rfl := Option.some.inj H
    go_wp2
    go_ret
    exact ⟨by first | rfl | (simp [errW_none, errW_some] <;> rfl) | (simp [*, errW_none, errW_some] <;> rfl) | (simp [bne_nil_]; done), by repeat (first | (with_reducible first | exact HB.out | apply below_alloc | apply pw_below_drewN | apply below_drew1 | refine below_set ?_ GE971.out | refine below_set ?_ GE972.out) | exact HB.out)⟩
   ·replace c47 := Bool.eq_false_iff.mpr c47
    subst c47
    have H1 : ((strings_Repeat.f (⟨#[48]⟩ : ByteArray) (wrap64 (a0_4 - (a0_2.size : Int)))).bind fun t975 => (if a0_2.size + t975.size ≤ 9223372036854775807 then (if a0_3.toList = a0_1.toList then (if a0_5 = (a0_2.size : Int) then ((operand_whole.f kj1 (a0_2 ++ t975)).bind fun t976 => (if a0_6.toList = t976.toList then ((operand_whole.f kj1 a0_2).bind fun t977 => (if a0_7.toList = t977.toList then (some 0) else (some 40))) else (some 40))) else (some 40)) else (some 40)) else (none))) = some r := by rw [if_neg (show ¬ (false = true) by decide)] at H; exact H
    clear H
    have H := H1
    clear H1
    replace H := Option.bind_eq_some_iff.mp H
    obtain ⟨t975, A480, H⟩ := H
    try dsimp only at H
    have A48 := Aside0.mk A480
    clear A480
    by_cases c49 : a0_2.size + t975.size ≤ 9223372036854775807
    ·rw [if_pos c49] at H
     have c49b0 := eq_true c49
     have c49b1 : decide (a0_2.size + t975.size ≤ 9223372036854775807) = true := decide_eq_true c49
     try have c49b2 : (9223372036854775807 < a0_2.size + t975.size) = False := eq_false (Nat.not_lt.2 c49)
     by_cases c50 : a0_3.toList = a0_1.toList
     ·rw [if_pos c50] at H
      have c50b0 : (a0_3.toList == a0_1.toList) = true := beq_iff_eq.mpr c50
      have c50b1 : (a0_3.toList != a0_1.toList) = false := bne_eq_false_iff_eq.mpr c50
      clear c50
      by_cases c51 : a0_5 = (a0_2.size : Int)
      ·rw [if_pos c51] at H
       have c51b0 : (a0_5 == (a0_2.size : Int)) = true := beq_iff_eq.mpr c51
       have c51b1 : (a0_5 != (a0_2.size : Int)) = false := bne_eq_false_iff_eq.mpr c51
       clear c51
       replace H := Option.bind_eq_some_iff.mp H
       obtain ⟨t976, A520, H⟩ := H
       try dsimp only at H
       have A52 := Aside0.mk A520
       clear A520
       by_cases c53 : a0_6.toList = t976.toList
       ·rw [if_pos c53] at H
        have c53b0 : (a0_6.toList == t976.toList) = true := beq_iff_eq.mpr c53
        have c53b1 : (a0_6.toList != t976.toList) = false := bne_eq_false_iff_eq.mpr c53
        clear c53
        replace H := Option.bind_eq_some_iff.mp H
        obtain ⟨t977, A540, H⟩ := H
        try dsimp only at H
        have A54 := Aside0.mk A540
        clear A540
        have HF55 := Aside0.mk H
        clear H
        try go_wp2
        replace BK971 := Aside0.mk (blk_drew BK971.out)
        replace BK972 := Aside0.mk (blk_drew BK972.out)
        replace HB := Aside0.mk (below_drew1 HB.out)
        refine start_ (n := 11) (S := fun w' => w'.cell? ⟨gb972, 0, none⟩ = some (.bool a0_0) ∧ w'.cell? ⟨gb972, 1, none⟩ = some (.string a0_1) ∧ w'.cell? ⟨gb972, 2, none⟩ = some (.string a0_2) ∧ w'.cell? ⟨gb971, 0, none⟩ = some (.bool a0_0) ∧ w'.cell? ⟨gb971, 1, none⟩ = some (.string a0_1) ∧ w'.cell? ⟨gb971, 2, none⟩ = some (.string a0_2) ∧ w'.cell? ⟨gb971, 3, none⟩ = some (.string a0_3) ∧ w'.cell? ⟨gb971, 4, none⟩ = some (.int .i64 a0_4) ∧ w'.cell? ⟨gb971, 5, none⟩ = some (.int .i64 a0_5) ∧ w'.cell? ⟨gb971, 6, none⟩ = some (.string a0_6) ∧ w'.cell? ⟨gb971, 7, none⟩ = some (.string a0_7) ∧ w'.cell? ⟨gb971, 8, none⟩ = some (.int .i64 a0_8)) (ds := []) #[false, false, false, false, false, false, false, false, false, false, false] (by kernel_rfl) rfl rfl ⟨(blk_cell BK972.out 0).trans rfl, (blk_cell BK972.out 1).trans rfl, (blk_cell BK972.out 2).trans rfl, (blk_cell BK971.out 0).trans rfl, (blk_cell BK971.out 1).trans rfl, (blk_cell BK971.out 2).trans rfl, (blk_cell BK971.out 3).trans rfl, (blk_cell BK971.out 4).trans rfl, (blk_cell BK971.out 5).trans rfl, (blk_cell BK971.out 6).trans rfl, (blk_cell BK971.out 7).trans rfl, (blk_cell BK971.out 8).trans rfl⟩ (fun hHeld => ?_); refine with_tabW operand_Check.tab4 operand_Check.bits4 (fun HT_ HW_ => ?_)
        generalize wc.drew = w56 at BK971 BK972 HB hHeld ⊢
        refine pr_ 0 (some 46) ?_
        refine pr_ 2 (some 48) ?_
        refine pr_ 4 (some 50) ?_
        refine tk_ 1 (some 47) hHeld ?_
        refine tk_ 3 (some 49) hHeld ?_
        refine tk_ 5 (some 51) hHeld ?_
        refine pr_ 6 (some 52) ?_
        refine pr_ 7 (some 53) ?_
        refine one_ (i := 8) (N := some 54) #[true, true, true, true, true, true, true, true, true, false, false] rfl rfl (one_of HT_.out (by kernel_rfl)) (by decide) (fun K hK => ?_)
        refine goes_ Tryd.func79 (by kernel_rfl) rfl #[.string (⟨#[48]⟩ : ByteArray), .int .i64 (wrap64 (a0_4 - (a0_2.size : Int)))] (by rfl) rfl rfl ar_ ?_
        with_reducible refine (strings_Repeat.calls (⟨#[48]⟩ : ByteArray) (wrap64 (a0_4 - (a0_2.size : Int))) t975 _ A48.out).mono ?_
        rintro e w57 ⟨rfl, hb⟩
        refine ⟨_, rfl, ?_⟩
        replace BK971 := BK971.bl hb
        replace BK972 := BK972.bl hb
        replace HB := Aside0.mk (below_step hb_ hb)
        (try clear hb)
        (try clear hb2)
        (try clear hk)
        (try clear hi)
        refine hK.out _ _ ⟨(blk_cell BK972.out 0).trans rfl, (blk_cell BK972.out 1).trans rfl, (blk_cell BK972.out 2).trans rfl, (blk_cell BK971.out 0).trans rfl, (blk_cell BK971.out 1).trans rfl, (blk_cell BK971.out 2).trans rfl, (blk_cell BK971.out 3).trans rfl, (blk_cell BK971.out 4).trans rfl, (blk_cell BK971.out 5).trans rfl, (blk_cell BK971.out 6).trans rfl, (blk_cell BK971.out 7).trans rfl, (blk_cell BK971.out 8).trans rfl⟩ (fun hHeld => ?_)
        clear hK K
        refine norm_ (a' := ?_) ?_ ?_
        rotate_left
        ·show Act.put _ (some 54) _ = _
         simp only [Act.put, List.setIfInBounds_toArray, List.set_cons_zero, List.set_cons_succ, i64_w, i32_w]
         rfl
        refine pr_ 9 (some 55) ?_
        refine pr_ 10 (some 4) ?_
        refine done_ (done_of HT_.out (by kernel_rfl)) ?_
        try go_wp2
        replace BK971 := Aside0.mk (blk_drew BK971.out)
        replace BK972 := Aside0.mk (blk_drew BK972.out)
        replace HB := Aside0.mk (below_drew1 HB.out)
        refine start_ (n := 28) (S := fun w' => w'.cell? ⟨gb971, 0, none⟩ = some (.bool a0_0) ∧ w'.cell? ⟨gb971, 1, none⟩ = some (.string a0_1) ∧ w'.cell? ⟨gb971, 2, none⟩ = some (.string a0_2) ∧ w'.cell? ⟨gb971, 3, none⟩ = some (.string a0_3) ∧ w'.cell? ⟨gb971, 4, none⟩ = some (.int .i64 a0_4) ∧ w'.cell? ⟨gb971, 5, none⟩ = some (.int .i64 a0_5) ∧ w'.cell? ⟨gb971, 6, none⟩ = some (.string a0_6) ∧ w'.cell? ⟨gb971, 7, none⟩ = some (.string a0_7) ∧ w'.cell? ⟨gb971, 8, none⟩ = some (.int .i64 a0_8) ∧ w'.cell? ⟨gb972, 0, none⟩ = some (.bool a0_0) ∧ w'.cell? ⟨gb972, 1, none⟩ = some (.string a0_1) ∧ w'.cell? ⟨gb972, 2, none⟩ = some (.string a0_2)) (ds := []) #[false, false, false, false, false, false, false, false, false, false, false, false, false, false, false, false, false, false, false, false, false, false, false, false, false, false, false, false] (by kernel_rfl) rfl rfl ⟨(blk_cell BK971.out 0).trans rfl, (blk_cell BK971.out 1).trans rfl, (blk_cell BK971.out 2).trans rfl, (blk_cell BK971.out 3).trans rfl, (blk_cell BK971.out 4).trans rfl, (blk_cell BK971.out 5).trans rfl, (blk_cell BK971.out 6).trans rfl, (blk_cell BK971.out 7).trans rfl, (blk_cell BK971.out 8).trans rfl, (blk_cell BK972.out 0).trans rfl, (blk_cell BK972.out 1).trans rfl, (blk_cell BK972.out 2).trans rfl⟩ (fun hHeld => ?_); refine with_tabW operand_Check.tab5 operand_Check.bits5 (fun HT_ HW_ => ?_)
        generalize w57.drew = w58 at BK971 BK972 HB hHeld ⊢
        refine pr_ 0 (some 56) ?_
        refine pr_ 2 (some 58) ?_
        refine tk_ 1 (some 57) hHeld ?_
        refine tk_ 3 (some 59) hHeld ?_
        refine pr_ 4 (some 60) ?_
        refine pr_ 5 (some 61) ?_
        refine pr_ 6 (some 62) ?_
        refine pr_ 8 (some 64) ?_
        refine tk_ 7 (some 63) hHeld ?_
        refine tk_ 9 (some 65) hHeld ?_
        refine pr_ 10 (some 66) ?_
        refine pr_ 11 (some 67) ?_
        refine pr_ 12 (some 68) ?_
        refine pr_ 13 (some 69) ?_
        refine pr_ 14 (some 70) ?_
        refine pr_ 16 (some 72) ?_
        refine tk_ 15 (some 71) hHeld ?_
        refine one_ (i := 17) (N := some 73) #[true, true, true, true, true, true, true, true, true, true, true, true, true, true, true, true, true, true, false, false, false, false, false, false, false, false, false, false] rfl rfl (one_of HT_.out (by kernel_rfl)) (by decide) (fun K hK => ?_)
        refine goes_ Tryd.func82 (by kernel_rfl) rfl #[.string (a0_2 ++ t975)] (by rfl) rfl rfl ar_ ?_
        with_reducible refine (operand_whole.calls kj1 (a0_2 ++ t975) t976 _ A52.out).mono ?_
        rintro e w59 ⟨rfl, hb⟩
        refine ⟨_, rfl, ?_⟩
        replace BK971 := BK971.bl hb
        replace BK972 := BK972.bl hb
        replace HB := Aside0.mk (below_step hb_ hb)
        (try clear hb)
        (try clear hb2)
        (try clear hk)
        (try clear hi)
        refine hK.out _ _ ⟨(blk_cell BK971.out 0).trans rfl, (blk_cell BK971.out 1).trans rfl, (blk_cell BK971.out 2).trans rfl, (blk_cell BK971.out 3).trans rfl, (blk_cell BK971.out 4).trans rfl, (blk_cell BK971.out 5).trans rfl, (blk_cell BK971.out 6).trans rfl, (blk_cell BK971.out 7).trans rfl, (blk_cell BK971.out 8).trans rfl, (blk_cell BK972.out 0).trans rfl, (blk_cell BK972.out 1).trans rfl, (blk_cell BK972.out 2).trans rfl⟩ (fun hHeld => ?_)
        clear hK K
        refine norm_ (a' := ?_) ?_ ?_
        rotate_left
        ·show Act.put _ (some 73) _ = _
         simp only [Act.put, List.setIfInBounds_toArray, List.set_cons_zero, List.set_cons_succ, i64_w, i32_w]
         rfl
        refine pr_ 18 (some 74) ?_
        refine pr_ 19 (some 75) ?_
        refine pr_ 20 (some 76) ?_
        refine pr_ 21 (some 77) ?_
        refine pr_ 23 (some 79) ?_
        refine tk_ 22 (some 78) hHeld ?_
        refine tk_ 24 (some 80) hHeld ?_
        refine one_ (i := 25) (N := some 81) #[true, true, true, true, true, true, true, true, true, true, true, true, true, true, true, true, true, true, true, true, true, true, true, true, true, true, false, false] rfl rfl (one_of HT_.out (by kernel_rfl)) (by decide) (fun K hK => ?_)
        refine goes_ Tryd.func82 (by kernel_rfl) rfl #[.string a0_2] (by rfl) rfl rfl ar_ ?_
        with_reducible refine (operand_whole.calls kj1 a0_2 t977 _ A54.out).mono ?_
        rintro e w60 ⟨rfl, hb⟩
        refine ⟨_, rfl, ?_⟩
        replace BK971 := BK971.bl hb
        replace BK972 := BK972.bl hb
        replace HB := Aside0.mk (below_step hb_ hb)
        (try clear hb)
        (try clear hb2)
        (try clear hk)
        (try clear hi)
        refine hK.out _ _ ⟨(blk_cell BK971.out 0).trans rfl, (blk_cell BK971.out 1).trans rfl, (blk_cell BK971.out 2).trans rfl, (blk_cell BK971.out 3).trans rfl, (blk_cell BK971.out 4).trans rfl, (blk_cell BK971.out 5).trans rfl, (blk_cell BK971.out 6).trans rfl, (blk_cell BK971.out 7).trans rfl, (blk_cell BK971.out 8).trans rfl, (blk_cell BK972.out 0).trans rfl, (blk_cell BK972.out 1).trans rfl, (blk_cell BK972.out 2).trans rfl⟩ (fun hHeld => ?_)
        clear hK K
        refine norm_ (a' := ?_) ?_ ?_
        rotate_left
        ·show Act.put _ (some 81) _ = _
         simp only [Act.put, List.setIfInBounds_toArray, List.set_cons_zero, List.set_cons_succ, i64_w, i32_w]
         rfl
        refine pr_ 26 (some 82) ?_
        refine pr_ 27 (some 83) ?_
        refine done_ (done_of HT_.out (by kernel_rfl)) ?_
        go_upto_if 83 with (fail)
        have H := HF55.out
        clear HF55
        by_cases c61 : a0_7.toList = t977.toList
        ·rw [if_pos c61] at H
         have c61b0 : (a0_7.toList == t977.toList) = true := beq_iff_eq.mpr c61
         have c61b1 : (a0_7.toList != t977.toList) = false := bne_eq_false_iff_eq.mpr c61
         clear c61
         (first | rw [c61b0] | (simp only [i64_w, i32_w]; rw [c61b0]) | rw [c61b1] | skip)
         obtain rfl := Option.some.inj H
         go_wp2
         go_ret
         exact ⟨by first | rfl | (simp [errW_none, errW_some] <;> rfl) | (simp [*, errW_none, errW_some] <;> rfl) | (simp [bne_nil_]; done), by repeat (first | (with_reducible first | exact HB.out | apply below_alloc | apply pw_below_drewN | apply below_drew1 | refine below_set ?_ GE971.out | refine below_set ?_ GE972.out) | exact HB.out)⟩
        ·rw [if_neg c61] at H
         have c61b0 : (a0_7.toList == t977.toList) = false := beq_eq_false_iff_ne.mpr c61
         have c61b1 : (a0_7.toList != t977.toList) = true := bne_iff_ne.mpr c61
         (first | rw [c61b0] | (simp only [i64_w, i32_w]; rw [c61b0]) | rw [c61b1] | skip)
         obtain rfl := Option.some.inj H
         go_wp2
         go_ret
         exact ⟨by first | rfl | (simp [errW_none, errW_some] <;> rfl) | (simp [*, errW_none, errW_some] <;> rfl) | (simp [bne_nil_]; done), by repeat (first | (with_reducible first | exact HB.out | apply below_alloc | apply pw_below_drewN | apply below_drew1 | refine below_set ?_ GE971.out | refine below_set ?_ GE972.out) | exact HB.out)⟩
       ·rw [if_neg c53] at H
        have c53b0 : (a0_6.toList == t976.toList) = false := beq_eq_false_iff_ne.mpr c53
        have c53b1 : (a0_6.toList != t976.toList) = true := bne_iff_ne.mpr c53
        obtain rfl := Option.some.inj H
        try go_wp2
        replace BK971 := Aside0.mk (blk_drew BK971.out)
        replace BK972 := Aside0.mk (blk_drew BK972.out)
        replace HB := Aside0.mk (below_drew1 HB.out)
        refine start_ (n := 11) (S := fun w' => w'.cell? ⟨gb972, 0, none⟩ = some (.bool a0_0) ∧ w'.cell? ⟨gb972, 1, none⟩ = some (.string a0_1) ∧ w'.cell? ⟨gb972, 2, none⟩ = some (.string a0_2) ∧ w'.cell? ⟨gb971, 0, none⟩ = some (.bool a0_0) ∧ w'.cell? ⟨gb971, 1, none⟩ = some (.string a0_1) ∧ w'.cell? ⟨gb971, 2, none⟩ = some (.string a0_2) ∧ w'.cell? ⟨gb971, 3, none⟩ = some (.string a0_3) ∧ w'.cell? ⟨gb971, 4, none⟩ = some (.int .i64 a0_4) ∧ w'.cell? ⟨gb971, 5, none⟩ = some (.int .i64 a0_5) ∧ w'.cell? ⟨gb971, 6, none⟩ = some (.string a0_6) ∧ w'.cell? ⟨gb971, 7, none⟩ = some (.string a0_7) ∧ w'.cell? ⟨gb971, 8, none⟩ = some (.int .i64 a0_8)) (ds := []) #[false, false, false, false, false, false, false, false, false, false, false] (by kernel_rfl) rfl rfl ⟨(blk_cell BK972.out 0).trans rfl, (blk_cell BK972.out 1).trans rfl, (blk_cell BK972.out 2).trans rfl, (blk_cell BK971.out 0).trans rfl, (blk_cell BK971.out 1).trans rfl, (blk_cell BK971.out 2).trans rfl, (blk_cell BK971.out 3).trans rfl, (blk_cell BK971.out 4).trans rfl, (blk_cell BK971.out 5).trans rfl, (blk_cell BK971.out 6).trans rfl, (blk_cell BK971.out 7).trans rfl, (blk_cell BK971.out 8).trans rfl⟩ (fun hHeld => ?_); refine with_tabW operand_Check.tab4 operand_Check.bits4 (fun HT_ HW_ => ?_)
        generalize wc.drew = w62 at BK971 BK972 HB hHeld ⊢
        refine pr_ 0 (some 46) ?_
        refine pr_ 2 (some 48) ?_
        refine pr_ 4 (some 50) ?_
        refine tk_ 1 (some 47) hHeld ?_
        refine tk_ 3 (some 49) hHeld ?_
        refine tk_ 5 (some 51) hHeld ?_
        refine pr_ 6 (some 52) ?_
        refine pr_ 7 (some 53) ?_
        refine one_ (i := 8) (N := some 54) #[true, true, true, true, true, true, true, true, true, false, false] rfl rfl (one_of HT_.out (by kernel_rfl)) (by decide) (fun K hK => ?_)
        refine goes_ Tryd.func79 (by kernel_rfl) rfl #[.string (⟨#[48]⟩ : ByteArray), .int .i64 (wrap64 (a0_4 - (a0_2.size : Int)))] (by rfl) rfl rfl ar_ ?_
        with_reducible refine (strings_Repeat.calls (⟨#[48]⟩ : ByteArray) (wrap64 (a0_4 - (a0_2.size : Int))) t975 _ A48.out).mono ?_
        rintro e w63 ⟨rfl, hb⟩
        refine ⟨_, rfl, ?_⟩
        replace BK971 := BK971.bl hb
        replace BK972 := BK972.bl hb
        replace HB := Aside0.mk (below_step hb_ hb)
        (try clear hb)
        (try clear hb2)
        (try clear hk)
        (try clear hi)
        refine hK.out _ _ ⟨(blk_cell BK972.out 0).trans rfl, (blk_cell BK972.out 1).trans rfl, (blk_cell BK972.out 2).trans rfl, (blk_cell BK971.out 0).trans rfl, (blk_cell BK971.out 1).trans rfl, (blk_cell BK971.out 2).trans rfl, (blk_cell BK971.out 3).trans rfl, (blk_cell BK971.out 4).trans rfl, (blk_cell BK971.out 5).trans rfl, (blk_cell BK971.out 6).trans rfl, (blk_cell BK971.out 7).trans rfl, (blk_cell BK971.out 8).trans rfl⟩ (fun hHeld => ?_)
        clear hK K
        refine norm_ (a' := ?_) ?_ ?_
        rotate_left
        ·show Act.put _ (some 54) _ = _
         simp only [Act.put, List.setIfInBounds_toArray, List.set_cons_zero, List.set_cons_succ, i64_w, i32_w]
         rfl
        refine pr_ 9 (some 55) ?_
        refine pr_ 10 (some 4) ?_
        refine done_ (done_of HT_.out (by kernel_rfl)) ?_
        try go_wp2
        replace BK971 := Aside0.mk (blk_drew BK971.out)
        replace BK972 := Aside0.mk (blk_drew BK972.out)
        replace HB := Aside0.mk (below_drew1 HB.out)
        refine start_ (n := 28) (S := fun w' => w'.cell? ⟨gb971, 0, none⟩ = some (.bool a0_0) ∧ w'.cell? ⟨gb971, 1, none⟩ = some (.string a0_1) ∧ w'.cell? ⟨gb971, 2, none⟩ = some (.string a0_2) ∧ w'.cell? ⟨gb971, 3, none⟩ = some (.string a0_3) ∧ w'.cell? ⟨gb971, 4, none⟩ = some (.int .i64 a0_4) ∧ w'.cell? ⟨gb971, 5, none⟩ = some (.int .i64 a0_5) ∧ w'.cell? ⟨gb971, 6, none⟩ = some (.string a0_6) ∧ w'.cell? ⟨gb971, 7, none⟩ = some (.string a0_7) ∧ w'.cell? ⟨gb971, 8, none⟩ = some (.int .i64 a0_8) ∧ w'.cell? ⟨gb972, 0, none⟩ = some (.bool a0_0) ∧ w'.cell? ⟨gb972, 1, none⟩ = some (.string a0_1) ∧ w'.cell? ⟨gb972, 2, none⟩ = some (.string a0_2)) (ds := []) #[false, false, false, false, false, false, false, false, false, false, false, false, false, false, false, false, false, false, false, false, false, false, false, false, false, false, false, false] (by kernel_rfl) rfl rfl ⟨(blk_cell BK971.out 0).trans rfl, (blk_cell BK971.out 1).trans rfl, (blk_cell BK971.out 2).trans rfl, (blk_cell BK971.out 3).trans rfl, (blk_cell BK971.out 4).trans rfl, (blk_cell BK971.out 5).trans rfl, (blk_cell BK971.out 6).trans rfl, (blk_cell BK971.out 7).trans rfl, (blk_cell BK971.out 8).trans rfl, (blk_cell BK972.out 0).trans rfl, (blk_cell BK972.out 1).trans rfl, (blk_cell BK972.out 2).trans rfl⟩ (fun hHeld => ?_); refine with_tabW operand_Check.tab5 operand_Check.bits5 (fun HT_ HW_ => ?_)
        generalize w63.drew = w64 at BK971 BK972 HB hHeld ⊢
        refine pr_ 0 (some 56) ?_
        refine pr_ 2 (some 58) ?_
        refine tk_ 1 (some 57) hHeld ?_
        refine tk_ 3 (some 59) hHeld ?_
        refine pr_ 4 (some 60) ?_
        refine pr_ 5 (some 61) ?_
        refine pr_ 6 (some 62) ?_
        refine pr_ 8 (some 64) ?_
        refine tk_ 7 (some 63) hHeld ?_
        refine tk_ 9 (some 65) hHeld ?_
        refine pr_ 10 (some 66) ?_
        refine pr_ 11 (some 67) ?_
        refine pr_ 12 (some 68) ?_
        refine pr_ 13 (some 69) ?_
        refine pr_ 14 (some 70) ?_
        refine pr_ 16 (some 72) ?_
        refine tk_ 15 (some 71) hHeld ?_
        refine one_ (i := 17) (N := some 73) #[true, true, true, true, true, true, true, true, true, true, true, true, true, true, true, true, true, true, false, false, false, false, false, false, false, false, false, false] rfl rfl (one_of HT_.out (by kernel_rfl)) (by decide) (fun K hK => ?_)
        refine goes_ Tryd.func82 (by kernel_rfl) rfl #[.string (a0_2 ++ t975)] (by rfl) rfl rfl ar_ ?_
        with_reducible refine (operand_whole.calls kj1 (a0_2 ++ t975) t976 _ A52.out).mono ?_
        rintro e w65 ⟨rfl, hb⟩
        refine ⟨_, rfl, ?_⟩
        replace BK971 := BK971.bl hb
        replace BK972 := BK972.bl hb
        replace HB := Aside0.mk (below_step hb_ hb)
        (try clear hb)
        (try clear hb2)
        (try clear hk)
        (try clear hi)
        refine hK.out _ _ ⟨(blk_cell BK971.out 0).trans rfl, (blk_cell BK971.out 1).trans rfl, (blk_cell BK971.out 2).trans rfl, (blk_cell BK971.out 3).trans rfl, (blk_cell BK971.out 4).trans rfl, (blk_cell BK971.out 5).trans rfl, (blk_cell BK971.out 6).trans rfl, (blk_cell BK971.out 7).trans rfl, (blk_cell BK971.out 8).trans rfl, (blk_cell BK972.out 0).trans rfl, (blk_cell BK972.out 1).trans rfl, (blk_cell BK972.out 2).trans rfl⟩ (fun hHeld => ?_)
        clear hK K
        refine norm_ (a' := ?_) ?_ ?_
        rotate_left
        ·show Act.put _ (some 73) _ = _
         simp only [Act.put, List.setIfInBounds_toArray, List.set_cons_zero, List.set_cons_succ, i64_w, i32_w]
         rfl
        refine pr_ 18 (some 74) ?_
        refine pr_ 19 (some 75) ?_
        refine pr_ 20 (some 76) ?_
        refine pure_ (i := 21) (N := some 77) (v := undef) (a' := ?_) #[true, true, true, true, true, true, true, true, true, true, true, true, true, true, true, true, true, true, true, true, true, true, false, false, false, false, false, false] rfl rfl (any_of HT_.out (by kernel_rfl)) (fun _ _ _ h => h) (Or.inr ⟨by rfl, rfl⟩) ?_ ?_
        rotate_left
        ·simp only [Act.put, List.setIfInBounds_toArray, List.set_cons_zero, List.set_cons_succ, i64_w, i32_w]
         rfl
        refine pure_ (i := 22) (N := some 78) (v := undef) (a' := ?_) #[true, true, true, true, true, true, true, true, true, true, true, true, true, true, true, true, true, true, true, true, true, true, true, false, false, false, false, false] rfl rfl (any_of HT_.out (by kernel_rfl)) (fun _ _ _ h => h) (Or.inr ⟨by rfl, rfl⟩) ?_ ?_
        rotate_left
        ·simp only [Act.put, List.setIfInBounds_toArray, List.set_cons_zero, List.set_cons_succ, i64_w, i32_w]
         rfl
        refine pure_ (i := 23) (N := some 79) (v := undef) (a' := ?_) #[true, true, true, true, true, true, true, true, true, true, true, true, true, true, true, true, true, true, true, true, true, true, true, true, false, false, false, false] rfl rfl (any_of HT_.out (by kernel_rfl)) (fun _ _ _ h => h) (Or.inr ⟨by rfl, rfl⟩) ?_ ?_
        rotate_left
        ·simp only [Act.put, List.setIfInBounds_toArray, List.set_cons_zero, List.set_cons_succ, i64_w, i32_w]
         rfl
        refine pure_ (i := 24) (N := some 80) (v := undef) (a' := ?_) #[true, true, true, true, true, true, true, true, true, true, true, true, true, true, true, true, true, true, true, true, true, true, true, true, true, false, false, false] rfl rfl (any_of HT_.out (by kernel_rfl)) (fun _ _ _ h => h) (Or.inr ⟨by rfl, rfl⟩) ?_ ?_
        rotate_left
        ·simp only [Act.put, List.setIfInBounds_toArray, List.set_cons_zero, List.set_cons_succ, i64_w, i32_w]
         rfl
        refine pure_ (i := 25) (N := some 81) (v := undef) (a' := ?_) #[true, true, true, true, true, true, true, true, true, true, true, true, true, true, true, true, true, true, true, true, true, true, true, true, true, true, false, false] rfl rfl (any_of HT_.out (by kernel_rfl)) (fun _ _ _ h => h) (Or.inr ⟨by rfl, rfl⟩) ?_ ?_
        rotate_left
        ·simp only [Act.put, List.setIfInBounds_toArray, List.set_cons_zero, List.set_cons_succ, i64_w, i32_w]
         rfl
        refine pure_ (i := 26) (N := some 82) (v := undef) (a' := ?_) #[true, true, true, true, true, true, true, true, true, true, true, true, true, true, true, true, true, true, true, true, true, true, true, true, true, true, true, false] rfl rfl (any_of HT_.out (by kernel_rfl)) (fun _ _ _ h => h) (Or.inr ⟨by rfl, rfl⟩) ?_ ?_
        rotate_left
        ·simp only [Act.put, List.setIfInBounds_toArray, List.set_cons_zero, List.set_cons_succ, i64_w, i32_w]
         rfl
        refine pr_ 27 (some 83) ?_
        refine done_ (done_of HT_.out (by kernel_rfl)) ?_
        try go_wp2
        go_ret
        exact ⟨by first | rfl | (simp [errW_none, errW_some] <;> rfl) | (simp [*, errW_none, errW_some] <;> rfl) | (simp [bne_nil_]; done), by repeat (first | (with_reducible first | exact HB.out | apply below_alloc | apply pw_below_drewN | apply below_drew1 | refine below_set ?_ GE971.out | refine below_set ?_ GE972.out) | exact HB.out)⟩
      ·rw [if_neg c51] at H
       have c51b0 : (a0_5 == (a0_2.size : Int)) = false := beq_eq_false_iff_ne.mpr c51
       have c51b1 : (a0_5 != (a0_2.size : Int)) = true := bne_iff_ne.mpr c51
       obtain rfl := Option.some.inj H
       try go_wp2
       replace BK971 := Aside0.mk (blk_drew BK971.out)
       replace BK972 := Aside0.mk (blk_drew BK972.out)
       replace HB := Aside0.mk (below_drew1 HB.out)
       refine start_ (n := 11) (S := fun w' => w'.cell? ⟨gb972, 0, none⟩ = some (.bool a0_0) ∧ w'.cell? ⟨gb972, 1, none⟩ = some (.string a0_1) ∧ w'.cell? ⟨gb972, 2, none⟩ = some (.string a0_2) ∧ w'.cell? ⟨gb971, 0, none⟩ = some (.bool a0_0) ∧ w'.cell? ⟨gb971, 1, none⟩ = some (.string a0_1) ∧ w'.cell? ⟨gb971, 2, none⟩ = some (.string a0_2) ∧ w'.cell? ⟨gb971, 3, none⟩ = some (.string a0_3) ∧ w'.cell? ⟨gb971, 4, none⟩ = some (.int .i64 a0_4) ∧ w'.cell? ⟨gb971, 5, none⟩ = some (.int .i64 a0_5) ∧ w'.cell? ⟨gb971, 6, none⟩ = some (.string a0_6) ∧ w'.cell? ⟨gb971, 7, none⟩ = some (.string a0_7) ∧ w'.cell? ⟨gb971, 8, none⟩ = some (.int .i64 a0_8)) (ds := []) #[false, false, false, false, false, false, false, false, false, false, false] (by kernel_rfl) rfl rfl ⟨(blk_cell BK972.out 0).trans rfl, (blk_cell BK972.out 1).trans rfl, (blk_cell BK972.out 2).trans rfl, (blk_cell BK971.out 0).trans rfl, (blk_cell BK971.out 1).trans rfl, (blk_cell BK971.out 2).trans rfl, (blk_cell BK971.out 3).trans rfl, (blk_cell BK971.out 4).trans rfl, (blk_cell BK971.out 5).trans rfl, (blk_cell BK971.out 6).trans rfl, (blk_cell BK971.out 7).trans rfl, (blk_cell BK971.out 8).trans rfl⟩ (fun hHeld => ?_); refine with_tabW operand_Check.tab4 operand_Check.bits4 (fun HT_ HW_ => ?_)
       generalize wc.drew = w66 at BK971 BK972 HB hHeld ⊢
       refine pr_ 0 (some 46) ?_
       refine pr_ 2 (some 48) ?_
       refine pr_ 4 (some 50) ?_
       refine tk_ 1 (some 47) hHeld ?_
       refine tk_ 3 (some 49) hHeld ?_
       refine tk_ 5 (some 51) hHeld ?_
       refine pr_ 6 (some 52) ?_
       refine pr_ 7 (some 53) ?_
       refine one_ (i := 8) (N := some 54) #[true, true, true, true, true, true, true, true, true, false, false] rfl rfl (one_of HT_.out (by kernel_rfl)) (by decide) (fun K hK => ?_)
       refine goes_ Tryd.func79 (by kernel_rfl) rfl #[.string (⟨#[48]⟩ : ByteArray), .int .i64 (wrap64 (a0_4 - (a0_2.size : Int)))] (by rfl) rfl rfl ar_ ?_
       with_reducible refine (strings_Repeat.calls (⟨#[48]⟩ : ByteArray) (wrap64 (a0_4 - (a0_2.size : Int))) t975 _ A48.out).mono ?_
       rintro e w67 ⟨rfl, hb⟩
       refine ⟨_, rfl, ?_⟩
       replace BK971 := BK971.bl hb
       replace BK972 := BK972.bl hb
       replace HB := Aside0.mk (below_step hb_ hb)
       (try clear hb)
       (try clear hb2)
       (try clear hk)
       (try clear hi)
       refine hK.out _ _ ⟨(blk_cell BK972.out 0).trans rfl, (blk_cell BK972.out 1).trans rfl, (blk_cell BK972.out 2).trans rfl, (blk_cell BK971.out 0).trans rfl, (blk_cell BK971.out 1).trans rfl, (blk_cell BK971.out 2).trans rfl, (blk_cell BK971.out 3).trans rfl, (blk_cell BK971.out 4).trans rfl, (blk_cell BK971.out 5).trans rfl, (blk_cell BK971.out 6).trans rfl, (blk_cell BK971.out 7).trans rfl, (blk_cell BK971.out 8).trans rfl⟩ (fun hHeld => ?_)
       clear hK K
       refine norm_ (a' := ?_) ?_ ?_
       rotate_left
       ·show Act.put _ (some 54) _ = _
        simp only [Act.put, List.setIfInBounds_toArray, List.set_cons_zero, List.set_cons_succ, i64_w, i32_w]
        rfl
       refine pr_ 9 (some 55) ?_
       refine pr_ 10 (some 4) ?_
       refine done_ (done_of HT_.out (by kernel_rfl)) ?_
       try go_wp2
       replace BK971 := Aside0.mk (blk_drew BK971.out)
       replace BK972 := Aside0.mk (blk_drew BK972.out)
       replace HB := Aside0.mk (below_drew1 HB.out)
       refine start_ (n := 28) (S := fun w' => w'.cell? ⟨gb971, 0, none⟩ = some (.bool a0_0) ∧ w'.cell? ⟨gb971, 1, none⟩ = some (.string a0_1) ∧ w'.cell? ⟨gb971, 2, none⟩ = some (.string a0_2) ∧ w'.cell? ⟨gb971, 3, none⟩ = some (.string a0_3) ∧ w'.cell? ⟨gb971, 4, none⟩ = some (.int .i64 a0_4) ∧ w'.cell? ⟨gb971, 5, none⟩ = some (.int .i64 a0_5) ∧ w'.cell? ⟨gb971, 6, none⟩ = some (.string a0_6) ∧ w'.cell? ⟨gb971, 7, none⟩ = some (.string a0_7) ∧ w'.cell? ⟨gb971, 8, none⟩ = some (.int .i64 a0_8) ∧ w'.cell? ⟨gb972, 0, none⟩ = some (.bool a0_0) ∧ w'.cell? ⟨gb972, 1, none⟩ = some (.string a0_1) ∧ w'.cell? ⟨gb972, 2, none⟩ = some (.string a0_2)) (ds := []) #[false, false, false, false, false, false, false, false, false, false, false, false, false, false, false, false, false, false, false, false, false, false, false, false, false, false, false, false] (by kernel_rfl) rfl rfl ⟨(blk_cell BK971.out 0).trans rfl, (blk_cell BK971.out 1).trans rfl, (blk_cell BK971.out 2).trans rfl, (blk_cell BK971.out 3).trans rfl, (blk_cell BK971.out 4).trans rfl, (blk_cell BK971.out 5).trans rfl, (blk_cell BK971.out 6).trans rfl, (blk_cell BK971.out 7).trans rfl, (blk_cell BK971.out 8).trans rfl, (blk_cell BK972.out 0).trans rfl, (blk_cell BK972.out 1).trans rfl, (blk_cell BK972.out 2).trans rfl⟩ (fun hHeld => ?_); refine with_tabW operand_Check.tab5 operand_Check.bits5 (fun HT_ HW_ => ?_)
       generalize w67.drew = w68 at BK971 BK972 HB hHeld ⊢
       refine pr_ 0 (some 56) ?_
       refine pr_ 2 (some 58) ?_
       refine tk_ 1 (some 57) hHeld ?_
       refine tk_ 3 (some 59) hHeld ?_
       refine pr_ 4 (some 60) ?_
       refine pr_ 5 (some 61) ?_
       refine pr_ 6 (some 62) ?_
       refine pr_ 8 (some 64) ?_
       refine tk_ 7 (some 63) hHeld ?_
       refine tk_ 9 (some 65) hHeld ?_
       refine pr_ 10 (some 66) ?_
       refine pr_ 11 (some 67) ?_
       refine pr_ 12 (some 68) ?_
       refine pr_ 13 (some 69) ?_
       refine pure_ (i := 14) (N := some 70) (v := undef) (a' := ?_) #[true, true, true, true, true, true, true, true, true, true, true, true, true, true, true, false, false, false, false, false, false, false, false, false, false, false, false, false] rfl rfl (any_of HT_.out (by kernel_rfl)) (fun _ _ _ h => h) (Or.inr ⟨by rfl, rfl⟩) ?_ ?_
       rotate_left
       ·simp only [Act.put, List.setIfInBounds_toArray, List.set_cons_zero, List.set_cons_succ, i64_w, i32_w]
        rfl
       refine pure_ (i := 15) (N := some 71) (v := undef) (a' := ?_) #[true, true, true, true, true, true, true, true, true, true, true, true, true, true, true, true, false, false, false, false, false, false, false, false, false, false, false, false] rfl rfl (any_of HT_.out (by kernel_rfl)) (fun _ _ _ h => h) (Or.inr ⟨by rfl, rfl⟩) ?_ ?_
       rotate_left
       ·simp only [Act.put, List.setIfInBounds_toArray, List.set_cons_zero, List.set_cons_succ, i64_w, i32_w]
        rfl
       refine pure_ (i := 16) (N := some 72) (v := undef) (a' := ?_) #[true, true, true, true, true, true, true, true, true, true, true, true, true, true, true, true, true, false, false, false, false, false, false, false, false, false, false, false] rfl rfl (any_of HT_.out (by kernel_rfl)) (fun _ _ _ h => h) (Or.inr ⟨by rfl, rfl⟩) ?_ ?_
       rotate_left
       ·simp only [Act.put, List.setIfInBounds_toArray, List.set_cons_zero, List.set_cons_succ, i64_w, i32_w]
        rfl
       refine pure_ (i := 17) (N := some 73) (v := undef) (a' := ?_) #[true, true, true, true, true, true, true, true, true, true, true, true, true, true, true, true, true, true, false, false, false, false, false, false, false, false, false, false] rfl rfl (any_of HT_.out (by kernel_rfl)) (fun _ _ _ h => h) (Or.inr ⟨by rfl, rfl⟩) ?_ ?_
       rotate_left
       ·simp only [Act.put, List.setIfInBounds_toArray, List.set_cons_zero, List.set_cons_succ, i64_w, i32_w]
        rfl
       refine pure_ (i := 18) (N := some 74) (v := undef) (a' := ?_) #[true, true, true, true, true, true, true, true, true, true, true, true, true, true, true, true, true, true, true, false, false, false, false, false, false, false, false, false] rfl rfl (any_of HT_.out (by kernel_rfl)) (fun _ _ _ h => h) (Or.inr ⟨by rfl, rfl⟩) ?_ ?_
       rotate_left
       ·simp only [Act.put, List.setIfInBounds_toArray, List.set_cons_zero, List.set_cons_succ, i64_w, i32_w]
        rfl
       refine pr_ 19 (some 75) ?_
       refine pr_ 20 (some 76) ?_
       refine pure_ (i := 21) (N := some 77) (v := undef) (a' := ?_) #[true, true, true, true, true, true, true, true, true, true, true, true, true, true, true, true, true, true, true, true, true, true, false, false, false, false, false, false] rfl rfl (any_of HT_.out (by kernel_rfl)) (fun _ _ _ h => h) (Or.inr ⟨by rfl, rfl⟩) ?_ ?_
       rotate_left
       ·simp only [Act.put, List.setIfInBounds_toArray, List.set_cons_zero, List.set_cons_succ, i64_w, i32_w]
        rfl
       refine pure_ (i := 22) (N := some 78) (v := undef) (a' := ?_) #[true, true, true, true, true, true, true, true, true, true, true, true, true, true, true, true, true, true, true, true, true, true, true, false, false, false, false, false] rfl rfl (any_of HT_.out (by kernel_rfl)) (fun _ _ _ h => h) (Or.inr ⟨by rfl, rfl⟩) ?_ ?_
       rotate_left
       ·simp only [Act.put, List.setIfInBounds_toArray, List.set_cons_zero, List.set_cons_succ, i64_w, i32_w]
        rfl
       refine pure_ (i := 23) (N := some 79) (v := undef) (a' := ?_) #[true, true, true, true, true, true, true, true, true, true, true, true, true, true, true, true, true, true, true, true, true, true, true, true, false, false, false, false] rfl rfl (any_of HT_.out (by kernel_rfl)) (fun _ _ _ h => h) (Or.inr ⟨by rfl, rfl⟩) ?_ ?_
       rotate_left
       ·simp only [Act.put, List.setIfInBounds_toArray, List.set_cons_zero, List.set_cons_succ, i64_w, i32_w]
        rfl
       refine pure_ (i := 24) (N := some 80) (v := undef) (a' := ?_) #[true, true, true, true, true, true, true, true, true, true, true, true, true, true, true, true, true, true, true, true, true, true, true, true, true, false, false, false] rfl rfl (any_of HT_.out (by kernel_rfl)) (fun _ _ _ h => h) (Or.inr ⟨by rfl, rfl⟩) ?_ ?_
       rotate_left
       ·simp only [Act.put, List.setIfInBounds_toArray, List.set_cons_zero, List.set_cons_succ, i64_w, i32_w]
        rfl
       refine pure_ (i := 25) (N := some 81) (v := undef) (a' := ?_) #[true, true, true, true, true, true, true, true, true, true, true, true, true, true, true, true, true, true, true, true, true, true, true, true, true, true, false, false] rfl rfl (any_of HT_.out (by kernel_rfl)) (fun _ _ _ h => h) (Or.inr ⟨by rfl, rfl⟩) ?_ ?_
       rotate_left
       ·simp only [Act.put, List.setIfInBounds_toArray, List.set_cons_zero, List.set_cons_succ, i64_w, i32_w]
        rfl
       refine pure_ (i := 26) (N := some 82) (v := undef) (a' := ?_) #[true, true, true, true, true, true, true, true, true, true, true, true, true, true, true, true, true, true, true, true, true, true, true, true, true, true, true, false] rfl rfl (any_of HT_.out (by kernel_rfl)) (fun _ _ _ h => h) (Or.inr ⟨by rfl, rfl⟩) ?_ ?_
       rotate_left
       ·simp only [Act.put, List.setIfInBounds_toArray, List.set_cons_zero, List.set_cons_succ, i64_w, i32_w]
        rfl
       refine pr_ 27 (some 83) ?_
       refine done_ (done_of HT_.out (by kernel_rfl)) ?_
       try go_wp2
       go_ret
       exact ⟨by first | rfl | (simp [errW_none, errW_some] <;> rfl) | (simp [*, errW_none, errW_some] <;> rfl) | (simp [bne_nil_]; done), by repeat (first | (with_reducible first | exact HB.out | apply below_alloc | apply pw_below_drewN | apply below_drew1 | refine below_set ?_ GE971.out | refine below_set ?_ GE972.out) | exact HB.out)⟩
     ·rw [if_neg c50] at H
      have c50b0 : (a0_3.toList == a0_1.toList) = false := beq_eq_false_iff_ne.mpr c50
      have c50b1 : (a0_3.toList != a0_1.toList) = true := bne_iff_ne.mpr c50
      obtain rfl := Option.some.inj H
      try go_wp2
      replace BK971 := Aside0.mk (blk_drew BK971.out)
      replace BK972 := Aside0.mk (blk_drew BK972.out)
      replace HB := Aside0.mk (below_drew1 HB.out)
      refine start_ (n := 11) (S := fun w' => w'.cell? ⟨gb972, 0, none⟩ = some (.bool a0_0) ∧ w'.cell? ⟨gb972, 1, none⟩ = some (.string a0_1) ∧ w'.cell? ⟨gb972, 2, none⟩ = some (.string a0_2) ∧ w'.cell? ⟨gb971, 0, none⟩ = some (.bool a0_0) ∧ w'.cell? ⟨gb971, 1, none⟩ = some (.string a0_1) ∧ w'.cell? ⟨gb971, 2, none⟩ = some (.string a0_2) ∧ w'.cell? ⟨gb971, 3, none⟩ = some (.string a0_3) ∧ w'.cell? ⟨gb971, 4, none⟩ = some (.int .i64 a0_4) ∧ w'.cell? ⟨gb971, 5, none⟩ = some (.int .i64 a0_5) ∧ w'.cell? ⟨gb971, 6, none⟩ = some (.string a0_6) ∧ w'.cell? ⟨gb971, 7, none⟩ = some (.string a0_7) ∧ w'.cell? ⟨gb971, 8, none⟩ = some (.int .i64 a0_8)) (ds := []) #[false, false, false, false, false, false, false, false, false, false, false] (by kernel_rfl) rfl rfl ⟨(blk_cell BK972.out 0).trans rfl, (blk_cell BK972.out 1).trans rfl, (blk_cell BK972.out 2).trans rfl, (blk_cell BK971.out 0).trans rfl, (blk_cell BK971.out 1).trans rfl, (blk_cell BK971.out 2).trans rfl, (blk_cell BK971.out 3).trans rfl, (blk_cell BK971.out 4).trans rfl, (blk_cell BK971.out 5).trans rfl, (blk_cell BK971.out 6).trans rfl, (blk_cell BK971.out 7).trans rfl, (blk_cell BK971.out 8).trans rfl⟩ (fun hHeld => ?_); refine with_tabW operand_Check.tab4 operand_Check.bits4 (fun HT_ HW_ => ?_)
      generalize wc.drew = w69 at BK971 BK972 HB hHeld ⊢
      refine pr_ 0 (some 46) ?_
      refine pr_ 2 (some 48) ?_
      refine pr_ 4 (some 50) ?_
      refine tk_ 1 (some 47) hHeld ?_
      refine tk_ 3 (some 49) hHeld ?_
      refine tk_ 5 (some 51) hHeld ?_
      refine pr_ 6 (some 52) ?_
      refine pr_ 7 (some 53) ?_
      refine one_ (i := 8) (N := some 54) #[true, true, true, true, true, true, true, true, true, false, false] rfl rfl (one_of HT_.out (by kernel_rfl)) (by decide) (fun K hK => ?_)
      refine goes_ Tryd.func79 (by kernel_rfl) rfl #[.string (⟨#[48]⟩ : ByteArray), .int .i64 (wrap64 (a0_4 - (a0_2.size : Int)))] (by rfl) rfl rfl ar_ ?_
      with_reducible refine (strings_Repeat.calls (⟨#[48]⟩ : ByteArray) (wrap64 (a0_4 - (a0_2.size : Int))) t975 _ A48.out).mono ?_
      rintro e w70 ⟨rfl, hb⟩
      refine ⟨_, rfl, ?_⟩
      replace BK971 := BK971.bl hb
      replace BK972 := BK972.bl hb
      replace HB := Aside0.mk (below_step hb_ hb)
      (try clear hb)
      (try clear hb2)
      (try clear hk)
      (try clear hi)
      refine hK.out _ _ ⟨(blk_cell BK972.out 0).trans rfl, (blk_cell BK972.out 1).trans rfl, (blk_cell BK972.out 2).trans rfl, (blk_cell BK971.out 0).trans rfl, (blk_cell BK971.out 1).trans rfl, (blk_cell BK971.out 2).trans rfl, (blk_cell BK971.out 3).trans rfl, (blk_cell BK971.out 4).trans rfl, (blk_cell BK971.out 5).trans rfl, (blk_cell BK971.out 6).trans rfl, (blk_cell BK971.out 7).trans rfl, (blk_cell BK971.out 8).trans rfl⟩ (fun hHeld => ?_)
      clear hK K
      refine norm_ (a' := ?_) ?_ ?_
      rotate_left
      ·show Act.put _ (some 54) _ = _
       simp only [Act.put, List.setIfInBounds_toArray, List.set_cons_zero, List.set_cons_succ, i64_w, i32_w]
       rfl
      refine pr_ 9 (some 55) ?_
      refine pr_ 10 (some 4) ?_
      refine done_ (done_of HT_.out (by kernel_rfl)) ?_
      try go_wp2
      replace BK971 := Aside0.mk (blk_drew BK971.out)
      replace BK972 := Aside0.mk (blk_drew BK972.out)
      replace HB := Aside0.mk (below_drew1 HB.out)
      refine start_ (n := 28) (S := fun w' => w'.cell? ⟨gb971, 0, none⟩ = some (.bool a0_0) ∧ w'.cell? ⟨gb971, 1, none⟩ = some (.string a0_1) ∧ w'.cell? ⟨gb971, 2, none⟩ = some (.string a0_2) ∧ w'.cell? ⟨gb971, 3, none⟩ = some (.string a0_3) ∧ w'.cell? ⟨gb971, 4, none⟩ = some (.int .i64 a0_4) ∧ w'.cell? ⟨gb971, 5, none⟩ = some (.int .i64 a0_5) ∧ w'.cell? ⟨gb971, 6, none⟩ = some (.string a0_6) ∧ w'.cell? ⟨gb971, 7, none⟩ = some (.string a0_7) ∧ w'.cell? ⟨gb971, 8, none⟩ = some (.int .i64 a0_8) ∧ w'.cell? ⟨gb972, 0, none⟩ = some (.bool a0_0) ∧ w'.cell? ⟨gb972, 1, none⟩ = some (.string a0_1) ∧ w'.cell? ⟨gb972, 2, none⟩ = some (.string a0_2)) (ds := []) #[false, false, false, false, false, false, false, false, false, false, false, false, false, false, false, false, false, false, false, false, false, false, false, false, false, false, false, false] (by kernel_rfl) rfl rfl ⟨(blk_cell BK971.out 0).trans rfl, (blk_cell BK971.out 1).trans rfl, (blk_cell BK971.out 2).trans rfl, (blk_cell BK971.out 3).trans rfl, (blk_cell BK971.out 4).trans rfl, (blk_cell BK971.out 5).trans rfl, (blk_cell BK971.out 6).trans rfl, (blk_cell BK971.out 7).trans rfl, (blk_cell BK971.out 8).trans rfl, (blk_cell BK972.out 0).trans rfl, (blk_cell BK972.out 1).trans rfl, (blk_cell BK972.out 2).trans rfl⟩ (fun hHeld => ?_); refine with_tabW operand_Check.tab5 operand_Check.bits5 (fun HT_ HW_ => ?_)
      generalize w70.drew = w71 at BK971 BK972 HB hHeld ⊢
      refine pr_ 0 (some 56) ?_
      refine pr_ 2 (some 58) ?_
      refine tk_ 1 (some 57) hHeld ?_
      refine tk_ 3 (some 59) hHeld ?_
      refine pr_ 4 (some 60) ?_
      refine pr_ 5 (some 61) ?_
      refine pure_ (i := 6) (N := some 62) (v := undef) (a' := ?_) #[true, true, true, true, true, true, true, false, false, false, false, false, false, false, false, false, false, false, false, false, false, false, false, false, false, false, false, false] rfl rfl (any_of HT_.out (by kernel_rfl)) (fun _ _ _ h => h) (Or.inr ⟨by rfl, rfl⟩) ?_ ?_
      rotate_left
      ·simp only [Act.put, List.setIfInBounds_toArray, List.set_cons_zero, List.set_cons_succ, i64_w, i32_w]
       rfl
      refine pure_ (i := 7) (N := some 63) (v := undef) (a' := ?_) #[true, true, true, true, true, true, true, true, false, false, false, false, false, false, false, false, false, false, false, false, false, false, false, false, false, false, false, false] rfl rfl (any_of HT_.out (by kernel_rfl)) (fun _ _ _ h => h) (Or.inr ⟨by rfl, rfl⟩) ?_ ?_
      rotate_left
      ·simp only [Act.put, List.setIfInBounds_toArray, List.set_cons_zero, List.set_cons_succ, i64_w, i32_w]
       rfl
      refine pure_ (i := 8) (N := some 64) (v := undef) (a' := ?_) #[true, true, true, true, true, true, true, true, true, false, false, false, false, false, false, false, false, false, false, false, false, false, false, false, false, false, false, false] rfl rfl (any_of HT_.out (by kernel_rfl)) (fun _ _ _ h => h) (Or.inr ⟨by rfl, rfl⟩) ?_ ?_
      rotate_left
      ·simp only [Act.put, List.setIfInBounds_toArray, List.set_cons_zero, List.set_cons_succ, i64_w, i32_w]
       rfl
      refine pure_ (i := 9) (N := some 65) (v := undef) (a' := ?_) #[true, true, true, true, true, true, true, true, true, true, false, false, false, false, false, false, false, false, false, false, false, false, false, false, false, false, false, false] rfl rfl (any_of HT_.out (by kernel_rfl)) (fun _ _ _ h => h) (Or.inr ⟨by rfl, rfl⟩) ?_ ?_
      rotate_left
      ·simp only [Act.put, List.setIfInBounds_toArray, List.set_cons_zero, List.set_cons_succ, i64_w, i32_w]
       rfl
      refine pure_ (i := 10) (N := some 66) (v := undef) (a' := ?_) #[true, true, true, true, true, true, true, true, true, true, true, false, false, false, false, false, false, false, false, false, false, false, false, false, false, false, false, false] rfl rfl (any_of HT_.out (by kernel_rfl)) (fun _ _ _ h => h) (Or.inr ⟨by rfl, rfl⟩) ?_ ?_
      rotate_left
      ·simp only [Act.put, List.setIfInBounds_toArray, List.set_cons_zero, List.set_cons_succ, i64_w, i32_w]
       rfl
      refine pure_ (i := 11) (N := some 67) (v := undef) (a' := ?_) #[true, true, true, true, true, true, true, true, true, true, true, true, false, false, false, false, false, false, false, false, false, false, false, false, false, false, false, false] rfl rfl (any_of HT_.out (by kernel_rfl)) (fun _ _ _ h => h) (Or.inr ⟨by rfl, rfl⟩) ?_ ?_
      rotate_left
      ·simp only [Act.put, List.setIfInBounds_toArray, List.set_cons_zero, List.set_cons_succ, i64_w, i32_w]
       rfl
      refine pr_ 12 (some 68) ?_
      refine pr_ 13 (some 69) ?_
      refine pure_ (i := 14) (N := some 70) (v := undef) (a' := ?_) #[true, true, true, true, true, true, true, true, true, true, true, true, true, true, true, false, false, false, false, false, false, false, false, false, false, false, false, false] rfl rfl (any_of HT_.out (by kernel_rfl)) (fun _ _ _ h => h) (Or.inr ⟨by rfl, rfl⟩) ?_ ?_
      rotate_left
      ·simp only [Act.put, List.setIfInBounds_toArray, List.set_cons_zero, List.set_cons_succ, i64_w, i32_w]
       rfl
      refine pure_ (i := 15) (N := some 71) (v := undef) (a' := ?_) #[true, true, true, true, true, true, true, true, true, true, true, true, true, true, true, true, false, false, false, false, false, false, false, false, false, false, false, false] rfl rfl (any_of HT_.out (by kernel_rfl)) (fun _ _ _ h => h) (Or.inr ⟨by rfl, rfl⟩) ?_ ?_
      rotate_left
      ·simp only [Act.put, List.setIfInBounds_toArray, List.set_cons_zero, List.set_cons_succ, i64_w, i32_w]
       rfl
      refine pure_ (i := 16) (N := some 72) (v := undef) (a' := ?_) #[true, true, true, true, true, true, true, true, true, true, true, true, true, true, true, true, true, false, false, false, false, false, false, false, false, false, false, false] rfl rfl (any_of HT_.out (by kernel_rfl)) (fun _ _ _ h => h) (Or.inr ⟨by rfl, rfl⟩) ?_ ?_
      rotate_left
      ·simp only [Act.put, List.setIfInBounds_toArray, List.set_cons_zero, List.set_cons_succ, i64_w, i32_w]
       rfl
      refine pure_ (i := 17) (N := some 73) (v := undef) (a' := ?_) #[true, true, true, true, true, true, true, true, true, true, true, true, true, true, true, true, true, true, false, false, false, false, false, false, false, false, false, false] rfl rfl (any_of HT_.out (by kernel_rfl)) (fun _ _ _ h => h) (Or.inr ⟨by rfl, rfl⟩) ?_ ?_
      rotate_left
      ·simp only [Act.put, List.setIfInBounds_toArray, List.set_cons_zero, List.set_cons_succ, i64_w, i32_w]
       rfl
      refine pure_ (i := 18) (N := some 74) (v := undef) (a' := ?_) #[true, true, true, true, true, true, true, true, true, true, true, true, true, true, true, true, true, true, true, false, false, false, false, false, false, false, false, false] rfl rfl (any_of HT_.out (by kernel_rfl)) (fun _ _ _ h => h) (Or.inr ⟨by rfl, rfl⟩) ?_ ?_
      rotate_left
      ·simp only [Act.put, List.setIfInBounds_toArray, List.set_cons_zero, List.set_cons_succ, i64_w, i32_w]
       rfl
      refine pr_ 19 (some 75) ?_
      refine pr_ 20 (some 76) ?_
      refine pure_ (i := 21) (N := some 77) (v := undef) (a' := ?_) #[true, true, true, true, true, true, true, true, true, true, true, true, true, true, true, true, true, true, true, true, true, true, false, false, false, false, false, false] rfl rfl (any_of HT_.out (by kernel_rfl)) (fun _ _ _ h => h) (Or.inr ⟨by rfl, rfl⟩) ?_ ?_
      rotate_left
      ·simp only [Act.put, List.setIfInBounds_toArray, List.set_cons_zero, List.set_cons_succ, i64_w, i32_w]
       rfl
      refine pure_ (i := 22) (N := some 78) (v := undef) (a' := ?_) #[true, true, true, true, true, true, true, true, true, true, true, true, true, true, true, true, true, true, true, true, true, true, true, false, false, false, false, false] rfl rfl (any_of HT_.out (by kernel_rfl)) (fun _ _ _ h => h) (Or.inr ⟨by rfl, rfl⟩) ?_ ?_
      rotate_left
      ·simp only [Act.put, List.setIfInBounds_toArray, List.set_cons_zero, List.set_cons_succ, i64_w, i32_w]
       rfl
      refine pure_ (i := 23) (N := some 79) (v := undef) (a' := ?_) #[true, true, true, true, true, true, true, true, true, true, true, true, true, true, true, true, true, true, true, true, true, true, true, true, false, false, false, false] rfl rfl (any_of HT_.out (by kernel_rfl)) (fun _ _ _ h => h) (Or.inr ⟨by rfl, rfl⟩) ?_ ?_
      rotate_left
      ·simp only [Act.put, List.setIfInBounds_toArray, List.set_cons_zero, List.set_cons_succ, i64_w, i32_w]
       rfl
      refine pure_ (i := 24) (N := some 80) (v := undef) (a' := ?_) #[true, true, true, true, true, true, true, true, true, true, true, true, true, true, true, true, true, true, true, true, true, true, true, true, true, false, false, false] rfl rfl (any_of HT_.out (by kernel_rfl)) (fun _ _ _ h => h) (Or.inr ⟨by rfl, rfl⟩) ?_ ?_
      rotate_left
      ·simp only [Act.put, List.setIfInBounds_toArray, List.set_cons_zero, List.set_cons_succ, i64_w, i32_w]
       rfl
      refine pure_ (i := 25) (N := some 81) (v := undef) (a' := ?_) #[true, true, true, true, true, true, true, true, true, true, true, true, true, true, true, true, true, true, true, true, true, true, true, true, true, true, false, false] rfl rfl (any_of HT_.out (by kernel_rfl)) (fun _ _ _ h => h) (Or.inr ⟨by rfl, rfl⟩) ?_ ?_
      rotate_left
      ·simp only [Act.put, List.setIfInBounds_toArray, List.set_cons_zero, List.set_cons_succ, i64_w, i32_w]
       rfl
      refine pure_ (i := 26) (N := some 82) (v := undef) (a' := ?_) #[true, true, true, true, true, true, true, true, true, true, true, true, true, true, true, true, true, true, true, true, true, true, true, true, true, true, true, false] rfl rfl (any_of HT_.out (by kernel_rfl)) (fun _ _ _ h => h) (Or.inr ⟨by rfl, rfl⟩) ?_ ?_
      rotate_left
      ·simp only [Act.put, List.setIfInBounds_toArray, List.set_cons_zero, List.set_cons_succ, i64_w, i32_w]
       rfl
      refine pr_ 27 (some 83) ?_
      refine done_ (done_of HT_.out (by kernel_rfl)) ?_
      try go_wp2
      go_ret
      exact ⟨by first | rfl | (simp [errW_none, errW_some] <;> rfl) | (simp [*, errW_none, errW_some] <;> rfl) | (simp [bne_nil_]; done), by repeat (first | (with_reducible first | exact HB.out | apply below_alloc | apply pw_below_drewN | apply below_drew1 | refine below_set ?_ GE971.out | refine below_set ?_ GE972.out) | exact HB.out)⟩
    ·rw [if_neg c49] at H
     exact absurd H (by simp)
end Go.Proofs.YtihjcaglhjepdaaDoor.P
namespace Go.Proofs.YtihjcaglhjepdaaDoor.P
open Go.RowKit Go.Proofs.YtihjcaglhjepdaaDoorW.PrintWords Go.Proofs.YtihjcaglhjepdaaDoorW.PrintLast Go.Proofs.YtihjcaglhjepdaaDoorW.PrintMore
attribute [local go_sem] max2_int max_two
set_option linter.unusedVariables false
set_option linter.unusedSimpArgs false
def operand_get.f (a0_0 : Bool) (a0_1 : ByteArray) (a0_2 : ByteArray) (a0_3 : ByteArray) (a0_4 : Int) (a0_5 : Int) (a0_6 : ByteArray) (a0_7 : ByteArray) (a0_8 : Int) (a1 : ByteArray) : Option (Bool × ByteArray × ByteArray × Bool) := if a1.toList = ([110] : List UInt8) then (some (a0_0, a0_1, a0_2, true)) else (if a1.toList = ([105] : List UInt8) then (some (false, a0_3, (⟨#[]⟩ : ByteArray), true)) else (if a1.toList = ([102] : List UInt8) then (some (false, a0_6, (⟨#[]⟩ : ByteArray), true)) else (if a1.toList = ([116] : List UInt8) then (some (false, a0_7, (⟨#[]⟩ : ByteArray), true)) else (if a1.toList = ([118] : List UInt8) then ((strconv_Itoa.f a0_4).bind fun t996 => (some (false, t996, (⟨#[]⟩ : ByteArray), true))) else (if a1.toList = ([119] : List UInt8) then ((strconv_Itoa.f a0_5).bind fun t997 => (some (false, t997, (⟨#[]⟩ : ByteArray), true))) else (if a1.toList = ([99] : List UInt8) then ((strconv_Itoa.f a0_8).bind fun t998 => (some (false, t998, (⟨#[]⟩ : ByteArray), true))) else (if a1.toList = ([101] : List UInt8) then ((strconv_Itoa.f a0_8).bind fun t999 => (some (false, t999, (⟨#[]⟩ : ByteArray), true))) else (some (false, (⟨#[]⟩ : ByteArray), (⟨#[]⟩ : ByteArray), false)))))))))
set_option maxHeartbeats 8000000 in
set_option maxRecDepth 100000 in
theorem operand_get.calls (a0_0 : Bool) (a0_1 : ByteArray) (a0_2 : ByteArray) (a0_3 : ByteArray) (a0_4 : Int) (a0_5 : Int) (a0_6 : ByteArray) (a0_7 : ByteArray) (a0_8 : Int) (a1 : ByteArray) (r1 : Bool) (r2 : ByteArray) (r3 : ByteArray) (r4 : Bool) (w : World) (ht : TB w) (h : operand_get.f a0_0 a0_1 a0_2 a0_3 a0_4 a0_5 a0_6 a0_7 a0_8 a1 = some (r1, r2, r3, r4)) :
    Calls Tryd.prog 113 #[.agg #[.bool a0_0, .string a0_1, .string a0_2, .string a0_3, .int .i64 a0_4, .int .i64 a0_5, .string a0_6, .string a0_7, .int .i64 a0_8], .string a1] w fun e w' => e = .returned (.tuple #[.agg #[.bool r1, .string r2, .string r3], .bool r4]) ∧ Below w.heap.size w w' := by
 have hu45 := Tryd.underlying45
 have hu23 := Tryd.underlying23
 have HTB := Aside0.mk ht
 clear ht
 have HB := Aside0.mk (Below.refl w.heap.size w)
 unfold operand_get.f at h
 have H := h
 clear h
 have HF3 := Aside0.mk H
 clear H
 go_enter Tryd.func113, Tryd.ntmps113
 go_upto_if 7 with (first | ((with_reducible refine gate_dst (N := 2) rfl ?_); refine bx_ #[.bool a0_0, .string a0_1, .string a0_2, .string a0_3, .int .i64 a0_4, .int .i64 a0_5, .string a0_6, .string a0_7, .int .i64 a0_8] 45 ?_; intro gb994 hg w4 hbox hb; have BK994 := Aside0.mk (hbox); have GW994 := Aside0.mk ((by rw [hg]; exact (below_size hb_) : w.heap.size ≤ gb994)); have GE994 := Aside0.mk ((by rw [hg]; exact (below_size hb_) : w.heap.size ≤ gb994)); replace HB := Aside0.mk (below_step hb_ hb); clear hb hbox hg) | ((with_reducible refine gate_dst (N := 4) rfl ?_); refine bx_ #[.bool false, .string (⟨#[]⟩ : ByteArray), .string (⟨#[]⟩ : ByteArray)] 23 ?_; intro gb995 hg w5 hbox hb; have BK995 := Aside0.mk (hbox); have GW995 := Aside0.mk ((by rw [hg]; exact (below_size hb_) : w.heap.size ≤ gb995)); have GE995 := Aside0.mk ((by rw [hg]; exact (below_size hb_) : w.heap.size ≤ gb995)); have NB994_995 := BK994.nl hg; have NB995_994 := BK994.ng hg; replace BK994 := BK994.bl hb; replace HB := Aside0.mk (below_step hb_ hb); clear hb hbox hg))
 (try simp only [Act.put, List.setIfInBounds_toArray, List.set_cons_zero, List.set_cons_succ])
 have H := HF3.out
 clear HF3
 by_cases c6 : a1.toList = ([110] : List UInt8)
 ·rw [if_pos c6] at H
  have c6b0 : (a1.toList == ([110] : List UInt8)) = true := beq_iff_eq.mpr c6
  have c6b1 : (a1.toList != ([110] : List UInt8)) = false := bne_eq_false_iff_eq.mpr c6
  clear c6
  (first | rw [c6b0] | (simp only [i64_w, i32_w]; rw [c6b0]) | rw [c6b1] | skip)
  simp only [Option.some.injEq, Prod.mk.injEq] at H
  obtain ⟨rfl, rfl, rfl, rfl⟩ := H
  have hnb7 := NB994_995.out
  have hnc7 := NB995_994.out
  have hcz8_0 : w5.cell? ⟨gb994, 0, none⟩ = some (.bool a0_0) := (blk_cell BK994.out 0).trans rfl
  have hcz8_1 : w5.cell? ⟨gb994, 1, none⟩ = some (.string a0_1) := (blk_cell BK994.out 1).trans rfl
  have hcz8_2 : w5.cell? ⟨gb994, 2, none⟩ = some (.string a0_2) := (blk_cell BK994.out 2).trans rfl
  have hcz8_3 : w5.cell? ⟨gb994, 3, none⟩ = some (.string a0_3) := (blk_cell BK994.out 3).trans rfl
  have hcz8_4 : w5.cell? ⟨gb994, 4, none⟩ = some (.int .i64 a0_4) := (blk_cell BK994.out 4).trans rfl
  have hcz8_5 : w5.cell? ⟨gb994, 5, none⟩ = some (.int .i64 a0_5) := (blk_cell BK994.out 5).trans rfl
  have hcz8_6 : w5.cell? ⟨gb994, 6, none⟩ = some (.string a0_6) := (blk_cell BK994.out 6).trans rfl
  have hcz8_7 : w5.cell? ⟨gb994, 7, none⟩ = some (.string a0_7) := (blk_cell BK994.out 7).trans rfl
  have hcz8_8 : w5.cell? ⟨gb994, 8, none⟩ = some (.int .i64 a0_8) := (blk_cell BK994.out 8).trans rfl
  have hfz8_0 := blk_frozen BK994.out 0
  have hfz8_1 := blk_frozen BK994.out 1
  have hfz8_2 := blk_frozen BK994.out 2
  have hfz8_3 := blk_frozen BK994.out 3
  have hfz8_4 := blk_frozen BK994.out 4
  have hfz8_5 := blk_frozen BK994.out 5
  have hfz8_6 := blk_frozen BK994.out 6
  have hfz8_7 := blk_frozen BK994.out 7
  have hfz8_8 := blk_frozen BK994.out 8
  obtain ⟨hcz9_0, hcz9_1, hcz9_2, hfz9_0, hfz9_1, hfz9_2⟩ := BK995.c3
  go_wp2
  refine bodyPost_ret (results_ct rfl _ _ gb995 23 #[.bool a0_0, .string a0_1, .string a0_2] (0, 0) _ rfl (by refine blk_put (cs := #[.bool a0_0, .string a0_1, .string (⟨#[]⟩ : ByteArray)]) ?_ 2 _ rfl; refine blk_put (cs := #[.bool a0_0, .string (⟨#[]⟩ : ByteArray), .string (⟨#[]⟩ : ByteArray)]) ?_ 1 _ rfl; refine blk_put (cs := #[.bool false, .string (⟨#[]⟩ : ByteArray), .string (⟨#[]⟩ : ByteArray)]) ?_ 0 _ rfl; exact BK995.out) Tryd.underlying23 rfl (by kernel_rfl)) rfl ?_
  exact ⟨by first | rfl | (simp [errW_none, errW_some] <;> rfl) | (simp [*, errW_none, errW_some] <;> rfl) | (simp [bne_nil_]; done), by repeat (first | (with_reducible first | exact HB.out | apply below_alloc | apply pw_below_drewN | apply below_drew1 | refine below_set ?_ GE994.out | refine below_set ?_ GE995.out) | exact HB.out)⟩
 ·rw [if_neg c6] at H
  have c6b0 : (a1.toList == ([110] : List UInt8)) = false := beq_eq_false_iff_ne.mpr c6
  have c6b1 : (a1.toList != ([110] : List UInt8)) = true := bne_iff_ne.mpr c6
  (first | rw [c6b0] | (simp only [i64_w, i32_w]; rw [c6b0]) | rw [c6b1] | skip)
  by_cases c10 : a1.toList = ([105] : List UInt8)
  ·rw [if_pos c10] at H
   have c10b0 : (a1.toList == ([105] : List UInt8)) = true := beq_iff_eq.mpr c10
   have c10b1 : (a1.toList != ([105] : List UInt8)) = false := bne_eq_false_iff_eq.mpr c10
   clear c10
   simp only [Option.some.injEq, Prod.mk.injEq] at H
   obtain ⟨rfl, rfl, rfl, rfl⟩ := H
   have hnb11 := NB994_995.out
   have hnc11 := NB995_994.out
   have hcz12_0 : w5.cell? ⟨gb994, 0, none⟩ = some (.bool a0_0) := (blk_cell BK994.out 0).trans rfl
   have hcz12_1 : w5.cell? ⟨gb994, 1, none⟩ = some (.string a0_1) := (blk_cell BK994.out 1).trans rfl
   have hcz12_2 : w5.cell? ⟨gb994, 2, none⟩ = some (.string a0_2) := (blk_cell BK994.out 2).trans rfl
   have hcz12_3 : w5.cell? ⟨gb994, 3, none⟩ = some (.string a0_3) := (blk_cell BK994.out 3).trans rfl
   have hcz12_4 : w5.cell? ⟨gb994, 4, none⟩ = some (.int .i64 a0_4) := (blk_cell BK994.out 4).trans rfl
   have hcz12_5 : w5.cell? ⟨gb994, 5, none⟩ = some (.int .i64 a0_5) := (blk_cell BK994.out 5).trans rfl
   have hcz12_6 : w5.cell? ⟨gb994, 6, none⟩ = some (.string a0_6) := (blk_cell BK994.out 6).trans rfl
   have hcz12_7 : w5.cell? ⟨gb994, 7, none⟩ = some (.string a0_7) := (blk_cell BK994.out 7).trans rfl
   have hcz12_8 : w5.cell? ⟨gb994, 8, none⟩ = some (.int .i64 a0_8) := (blk_cell BK994.out 8).trans rfl
   have hfz12_0 := blk_frozen BK994.out 0
   have hfz12_1 := blk_frozen BK994.out 1
   have hfz12_2 := blk_frozen BK994.out 2
   have hfz12_3 := blk_frozen BK994.out 3
   have hfz12_4 := blk_frozen BK994.out 4
   have hfz12_5 := blk_frozen BK994.out 5
   have hfz12_6 := blk_frozen BK994.out 6
   have hfz12_7 := blk_frozen BK994.out 7
   have hfz12_8 := blk_frozen BK994.out 8
   obtain ⟨hcz13_0, hcz13_1, hcz13_2, hfz13_0, hfz13_1, hfz13_2⟩ := BK995.c3
   go_wp2
   refine bodyPost_ret (results_ct rfl _ _ gb995 23 #[.bool false, .string a0_3, .string (⟨#[]⟩ : ByteArray)] (0, 0) _ rfl (by refine blk_put (cs := #[.bool false, .string a0_3, .string (⟨#[]⟩ : ByteArray)]) ?_ 2 _ rfl; refine blk_put (cs := #[.bool false, .string (⟨#[]⟩ : ByteArray), .string (⟨#[]⟩ : ByteArray)]) ?_ 1 _ rfl; refine blk_put (cs := #[.bool false, .string (⟨#[]⟩ : ByteArray), .string (⟨#[]⟩ : ByteArray)]) ?_ 0 _ rfl; exact BK995.out) Tryd.underlying23 rfl (by kernel_rfl)) rfl ?_
   exact ⟨by first | rfl | (simp [errW_none, errW_some] <;> rfl) | (simp [*, errW_none, errW_some] <;> rfl) | (simp [bne_nil_]; done), by repeat (first | (with_reducible first | exact HB.out | apply below_alloc | apply pw_below_drewN | apply below_drew1 | refine below_set ?_ GE994.out | refine below_set ?_ GE995.out) | exact HB.out)⟩
  ·rw [if_neg c10] at H
   have c10b0 : (a1.toList == ([105] : List UInt8)) = false := beq_eq_false_iff_ne.mpr c10
   have c10b1 : (a1.toList != ([105] : List UInt8)) = true := bne_iff_ne.mpr c10
   by_cases c14 : a1.toList = ([102] : List UInt8)
   ·rw [if_pos c14] at H
    have c14b0 : (a1.toList == ([102] : List UInt8)) = true := beq_iff_eq.mpr c14
    have c14b1 : (a1.toList != ([102] : List UInt8)) = false := bne_eq_false_iff_eq.mpr c14
    clear c14
    simp only [Option.some.injEq, Prod.mk.injEq] at H
    obtain ⟨rfl, rfl, rfl, rfl⟩ := H
    have hnb15 := NB994_995.out
    have hnc15 := NB995_994.out
    have hcz16_0 : w5.cell? ⟨gb994, 0, none⟩ = some (.bool a0_0) := (blk_cell BK994.out 0).trans rfl
    have hcz16_1 : w5.cell? ⟨gb994, 1, none⟩ = some (.string a0_1) := (blk_cell BK994.out 1).trans rfl
    have hcz16_2 : w5.cell? ⟨gb994, 2, none⟩ = some (.string a0_2) := (blk_cell BK994.out 2).trans rfl
    have hcz16_3 : w5.cell? ⟨gb994, 3, none⟩ = some (.string a0_3) := (blk_cell BK994.out 3).trans rfl
    have hcz16_4 : w5.cell? ⟨gb994, 4, none⟩ = some (.int .i64 a0_4) := (blk_cell BK994.out 4).trans rfl
    have hcz16_5 : w5.cell? ⟨gb994, 5, none⟩ = some (.int .i64 a0_5) := (blk_cell BK994.out 5).trans rfl
    have hcz16_6 : w5.cell? ⟨gb994, 6, none⟩ = some (.string a0_6) := (blk_cell BK994.out 6).trans rfl
    have hcz16_7 : w5.cell? ⟨gb994, 7, none⟩ = some (.string a0_7) := (blk_cell BK994.out 7).trans rfl
    have hcz16_8 : w5.cell? ⟨gb994, 8, none⟩ = some (.int .i64 a0_8) := (blk_cell BK994.out 8).trans rfl
    have hfz16_0 := blk_frozen BK994.out 0
    have hfz16_1 := blk_frozen BK994.out 1
    have hfz16_2 := blk_frozen BK994.out 2
    have hfz16_3 := blk_frozen BK994.out 3
    have hfz16_4 := blk_frozen BK994.out 4
    have hfz16_5 := blk_frozen BK994.out 5
    have hfz16_6 := blk_frozen BK994.out 6
    have hfz16_7 := blk_frozen BK994.out 7
    have hfz16_8 := blk_frozen BK994.out 8
    obtain ⟨hcz17_0, hcz17_1, hcz17_2, hfz17_0, hfz17_1, hfz17_2⟩ := BK995.c3
    go_wp2
    refine bodyPost_ret (results_ct rfl _ _ gb995 23 #[.bool false, .string a0_6, .string (⟨#[]⟩ : ByteArray)] (0, 0) _ rfl (by refine blk_put (cs := #[.bool false, .string a0_6, .string (⟨#[]⟩ : ByteArray)]) ?_ 2 _ rfl; refine blk_put (cs := #[.bool false, .string (⟨#[]⟩ : ByteArray), .string (⟨#[]⟩ : ByteArray)]) ?_ 1 _ rfl; refine blk_put (cs := #[.bool false, .string (⟨#[]⟩ : ByteArray), .string (⟨#[]⟩ : ByteArray)]) ?_ 0 _ rfl; exact BK995.out) Tryd.underlying23 rfl (by kernel_rfl)) rfl ?_
    exact ⟨by first | rfl | (simp [errW_none, errW_some] <;> rfl) | (simp [*, errW_none, errW_some] <;> rfl) | (simp [bne_nil_]; done), by repeat (first | (with_reducible first | exact HB.out | apply below_alloc | apply pw_below_drewN | apply below_drew1 | refine below_set ?_ GE994.out | refine below_set ?_ GE995.out) | exact HB.out)⟩
   ·rw [if_neg c14] at H
    have c14b0 : (a1.toList == ([102] : List UInt8)) = false := beq_eq_false_iff_ne.mpr c14
    have c14b1 : (a1.toList != ([102] : List UInt8)) = true := bne_iff_ne.mpr c14
    by_cases c18 : a1.toList = ([116] : List UInt8)
    ·rw [if_pos c18] at H
     have c18b0 : (a1.toList == ([116] : List UInt8)) = true := beq_iff_eq.mpr c18
     have c18b1 : (a1.toList != ([116] : List UInt8)) = false := bne_eq_false_iff_eq.mpr c18
     clear c18
     simp only [Option.some.injEq, Prod.mk.injEq] at H
     obtain ⟨rfl, rfl, rfl, rfl⟩ := H
     have hnb19 := NB994_995.out
     have hnc19 := NB995_994.out
     have hcz20_0 : w5.cell? ⟨gb994, 0, none⟩ = some (.bool a0_0) := (blk_cell BK994.out 0).trans rfl
     have hcz20_1 : w5.cell? ⟨gb994, 1, none⟩ = some (.string a0_1) := (blk_cell BK994.out 1).trans rfl
     have hcz20_2 : w5.cell? ⟨gb994, 2, none⟩ = some (.string a0_2) := (blk_cell BK994.out 2).trans rfl
     have hcz20_3 : w5.cell? ⟨gb994, 3, none⟩ = some (.string a0_3) := (blk_cell BK994.out 3).trans rfl
     have hcz20_4 : w5.cell? ⟨gb994, 4, none⟩ = some (.int .i64 a0_4) := (blk_cell BK994.out 4).trans rfl
     have hcz20_5 : w5.cell? ⟨gb994, 5, none⟩ = some (.int .i64 a0_5) := (blk_cell BK994.out 5).trans rfl
     have hcz20_6 : w5.cell? ⟨gb994, 6, none⟩ = some (.string a0_6) := (blk_cell BK994.out 6).trans rfl
     have hcz20_7 : w5.cell? ⟨gb994, 7, none⟩ = some (.string a0_7) := (blk_cell BK994.out 7).trans rfl
     have hcz20_8 : w5.cell? ⟨gb994, 8, none⟩ = some (.int .i64 a0_8) := (blk_cell BK994.out 8).trans rfl
     have hfz20_0 := blk_frozen BK994.out 0
     have hfz20_1 := blk_frozen BK994.out 1
     have hfz20_2 := blk_frozen BK994.out 2
     have hfz20_3 := blk_frozen BK994.out 3
     have hfz20_4 := blk_frozen BK994.out 4
     have hfz20_5 := blk_frozen BK994.out 5
     have hfz20_6 := blk_frozen BK994.out 6
     have hfz20_7 := blk_frozen BK994.out 7
     have hfz20_8 := blk_frozen BK994.out 8
     obtain ⟨hcz21_0, hcz21_1, hcz21_2, hfz21_0, hfz21_1, hfz21_2⟩ := BK995.c3
     go_wp2
     refine bodyPost_ret (results_ct rfl _ _ gb995 23 #[.bool false, .string a0_7, .string (⟨#[]⟩ : ByteArray)] (0, 0) _ rfl (by refine blk_put (cs := #[.bool false, .string a0_7, .string (⟨#[]⟩ : ByteArray)]) ?_ 2 _ rfl; refine blk_put (cs := #[.bool false, .string (⟨#[]⟩ : ByteArray), .string (⟨#[]⟩ : ByteArray)]) ?_ 1 _ rfl; refine blk_put (cs := #[.bool false, .string (⟨#[]⟩ : ByteArray), .string (⟨#[]⟩ : ByteArray)]) ?_ 0 _ rfl; exact BK995.out) Tryd.underlying23 rfl (by kernel_rfl)) rfl ?_
     exact ⟨by first | rfl | (simp [errW_none, errW_some] <;> rfl) | (simp [*, errW_none, errW_some] <;> rfl) | (simp [bne_nil_]; done), by repeat (first | (with_reducible first | exact HB.out | apply below_alloc | apply pw_below_drewN | apply below_drew1 | refine below_set ?_ GE994.out | refine below_set ?_ GE995.out) | exact HB.out)⟩
    ·rw [if_neg c18] at H
     have c18b0 : (a1.toList == ([116] : List UInt8)) = false := beq_eq_false_iff_ne.mpr c18
     have c18b1 : (a1.toList != ([116] : List UInt8)) = true := bne_iff_ne.mpr c18
     by_cases c22 : a1.toList = ([118] : List UInt8)
     ·rw [if_pos c22] at H
      have c22b0 : (a1.toList == ([118] : List UInt8)) = true := beq_iff_eq.mpr c22
      have c22b1 : (a1.toList != ([118] : List UInt8)) = false := bne_eq_false_iff_eq.mpr c22
      clear c22
      replace H := Option.bind_eq_some_iff.mp H
      obtain ⟨t996, A230, H⟩ := H
      try dsimp only at H
      have A23 := Aside0.mk A230
      clear A230
      simp only [Option.some.injEq, Prod.mk.injEq] at H
      obtain ⟨rfl, rfl, rfl, rfl⟩ := H
      have hnb24 := NB994_995.out
      have hnc24 := NB995_994.out
      have hcz25_0 : w5.cell? ⟨gb994, 0, none⟩ = some (.bool a0_0) := (blk_cell BK994.out 0).trans rfl
      have hcz25_1 : w5.cell? ⟨gb994, 1, none⟩ = some (.string a0_1) := (blk_cell BK994.out 1).trans rfl
      have hcz25_2 : w5.cell? ⟨gb994, 2, none⟩ = some (.string a0_2) := (blk_cell BK994.out 2).trans rfl
      have hcz25_3 : w5.cell? ⟨gb994, 3, none⟩ = some (.string a0_3) := (blk_cell BK994.out 3).trans rfl
      have hcz25_4 : w5.cell? ⟨gb994, 4, none⟩ = some (.int .i64 a0_4) := (blk_cell BK994.out 4).trans rfl
      have hcz25_5 : w5.cell? ⟨gb994, 5, none⟩ = some (.int .i64 a0_5) := (blk_cell BK994.out 5).trans rfl
      have hcz25_6 : w5.cell? ⟨gb994, 6, none⟩ = some (.string a0_6) := (blk_cell BK994.out 6).trans rfl
      have hcz25_7 : w5.cell? ⟨gb994, 7, none⟩ = some (.string a0_7) := (blk_cell BK994.out 7).trans rfl
      have hcz25_8 : w5.cell? ⟨gb994, 8, none⟩ = some (.int .i64 a0_8) := (blk_cell BK994.out 8).trans rfl
      have hfz25_0 := blk_frozen BK994.out 0
      have hfz25_1 := blk_frozen BK994.out 1
      have hfz25_2 := blk_frozen BK994.out 2
      have hfz25_3 := blk_frozen BK994.out 3
      have hfz25_4 := blk_frozen BK994.out 4
      have hfz25_5 := blk_frozen BK994.out 5
      have hfz25_6 := blk_frozen BK994.out 6
      have hfz25_7 := blk_frozen BK994.out 7
      have hfz25_8 := blk_frozen BK994.out 8
      go_wp2_with (first | ((with_reducible refine gate_callee (f := 128) rfl ?_); refine gL_ (some 36) Tryd.func128 #[.int .i64 a0_4] ?_; (with_reducible refine (strconv_Itoa.calls a0_4 t996 _ (TB.below HTB.out hb_) A23.out).mono ?_); rintro e w26 ⟨rfl, hb⟩; refine ⟨_, rfl, ?_⟩; replace BK994 := BK994.bl hb; replace BK995 := BK995.bl hb; replace HB := Aside0.mk (below_step hb_ hb); obtain ⟨hcz27_0, hcz27_1, hcz27_2, hfz27_0, hfz27_1, hfz27_2⟩ := BK995.c3))
      refine bodyPost_ret (results_ct rfl _ _ gb995 23 #[.bool false, .string t996, .string (⟨#[]⟩ : ByteArray)] (0, 0) _ rfl (by refine blk_put (cs := #[.bool false, .string t996, .string (⟨#[]⟩ : ByteArray)]) ?_ 2 _ rfl; refine blk_put (cs := #[.bool false, .string (⟨#[]⟩ : ByteArray), .string (⟨#[]⟩ : ByteArray)]) ?_ 1 _ rfl; refine blk_put (cs := #[.bool false, .string (⟨#[]⟩ : ByteArray), .string (⟨#[]⟩ : ByteArray)]) ?_ 0 _ rfl; exact BK995.out) Tryd.underlying23 rfl (by kernel_rfl)) rfl ?_
      exact ⟨by first | rfl | (simp [errW_none, errW_some] <;> rfl) | (simp [*, errW_none, errW_some] <;> rfl) | (simp [bne_nil_]; done), by repeat (first | (with_reducible first | exact HB.out | apply below_alloc | apply pw_below_drewN | apply below_drew1 | refine below_set ?_ GE994.out | refine below_set ?_ GE995.out) | exact HB.out)⟩
     ·rw [if_neg c22] at H
      have c22b0 : (a1.toList == ([118] : List UInt8)) = false := beq_eq_false_iff_ne.mpr c22
      have c22b1 : (a1.toList != ([118] : List UInt8)) = true := bne_iff_ne.mpr c22
      by_cases c28 : a1.toList = ([119] : List UInt8)
      ·rw [if_pos c28] at H
       have c28b0 : (a1.toList == ([119] : List UInt8)) = true := beq_iff_eq.mpr c28
       have c28b1 : (a1.toList != ([119] : List UInt8)) = false := bne_eq_false_iff_eq.mpr c28
       clear c28
       replace H := Option.bind_eq_some_iff.mp H
       obtain ⟨t997, A290, H⟩ := H
       try dsimp only at H
       have A29 := Aside0.mk A290
       clear A290
       simp only [Option.some.injEq, Prod.mk.injEq] at H
       obtain ⟨rfl, rfl, rfl, rfl⟩ := H
       have hnb30 := NB994_995.out
       have hnc30 := NB995_994.out
       have hcz31_0 : w5.cell? ⟨gb994, 0, none⟩ = some (.bool a0_0) := (blk_cell BK994.out 0).trans rfl
       have hcz31_1 : w5.cell? ⟨gb994, 1, none⟩ = some (.string a0_1) := (blk_cell BK994.out 1).trans rfl
       have hcz31_2 : w5.cell? ⟨gb994, 2, none⟩ = some (.string a0_2) := (blk_cell BK994.out 2).trans rfl
       have hcz31_3 : w5.cell? ⟨gb994, 3, none⟩ = some (.string a0_3) := (blk_cell BK994.out 3).trans rfl
       have hcz31_4 : w5.cell? ⟨gb994, 4, none⟩ = some (.int .i64 a0_4) := (blk_cell BK994.out 4).trans rfl
       have hcz31_5 : w5.cell? ⟨gb994, 5, none⟩ = some (.int .i64 a0_5) := (blk_cell BK994.out 5).trans rfl
       have hcz31_6 : w5.cell? ⟨gb994, 6, none⟩ = some (.string a0_6) := (blk_cell BK994.out 6).trans rfl
       have hcz31_7 : w5.cell? ⟨gb994, 7, none⟩ = some (.string a0_7) := (blk_cell BK994.out 7).trans rfl
       have hcz31_8 : w5.cell? ⟨gb994, 8, none⟩ = some (.int .i64 a0_8) := (blk_cell BK994.out 8).trans rfl
       have hfz31_0 := blk_frozen BK994.out 0
       have hfz31_1 := blk_frozen BK994.out 1
       have hfz31_2 := blk_frozen BK994.out 2
       have hfz31_3 := blk_frozen BK994.out 3
       have hfz31_4 := blk_frozen BK994.out 4
       have hfz31_5 := blk_frozen BK994.out 5
       have hfz31_6 := blk_frozen BK994.out 6
       have hfz31_7 := blk_frozen BK994.out 7
       have hfz31_8 := blk_frozen BK994.out 8
       go_wp2_with (first | ((with_reducible refine gate_callee (f := 128) rfl ?_); refine gL_ (some 40) Tryd.func128 #[.int .i64 a0_5] ?_; (with_reducible refine (strconv_Itoa.calls a0_5 t997 _ (TB.below HTB.out hb_) A29.out).mono ?_); rintro e w32 ⟨rfl, hb⟩; refine ⟨_, rfl, ?_⟩; replace BK994 := BK994.bl hb; replace BK995 := BK995.bl hb; replace HB := Aside0.mk (below_step hb_ hb); obtain ⟨hcz33_0, hcz33_1, hcz33_2, hfz33_0, hfz33_1, hfz33_2⟩ := BK995.c3))
       refine bodyPost_ret (results_ct rfl _ _ gb995 23 #[.bool false, .string t997, .string (⟨#[]⟩ : ByteArray)] (0, 0) _ rfl (by refine blk_put (cs := #[.bool false, .string t997, .string (⟨#[]⟩ : ByteArray)]) ?_ 2 _ rfl; refine blk_put (cs := #[.bool false, .string (⟨#[]⟩ : ByteArray), .string (⟨#[]⟩ : ByteArray)]) ?_ 1 _ rfl; refine blk_put (cs := #[.bool false, .string (⟨#[]⟩ : ByteArray), .string (⟨#[]⟩ : ByteArray)]) ?_ 0 _ rfl; exact BK995.out) Tryd.underlying23 rfl (by kernel_rfl)) rfl ?_
       exact ⟨by first | rfl | (simp [errW_none, errW_some] <;> rfl) | (simp [*, errW_none, errW_some] <;> rfl) | (simp [bne_nil_]; done), by repeat (first | (with_reducible first | exact HB.out | apply below_alloc | apply pw_below_drewN | apply below_drew1 | refine below_set ?_ GE994.out | refine below_set ?_ GE995.out) | exact HB.out)⟩
      ·rw [if_neg c28] at H
       have c28b0 : (a1.toList == ([119] : List UInt8)) = false := beq_eq_false_iff_ne.mpr c28
       have c28b1 : (a1.toList != ([119] : List UInt8)) = true := bne_iff_ne.mpr c28
       by_cases c34 : a1.toList = ([99] : List UInt8)
       ·rw [if_pos c34] at H
        have c34b0 : (a1.toList == ([99] : List UInt8)) = true := beq_iff_eq.mpr c34
        have c34b1 : (a1.toList != ([99] : List UInt8)) = false := bne_eq_false_iff_eq.mpr c34
        clear c34
        replace H := Option.bind_eq_some_iff.mp H
        obtain ⟨t998, A350, H⟩ := H
        try dsimp only at H
        have A35 := Aside0.mk A350
        clear A350
        simp only [Option.some.injEq, Prod.mk.injEq] at H
        obtain ⟨rfl, rfl, rfl, rfl⟩ := H
        have hnb36 := NB994_995.out
        have hnc36 := NB995_994.out
        have hcz37_0 : w5.cell? ⟨gb994, 0, none⟩ = some (.bool a0_0) := (blk_cell BK994.out 0).trans rfl
        have hcz37_1 : w5.cell? ⟨gb994, 1, none⟩ = some (.string a0_1) := (blk_cell BK994.out 1).trans rfl
        have hcz37_2 : w5.cell? ⟨gb994, 2, none⟩ = some (.string a0_2) := (blk_cell BK994.out 2).trans rfl
        have hcz37_3 : w5.cell? ⟨gb994, 3, none⟩ = some (.string a0_3) := (blk_cell BK994.out 3).trans rfl
        have hcz37_4 : w5.cell? ⟨gb994, 4, none⟩ = some (.int .i64 a0_4) := (blk_cell BK994.out 4).trans rfl
        have hcz37_5 : w5.cell? ⟨gb994, 5, none⟩ = some (.int .i64 a0_5) := (blk_cell BK994.out 5).trans rfl
        have hcz37_6 : w5.cell? ⟨gb994, 6, none⟩ = some (.string a0_6) := (blk_cell BK994.out 6).trans rfl
        have hcz37_7 : w5.cell? ⟨gb994, 7, none⟩ = some (.string a0_7) := (blk_cell BK994.out 7).trans rfl
        have hcz37_8 : w5.cell? ⟨gb994, 8, none⟩ = some (.int .i64 a0_8) := (blk_cell BK994.out 8).trans rfl
        have hfz37_0 := blk_frozen BK994.out 0
        have hfz37_1 := blk_frozen BK994.out 1
        have hfz37_2 := blk_frozen BK994.out 2
        have hfz37_3 := blk_frozen BK994.out 3
        have hfz37_4 := blk_frozen BK994.out 4
        have hfz37_5 := blk_frozen BK994.out 5
        have hfz37_6 := blk_frozen BK994.out 6
        have hfz37_7 := blk_frozen BK994.out 7
        have hfz37_8 := blk_frozen BK994.out 8
        go_wp2_with (first | ((with_reducible refine gate_callee (f := 128) rfl ?_); refine gL_ (some 44) Tryd.func128 #[.int .i64 a0_8] ?_; (with_reducible refine (strconv_Itoa.calls a0_8 t998 _ (TB.below HTB.out hb_) A35.out).mono ?_); rintro e w38 ⟨rfl, hb⟩; refine ⟨_, rfl, ?_⟩; replace BK994 := BK994.bl hb; replace BK995 := BK995.bl hb; replace HB := Aside0.mk (below_step hb_ hb); obtain ⟨hcz39_0, hcz39_1, hcz39_2, hfz39_0, hfz39_1, hfz39_2⟩ := BK995.c3))
        refine bodyPost_ret (results_ct rfl _ _ gb995 23 #[.bool false, .string t998, .string (⟨#[]⟩ : ByteArray)] (0, 0) _ rfl (by refine blk_put (cs := #[.bool false, .string t998, .string (⟨#[]⟩ : ByteArray)]) ?_ 2 _ rfl; refine blk_put (cs := #[.bool false, .string (⟨#[]⟩ : ByteArray), .string (⟨#[]⟩ : ByteArray)]) ?_ 1 _ rfl; refine blk_put (cs := #[.bool false, .string (⟨#[]⟩ : ByteArray), .string (⟨#[]⟩ : ByteArray)]) ?_ 0 _ rfl; exact BK995.out) Tryd.underlying23 rfl (by kernel_rfl)) rfl ?_
        exact ⟨by first | rfl | (simp [errW_none, errW_some] <;> rfl) | (simp [*, errW_none, errW_some] <;> rfl) | (simp [bne_nil_]; done), by repeat (first | (with_reducible first | exact HB.out | apply below_alloc | apply pw_below_drewN | apply below_drew1 | refine below_set ?_ GE994.out | refine below_set ?_ GE995.out) | exact HB.out)⟩
       ·rw [if_neg c34] at H
        have c34b0 : (a1.toList == ([99] : List UInt8)) = false := beq_eq_false_iff_ne.mpr c34
        have c34b1 : (a1.toList != ([99] : List UInt8)) = true := bne_iff_ne.mpr c34
        by_cases c40 : a1.toList = ([101] : List UInt8)
        ·rw [if_pos c40] at H
         have c40b0 : (a1.toList == ([101] : List UInt8)) = true := beq_iff_eq.mpr c40
         have c40b1 : (a1.toList != ([101] : List UInt8)) = false := bne_eq_false_iff_eq.mpr c40
         clear c40
         replace H := Option.bind_eq_some_iff.mp H
         obtain ⟨t999, A410, H⟩ := H
         try dsimp only at H
         have A41 := Aside0.mk A410
         clear A410
         simp only [Option.some.injEq, Prod.mk.injEq] at H
         obtain ⟨rfl, rfl, rfl, rfl⟩ := H
         have hnb42 := NB994_995.out
         have hnc42 := NB995_994.out
         have hcz43_0 : w5.cell? ⟨gb994, 0, none⟩ = some (.bool a0_0) := (blk_cell BK994.out 0).trans rfl
         have hcz43_1 : w5.cell? ⟨gb994, 1, none⟩ = some (.string a0_1) := (blk_cell BK994.out 1).trans rfl
         have hcz43_2 : w5.cell? ⟨gb994, 2, none⟩ = some (.string a0_2) := (blk_cell BK994.out 2).trans rfl
         have hcz43_3 : w5.cell? ⟨gb994, 3, none⟩ = some (.string a0_3) := (blk_cell BK994.out 3).trans rfl
         have hcz43_4 : w5.cell? ⟨gb994, 4, none⟩ = some (.int .i64 a0_4) := (blk_cell BK994.out 4).trans rfl
         have hcz43_5 : w5.cell? ⟨gb994, 5, none⟩ = some (.int .i64 a0_5) := (blk_cell BK994.out 5).trans rfl
         have hcz43_6 : w5.cell? ⟨gb994, 6, none⟩ = some (.string a0_6) := (blk_cell BK994.out 6).trans rfl
         have hcz43_7 : w5.cell? ⟨gb994, 7, none⟩ = some (.string a0_7) := (blk_cell BK994.out 7).trans rfl
         have hcz43_8 : w5.cell? ⟨gb994, 8, none⟩ = some (.int .i64 a0_8) := (blk_cell BK994.out 8).trans rfl
         have hfz43_0 := blk_frozen BK994.out 0
         have hfz43_1 := blk_frozen BK994.out 1
         have hfz43_2 := blk_frozen BK994.out 2
         have hfz43_3 := blk_frozen BK994.out 3
         have hfz43_4 := blk_frozen BK994.out 4
         have hfz43_5 := blk_frozen BK994.out 5
         have hfz43_6 := blk_frozen BK994.out 6
         have hfz43_7 := blk_frozen BK994.out 7
         have hfz43_8 := blk_frozen BK994.out 8
         go_wp2_with (first | ((with_reducible refine gate_callee (f := 128) rfl ?_); refine gL_ (some 44) Tryd.func128 #[.int .i64 a0_8] ?_; (with_reducible refine (strconv_Itoa.calls a0_8 t999 _ (TB.below HTB.out hb_) A41.out).mono ?_); rintro e w44 ⟨rfl, hb⟩; refine ⟨_, rfl, ?_⟩; replace BK994 := BK994.bl hb; replace BK995 := BK995.bl hb; replace HB := Aside0.mk (below_step hb_ hb); obtain ⟨hcz45_0, hcz45_1, hcz45_2, hfz45_0, hfz45_1, hfz45_2⟩ := BK995.c3))
         refine bodyPost_ret (results_ct rfl _ _ gb995 23 #[.bool false, .string t999, .string (⟨#[]⟩ : ByteArray)] (0, 0) _ rfl (by refine blk_put (cs := #[.bool false, .string t999, .string (⟨#[]⟩ : ByteArray)]) ?_ 2 _ rfl; refine blk_put (cs := #[.bool false, .string (⟨#[]⟩ : ByteArray), .string (⟨#[]⟩ : ByteArray)]) ?_ 1 _ rfl; refine blk_put (cs := #[.bool false, .string (⟨#[]⟩ : ByteArray), .string (⟨#[]⟩ : ByteArray)]) ?_ 0 _ rfl; exact BK995.out) Tryd.underlying23 rfl (by kernel_rfl)) rfl ?_
         exact ⟨by first | rfl | (simp [errW_none, errW_some] <;> rfl) | (simp [*, errW_none, errW_some] <;> rfl) | (simp [bne_nil_]; done), by repeat (first | (with_reducible first | exact HB.out | apply below_alloc | apply pw_below_drewN | apply below_drew1 | refine below_set ?_ GE994.out | refine below_set ?_ GE995.out) | exact HB.out)⟩
        ·rw [if_neg c40] at H
         have c40b0 : (a1.toList == ([101] : List UInt8)) = false := beq_eq_false_iff_ne.mpr c40
         have c40b1 : (a1.toList != ([101] : List UInt8)) = true := bne_iff_ne.mpr c40
         simp only [Option.some.injEq, Prod.mk.injEq] at H
         obtain ⟨rfl, rfl, rfl, rfl⟩ := H
         have hnb46 := NB995_994.out
         have hnc46 := NB994_995.out
         obtain ⟨hcz47_0, hcz47_1, hcz47_2, hfz47_0, hfz47_1, hfz47_2⟩ := BK995.c3
         go_wp2
         refine bodyPost_ret (results_ct rfl _ _ gb995 23 #[.bool false, .string (⟨#[]⟩ : ByteArray), .string (⟨#[]⟩ : ByteArray)] (0, 0) _ rfl (by refine blk_put (cs := #[.bool false, .string (⟨#[]⟩ : ByteArray), .string (⟨#[]⟩ : ByteArray)]) ?_ 2 _ rfl; refine blk_put (cs := #[.bool false, .string (⟨#[]⟩ : ByteArray), .string (⟨#[]⟩ : ByteArray)]) ?_ 1 _ rfl; refine blk_put (cs := #[.bool false, .string (⟨#[]⟩ : ByteArray), .string (⟨#[]⟩ : ByteArray)]) ?_ 0 _ rfl; exact BK995.out) Tryd.underlying23 rfl (by kernel_rfl)) rfl ?_
         exact ⟨by first | rfl | (simp [errW_none, errW_some] <;> rfl) | (simp [*, errW_none, errW_some] <;> rfl) | (simp [bne_nil_]; done), by repeat (first | (with_reducible first | exact HB.out | apply below_alloc | apply pw_below_drewN | apply below_drew1 | refine below_set ?_ GE994.out | refine below_set ?_ GE995.out) | exact HB.out)⟩
end Go.Proofs.YtihjcaglhjepdaaDoor.P
namespace Go.Proofs.YtihjcaglhjepdaaDoor.P
open Go.RowKit Go.Proofs.YtihjcaglhjepdaaDoorW.PrintWords Go.Proofs.YtihjcaglhjepdaaDoorW.PrintLast Go.Proofs.YtihjcaglhjepdaaDoorW.PrintMore
attribute [local go_sem] max2_int max_two
set_option linter.unusedVariables false
set_option linter.unusedSimpArgs false
def operand_Get.f (k : Nat) (a0_0 : Bool) (a0_1 : ByteArray) (a0_2 : ByteArray) (a0_3 : ByteArray) (a0_4 : Int) (a0_5 : Int) (a0_6 : ByteArray) (a0_7 : ByteArray) (a0_8 : Int) (a1 : ByteArray) : Option (Bool × ByteArray × ByteArray × Int) := (operand_Check.f k a0_0 a0_1 a0_2 a0_3 a0_4 a0_5 a0_6 a0_7 a0_8).bind fun t1002 => (if t1002 = 0 then ((operand_get.f a0_0 a0_1 a0_2 a0_3 a0_4 a0_5 a0_6 a0_7 a0_8 a1).bind fun bt1003 => (if bt1003.2.2.2 = true then (some (bt1003.1, bt1003.2.1, bt1003.2.2.1, 0)) else (some (false, (⟨#[]⟩ : ByteArray), (⟨#[]⟩ : ByteArray), 40)))) else (some (false, (⟨#[]⟩ : ByteArray), (⟨#[]⟩ : ByteArray), t1002)))
theorem operand_Get.mono : ∀ a0 a1 a2 a3 a4 a5 a6 a7 a8 a9 k, LeO (operand_Get.f k a0 a1 a2 a3 a4 a5 a6 a7 a8 a9) (operand_Get.f (k + 1) a0 a1 a2 a3 a4 a5 a6 a7 a8 a9) := by
 intro a0 a1 a2 a3 a4 a5 a6 a7 a8 a9 k
 unfold operand_Get.f
 repeat' first
   | (with_reducible exact operand_Check.mono _ _ _ _ _ _ _ _ _ _)
   | (with_reducible exact LeO.refl _)
   | (with_reducible exact LeO.none _)
   | (with_reducible refine LeO.ite ?_ ?_)
   | (with_reducible refine LeO.bind ?_ (fun _ => ?_))
   | exact operand_Check.mono _ _ _ _ _ _ _ _ _ _
   | exact LeO.none _
   | refine LeO.ite ?_ ?_
   | refine LeO.bind ?_ (fun _ => ?_)
set_option maxHeartbeats 8000000 in
set_option maxRecDepth 100000 in
theorem operand_Get.calls (k : Nat) (a0_0 : Bool) (a0_1 : ByteArray) (a0_2 : ByteArray) (a0_3 : ByteArray) (a0_4 : Int) (a0_5 : Int) (a0_6 : ByteArray) (a0_7 : ByteArray) (a0_8 : Int) (a1 : ByteArray) (r1 : Bool) (r2 : ByteArray) (r3 : ByteArray) (r4 : Int) (w : World) (ht : TB w) (h : operand_Get.f k a0_0 a0_1 a0_2 a0_3 a0_4 a0_5 a0_6 a0_7 a0_8 a1 = some (r1, r2, r3, r4)) :
    Calls Tryd.prog 85 #[.agg #[.bool a0_0, .string a0_1, .string a0_2, .string a0_3, .int .i64 a0_4, .int .i64 a0_5, .string a0_6, .string a0_7, .int .i64 a0_8], .string a1] w fun e w' => e = .returned (.tuple #[.agg #[.bool r1, .string r2, .string r3], .int .i64 r4]) ∧ Below w.heap.size w w' := by
 have hu45 := Tryd.underlying45
 have hu23 := Tryd.underlying23
 have HTB := Aside0.mk ht
 clear ht
 have HB := Aside0.mk (Below.refl w.heap.size w)
 unfold operand_Get.f at h
 have H := h
 clear h
 replace H := Option.bind_eq_some_iff.mp H
 obtain ⟨t1002, A30, H⟩ := H
 try dsimp only at H
 have A3 := Aside0.mk A30
 clear A30
 have HF4 := Aside0.mk H
 clear H
 go_enter Tryd.func85, Tryd.ntmps85
 go_upto_if 12 with (first | ((with_reducible refine gate_dst (N := 2) rfl ?_); refine bx_ #[.bool a0_0, .string a0_1, .string a0_2, .string a0_3, .int .i64 a0_4, .int .i64 a0_5, .string a0_6, .string a0_7, .int .i64 a0_8] 45 ?_; intro gb1000 hg w5 hbox hb; have BK1000 := Aside0.mk (hbox); have GW1000 := Aside0.mk ((by rw [hg]; exact (below_size hb_) : w.heap.size ≤ gb1000)); have GE1000 := Aside0.mk ((by rw [hg]; exact (below_size hb_) : w.heap.size ≤ gb1000)); replace HB := Aside0.mk (below_step hb_ hb); clear hb hbox hg) | ((with_reducible refine gate_dst (N := 4) rfl ?_); refine bx_ #[.bool false, .string (⟨#[]⟩ : ByteArray), .string (⟨#[]⟩ : ByteArray)] 23 ?_; intro gb1001 hg w6 hbox hb; have BK1001 := Aside0.mk (hbox); have GW1001 := Aside0.mk ((by rw [hg]; exact (below_size hb_) : w.heap.size ≤ gb1001)); have GE1001 := Aside0.mk ((by rw [hg]; exact (below_size hb_) : w.heap.size ≤ gb1001)); have NB1000_1001 := BK1000.nl hg; have NB1001_1000 := BK1000.ng hg; replace BK1000 := BK1000.bl hb; replace HB := Aside0.mk (below_step hb_ hb); clear hb hbox hg; have hnb7 := NB1000_1001.out; have hnc7 := NB1001_1000.out; have hcz8_0 : w6.cell? ⟨gb1000, 0, none⟩ = some (.bool a0_0) := (blk_cell BK1000.out 0).trans rfl; have hcz8_1 : w6.cell? ⟨gb1000, 1, none⟩ = some (.string a0_1) := (blk_cell BK1000.out 1).trans rfl; have hcz8_2 : w6.cell? ⟨gb1000, 2, none⟩ = some (.string a0_2) := (blk_cell BK1000.out 2).trans rfl; have hcz8_3 : w6.cell? ⟨gb1000, 3, none⟩ = some (.string a0_3) := (blk_cell BK1000.out 3).trans rfl; have hcz8_4 : w6.cell? ⟨gb1000, 4, none⟩ = some (.int .i64 a0_4) := (blk_cell BK1000.out 4).trans rfl; have hcz8_5 : w6.cell? ⟨gb1000, 5, none⟩ = some (.int .i64 a0_5) := (blk_cell BK1000.out 5).trans rfl; have hcz8_6 : w6.cell? ⟨gb1000, 6, none⟩ = some (.string a0_6) := (blk_cell BK1000.out 6).trans rfl; have hcz8_7 : w6.cell? ⟨gb1000, 7, none⟩ = some (.string a0_7) := (blk_cell BK1000.out 7).trans rfl; have hcz8_8 : w6.cell? ⟨gb1000, 8, none⟩ = some (.int .i64 a0_8) := (blk_cell BK1000.out 8).trans rfl; have hfz8_0 := blk_frozen BK1000.out 0; have hfz8_1 := blk_frozen BK1000.out 1; have hfz8_2 := blk_frozen BK1000.out 2; have hfz8_3 := blk_frozen BK1000.out 3; have hfz8_4 := blk_frozen BK1000.out 4; have hfz8_5 := blk_frozen BK1000.out 5; have hfz8_6 := blk_frozen BK1000.out 6; have hfz8_7 := blk_frozen BK1000.out 7; have hfz8_8 := blk_frozen BK1000.out 8) | ((with_reducible refine gate_callee (f := 47) rfl ?_); refine gL_ (some 10) Tryd.func47 #[.agg #[.bool a0_0, .string a0_1, .string a0_2, .string a0_3, .int .i64 a0_4, .int .i64 a0_5, .string a0_6, .string a0_7, .int .i64 a0_8]] ?_; (with_reducible refine (operand_Check.calls k a0_0 a0_1 a0_2 a0_3 a0_4 a0_5 a0_6 a0_7 a0_8 t1002 _ A3.out).mono ?_); rintro e w9 ⟨rfl, hb⟩; refine ⟨_, rfl, ?_⟩; replace BK1000 := BK1000.bl hb; replace BK1001 := BK1001.bl hb; replace HB := Aside0.mk (below_step hb_ hb)))
 (try simp only [Act.put, List.setIfInBounds_toArray, List.set_cons_zero, List.set_cons_succ])
 have H := HF4.out
 clear HF4
 by_cases c10 : t1002 = 0
 ·rw [if_pos c10] at H
  have c10b0 : (t1002 == 0) = true := beq_iff_eq.mpr c10
  have c10b1 : (t1002 != 0) = false := bne_eq_false_iff_eq.mpr c10
  clear c10
  (first | rw [c10b0] | (simp only [i64_w, i32_w]; rw [c10b0]) | rw [c10b1] | skip)
  replace H := Option.bind_eq_some_iff.mp H
  obtain ⟨⟨t1003, t1004, t1005, t1006⟩, A110, H⟩ := H
  try dsimp only at H
  have A11 := Aside0.mk A110
  clear A110
  have HF12 := Aside0.mk H
  clear H
  have hnb13 := NB1000_1001.out
  have hnc13 := NB1001_1000.out
  have hcz14_0 : w9.cell? ⟨gb1000, 0, none⟩ = some (.bool a0_0) := (blk_cell BK1000.out 0).trans rfl
  have hcz14_1 : w9.cell? ⟨gb1000, 1, none⟩ = some (.string a0_1) := (blk_cell BK1000.out 1).trans rfl
  have hcz14_2 : w9.cell? ⟨gb1000, 2, none⟩ = some (.string a0_2) := (blk_cell BK1000.out 2).trans rfl
  have hcz14_3 : w9.cell? ⟨gb1000, 3, none⟩ = some (.string a0_3) := (blk_cell BK1000.out 3).trans rfl
  have hcz14_4 : w9.cell? ⟨gb1000, 4, none⟩ = some (.int .i64 a0_4) := (blk_cell BK1000.out 4).trans rfl
  have hcz14_5 : w9.cell? ⟨gb1000, 5, none⟩ = some (.int .i64 a0_5) := (blk_cell BK1000.out 5).trans rfl
  have hcz14_6 : w9.cell? ⟨gb1000, 6, none⟩ = some (.string a0_6) := (blk_cell BK1000.out 6).trans rfl
  have hcz14_7 : w9.cell? ⟨gb1000, 7, none⟩ = some (.string a0_7) := (blk_cell BK1000.out 7).trans rfl
  have hcz14_8 : w9.cell? ⟨gb1000, 8, none⟩ = some (.int .i64 a0_8) := (blk_cell BK1000.out 8).trans rfl
  have hfz14_0 := blk_frozen BK1000.out 0
  have hfz14_1 := blk_frozen BK1000.out 1
  have hfz14_2 := blk_frozen BK1000.out 2
  have hfz14_3 := blk_frozen BK1000.out 3
  have hfz14_4 := blk_frozen BK1000.out 4
  have hfz14_5 := blk_frozen BK1000.out 5
  have hfz14_6 := blk_frozen BK1000.out 6
  have hfz14_7 := blk_frozen BK1000.out 7
  have hfz14_8 := blk_frozen BK1000.out 8
  go_upto_if 22 with (first | ((with_reducible refine gate_callee (f := 113) rfl ?_); refine gL_ (some 18) Tryd.func113 #[.agg #[.bool a0_0, .string a0_1, .string a0_2, .string a0_3, .int .i64 a0_4, .int .i64 a0_5, .string a0_6, .string a0_7, .int .i64 a0_8], .string a1] ?_; (with_reducible refine (operand_get.calls a0_0 a0_1 a0_2 a0_3 a0_4 a0_5 a0_6 a0_7 a0_8 a1 t1003 t1004 t1005 t1006 _ (TB.below HTB.out hb_) A11.out).mono ?_); rintro e w15 ⟨rfl, hb⟩; refine ⟨_, rfl, ?_⟩; replace BK1000 := BK1000.bl hb; replace BK1001 := BK1001.bl hb; replace HB := Aside0.mk (below_step hb_ hb)) | ((with_reducible refine gate_dst (N := 7) rfl ?_); refine bx_ #[.bool false, .string (⟨#[]⟩ : ByteArray), .string (⟨#[]⟩ : ByteArray)] 23 ?_; intro gb1007 hg w16 hbox hb; have BK1007 := Aside0.mk (hbox); have GW1007 := Aside0.mk ((by rw [hg]; exact (below_size hb_) : w.heap.size ≤ gb1007)); have GE1007 := Aside0.mk ((by rw [hg]; exact (below_size hb_) : w.heap.size ≤ gb1007)); have NB1000_1007 := BK1000.nl hg; have NB1007_1000 := BK1000.ng hg; have NB1001_1007 := BK1001.nl hg; have NB1007_1001 := BK1001.ng hg; replace BK1000 := BK1000.bl hb; replace BK1001 := BK1001.bl hb; replace HB := Aside0.mk (below_step hb_ hb); clear hb hbox hg; have hnb17 := NB1007_1000.out; have hnc17 := NB1000_1007.out; have hnb18 := NB1007_1001.out; have hnc18 := NB1001_1007.out; obtain ⟨hcz19_0, hcz19_1, hcz19_2, hfz19_0, hfz19_1, hfz19_2⟩ := BK1007.c3))
  (try simp only [Act.put, List.setIfInBounds_toArray, List.set_cons_zero, List.set_cons_succ])
  have H := HF12.out
  clear HF12
  by_cases c20 : t1006 = true
  ·subst c20
   have H1 : (some (t1003, t1004, t1005, 0)) = some (r1, r2, r3, r4) := by rw [if_pos rfl] at H; exact H
   clear H
   have H := H1
   clear H1
   simp only [Option.some.injEq, Prod.mk.injEq] at H
   obtain ⟨rfl, rfl, rfl, rfl⟩ := H
   have hnb21 := NB1007_1000.out
   have hnc21 := NB1000_1007.out
   have hnb22 := NB1007_1001.out
   have hnc22 := NB1001_1007.out
   obtain ⟨hcz23_0, hcz23_1, hcz23_2, hfz23_0, hfz23_1, hfz23_2⟩ := BK1007.c3
   have hnb24 := NB1001_1000.out
   have hnc24 := NB1000_1001.out
   obtain ⟨hcz25_0, hcz25_1, hcz25_2, hfz25_0, hfz25_1, hfz25_2⟩ := BK1001.c3
   go_wp2
   refine bodyPost_ret (results_ct rfl _ _ gb1001 23 #[.bool t1003, .string t1004, .string t1005] (0, 0) _ rfl (by refine blk_put (cs := #[.bool t1003, .string t1004, .string (⟨#[]⟩ : ByteArray)]) ?_ 2 _ rfl; refine blk_put (cs := #[.bool t1003, .string (⟨#[]⟩ : ByteArray), .string (⟨#[]⟩ : ByteArray)]) ?_ 1 _ rfl; refine blk_put (cs := #[.bool false, .string (⟨#[]⟩ : ByteArray), .string (⟨#[]⟩ : ByteArray)]) ?_ 0 _ rfl; refine blk_far ?_ NB1001_1007.out _; refine blk_far ?_ NB1001_1007.out _; refine blk_far ?_ NB1001_1007.out _; exact BK1001.out) Tryd.underlying23 rfl (by kernel_rfl)) rfl ?_
   exact ⟨by first | rfl | (simp [errW_none, errW_some] <;> rfl) | (simp [*, errW_none, errW_some] <;> rfl) | (simp [bne_nil_]; done), by repeat (first | (with_reducible first | exact HB.out | apply below_alloc | apply pw_below_drewN | apply below_drew1 | refine below_set ?_ GE1000.out | refine below_set ?_ GE1001.out | refine below_set ?_ GE1007.out) | exact HB.out)⟩
  ·replace c20 := Bool.eq_false_iff.mpr c20
   subst c20
   have H1 : (some (false, (⟨#[]⟩ : ByteArray), (⟨#[]⟩ : ByteArray), 40)) = some (r1, r2, r3, r4) := by rw [if_neg (show ¬ (false = true) by decide)] at H; exact H
   clear H
   have H := H1
   clear H1
   simp only [Option.some.injEq, Prod.mk.injEq] at H
   obtain ⟨rfl, rfl, rfl, rfl⟩ := H
   have hnb26 := NB1001_1000.out
   have hnc26 := NB1000_1001.out
   have hnb27 := NB1001_1007.out
   have hnc27 := NB1007_1001.out
   obtain ⟨hcz28_0, hcz28_1, hcz28_2, hfz28_0, hfz28_1, hfz28_2⟩ := BK1001.c3
   go_wp2
   refine bodyPost_ret (results_ct rfl _ _ gb1001 23 #[.bool false, .string (⟨#[]⟩ : ByteArray), .string (⟨#[]⟩ : ByteArray)] (0, 0) _ rfl (by refine blk_put (cs := #[.bool false, .string (⟨#[]⟩ : ByteArray), .string (⟨#[]⟩ : ByteArray)]) ?_ 2 _ rfl; refine blk_put (cs := #[.bool false, .string (⟨#[]⟩ : ByteArray), .string (⟨#[]⟩ : ByteArray)]) ?_ 1 _ rfl; refine blk_put (cs := #[.bool false, .string (⟨#[]⟩ : ByteArray), .string (⟨#[]⟩ : ByteArray)]) ?_ 0 _ rfl; refine blk_far ?_ NB1001_1007.out _; refine blk_far ?_ NB1001_1007.out _; refine blk_far ?_ NB1001_1007.out _; exact BK1001.out) Tryd.underlying23 rfl (by kernel_rfl)) rfl ?_
   exact ⟨by first | rfl | (simp [errW_none, errW_some] <;> rfl) | (simp [*, errW_none, errW_some] <;> rfl) | (simp [bne_nil_]; done), by repeat (first | (with_reducible first | exact HB.out | apply below_alloc | apply pw_below_drewN | apply below_drew1 | refine below_set ?_ GE1000.out | refine below_set ?_ GE1001.out | refine below_set ?_ GE1007.out) | exact HB.out)⟩
 ·rw [if_neg c10] at H
  have c10b0 : (t1002 == 0) = false := beq_eq_false_iff_ne.mpr c10
  have c10b1 : (t1002 != 0) = true := bne_iff_ne.mpr c10
  (first | rw [c10b0] | (simp only [i64_w, i32_w]; rw [c10b0]) | rw [c10b1] | skip)
  simp only [Option.some.injEq, Prod.mk.injEq] at H
  obtain ⟨rfl, rfl, rfl, rfl⟩ := H
  have hnb29 := NB1001_1000.out
  have hnc29 := NB1000_1001.out
  obtain ⟨hcz30_0, hcz30_1, hcz30_2, hfz30_0, hfz30_1, hfz30_2⟩ := BK1001.c3
  go_wp2
  refine bodyPost_ret (results_ct rfl _ _ gb1001 23 #[.bool false, .string (⟨#[]⟩ : ByteArray), .string (⟨#[]⟩ : ByteArray)] (0, 0) _ rfl (by refine blk_put (cs := #[.bool false, .string (⟨#[]⟩ : ByteArray), .string (⟨#[]⟩ : ByteArray)]) ?_ 2 _ rfl; refine blk_put (cs := #[.bool false, .string (⟨#[]⟩ : ByteArray), .string (⟨#[]⟩ : ByteArray)]) ?_ 1 _ rfl; refine blk_put (cs := #[.bool false, .string (⟨#[]⟩ : ByteArray), .string (⟨#[]⟩ : ByteArray)]) ?_ 0 _ rfl; exact BK1001.out) Tryd.underlying23 rfl (by kernel_rfl)) rfl ?_
  exact ⟨by first | rfl | (simp [errW_none, errW_some] <;> rfl) | (simp [*, errW_none, errW_some] <;> rfl) | (simp [bne_nil_]; done), by repeat (first | (with_reducible first | exact HB.out | apply below_alloc | apply pw_below_drewN | apply below_drew1 | refine below_set ?_ GE1000.out | refine below_set ?_ GE1001.out) | exact HB.out)⟩
end Go.Proofs.YtihjcaglhjepdaaDoor.P
namespace Go.Proofs.YtihjcaglhjepdaaDoor.P
open Go.RowKit Go.Proofs.YtihjcaglhjepdaaDoorW.PrintWords Go.Proofs.YtihjcaglhjepdaaDoorW.PrintLast Go.Proofs.YtihjcaglhjepdaaDoorW.PrintMore
attribute [local go_sem] max2_int max_two
set_option linter.unusedVariables false
set_option linter.unusedSimpArgs false
attribute [local go_sem high] eqA23 eqA45
def idiomlaw04_awake.f (k : Nat)  : Option (Bool) := (operand_Of.f k false (⟨#[49]⟩ : ByteArray) (⟨#[53, 48]⟩ : ByteArray) 0).bind fun bt1008 => ((operand_Get.f k bt1008.1 bt1008.2.1 bt1008.2.2.1 bt1008.2.2.2.1 bt1008.2.2.2.2.1 bt1008.2.2.2.2.2.1 bt1008.2.2.2.2.2.2.1 bt1008.2.2.2.2.2.2.2.1 bt1008.2.2.2.2.2.2.2.2.1 (⟨#[116]⟩ : ByteArray)).bind fun bt1019 => (if bt1008.2.2.2.2.2.2.2.2.2 = 0 then (if ((!bt1008.1 && (bt1008.2.1.toList == ([49] : List UInt8) && (bt1008.2.2.1.toList == ([53] : List UInt8)))) && (bt1008.2.2.2.1.toList == ([49] : List UInt8) && (bt1008.2.2.2.2.1 == 2 && (bt1008.2.2.2.2.2.1 == 1 && (bt1008.2.2.2.2.2.2.1.toList == ([53, 48] : List UInt8) && (bt1008.2.2.2.2.2.2.2.1.toList == ([53] : List UInt8) && (bt1008.2.2.2.2.2.2.2.2.1 == 0))))))) = true then (if bt1019.2.2.2 = 0 then (some (!bt1019.1 && (bt1019.2.1.toList == ([53] : List UInt8) && (bt1019.2.2.1.toList == ([] : List UInt8))))) else (some false)) else (some false)) else (some false)))
theorem idiomlaw04_awake.mono : ∀ k, LeO (idiomlaw04_awake.f k ) (idiomlaw04_awake.f (k + 1) ) := by
 intro  k
 unfold idiomlaw04_awake.f
 repeat' first
   | (with_reducible exact operand_Get.mono _ _ _ _ _ _ _ _ _ _ _)
   | (with_reducible exact operand_Of.mono _ _ _ _ _)
   | (with_reducible exact LeO.refl _)
   | (with_reducible exact LeO.none _)
   | (with_reducible refine LeO.ite ?_ ?_)
   | (with_reducible refine LeO.bind ?_ (fun _ => ?_))
   | exact operand_Get.mono _ _ _ _ _ _ _ _ _ _ _
   | exact operand_Of.mono _ _ _ _ _
   | exact LeO.none _
   | refine LeO.ite ?_ ?_
   | refine LeO.bind ?_ (fun _ => ?_)
set_option maxHeartbeats 8000000 in
set_option maxRecDepth 100000 in
theorem idiomlaw04_awake.calls (k : Nat)  (r : Bool) (w : World) (ht : TB w) (h : idiomlaw04_awake.f k  = some r) :
    Calls Tryd.prog 49 #[] w fun e w' => e = .returned (.bool r) ∧ Below w.heap.size w w' := by
 have hu23 := Tryd.underlying23
 have hu45 := Tryd.underlying45
 have HTB := Aside0.mk ht
 clear ht
 have HB := Aside0.mk (Below.refl w.heap.size w)
 unfold idiomlaw04_awake.f at h
 have H := h
 clear h
 replace H := Option.bind_eq_some_iff.mp H
 obtain ⟨⟨t1008, t1009, t1010, t1011, t1012, t1013, t1014, t1015, t1016, t1017⟩, A10, H⟩ := H
 try dsimp only at H
 have A1 := Aside0.mk A10
 clear A10
 replace H := Option.bind_eq_some_iff.mp H
 obtain ⟨⟨t1019, t1020, t1021, t1022⟩, A20, H⟩ := H
 try dsimp only at H
 have A2 := Aside0.mk A20
 clear A20
 by_cases c3 : t1017 = 0
 ·rw [if_pos c3] at H
  have c3b0 : (t1017 == 0) = true := beq_iff_eq.mpr c3
  have c3b1 : (t1017 != 0) = false := bne_eq_false_iff_eq.mpr c3
  clear c3
  by_cases c4 : ((!t1008 && (t1009.toList == ([49] : List UInt8) && (t1010.toList == ([53] : List UInt8)))) && (t1011.toList == ([49] : List UInt8) && (t1012 == 2 && (t1013 == 1 && (t1014.toList == ([53, 48] : List UInt8) && (t1015.toList == ([53] : List UInt8) && (t1016 == 0))))))) = true
  ·rw [if_pos c4] at H
   have c4b0 : ((!t1008 && (t1009.toList == ([49] : List UInt8) && (t1010.toList == ([53] : List UInt8)))) && (t1011.toList == ([49] : List UInt8) && (t1012 == 2 && (t1013 == 1 && (t1014.toList == ([53, 48] : List UInt8) && (t1015.toList == ([53] : List UInt8) && (t1016 == 0))))))) = true := c4
   clear c4
   by_cases c5 : t1022 = 0
   ·rw [if_pos c5] at H
    have c5b0 : (t1022 == 0) = true := beq_iff_eq.mpr c5
    have c5b1 : (t1022 != 0) = false := bne_eq_false_iff_eq.mpr c5
    clear c5
    obtain rfl := Option.some.inj H
    go_enter Tryd.func49, Tryd.ntmps49
    go_wp2_with (first | ((with_reducible refine gate_callee (f := 45) rfl ?_); refine gL_ (some 7) Tryd.func45 #[.agg #[.bool false, .string (⟨#[49]⟩ : ByteArray), .string (⟨#[53, 48]⟩ : ByteArray)], .int .i64 0] ?_; (with_reducible refine (operand_Of.calls k false (⟨#[49]⟩ : ByteArray) (⟨#[53, 48]⟩ : ByteArray) 0 t1008 t1009 t1010 t1011 t1012 t1013 t1014 t1015 t1016 t1017 _ A1.out).mono ?_); rintro e w6 ⟨rfl, hb⟩; refine ⟨_, rfl, ?_⟩; replace HB := Aside0.mk (below_step hb_ hb)) | ((with_reducible refine gate_dst (N := 1) rfl ?_); refine bx_ #[.bool false, .string (⟨#[]⟩ : ByteArray), .string (⟨#[]⟩ : ByteArray), .string (⟨#[]⟩ : ByteArray), .int .i64 0, .int .i64 0, .string (⟨#[]⟩ : ByteArray), .string (⟨#[]⟩ : ByteArray), .int .i64 0] 45 ?_; intro gb1018 hg w7 hbox hb; have BK1018 := Aside0.mk (hbox); have GW1018 := Aside0.mk ((by rw [hg]; exact (below_size hb_) : w.heap.size ≤ gb1018)); have GE1018 := Aside0.mk ((by rw [hg]; exact (below_size hb_) : w.heap.size ≤ gb1018)); replace HB := Aside0.mk (below_step hb_ hb); clear hb hbox hg; have hcz8_0 : w7.cell? ⟨gb1018, 0, none⟩ = some (.bool false) := (blk_cell BK1018.out 0).trans rfl; have hcz8_1 : w7.cell? ⟨gb1018, 1, none⟩ = some (.string (⟨#[]⟩ : ByteArray)) := (blk_cell BK1018.out 1).trans rfl; have hcz8_2 : w7.cell? ⟨gb1018, 2, none⟩ = some (.string (⟨#[]⟩ : ByteArray)) := (blk_cell BK1018.out 2).trans rfl; have hcz8_3 : w7.cell? ⟨gb1018, 3, none⟩ = some (.string (⟨#[]⟩ : ByteArray)) := (blk_cell BK1018.out 3).trans rfl; have hcz8_4 : w7.cell? ⟨gb1018, 4, none⟩ = some (.int .i64 0) := (blk_cell BK1018.out 4).trans rfl; have hcz8_5 : w7.cell? ⟨gb1018, 5, none⟩ = some (.int .i64 0) := (blk_cell BK1018.out 5).trans rfl; have hcz8_6 : w7.cell? ⟨gb1018, 6, none⟩ = some (.string (⟨#[]⟩ : ByteArray)) := (blk_cell BK1018.out 6).trans rfl; have hcz8_7 : w7.cell? ⟨gb1018, 7, none⟩ = some (.string (⟨#[]⟩ : ByteArray)) := (blk_cell BK1018.out 7).trans rfl; have hcz8_8 : w7.cell? ⟨gb1018, 8, none⟩ = some (.int .i64 0) := (blk_cell BK1018.out 8).trans rfl; have hfz8_0 := blk_frozen BK1018.out 0; have hfz8_1 := blk_frozen BK1018.out 1; have hfz8_2 := blk_frozen BK1018.out 2; have hfz8_3 := blk_frozen BK1018.out 3; have hfz8_4 := blk_frozen BK1018.out 4; have hfz8_5 := blk_frozen BK1018.out 5; have hfz8_6 := blk_frozen BK1018.out 6; have hfz8_7 := blk_frozen BK1018.out 7; have hfz8_8 := blk_frozen BK1018.out 8) | ((with_reducible refine gate_callee (f := 85) rfl ?_); refine gL_ (some 12) Tryd.func85 #[.agg #[.bool t1008, .string t1009, .string t1010, .string t1011, .int .i64 t1012, .int .i64 t1013, .string t1014, .string t1015, .int .i64 t1016], .string (⟨#[116]⟩ : ByteArray)] ?_; (with_reducible refine (operand_Get.calls k t1008 t1009 t1010 t1011 t1012 t1013 t1014 t1015 t1016 (⟨#[116]⟩ : ByteArray) t1019 t1020 t1021 t1022 _ (TB.below HTB.out hb_) A2.out).mono ?_); rintro e w9 ⟨rfl, hb⟩; refine ⟨_, rfl, ?_⟩; replace BK1018 := Aside0.mk (blk_below (g := gb1018) (o := .cells #[.bool t1008, .string t1009, .string t1010, .string t1011, .int .i64 t1012, .int .i64 t1013, .string t1014, .string t1015, .int .i64 t1016] 45 (0, 0)) (by refine blk_put (cs := #[.bool t1008, .string t1009, .string t1010, .string t1011, .int .i64 t1012, .int .i64 t1013, .string t1014, .string t1015, .int .i64 0]) ?_ 8 _ rfl; refine blk_put (cs := #[.bool t1008, .string t1009, .string t1010, .string t1011, .int .i64 t1012, .int .i64 t1013, .string t1014, .string (⟨#[]⟩ : ByteArray), .int .i64 0]) ?_ 7 _ rfl; refine blk_put (cs := #[.bool t1008, .string t1009, .string t1010, .string t1011, .int .i64 t1012, .int .i64 t1013, .string (⟨#[]⟩ : ByteArray), .string (⟨#[]⟩ : ByteArray), .int .i64 0]) ?_ 6 _ rfl; refine blk_put (cs := #[.bool t1008, .string t1009, .string t1010, .string t1011, .int .i64 t1012, .int .i64 0, .string (⟨#[]⟩ : ByteArray), .string (⟨#[]⟩ : ByteArray), .int .i64 0]) ?_ 5 _ rfl; refine blk_put (cs := #[.bool t1008, .string t1009, .string t1010, .string t1011, .int .i64 0, .int .i64 0, .string (⟨#[]⟩ : ByteArray), .string (⟨#[]⟩ : ByteArray), .int .i64 0]) ?_ 4 _ rfl; refine blk_put (cs := #[.bool t1008, .string t1009, .string t1010, .string (⟨#[]⟩ : ByteArray), .int .i64 0, .int .i64 0, .string (⟨#[]⟩ : ByteArray), .string (⟨#[]⟩ : ByteArray), .int .i64 0]) ?_ 3 _ rfl; refine blk_put (cs := #[.bool t1008, .string t1009, .string (⟨#[]⟩ : ByteArray), .string (⟨#[]⟩ : ByteArray), .int .i64 0, .int .i64 0, .string (⟨#[]⟩ : ByteArray), .string (⟨#[]⟩ : ByteArray), .int .i64 0]) ?_ 2 _ rfl; refine blk_put (cs := #[.bool t1008, .string (⟨#[]⟩ : ByteArray), .string (⟨#[]⟩ : ByteArray), .string (⟨#[]⟩ : ByteArray), .int .i64 0, .int .i64 0, .string (⟨#[]⟩ : ByteArray), .string (⟨#[]⟩ : ByteArray), .int .i64 0]) ?_ 1 _ rfl; refine blk_put (cs := #[.bool false, .string (⟨#[]⟩ : ByteArray), .string (⟨#[]⟩ : ByteArray), .string (⟨#[]⟩ : ByteArray), .int .i64 0, .int .i64 0, .string (⟨#[]⟩ : ByteArray), .string (⟨#[]⟩ : ByteArray), .int .i64 0]) ?_ 0 _ rfl; exact BK1018.out) hb); replace HB := Aside0.mk (below_step hb_ hb)) | ((with_reducible refine gate_dst (N := 3) rfl ?_); refine bx_ #[.bool false, .string (⟨#[]⟩ : ByteArray), .string (⟨#[]⟩ : ByteArray)] 23 ?_; intro gb1023 hg w10 hbox hb; have BK1023 := Aside0.mk (hbox); have GW1023 := Aside0.mk ((by rw [hg]; exact (below_size hb_) : w.heap.size ≤ gb1023)); have GE1023 := Aside0.mk ((by rw [hg]; exact (below_size hb_) : w.heap.size ≤ gb1023)); have NB1018_1023 := BK1018.nl hg; have NB1023_1018 := BK1018.ng hg; replace BK1018 := BK1018.bl hb; replace HB := Aside0.mk (below_step hb_ hb); clear hb hbox hg; have hnb11 := NB1023_1018.out; have hnc11 := NB1018_1023.out; obtain ⟨hcz12_0, hcz12_1, hcz12_2, hfz12_0, hfz12_1, hfz12_2⟩ := BK1023.c3; have hcz13_0 : w10.cell? ⟨gb1018, 0, none⟩ = some (.bool t1008) := (blk_cell BK1018.out 0).trans rfl; have hcz13_1 : w10.cell? ⟨gb1018, 1, none⟩ = some (.string t1009) := (blk_cell BK1018.out 1).trans rfl; have hcz13_2 : w10.cell? ⟨gb1018, 2, none⟩ = some (.string t1010) := (blk_cell BK1018.out 2).trans rfl; have hcz13_3 : w10.cell? ⟨gb1018, 3, none⟩ = some (.string t1011) := (blk_cell BK1018.out 3).trans rfl; have hcz13_4 : w10.cell? ⟨gb1018, 4, none⟩ = some (.int .i64 t1012) := (blk_cell BK1018.out 4).trans rfl; have hcz13_5 : w10.cell? ⟨gb1018, 5, none⟩ = some (.int .i64 t1013) := (blk_cell BK1018.out 5).trans rfl; have hcz13_6 : w10.cell? ⟨gb1018, 6, none⟩ = some (.string t1014) := (blk_cell BK1018.out 6).trans rfl; have hcz13_7 : w10.cell? ⟨gb1018, 7, none⟩ = some (.string t1015) := (blk_cell BK1018.out 7).trans rfl; have hcz13_8 : w10.cell? ⟨gb1018, 8, none⟩ = some (.int .i64 t1016) := (blk_cell BK1018.out 8).trans rfl; have hfz13_0 := blk_frozen BK1018.out 0; have hfz13_1 := blk_frozen BK1018.out 1; have hfz13_2 := blk_frozen BK1018.out 2; have hfz13_3 := blk_frozen BK1018.out 3; have hfz13_4 := blk_frozen BK1018.out 4; have hfz13_5 := blk_frozen BK1018.out 5; have hfz13_6 := blk_frozen BK1018.out 6; have hfz13_7 := blk_frozen BK1018.out 7; have hfz13_8 := blk_frozen BK1018.out 8))
    go_ret
    exact ⟨by first | rfl | (simp [errW_none, errW_some] <;> rfl) | (simp [*, errW_none, errW_some] <;> rfl) | (simp [bne_nil_]; done), by repeat (first | (with_reducible first | exact HB.out | apply below_alloc | apply pw_below_drewN | apply below_drew1 | refine below_set ?_ GE1018.out | refine below_set ?_ GE1023.out) | exact HB.out)⟩
   ·rw [if_neg c5] at H
    have c5b0 : (t1022 == 0) = false := beq_eq_false_iff_ne.mpr c5
    have c5b1 : (t1022 != 0) = true := bne_iff_ne.mpr c5
    obtain rfl := Option.some.inj H
    go_enter Tryd.func49, Tryd.ntmps49
    go_wp2_with (first | ((with_reducible refine gate_callee (f := 45) rfl ?_); refine gL_ (some 7) Tryd.func45 #[.agg #[.bool false, .string (⟨#[49]⟩ : ByteArray), .string (⟨#[53, 48]⟩ : ByteArray)], .int .i64 0] ?_; (with_reducible refine (operand_Of.calls k false (⟨#[49]⟩ : ByteArray) (⟨#[53, 48]⟩ : ByteArray) 0 t1008 t1009 t1010 t1011 t1012 t1013 t1014 t1015 t1016 t1017 _ A1.out).mono ?_); rintro e w14 ⟨rfl, hb⟩; refine ⟨_, rfl, ?_⟩; replace HB := Aside0.mk (below_step hb_ hb)) | ((with_reducible refine gate_dst (N := 1) rfl ?_); refine bx_ #[.bool false, .string (⟨#[]⟩ : ByteArray), .string (⟨#[]⟩ : ByteArray), .string (⟨#[]⟩ : ByteArray), .int .i64 0, .int .i64 0, .string (⟨#[]⟩ : ByteArray), .string (⟨#[]⟩ : ByteArray), .int .i64 0] 45 ?_; intro gb1018 hg w15 hbox hb; have BK1018 := Aside0.mk (hbox); have GW1018 := Aside0.mk ((by rw [hg]; exact (below_size hb_) : w.heap.size ≤ gb1018)); have GE1018 := Aside0.mk ((by rw [hg]; exact (below_size hb_) : w.heap.size ≤ gb1018)); replace HB := Aside0.mk (below_step hb_ hb); clear hb hbox hg; have hcz16_0 : w15.cell? ⟨gb1018, 0, none⟩ = some (.bool false) := (blk_cell BK1018.out 0).trans rfl; have hcz16_1 : w15.cell? ⟨gb1018, 1, none⟩ = some (.string (⟨#[]⟩ : ByteArray)) := (blk_cell BK1018.out 1).trans rfl; have hcz16_2 : w15.cell? ⟨gb1018, 2, none⟩ = some (.string (⟨#[]⟩ : ByteArray)) := (blk_cell BK1018.out 2).trans rfl; have hcz16_3 : w15.cell? ⟨gb1018, 3, none⟩ = some (.string (⟨#[]⟩ : ByteArray)) := (blk_cell BK1018.out 3).trans rfl; have hcz16_4 : w15.cell? ⟨gb1018, 4, none⟩ = some (.int .i64 0) := (blk_cell BK1018.out 4).trans rfl; have hcz16_5 : w15.cell? ⟨gb1018, 5, none⟩ = some (.int .i64 0) := (blk_cell BK1018.out 5).trans rfl; have hcz16_6 : w15.cell? ⟨gb1018, 6, none⟩ = some (.string (⟨#[]⟩ : ByteArray)) := (blk_cell BK1018.out 6).trans rfl; have hcz16_7 : w15.cell? ⟨gb1018, 7, none⟩ = some (.string (⟨#[]⟩ : ByteArray)) := (blk_cell BK1018.out 7).trans rfl; have hcz16_8 : w15.cell? ⟨gb1018, 8, none⟩ = some (.int .i64 0) := (blk_cell BK1018.out 8).trans rfl; have hfz16_0 := blk_frozen BK1018.out 0; have hfz16_1 := blk_frozen BK1018.out 1; have hfz16_2 := blk_frozen BK1018.out 2; have hfz16_3 := blk_frozen BK1018.out 3; have hfz16_4 := blk_frozen BK1018.out 4; have hfz16_5 := blk_frozen BK1018.out 5; have hfz16_6 := blk_frozen BK1018.out 6; have hfz16_7 := blk_frozen BK1018.out 7; have hfz16_8 := blk_frozen BK1018.out 8) | ((with_reducible refine gate_callee (f := 85) rfl ?_); refine gL_ (some 12) Tryd.func85 #[.agg #[.bool t1008, .string t1009, .string t1010, .string t1011, .int .i64 t1012, .int .i64 t1013, .string t1014, .string t1015, .int .i64 t1016], .string (⟨#[116]⟩ : ByteArray)] ?_; (with_reducible refine (operand_Get.calls k t1008 t1009 t1010 t1011 t1012 t1013 t1014 t1015 t1016 (⟨#[116]⟩ : ByteArray) t1019 t1020 t1021 t1022 _ (TB.below HTB.out hb_) A2.out).mono ?_); rintro e w17 ⟨rfl, hb⟩; refine ⟨_, rfl, ?_⟩; replace BK1018 := Aside0.mk (blk_below (g := gb1018) (o := .cells #[.bool t1008, .string t1009, .string t1010, .string t1011, .int .i64 t1012, .int .i64 t1013, .string t1014, .string t1015, .int .i64 t1016] 45 (0, 0)) (by refine blk_put (cs := #[.bool t1008, .string t1009, .string t1010, .string t1011, .int .i64 t1012, .int .i64 t1013, .string t1014, .string t1015, .int .i64 0]) ?_ 8 _ rfl; refine blk_put (cs := #[.bool t1008, .string t1009, .string t1010, .string t1011, .int .i64 t1012, .int .i64 t1013, .string t1014, .string (⟨#[]⟩ : ByteArray), .int .i64 0]) ?_ 7 _ rfl; refine blk_put (cs := #[.bool t1008, .string t1009, .string t1010, .string t1011, .int .i64 t1012, .int .i64 t1013, .string (⟨#[]⟩ : ByteArray), .string (⟨#[]⟩ : ByteArray), .int .i64 0]) ?_ 6 _ rfl; refine blk_put (cs := #[.bool t1008, .string t1009, .string t1010, .string t1011, .int .i64 t1012, .int .i64 0, .string (⟨#[]⟩ : ByteArray), .string (⟨#[]⟩ : ByteArray), .int .i64 0]) ?_ 5 _ rfl; refine blk_put (cs := #[.bool t1008, .string t1009, .string t1010, .string t1011, .int .i64 0, .int .i64 0, .string (⟨#[]⟩ : ByteArray), .string (⟨#[]⟩ : ByteArray), .int .i64 0]) ?_ 4 _ rfl; refine blk_put (cs := #[.bool t1008, .string t1009, .string t1010, .string (⟨#[]⟩ : ByteArray), .int .i64 0, .int .i64 0, .string (⟨#[]⟩ : ByteArray), .string (⟨#[]⟩ : ByteArray), .int .i64 0]) ?_ 3 _ rfl; refine blk_put (cs := #[.bool t1008, .string t1009, .string (⟨#[]⟩ : ByteArray), .string (⟨#[]⟩ : ByteArray), .int .i64 0, .int .i64 0, .string (⟨#[]⟩ : ByteArray), .string (⟨#[]⟩ : ByteArray), .int .i64 0]) ?_ 2 _ rfl; refine blk_put (cs := #[.bool t1008, .string (⟨#[]⟩ : ByteArray), .string (⟨#[]⟩ : ByteArray), .string (⟨#[]⟩ : ByteArray), .int .i64 0, .int .i64 0, .string (⟨#[]⟩ : ByteArray), .string (⟨#[]⟩ : ByteArray), .int .i64 0]) ?_ 1 _ rfl; refine blk_put (cs := #[.bool false, .string (⟨#[]⟩ : ByteArray), .string (⟨#[]⟩ : ByteArray), .string (⟨#[]⟩ : ByteArray), .int .i64 0, .int .i64 0, .string (⟨#[]⟩ : ByteArray), .string (⟨#[]⟩ : ByteArray), .int .i64 0]) ?_ 0 _ rfl; exact BK1018.out) hb); replace HB := Aside0.mk (below_step hb_ hb)) | ((with_reducible refine gate_dst (N := 3) rfl ?_); refine bx_ #[.bool false, .string (⟨#[]⟩ : ByteArray), .string (⟨#[]⟩ : ByteArray)] 23 ?_; intro gb1023 hg w18 hbox hb; have BK1023 := Aside0.mk (hbox); have GW1023 := Aside0.mk ((by rw [hg]; exact (below_size hb_) : w.heap.size ≤ gb1023)); have GE1023 := Aside0.mk ((by rw [hg]; exact (below_size hb_) : w.heap.size ≤ gb1023)); have NB1018_1023 := BK1018.nl hg; have NB1023_1018 := BK1018.ng hg; replace BK1018 := BK1018.bl hb; replace HB := Aside0.mk (below_step hb_ hb); clear hb hbox hg; have hnb19 := NB1023_1018.out; have hnc19 := NB1018_1023.out; obtain ⟨hcz20_0, hcz20_1, hcz20_2, hfz20_0, hfz20_1, hfz20_2⟩ := BK1023.c3; have hcz21_0 : w18.cell? ⟨gb1018, 0, none⟩ = some (.bool t1008) := (blk_cell BK1018.out 0).trans rfl; have hcz21_1 : w18.cell? ⟨gb1018, 1, none⟩ = some (.string t1009) := (blk_cell BK1018.out 1).trans rfl; have hcz21_2 : w18.cell? ⟨gb1018, 2, none⟩ = some (.string t1010) := (blk_cell BK1018.out 2).trans rfl; have hcz21_3 : w18.cell? ⟨gb1018, 3, none⟩ = some (.string t1011) := (blk_cell BK1018.out 3).trans rfl; have hcz21_4 : w18.cell? ⟨gb1018, 4, none⟩ = some (.int .i64 t1012) := (blk_cell BK1018.out 4).trans rfl; have hcz21_5 : w18.cell? ⟨gb1018, 5, none⟩ = some (.int .i64 t1013) := (blk_cell BK1018.out 5).trans rfl; have hcz21_6 : w18.cell? ⟨gb1018, 6, none⟩ = some (.string t1014) := (blk_cell BK1018.out 6).trans rfl; have hcz21_7 : w18.cell? ⟨gb1018, 7, none⟩ = some (.string t1015) := (blk_cell BK1018.out 7).trans rfl; have hcz21_8 : w18.cell? ⟨gb1018, 8, none⟩ = some (.int .i64 t1016) := (blk_cell BK1018.out 8).trans rfl; have hfz21_0 := blk_frozen BK1018.out 0; have hfz21_1 := blk_frozen BK1018.out 1; have hfz21_2 := blk_frozen BK1018.out 2; have hfz21_3 := blk_frozen BK1018.out 3; have hfz21_4 := blk_frozen BK1018.out 4; have hfz21_5 := blk_frozen BK1018.out 5; have hfz21_6 := blk_frozen BK1018.out 6; have hfz21_7 := blk_frozen BK1018.out 7; have hfz21_8 := blk_frozen BK1018.out 8))
    go_ret
    exact ⟨by first | rfl | (simp [errW_none, errW_some] <;> rfl) | (simp [*, errW_none, errW_some] <;> rfl) | (simp [bne_nil_]; done), by repeat (first | (with_reducible first | exact HB.out | apply below_alloc | apply pw_below_drewN | apply below_drew1 | refine below_set ?_ GE1018.out | refine below_set ?_ GE1023.out) | exact HB.out)⟩
  ·rw [if_neg c4] at H
   have c4b0 : ((!t1008 && (t1009.toList == ([49] : List UInt8) && (t1010.toList == ([53] : List UInt8)))) && (t1011.toList == ([49] : List UInt8) && (t1012 == 2 && (t1013 == 1 && (t1014.toList == ([53, 48] : List UInt8) && (t1015.toList == ([53] : List UInt8) && (t1016 == 0))))))) = false := by simpa using c4
   clear c4
   obtain rfl := Option.some.inj H
   go_enter Tryd.func49, Tryd.ntmps49
   go_wp2_with (first | ((with_reducible refine gate_callee (f := 45) rfl ?_); refine gL_ (some 7) Tryd.func45 #[.agg #[.bool false, .string (⟨#[49]⟩ : ByteArray), .string (⟨#[53, 48]⟩ : ByteArray)], .int .i64 0] ?_; (with_reducible refine (operand_Of.calls k false (⟨#[49]⟩ : ByteArray) (⟨#[53, 48]⟩ : ByteArray) 0 t1008 t1009 t1010 t1011 t1012 t1013 t1014 t1015 t1016 t1017 _ A1.out).mono ?_); rintro e w22 ⟨rfl, hb⟩; refine ⟨_, rfl, ?_⟩; replace HB := Aside0.mk (below_step hb_ hb)) | ((with_reducible refine gate_dst (N := 1) rfl ?_); refine bx_ #[.bool false, .string (⟨#[]⟩ : ByteArray), .string (⟨#[]⟩ : ByteArray), .string (⟨#[]⟩ : ByteArray), .int .i64 0, .int .i64 0, .string (⟨#[]⟩ : ByteArray), .string (⟨#[]⟩ : ByteArray), .int .i64 0] 45 ?_; intro gb1018 hg w23 hbox hb; have BK1018 := Aside0.mk (hbox); have GW1018 := Aside0.mk ((by rw [hg]; exact (below_size hb_) : w.heap.size ≤ gb1018)); have GE1018 := Aside0.mk ((by rw [hg]; exact (below_size hb_) : w.heap.size ≤ gb1018)); replace HB := Aside0.mk (below_step hb_ hb); clear hb hbox hg; have hcz24_0 : w23.cell? ⟨gb1018, 0, none⟩ = some (.bool false) := (blk_cell BK1018.out 0).trans rfl; have hcz24_1 : w23.cell? ⟨gb1018, 1, none⟩ = some (.string (⟨#[]⟩ : ByteArray)) := (blk_cell BK1018.out 1).trans rfl; have hcz24_2 : w23.cell? ⟨gb1018, 2, none⟩ = some (.string (⟨#[]⟩ : ByteArray)) := (blk_cell BK1018.out 2).trans rfl; have hcz24_3 : w23.cell? ⟨gb1018, 3, none⟩ = some (.string (⟨#[]⟩ : ByteArray)) := (blk_cell BK1018.out 3).trans rfl; have hcz24_4 : w23.cell? ⟨gb1018, 4, none⟩ = some (.int .i64 0) := (blk_cell BK1018.out 4).trans rfl; have hcz24_5 : w23.cell? ⟨gb1018, 5, none⟩ = some (.int .i64 0) := (blk_cell BK1018.out 5).trans rfl; have hcz24_6 : w23.cell? ⟨gb1018, 6, none⟩ = some (.string (⟨#[]⟩ : ByteArray)) := (blk_cell BK1018.out 6).trans rfl; have hcz24_7 : w23.cell? ⟨gb1018, 7, none⟩ = some (.string (⟨#[]⟩ : ByteArray)) := (blk_cell BK1018.out 7).trans rfl; have hcz24_8 : w23.cell? ⟨gb1018, 8, none⟩ = some (.int .i64 0) := (blk_cell BK1018.out 8).trans rfl; have hfz24_0 := blk_frozen BK1018.out 0; have hfz24_1 := blk_frozen BK1018.out 1; have hfz24_2 := blk_frozen BK1018.out 2; have hfz24_3 := blk_frozen BK1018.out 3; have hfz24_4 := blk_frozen BK1018.out 4; have hfz24_5 := blk_frozen BK1018.out 5; have hfz24_6 := blk_frozen BK1018.out 6; have hfz24_7 := blk_frozen BK1018.out 7; have hfz24_8 := blk_frozen BK1018.out 8) | ((with_reducible refine gate_callee (f := 85) rfl ?_); refine gL_ (some 12) Tryd.func85 #[.agg #[.bool t1008, .string t1009, .string t1010, .string t1011, .int .i64 t1012, .int .i64 t1013, .string t1014, .string t1015, .int .i64 t1016], .string (⟨#[116]⟩ : ByteArray)] ?_; (with_reducible refine (operand_Get.calls k t1008 t1009 t1010 t1011 t1012 t1013 t1014 t1015 t1016 (⟨#[116]⟩ : ByteArray) t1019 t1020 t1021 t1022 _ (TB.below HTB.out hb_) A2.out).mono ?_); rintro e w25 ⟨rfl, hb⟩; refine ⟨_, rfl, ?_⟩; replace BK1018 := Aside0.mk (blk_below (g := gb1018) (o := .cells #[.bool t1008, .string t1009, .string t1010, .string t1011, .int .i64 t1012, .int .i64 t1013, .string t1014, .string t1015, .int .i64 t1016] 45 (0, 0)) (by refine blk_put (cs := #[.bool t1008, .string t1009, .string t1010, .string t1011, .int .i64 t1012, .int .i64 t1013, .string t1014, .string t1015, .int .i64 0]) ?_ 8 _ rfl; refine blk_put (cs := #[.bool t1008, .string t1009, .string t1010, .string t1011, .int .i64 t1012, .int .i64 t1013, .string t1014, .string (⟨#[]⟩ : ByteArray), .int .i64 0]) ?_ 7 _ rfl; refine blk_put (cs := #[.bool t1008, .string t1009, .string t1010, .string t1011, .int .i64 t1012, .int .i64 t1013, .string (⟨#[]⟩ : ByteArray), .string (⟨#[]⟩ : ByteArray), .int .i64 0]) ?_ 6 _ rfl; refine blk_put (cs := #[.bool t1008, .string t1009, .string t1010, .string t1011, .int .i64 t1012, .int .i64 0, .string (⟨#[]⟩ : ByteArray), .string (⟨#[]⟩ : ByteArray), .int .i64 0]) ?_ 5 _ rfl; refine blk_put (cs := #[.bool t1008, .string t1009, .string t1010, .string t1011, .int .i64 0, .int .i64 0, .string (⟨#[]⟩ : ByteArray), .string (⟨#[]⟩ : ByteArray), .int .i64 0]) ?_ 4 _ rfl; refine blk_put (cs := #[.bool t1008, .string t1009, .string t1010, .string (⟨#[]⟩ : ByteArray), .int .i64 0, .int .i64 0, .string (⟨#[]⟩ : ByteArray), .string (⟨#[]⟩ : ByteArray), .int .i64 0]) ?_ 3 _ rfl; refine blk_put (cs := #[.bool t1008, .string t1009, .string (⟨#[]⟩ : ByteArray), .string (⟨#[]⟩ : ByteArray), .int .i64 0, .int .i64 0, .string (⟨#[]⟩ : ByteArray), .string (⟨#[]⟩ : ByteArray), .int .i64 0]) ?_ 2 _ rfl; refine blk_put (cs := #[.bool t1008, .string (⟨#[]⟩ : ByteArray), .string (⟨#[]⟩ : ByteArray), .string (⟨#[]⟩ : ByteArray), .int .i64 0, .int .i64 0, .string (⟨#[]⟩ : ByteArray), .string (⟨#[]⟩ : ByteArray), .int .i64 0]) ?_ 1 _ rfl; refine blk_put (cs := #[.bool false, .string (⟨#[]⟩ : ByteArray), .string (⟨#[]⟩ : ByteArray), .string (⟨#[]⟩ : ByteArray), .int .i64 0, .int .i64 0, .string (⟨#[]⟩ : ByteArray), .string (⟨#[]⟩ : ByteArray), .int .i64 0]) ?_ 0 _ rfl; exact BK1018.out) hb); replace HB := Aside0.mk (below_step hb_ hb)) | ((with_reducible refine gate_dst (N := 3) rfl ?_); refine bx_ #[.bool false, .string (⟨#[]⟩ : ByteArray), .string (⟨#[]⟩ : ByteArray)] 23 ?_; intro gb1023 hg w26 hbox hb; have BK1023 := Aside0.mk (hbox); have GW1023 := Aside0.mk ((by rw [hg]; exact (below_size hb_) : w.heap.size ≤ gb1023)); have GE1023 := Aside0.mk ((by rw [hg]; exact (below_size hb_) : w.heap.size ≤ gb1023)); have NB1018_1023 := BK1018.nl hg; have NB1023_1018 := BK1018.ng hg; replace BK1018 := BK1018.bl hb; replace HB := Aside0.mk (below_step hb_ hb); clear hb hbox hg; have hnb27 := NB1023_1018.out; have hnc27 := NB1018_1023.out; obtain ⟨hcz28_0, hcz28_1, hcz28_2, hfz28_0, hfz28_1, hfz28_2⟩ := BK1023.c3; have hcz29_0 : w26.cell? ⟨gb1018, 0, none⟩ = some (.bool t1008) := (blk_cell BK1018.out 0).trans rfl; have hcz29_1 : w26.cell? ⟨gb1018, 1, none⟩ = some (.string t1009) := (blk_cell BK1018.out 1).trans rfl; have hcz29_2 : w26.cell? ⟨gb1018, 2, none⟩ = some (.string t1010) := (blk_cell BK1018.out 2).trans rfl; have hcz29_3 : w26.cell? ⟨gb1018, 3, none⟩ = some (.string t1011) := (blk_cell BK1018.out 3).trans rfl; have hcz29_4 : w26.cell? ⟨gb1018, 4, none⟩ = some (.int .i64 t1012) := (blk_cell BK1018.out 4).trans rfl; have hcz29_5 : w26.cell? ⟨gb1018, 5, none⟩ = some (.int .i64 t1013) := (blk_cell BK1018.out 5).trans rfl; have hcz29_6 : w26.cell? ⟨gb1018, 6, none⟩ = some (.string t1014) := (blk_cell BK1018.out 6).trans rfl; have hcz29_7 : w26.cell? ⟨gb1018, 7, none⟩ = some (.string t1015) := (blk_cell BK1018.out 7).trans rfl; have hcz29_8 : w26.cell? ⟨gb1018, 8, none⟩ = some (.int .i64 t1016) := (blk_cell BK1018.out 8).trans rfl; have hfz29_0 := blk_frozen BK1018.out 0; have hfz29_1 := blk_frozen BK1018.out 1; have hfz29_2 := blk_frozen BK1018.out 2; have hfz29_3 := blk_frozen BK1018.out 3; have hfz29_4 := blk_frozen BK1018.out 4; have hfz29_5 := blk_frozen BK1018.out 5; have hfz29_6 := blk_frozen BK1018.out 6; have hfz29_7 := blk_frozen BK1018.out 7; have hfz29_8 := blk_frozen BK1018.out 8))
   go_ret
   exact ⟨by first | rfl | (simp [errW_none, errW_some] <;> rfl) | (simp [*, errW_none, errW_some] <;> rfl) | (simp [bne_nil_]; done), by repeat (first | (with_reducible first | exact HB.out | apply below_alloc | apply pw_below_drewN | apply below_drew1 | refine below_set ?_ GE1018.out | refine below_set ?_ GE1023.out) | exact HB.out)⟩
 ·rw [if_neg c3] at H
  have c3b0 : (t1017 == 0) = false := beq_eq_false_iff_ne.mpr c3
  have c3b1 : (t1017 != 0) = true := bne_iff_ne.mpr c3
  obtain rfl := Option.some.inj H
  go_enter Tryd.func49, Tryd.ntmps49
  go_wp2_with (first | ((with_reducible refine gate_callee (f := 45) rfl ?_); refine gL_ (some 7) Tryd.func45 #[.agg #[.bool false, .string (⟨#[49]⟩ : ByteArray), .string (⟨#[53, 48]⟩ : ByteArray)], .int .i64 0] ?_; (with_reducible refine (operand_Of.calls k false (⟨#[49]⟩ : ByteArray) (⟨#[53, 48]⟩ : ByteArray) 0 t1008 t1009 t1010 t1011 t1012 t1013 t1014 t1015 t1016 t1017 _ A1.out).mono ?_); rintro e w30 ⟨rfl, hb⟩; refine ⟨_, rfl, ?_⟩; replace HB := Aside0.mk (below_step hb_ hb)) | ((with_reducible refine gate_dst (N := 1) rfl ?_); refine bx_ #[.bool false, .string (⟨#[]⟩ : ByteArray), .string (⟨#[]⟩ : ByteArray), .string (⟨#[]⟩ : ByteArray), .int .i64 0, .int .i64 0, .string (⟨#[]⟩ : ByteArray), .string (⟨#[]⟩ : ByteArray), .int .i64 0] 45 ?_; intro gb1018 hg w31 hbox hb; have BK1018 := Aside0.mk (hbox); have GW1018 := Aside0.mk ((by rw [hg]; exact (below_size hb_) : w.heap.size ≤ gb1018)); have GE1018 := Aside0.mk ((by rw [hg]; exact (below_size hb_) : w.heap.size ≤ gb1018)); replace HB := Aside0.mk (below_step hb_ hb); clear hb hbox hg; have hcz32_0 : w31.cell? ⟨gb1018, 0, none⟩ = some (.bool false) := (blk_cell BK1018.out 0).trans rfl; have hcz32_1 : w31.cell? ⟨gb1018, 1, none⟩ = some (.string (⟨#[]⟩ : ByteArray)) := (blk_cell BK1018.out 1).trans rfl; have hcz32_2 : w31.cell? ⟨gb1018, 2, none⟩ = some (.string (⟨#[]⟩ : ByteArray)) := (blk_cell BK1018.out 2).trans rfl; have hcz32_3 : w31.cell? ⟨gb1018, 3, none⟩ = some (.string (⟨#[]⟩ : ByteArray)) := (blk_cell BK1018.out 3).trans rfl; have hcz32_4 : w31.cell? ⟨gb1018, 4, none⟩ = some (.int .i64 0) := (blk_cell BK1018.out 4).trans rfl; have hcz32_5 : w31.cell? ⟨gb1018, 5, none⟩ = some (.int .i64 0) := (blk_cell BK1018.out 5).trans rfl; have hcz32_6 : w31.cell? ⟨gb1018, 6, none⟩ = some (.string (⟨#[]⟩ : ByteArray)) := (blk_cell BK1018.out 6).trans rfl; have hcz32_7 : w31.cell? ⟨gb1018, 7, none⟩ = some (.string (⟨#[]⟩ : ByteArray)) := (blk_cell BK1018.out 7).trans rfl; have hcz32_8 : w31.cell? ⟨gb1018, 8, none⟩ = some (.int .i64 0) := (blk_cell BK1018.out 8).trans rfl; have hfz32_0 := blk_frozen BK1018.out 0; have hfz32_1 := blk_frozen BK1018.out 1; have hfz32_2 := blk_frozen BK1018.out 2; have hfz32_3 := blk_frozen BK1018.out 3; have hfz32_4 := blk_frozen BK1018.out 4; have hfz32_5 := blk_frozen BK1018.out 5; have hfz32_6 := blk_frozen BK1018.out 6; have hfz32_7 := blk_frozen BK1018.out 7; have hfz32_8 := blk_frozen BK1018.out 8) | ((with_reducible refine gate_callee (f := 85) rfl ?_); refine gL_ (some 12) Tryd.func85 #[.agg #[.bool t1008, .string t1009, .string t1010, .string t1011, .int .i64 t1012, .int .i64 t1013, .string t1014, .string t1015, .int .i64 t1016], .string (⟨#[116]⟩ : ByteArray)] ?_; (with_reducible refine (operand_Get.calls k t1008 t1009 t1010 t1011 t1012 t1013 t1014 t1015 t1016 (⟨#[116]⟩ : ByteArray) t1019 t1020 t1021 t1022 _ (TB.below HTB.out hb_) A2.out).mono ?_); rintro e w33 ⟨rfl, hb⟩; refine ⟨_, rfl, ?_⟩; replace BK1018 := Aside0.mk (blk_below (g := gb1018) (o := .cells #[.bool t1008, .string t1009, .string t1010, .string t1011, .int .i64 t1012, .int .i64 t1013, .string t1014, .string t1015, .int .i64 t1016] 45 (0, 0)) (by refine blk_put (cs := #[.bool t1008, .string t1009, .string t1010, .string t1011, .int .i64 t1012, .int .i64 t1013, .string t1014, .string t1015, .int .i64 0]) ?_ 8 _ rfl; refine blk_put (cs := #[.bool t1008, .string t1009, .string t1010, .string t1011, .int .i64 t1012, .int .i64 t1013, .string t1014, .string (⟨#[]⟩ : ByteArray), .int .i64 0]) ?_ 7 _ rfl; refine blk_put (cs := #[.bool t1008, .string t1009, .string t1010, .string t1011, .int .i64 t1012, .int .i64 t1013, .string (⟨#[]⟩ : ByteArray), .string (⟨#[]⟩ : ByteArray), .int .i64 0]) ?_ 6 _ rfl; refine blk_put (cs := #[.bool t1008, .string t1009, .string t1010, .string t1011, .int .i64 t1012, .int .i64 0, .string (⟨#[]⟩ : ByteArray), .string (⟨#[]⟩ : ByteArray), .int .i64 0]) ?_ 5 _ rfl; refine blk_put (cs := #[.bool t1008, .string t1009, .string t1010, .string t1011, .int .i64 0, .int .i64 0, .string (⟨#[]⟩ : ByteArray), .string (⟨#[]⟩ : ByteArray), .int .i64 0]) ?_ 4 _ rfl; refine blk_put (cs := #[.bool t1008, .string t1009, .string t1010, .string (⟨#[]⟩ : ByteArray), .int .i64 0, .int .i64 0, .string (⟨#[]⟩ : ByteArray), .string (⟨#[]⟩ : ByteArray), .int .i64 0]) ?_ 3 _ rfl; refine blk_put (cs := #[.bool t1008, .string t1009, .string (⟨#[]⟩ : ByteArray), .string (⟨#[]⟩ : ByteArray), .int .i64 0, .int .i64 0, .string (⟨#[]⟩ : ByteArray), .string (⟨#[]⟩ : ByteArray), .int .i64 0]) ?_ 2 _ rfl; refine blk_put (cs := #[.bool t1008, .string (⟨#[]⟩ : ByteArray), .string (⟨#[]⟩ : ByteArray), .string (⟨#[]⟩ : ByteArray), .int .i64 0, .int .i64 0, .string (⟨#[]⟩ : ByteArray), .string (⟨#[]⟩ : ByteArray), .int .i64 0]) ?_ 1 _ rfl; refine blk_put (cs := #[.bool false, .string (⟨#[]⟩ : ByteArray), .string (⟨#[]⟩ : ByteArray), .string (⟨#[]⟩ : ByteArray), .int .i64 0, .int .i64 0, .string (⟨#[]⟩ : ByteArray), .string (⟨#[]⟩ : ByteArray), .int .i64 0]) ?_ 0 _ rfl; exact BK1018.out) hb); replace HB := Aside0.mk (below_step hb_ hb)) | ((with_reducible refine gate_dst (N := 3) rfl ?_); refine bx_ #[.bool false, .string (⟨#[]⟩ : ByteArray), .string (⟨#[]⟩ : ByteArray)] 23 ?_; intro gb1023 hg w34 hbox hb; have BK1023 := Aside0.mk (hbox); have GW1023 := Aside0.mk ((by rw [hg]; exact (below_size hb_) : w.heap.size ≤ gb1023)); have GE1023 := Aside0.mk ((by rw [hg]; exact (below_size hb_) : w.heap.size ≤ gb1023)); have NB1018_1023 := BK1018.nl hg; have NB1023_1018 := BK1018.ng hg; replace BK1018 := BK1018.bl hb; replace HB := Aside0.mk (below_step hb_ hb); clear hb hbox hg; have hnb35 := NB1023_1018.out; have hnc35 := NB1018_1023.out; obtain ⟨hcz36_0, hcz36_1, hcz36_2, hfz36_0, hfz36_1, hfz36_2⟩ := BK1023.c3))
  go_ret
  exact ⟨by first | rfl | (simp [errW_none, errW_some] <;> rfl) | (simp [*, errW_none, errW_some] <;> rfl) | (simp [bne_nil_]; done), by repeat (first | (with_reducible first | exact HB.out | apply below_alloc | apply pw_below_drewN | apply below_drew1 | refine below_set ?_ GE1018.out | refine below_set ?_ GE1023.out) | exact HB.out)⟩
end Go.Proofs.YtihjcaglhjepdaaDoor.P
namespace Go.Proofs.YtihjcaglhjepdaaDoor.P
open Go.RowKit Go.Proofs.YtihjcaglhjepdaaDoorW.PrintWords Go.Proofs.YtihjcaglhjepdaaDoorW.PrintLast Go.Proofs.YtihjcaglhjepdaaDoorW.PrintMore
attribute [local go_sem] max2_int max_two
set_option linter.unusedVariables false
set_option linter.unusedSimpArgs false
mutual
def idiomlaw04_part.j0 : Nat → ByteArray → Int → Option (ByteArray)
  | 0, _, _ => none
  | k + 1, x0, x1 => idiomlaw04_part.l0 k x0 x1
def idiomlaw04_part.l0 : Nat → ByteArray → Int → Option (ByteArray)
  | 0, _, _ => none
  | k + 1, x0, x1 => if (x0.size : Int) < x1 then (if 1 + x0.size ≤ 9223372036854775807 then (idiomlaw04_part.l0 k ((⟨#[48]⟩ : ByteArray) ++ x0) x1) else (none)) else (some x0)
end
def idiomlaw04_part.f (k : Nat) (a0 : ByteArray) (a1 : Int) : Option (ByteArray) := if a0.toList = ([48] : List UInt8) then (idiomlaw04_part.j0 k (⟨#[]⟩ : ByteArray) a1) else (idiomlaw04_part.j0 k a0 a1)
set_option maxHeartbeats 8000000 in
set_option maxRecDepth 100000 in
theorem idiomlaw04_part.calls (k : Nat) (a0 : ByteArray) (a1 : Int) (r : ByteArray) (w : World) (h : idiomlaw04_part.f k a0 a1 = some r) :
    Calls Tryd.prog 50 #[.string a0, .int .i64 a1] w fun e w' => e = .returned (.string r) ∧ Drawn0 w w' := by
 unfold idiomlaw04_part.f at h
 have H := h
 clear h
 have HC3 := Aside0.mk H
 clear H
 go_enter Tryd.func50, Tryd.ntmps50
 go_upto_if 6 with (fail)
 go_cut [0] (fun v0 wc => ∃ (kq : Nat) (x0_2 : ByteArray), v0 = .string x0_2 ∧ Aside0 (idiomlaw04_part.j0 kq x0_2 a1 = some r) ∧ Aside0 (kq ≤ k) ∧ Drawn0 w wc)
 case first =>
  have H := HC3.out
  clear HC3
  by_cases c4 : a0.toList = ([48] : List UInt8)
  ·rw [if_pos c4] at H
   have c4b0 : (a0.toList == ([48] : List UInt8)) = true := beq_iff_eq.mpr c4
   have c4b1 : (a0.toList != ([48] : List UInt8)) = false := bne_eq_false_iff_eq.mpr c4
   clear c4
   (first | rw [c4b0] | (simp only [i64_w, i32_w]; rw [c4b0]) | rw [c4b1] | skip)
   have H' := Aside0.mk H
   clear H
   go_wp2
   go_meet
   case rel => exact ⟨_, ((⟨#[]⟩ : ByteArray)), (by first | rfl | (simp; done) | (simp [*]; done)), H', ⟨by first | omega | exact Nat.le_refl _⟩, by repeat (first | exact Drawn0.refl _ | apply Drawn0.step)⟩
  ·rw [if_neg c4] at H
   have c4b0 : (a0.toList == ([48] : List UInt8)) = false := beq_eq_false_iff_ne.mpr c4
   have c4b1 : (a0.toList != ([48] : List UInt8)) = true := bne_iff_ne.mpr c4
   (first | rw [c4b0] | (simp only [i64_w, i32_w]; rw [c4b0]) | rw [c4b1] | skip)
   have H' := Aside0.mk H
   clear H
   go_wp2
   go_meet
   case rel => exact ⟨_, (a0), (by first | rfl | (simp; done) | (simp [*]; done)), H', ⟨by first | omega | exact Nat.le_refl _⟩, by repeat (first | exact Drawn0.refl _ | apply Drawn0.step)⟩
 case rest =>
  clear HC3
  obtain ⟨kq, x0_2, rfl, HA, HJ2, ⟨mc2, rfl⟩⟩ := hcut
  cases kq with
  | zero => exact absurd HA.out (by simp [idiomlaw04_part.j0])
  | succ kj2 =>
   have H := HA.out
   clear HA
   simp only [idiomlaw04_part.j0] at H
   have H' := Aside0.mk H
   clear H
   go_wp2
   go_loopg [0] kj2 (fun kq v0 w' => ∃ (x0_2 : ByteArray), v0 = .string x0_2 ∧ Aside0 (idiomlaw04_part.l0 kq x0_2 a1 = some r) ∧ Aside0 (kq ≤ kj2) ∧ Drawn0 w w')
   case atStart => exact ⟨(x0_2), (by first | rfl | (simp; done) | (simp [*]; done)), H', ⟨Nat.le_refl _⟩, by repeat (first | exact Drawn0.refl _ | apply Drawn0.step)⟩
   case round =>
    clear H'
    obtain ⟨x0_2, rfl, HA, HK2, ⟨m2, rfl⟩⟩ := hrel
    cases gk with
    | zero => exact absurd HA.out (by simp [idiomlaw04_part.l0])
    | succ k2 =>
     have H := HA.out
     clear HA
     simp only [idiomlaw04_part.l0] at H
     by_cases c5 : (x0_2.size : Int) < a1
     ·rw [if_pos c5] at H
      have c5b0 : decide ((x0_2.size : Int) < a1) = true := decide_eq_true c5
      clear c5
      by_cases c6 : 1 + x0_2.size ≤ 9223372036854775807
      ·rw [if_pos c6] at H
       have c6b0 := eq_true c6
       have c6b1 : decide (1 + x0_2.size ≤ 9223372036854775807) = true := decide_eq_true c6
       try have c6b2 : (9223372036854775807 < 1 + x0_2.size) = False := eq_false (Nat.not_lt.2 c6)
       have H' := Aside0.mk H
       clear H
       go_wp2
       go_roundg k2
       case measure => have := HJ2.out; have := HK2.out; omega
       case rel => exact ⟨((⟨#[48]⟩ : ByteArray) ++ x0_2), (by first | rfl | (simp; done) | (simp [*]; done)), H', ⟨by have := HJ2.out; have := HK2.out; omega⟩, by repeat (first | exact Drawn0.refl _ | apply Drawn0.step)⟩
      ·rw [if_neg c6] at H
       exact absurd H (by simp)
     ·rw [if_neg c5] at H
      have c5b0 : decide ((x0_2.size : Int) < a1) = false := decide_eq_false c5
      clear c5
      obtain rfl := Option.some.inj H
      go_wp2
      go_ret
      exact ⟨by first | rfl | (simp; done) | (simp [*]; done), by repeat (first | exact Drawn0.refl _ | apply Drawn0.step)⟩
end Go.Proofs.YtihjcaglhjepdaaDoor.P
