/- A part of the proof. Part 3 of 8; its texts were written by programs, some out of the kit's print. -/
import Derived.Test.YtihjcaglhjepdaaDoorZOq1
import Derived.Shelf.LaysM
import Derived.Shelf.Strconv.Itoa3
import Derived.Test.YtihjcaglhjepdaaDoorProg
import Derived.Lib.ItoaMem
namespace Go.Proofs.YtihjcaglhjepdaaDoor.P
open Go.RowKit Go.Proofs.YtihjcaglhjepdaaDoorW.PrintWords Go.Proofs.YtihjcaglhjepdaaDoorW.PrintLast Go.Proofs.YtihjcaglhjepdaaDoorW.PrintMore
attribute [local go_sem] max2_int max_two
set_option linter.unusedVariables false
set_option linter.unusedSimpArgs false
def decimal_Shift.j0 : Nat → Int → Bool → Bool → ByteArray → ByteArray → Option (Bool × ByteArray × ByteArray × Int)
  | 0, _, _, _, _, _ => none
  | k + 1, x1, x20, x755000, x755001, x755002 => if x20 = true then (some (false, (⟨#[]⟩ : ByteArray), (⟨#[]⟩ : ByteArray), 1)) else (if x755001.size + x755002.size ≤ 9223372036854775807 then ((decimal_of.f k (x755001 ++ x755002)).bind fun t757 => (if (wrap64 ((x755002.size : Int) - x1)) < 0 then ((decimal_digits_up.f t757 (wrap64 (-(wrap64 ((x755002.size : Int) - x1))))).bind fun t760 => ((decimal_made.f k x755000 t760 0).bind fun bt763 => (some (bt763.1, bt763.2.1, bt763.2.2.1, bt763.2.2.2)))) else ((decimal_made.f k x755000 t757 (wrap64 ((x755002.size : Int) - x1))).bind fun bt767 => (some (bt767.1, bt767.2.1, bt767.2.2.1, bt767.2.2.2))))) else (none))
def decimal_Shift.f (k : Nat) (a0_0 : Bool) (a0_1 : ByteArray) (a0_2 : ByteArray) (a1 : Int) : Option (Bool × ByteArray × ByteArray × Int) := (decimal_Check.f k a0_0 a0_1 a0_2).bind fun t756 => (if t756 = 0 then (if a1 < (-40) then (decimal_Shift.j0 k a1 true a0_0 a0_1 a0_2) else (decimal_Shift.j0 k a1 (decide (a1 > 40)) a0_0 a0_1 a0_2)) else (some (false, (⟨#[]⟩ : ByteArray), (⟨#[]⟩ : ByteArray), t756)))
theorem decimal_Shift.mono_l : ∀ k, (∀ y0 y1 y2 y3 y4, LeO (decimal_Shift.j0 k y0 y1 y2 y3 y4) (decimal_Shift.j0 (k + 1) y0 y1 y2 y3 y4))
  | 0 => fun _ _ _ _ _ r h => by simp [decimal_Shift.j0] at h
  | k + 1 => by
    have ih0 := decimal_Shift.mono_l k
    · intro y0 y1 y2 y3 y4
      unfold decimal_Shift.j0
      repeat' first
      | (with_reducible exact ih0 _ _ _ _ _)
      | (with_reducible exact decimal_Check.mono _ _ _ _)
      | (with_reducible exact decimal_made.mono _ _ _ _)
      | (with_reducible exact decimal_of.mono _ _)
      | (with_reducible exact LeO.refl _)
      | (with_reducible exact LeO.none _)
      | (with_reducible refine LeO.ite ?_ ?_)
      | (with_reducible refine LeO.bind ?_ (fun _ => ?_))
      | exact ih0 _ _ _ _ _
      | exact decimal_Check.mono _ _ _ _
      | exact decimal_made.mono _ _ _ _
      | exact decimal_of.mono _ _
      | exact LeO.none _
      | refine LeO.ite ?_ ?_
      | refine LeO.bind ?_ (fun _ => ?_)
theorem decimal_Shift.mono : ∀ a0 a1 a2 a3 k, LeO (decimal_Shift.f k a0 a1 a2 a3) (decimal_Shift.f (k + 1) a0 a1 a2 a3) := by
 intro a0 a1 a2 a3 k
 have ih0 := decimal_Shift.mono_l k
 unfold decimal_Shift.f
 repeat' first
   | (with_reducible exact ih0 _ _ _ _ _)
   | (with_reducible exact decimal_Check.mono _ _ _ _)
   | (with_reducible exact decimal_made.mono _ _ _ _)
   | (with_reducible exact decimal_of.mono _ _)
   | (with_reducible exact LeO.refl _)
   | (with_reducible exact LeO.none _)
   | (with_reducible refine LeO.ite ?_ ?_)
   | (with_reducible refine LeO.bind ?_ (fun _ => ?_))
   | exact ih0 _ _ _ _ _
   | exact decimal_Check.mono _ _ _ _
   | exact decimal_made.mono _ _ _ _
   | exact decimal_of.mono _ _
   | exact LeO.none _
   | refine LeO.ite ?_ ?_
   | refine LeO.bind ?_ (fun _ => ?_)
def decimal_Shift.T6 : Bool × List (List Nat × List Nat) := (true, [([], []), ([0], [0]), ([], []), ([2], [2]), ([1, 3], [1, 3]), ([4], [4]), ([], []), ([6], [6]), ([7], [7]), ([], []), ([8, 9], [8, 9]), ([5, 5, 0, 1, 2, 3, 4, 5], [5]), ([10, 11, 0, 1, 2, 3, 4, 5, 6, 7, 8, 9, 10, 11], [10])])
def decimal_Shift.B6 : List Nat := [0, 1, 0, 4, 15, 31, 0, 64, 192, 0, 960, 63, 4095]
theorem decimal_Shift.tab6 : rtab .any (opsOf Tryd.f39 6) = decimal_Shift.T6 := by kernel_rfl
theorem decimal_Shift.bits6 : waitsOk decimal_Shift.T6.2 decimal_Shift.B6 = true := by kernel_rfl
set_option maxHeartbeats 8000000 in
set_option maxRecDepth 100000 in
theorem decimal_Shift.calls (k : Nat) (a0_0 : Bool) (a0_1 : ByteArray) (a0_2 : ByteArray) (a1 : Int) (r1 : Bool) (r2 : ByteArray) (r3 : ByteArray) (r4 : Int) (w : World) (h : decimal_Shift.f k a0_0 a0_1 a0_2 a1 = some (r1, r2, r3, r4)) :
    Calls Tryd.prog 39 #[.agg #[.bool a0_0, .string a0_1, .string a0_2], .int .i64 a1] w fun e w' => e = .returned (.tuple #[.agg #[.bool r1, .string r2, .string r3], .int .i64 r4]) ∧ Below w.heap.size w w' := by
 have hu23 := Tryd.underlying23
 have HB := Aside0.mk (Below.refl w.heap.size w)
 unfold decimal_Shift.f at h
 have H := h
 clear h
 replace H := Option.bind_eq_some_iff.mp H
 obtain ⟨t756, A30, H⟩ := H
 try dsimp only at H
 have A3 := Aside0.mk A30
 clear A30
 have HF4 := Aside0.mk H
 clear H
 go_enter Tryd.func39, Tryd.ntmps39
 go_upto_if 12 with (first | ((with_reducible refine gate_dst (N := 2) rfl ?_); refine bx_ #[.bool a0_0, .string a0_1, .string a0_2] 23 ?_; intro gb754 hg w5 hbox hb; have BK754 := Aside0.mk (hbox); have GW754 := ge_ (w := w) hg; have GE754 := ge_ (w := w) hg; replace HB := Aside0.mk (below_step hb_ hb); clear hb hbox hg) | ((with_reducible refine gate_dst (N := 4) rfl ?_); refine bx_ #[.bool false, .string (⟨#[]⟩ : ByteArray), .string (⟨#[]⟩ : ByteArray)] 23 ?_; intro gb755 hg w6 hbox hb; have BK755 := Aside0.mk (hbox); have GW755 := ge_ (w := w) hg; have GE755 := ge_ (w := w) hg; have NB754_755 := BK754.nl hg; have NB755_754 := BK754.ng hg; replace BK754 := BK754.bl hb; replace HB := Aside0.mk (below_step hb_ hb); clear hb hbox hg; have hnb7 := NB754_755.out; have hnc7 := NB755_754.out; obtain ⟨hcz8_0, hcz8_1, hcz8_2, hfz8_0, hfz8_1, hfz8_2⟩ := BK754.c3) | ((with_reducible refine gate_callee (f := 19) rfl ?_); refine gL_ (some 10) Tryd.func19 #[.agg #[.bool a0_0, .string a0_1, .string a0_2]] ?_; (with_reducible refine (decimal_Check.calls k a0_0 a0_1 a0_2 t756 _ A3.out).mono ?_); rintro e w9 ⟨rfl, hb⟩; refine ⟨_, rfl, ?_⟩; replace BK754 := BK754.bl hb; replace BK755 := BK755.bl hb; replace HB := Aside0.mk (below_step hb_ hb)))
 (try simp only [Act.put, List.setIfInBounds_toArray, List.set_cons_zero, List.set_cons_succ])
 have H := HF4.out
 clear HF4
 by_cases c10 : t756 = 0
 ·rw [if_pos c10] at H
  have c10b0 : (t756 == 0) = true := beq_iff_eq.mpr c10
  have c10b1 : (t756 != 0) = false := bne_eq_false_iff_eq.mpr c10
  clear c10
  (first | rw [c10b0] | (simp only [i64_w, i32_w]; rw [c10b0]) | rw [c10b1] | skip)
  have HC11 := Aside0.mk H
  clear H
  go_upto_region 4 with (fail)
  go_cut [20] (fun v20 wc => ∃ (kq : Nat) (x20_10 : Bool), v20 = .bool x20_10 ∧ Aside0 (decimal_Shift.j0 kq a1 x20_10 a0_0 a0_1 a0_2 = some (r1, r2, r3, r4)) ∧ Aside0 (kq ≤ k) ∧ Aside0 (wc.heap[gb754]? = some (.cells #[.bool a0_0, .string a0_1, .string a0_2] 23 (0, 0))) ∧ Aside0 (wc.heap[gb755]? = some (.cells #[.bool false, .string (⟨#[]⟩ : ByteArray), .string (⟨#[]⟩ : ByteArray)] 23 (0, 0))) ∧ Aside0 (Below w.heap.size w wc))
  case first =>
   have H := HC11.out
   clear HC11
   by_cases c12 : a1 < (-40)
   ·rw [if_pos c12] at H
    have c12b0 : decide (a1 < (-40)) = true := decide_eq_true c12
    clear c12
    (first | rw [c12b0] | (simp only [i64_w, i32_w]; rw [c12b0]) | skip)
    have H' := Aside0.mk H
    clear H
    go_wp2
    go_meet
    case rel => exact ⟨_, (true), (by first | rfl | (simp; done) | (simp [*]; done)), H', ⟨by first | exact Nat.le_refl _ | omega⟩, ⟨by exact BK754.out⟩, ⟨by exact BK755.out⟩, ⟨hb_⟩⟩
   ·rw [if_neg c12] at H
    have c12b0 : decide (a1 < (-40)) = false := decide_eq_false c12
    clear c12
    (first | rw [c12b0] | (simp only [i64_w, i32_w]; rw [c12b0]) | skip)
    have H' := Aside0.mk H
    clear H
    go_wp2
    go_meet
    case rel => exact ⟨_, (decide (a1 > 40)), (by first | rfl | (simp; done) | (simp [*]; done)), H', ⟨by first | exact Nat.le_refl _ | omega⟩, ⟨by exact BK754.out⟩, ⟨by exact BK755.out⟩, ⟨hb_⟩⟩
  case rest =>
   clear HC11
   (try clear c10); (try clear c10b0); (try clear c10b1); (try clear hcz8_0); (try clear hcz8_1); (try clear hcz8_2); (try clear hfz8_0); (try clear hfz8_1); (try clear hfz8_2)
   obtain ⟨kq, x20_10, rfl, HA, HJ10, BK754, BK755, HB⟩ := hcut
   cases kq with
   | zero => exact absurd HA.out (by simp [decimal_Shift.j0])
   | succ kj10 =>
    have H := HA.out
    clear HA
    simp only [decimal_Shift.j0] at H
    by_cases c13 : x20_10 = true
    ·subst c13
     have H1 : (some (false, (⟨#[]⟩ : ByteArray), (⟨#[]⟩ : ByteArray), 1)) = some (r1, r2, r3, r4) := by rw [if_pos rfl] at H; exact H
     clear H
     have H := H1
     clear H1
     simp only [Option.some.injEq, Prod.mk.injEq] at H
     obtain ⟨rfl, rfl, rfl, rfl⟩ := H
     have hnb14 := NB755_754.out
     have hnc14 := NB754_755.out
     obtain ⟨hcz15_0, hcz15_1, hcz15_2, hfz15_0, hfz15_1, hfz15_2⟩ := BK755.c3
     go_wp2
     refine bodyPost_ret (results_ct rfl _ _ gb755 23 #[.bool false, .string (⟨#[]⟩ : ByteArray), .string (⟨#[]⟩ : ByteArray)] (0, 0) _ rfl (by refine put3_ (cs := #[.bool false, .string (⟨#[]⟩ : ByteArray), .string (⟨#[]⟩ : ByteArray)]) ?_; exact BK755.out) Tryd.underlying23 rfl (by kernel_rfl)) rfl ?_
     exact fin_
    ·replace c13 := Bool.eq_false_iff.mpr c13
     subst c13
     have H1 : (if a0_1.size + a0_2.size ≤ 9223372036854775807 then ((decimal_of.f kj10 (a0_1 ++ a0_2)).bind fun t757 => (if (wrap64 ((a0_2.size : Int) - a1)) < 0 then ((decimal_digits_up.f t757 (wrap64 (-(wrap64 ((a0_2.size : Int) - a1))))).bind fun t760 => ((decimal_made.f kj10 a0_0 t760 0).bind fun bt763 => (some (bt763.1, bt763.2.1, bt763.2.2.1, bt763.2.2.2)))) else ((decimal_made.f kj10 a0_0 t757 (wrap64 ((a0_2.size : Int) - a1))).bind fun bt767 => (some (bt767.1, bt767.2.1, bt767.2.2.1, bt767.2.2.2))))) else (none)) = some (r1, r2, r3, r4) := by rw [if_neg (show ¬ (false = true) by decide)] at H; exact H
     clear H
     have H := H1
     clear H1
     by_cases c16 : a0_1.size + a0_2.size ≤ 9223372036854775807
     ·rw [if_pos c16] at H
      have c16b0 := eq_true c16
      have c16b1 : decide (a0_1.size + a0_2.size ≤ 9223372036854775807) = true := decide_eq_true c16
      try have c16b2 : (9223372036854775807 < a0_1.size + a0_2.size) = False := eq_false (Nat.not_lt.2 c16)
      replace H := Option.bind_eq_some_iff.mp H
      obtain ⟨t757, A170, H⟩ := H
      try dsimp only at H
      have A17 := Aside0.mk A170
      clear A170
      have HF18 := Aside0.mk H
      clear H
      try go_wp2
      replace BK754 := Aside0.mk (blk_drew BK754.out)
      replace BK755 := Aside0.mk (blk_drew BK755.out)
      replace HB := Aside0.mk (below_drew1 HB.out)
      refine start_ (n := 13) (S := fun w' => w'.cell? ⟨gb754, 0, none⟩ = some (.bool a0_0) ∧ w'.cell? ⟨gb754, 1, none⟩ = some (.string a0_1) ∧ w'.cell? ⟨gb754, 2, none⟩ = some (.string a0_2)) (ds := []) #[false, false, false, false, false, false, false, false, false, false, false, false, false] (by kernel_rfl) rfl rfl ⟨(blk_cell BK754.out 0).trans rfl, (blk_cell BK754.out 1).trans rfl, (blk_cell BK754.out 2).trans rfl⟩ (fun hHeld => ?_); refine with_tabW decimal_Shift.tab6 decimal_Shift.bits6 (fun HT_ HW_ => ?_)
      generalize wc.drew = w19 at BK754 BK755 HB hHeld ⊢
      refine pr_ 0 (some 22) ?_
      refine pr_ 2 (some 24) ?_
      refine pr_ 6 (some 28) ?_
      refine pr_ 9 (some 31) ?_
      refine tk_ 1 (some 23) hHeld ?_
      refine tk_ 3 (some 25) hHeld ?_
      refine pr_ 4 (some 26) ?_
      refine tk_ 7 (some 29) hHeld ?_
      refine pr_ 8 (some 30) ?_
      refine pr_ 10 (some 32) ?_
      refine one_ (i := 5) (N := some 27) #[true, true, true, true, true, true, true, true, true, true, true, false, false] rfl rfl (one_of HT_.out (by kernel_rfl)) (by decide) (fun K hK => ?_)
      refine goes_ Tryd.func73 (by kernel_rfl) rfl #[.string (a0_1 ++ a0_2)] (by rfl) rfl rfl ar_ ?_
      with_reducible refine (decimal_of.calls kj10 (a0_1 ++ a0_2) t757 _ A17.out).mono ?_
      rintro e w20 ⟨v758, rfl, ho0, hb⟩
      refine ⟨_, rfl, ?_⟩
      have HO759 := Aside0.mk (Kd.R_lower ho0 (below_size hb_))
      replace BK754 := BK754.bl hb
      replace BK755 := BK755.bl hb
      replace HB := Aside0.mk (below_step hb_ hb)
      (try clear hb)
      (try clear hb2)
      (try clear hk)
      (try clear hi)
      (try clear ho0)
      refine hK.out _ _ ⟨(blk_cell BK754.out 0).trans rfl, (blk_cell BK754.out 1).trans rfl, (blk_cell BK754.out 2).trans rfl⟩ (fun hHeld => ?_)
      clear hK K
      refine norm_ (a' := ?_) ?_ ?_
      rotate_left
      ·show Act.put _ (some 27) _ = _
       simp only [Act.put, List.setIfInBounds_toArray, List.set_cons_zero, List.set_cons_succ, i64_w, i32_w]
       rfl
      refine pr_ 11 (some 7) ?_
      refine pr_ 12 (some 8) ?_
      refine done_ (done_of HT_.out (by kernel_rfl)) ?_
      go_upto_if 34 with (fail)
      have H := HF18.out
      clear HF18
      by_cases c21 : (wrap64 ((a0_2.size : Int) - a1)) < 0
      ·rw [if_pos c21] at H
       have c21b0 : decide ((wrap64 ((a0_2.size : Int) - a1)) < 0) = true := decide_eq_true c21
       clear c21
       (first | rw [c21b0] | (simp only [i64_w, i32_w]; rw [c21b0]) | skip)
       replace H := Option.bind_eq_some_iff.mp H
       obtain ⟨t760, A220, H⟩ := H
       try dsimp only at H
       have A22 := Aside0.mk A220
       clear A220
       replace H := Option.bind_eq_some_iff.mp H
       obtain ⟨⟨t763, t764, t765, t766⟩, A230, H⟩ := H
       try dsimp only at H
       have A23 := Aside0.mk A230
       clear A230
       simp only [Option.some.injEq, Prod.mk.injEq] at H
       obtain ⟨rfl, rfl, rfl, rfl⟩ := H
       obtain ⟨Ao24, co24, eo24⟩ := Kd.R_slice HO759.out
       subst eo24
       go_wp2_with (first | ((with_reducible refine gate_callee (f := 77) rfl ?_); refine gL_ (some 38) Tryd.func77 #[.slice Ao24 t757.length co24, .int .i64 (wrap64 (-(wrap64 ((a0_2.size : Int) - a1))))] ?_; (with_reducible refine (decimal_digits_up.calls (fun k_ => some k_ = (.slice Ao24 t757.length co24 : Value).ownBlock) _ _ t757 (wrap64 (-(wrap64 ((a0_2.size : Int) - a1)))) t760 _ ?side1 A22.out).mono ?_); (case side1 => exact Kd.R_V (Kd.R_tight rfl (Kd.R_types (Kd.R_types (HO759.out) BK754.out (by decide)) BK755.out (by decide)))); rintro e w25 ⟨v761, rfl, ho0, hb⟩; refine ⟨_, rfl, ?_⟩; have HO762 := Aside0.mk (Kd.V_lower (Kd.V_mono (ok' := fun k_ => k_ ≠ gb754 ∧ k_ ≠ gb755) ho0 (fun k_ hk_ => ⟨Or.elim hk_ (fun hs_ => ((Kd.R_types (Kd.R_types (HO759.out) BK754.out (by decide)) BK755.out (by decide)).1 k_ hs_.symm).1.2) (fun hn_ => (Kd.freshB (g := gb754) (o := .cells #[.bool a0_0, .string a0_1, .string a0_2] 23 (0, 0)) BK754.out k_ hn_)), Or.elim hk_ (fun hs_ => ((Kd.R_types (Kd.R_types (HO759.out) BK754.out (by decide)) BK755.out (by decide)).1 k_ hs_.symm).2) (fun hn_ => (Kd.freshB (g := gb755) (o := .cells #[.bool false, .string (⟨#[]⟩ : ByteArray), .string (⟨#[]⟩ : ByteArray)] 23 (0, 0)) BK755.out k_ hn_))⟩)) (below_size hb_)); replace HO759 := Aside0.mk (Kd.R_below (by (with_reducible repeat (first | apply Kd.R_alloc | apply Kd.R_drewN | apply Kd.R_drew)); exact HO759.out) hb); replace BK754 := BK754.bl hb; replace BK755 := BK755.bl hb; replace HB := Aside0.mk (below_step hb_ hb); (try clear ho0); have hnb26 := NB754_755.out; have hnc26 := NB755_754.out; obtain ⟨hcz27_0, hcz27_1, hcz27_2, hfz27_0, hfz27_1, hfz27_2⟩ := BK754.c3; obtain ⟨Ao28, co28, eo28⟩ := Kd.V_slice HO762.out; subst eo28) | ((with_reducible refine gate_callee (f := 62) rfl ?_); refine gL_ (some 43) Tryd.func62 #[.bool a0_0, .slice Ao28 t760.length co28, .int .i64 0] ?_; (with_reducible refine (decimal_made.calls kj10 a0_0 _ _ t760 0 t763 t764 t765 t766 _ ?side1 ?side2 A23.out).mono ?_); (case side1 => repeat (first | exact (Kd.V_reads' HO762.out).2.2 | (with_reducible refine Kd.C_alloc ?_ _) | (with_reducible refine Kd.C_drewN ?_ _) | (with_reducible refine Kd.C_drew ?_))); (case side2 => exact (Kd.V_reads' HO762.out).2.1); rintro e w29 ⟨rfl, hb⟩; refine ⟨_, rfl, ?_⟩; replace HO759 := Aside0.mk (Kd.R_below (by (with_reducible repeat (first | apply Kd.R_alloc | apply Kd.R_drewN | apply Kd.R_drew)); exact HO759.out) hb); replace HO762 := Aside0.mk (Kd.V_below (by (with_reducible repeat (first | apply Kd.V_alloc | apply Kd.V_drewN | apply Kd.V_drew)); exact HO762.out) hb); replace BK754 := BK754.bl hb; replace BK755 := BK755.bl hb; replace HB := Aside0.mk (below_step hb_ hb); obtain ⟨hcz30_0, hcz30_1, hcz30_2, hfz30_0, hfz30_1, hfz30_2⟩ := BK755.c3))
       refine bodyPost_ret (results_ct rfl _ _ gb755 23 #[.bool t763, .string t764, .string t765] (0, 0) _ rfl (by refine put3_ (cs := #[.bool false, .string (⟨#[]⟩ : ByteArray), .string (⟨#[]⟩ : ByteArray)]) ?_; exact BK755.out) Tryd.underlying23 rfl (by kernel_rfl)) rfl ?_
       exact fin_
      ·rw [if_neg c21] at H
       have c21b0 : decide ((wrap64 ((a0_2.size : Int) - a1)) < 0) = false := decide_eq_false c21
       clear c21
       (first | rw [c21b0] | (simp only [i64_w, i32_w]; rw [c21b0]) | skip)
       replace H := Option.bind_eq_some_iff.mp H
       obtain ⟨⟨t767, t768, t769, t770⟩, A310, H⟩ := H
       try dsimp only at H
       have A31 := Aside0.mk A310
       clear A310
       simp only [Option.some.injEq, Prod.mk.injEq] at H
       obtain ⟨rfl, rfl, rfl, rfl⟩ := H
       have hnb32 := NB754_755.out
       have hnc32 := NB755_754.out
       obtain ⟨hcz33_0, hcz33_1, hcz33_2, hfz33_0, hfz33_1, hfz33_2⟩ := BK754.c3
       obtain ⟨Ao34, co34, eo34⟩ := Kd.R_slice HO759.out
       subst eo34
       go_wp2_with (first | ((with_reducible refine gate_callee (f := 62) rfl ?_); refine gL_ (some 43) Tryd.func62 #[.bool a0_0, .slice Ao34 t757.length co34, .int .i64 (wrap64 ((a0_2.size : Int) - a1))] ?_; (with_reducible refine (decimal_made.calls kj10 a0_0 _ _ t757 (wrap64 ((a0_2.size : Int) - a1)) t767 t768 t769 t770 _ ?side1 ?side2 A31.out).mono ?_); (case side1 => repeat (first | exact (Kd.R_reads' HO759.out).2.2 | (with_reducible refine Kd.C_alloc ?_ _) | (with_reducible refine Kd.C_drewN ?_ _) | (with_reducible refine Kd.C_drew ?_))); (case side2 => exact (Kd.R_reads' HO759.out).2.1); rintro e w35 ⟨rfl, hb⟩; refine ⟨_, rfl, ?_⟩; replace HO759 := Aside0.mk (Kd.R_below (by (with_reducible repeat (first | apply Kd.R_alloc | apply Kd.R_drewN | apply Kd.R_drew)); exact HO759.out) hb); replace BK754 := BK754.bl hb; replace BK755 := BK755.bl hb; replace HB := Aside0.mk (below_step hb_ hb); obtain ⟨hcz36_0, hcz36_1, hcz36_2, hfz36_0, hfz36_1, hfz36_2⟩ := BK755.c3))
       refine bodyPost_ret (results_ct rfl _ _ gb755 23 #[.bool t767, .string t768, .string t769] (0, 0) _ rfl (by refine put3_ (cs := #[.bool false, .string (⟨#[]⟩ : ByteArray), .string (⟨#[]⟩ : ByteArray)]) ?_; exact BK755.out) Tryd.underlying23 rfl (by kernel_rfl)) rfl ?_
       exact fin_
     ·rw [if_neg c16] at H
      exact absurd H (by simp)
 ·rw [if_neg c10] at H
  have c10b0 : (t756 == 0) = false := beq_eq_false_iff_ne.mpr c10
  have c10b1 : (t756 != 0) = true := bne_iff_ne.mpr c10
  (first | rw [c10b0] | (simp only [i64_w, i32_w]; rw [c10b0]) | rw [c10b1] | skip)
  simp only [Option.some.injEq, Prod.mk.injEq] at H
  obtain ⟨rfl, rfl, rfl, rfl⟩ := H
  have hnb37 := NB755_754.out
  have hnc37 := NB754_755.out
  obtain ⟨hcz38_0, hcz38_1, hcz38_2, hfz38_0, hfz38_1, hfz38_2⟩ := BK755.c3
  go_wp2
  refine bodyPost_ret (results_ct rfl _ _ gb755 23 #[.bool false, .string (⟨#[]⟩ : ByteArray), .string (⟨#[]⟩ : ByteArray)] (0, 0) _ rfl (by refine put3_ (cs := #[.bool false, .string (⟨#[]⟩ : ByteArray), .string (⟨#[]⟩ : ByteArray)]) ?_; exact BK755.out) Tryd.underlying23 rfl (by kernel_rfl)) rfl ?_
  exact fin_
attribute [local go_sem] max2_int max_two
set_option linter.unusedVariables false
set_option linter.unusedSimpArgs false
def decimal_Trim.f (k : Nat) (a0_0 : Bool) (a0_1 : ByteArray) (a0_2 : ByteArray) : Option (Bool × ByteArray × ByteArray × Int) := (decimal_Check.f k a0_0 a0_1 a0_2).bind fun t841 => (if t841 = 0 then ((strings_TrimRight.f k a0_2 (⟨#[48]⟩ : ByteArray)).bind fun t842 => (some (a0_0, a0_1, t842, 0))) else (some (false, (⟨#[]⟩ : ByteArray), (⟨#[]⟩ : ByteArray), t841)))
theorem decimal_Trim.mono : ∀ a0 a1 a2 k, LeO (decimal_Trim.f k a0 a1 a2) (decimal_Trim.f (k + 1) a0 a1 a2) := by
 intro a0 a1 a2 k
 unfold decimal_Trim.f
 repeat' first
   | (with_reducible exact decimal_Check.mono _ _ _ _)
   | (with_reducible exact strings_TrimRight.mono _ _ _)
   | (with_reducible exact LeO.refl _)
   | (with_reducible exact LeO.none _)
   | (with_reducible refine LeO.ite ?_ ?_)
   | (with_reducible refine LeO.bind ?_ (fun _ => ?_))
   | exact decimal_Check.mono _ _ _ _
   | exact strings_TrimRight.mono _ _ _
   | exact LeO.none _
   | refine LeO.ite ?_ ?_
   | refine LeO.bind ?_ (fun _ => ?_)
set_option maxHeartbeats 8000000 in
set_option maxRecDepth 100000 in
theorem decimal_Trim.calls (k : Nat) (a0_0 : Bool) (a0_1 : ByteArray) (a0_2 : ByteArray) (r1 : Bool) (r2 : ByteArray) (r3 : ByteArray) (r4 : Int) (w : World) (h : decimal_Trim.f k a0_0 a0_1 a0_2 = some (r1, r2, r3, r4)) :
    Calls Tryd.prog 40 #[.agg #[.bool a0_0, .string a0_1, .string a0_2]] w fun e w' => e = .returned (.tuple #[.agg #[.bool r1, .string r2, .string r3], .int .i64 r4]) ∧ Below w.heap.size w w' := by
 have hu23 := Tryd.underlying23
 have HB := Aside0.mk (Below.refl w.heap.size w)
 unfold decimal_Trim.f at h
 have H := h
 clear h
 replace H := Option.bind_eq_some_iff.mp H
 obtain ⟨t841, A20, H⟩ := H
 try dsimp only at H
 have A2 := Aside0.mk A20
 clear A20
 have HF3 := Aside0.mk H
 clear H
 go_enter Tryd.func40, Tryd.ntmps40
 go_upto_if 8 with (first | ((with_reducible refine gate_dst (N := 1) rfl ?_); refine bx_ #[.bool a0_0, .string a0_1, .string a0_2] 23 ?_; intro gb839 hg w4 hbox hb; have BK839 := Aside0.mk (hbox); have GW839 := ge_ (w := w) hg; have GE839 := ge_ (w := w) hg; replace HB := Aside0.mk (below_step hb_ hb); clear hb hbox hg) | ((with_reducible refine gate_dst (N := 2) rfl ?_); refine bx_ #[.bool false, .string (⟨#[]⟩ : ByteArray), .string (⟨#[]⟩ : ByteArray)] 23 ?_; intro gb840 hg w5 hbox hb; have BK840 := Aside0.mk (hbox); have GW840 := ge_ (w := w) hg; have GE840 := ge_ (w := w) hg; have NB839_840 := BK839.nl hg; have NB840_839 := BK839.ng hg; replace BK839 := BK839.bl hb; replace HB := Aside0.mk (below_step hb_ hb); clear hb hbox hg; have hnb6 := NB839_840.out; have hnc6 := NB840_839.out; obtain ⟨hcz7_0, hcz7_1, hcz7_2, hfz7_0, hfz7_1, hfz7_2⟩ := BK839.c3) | ((with_reducible refine gate_callee (f := 19) rfl ?_); refine gL_ (some 6) Tryd.func19 #[.agg #[.bool a0_0, .string a0_1, .string a0_2]] ?_; (with_reducible refine (decimal_Check.calls k a0_0 a0_1 a0_2 t841 _ A2.out).mono ?_); rintro e w8 ⟨rfl, hb⟩; refine ⟨_, rfl, ?_⟩; replace BK839 := BK839.bl hb; replace BK840 := BK840.bl hb; replace HB := Aside0.mk (below_step hb_ hb)))
 (try simp only [Act.put, List.setIfInBounds_toArray, List.set_cons_zero, List.set_cons_succ])
 have H := HF3.out
 clear HF3
 by_cases c9 : t841 = 0
 ·rw [if_pos c9] at H
  have c9b0 : (t841 == 0) = true := beq_iff_eq.mpr c9
  have c9b1 : (t841 != 0) = false := bne_eq_false_iff_eq.mpr c9
  clear c9
  (first | rw [c9b0] | (simp only [i64_w, i32_w]; rw [c9b0]) | rw [c9b1] | skip)
  replace H := Option.bind_eq_some_iff.mp H
  obtain ⟨t842, A100, H⟩ := H
  try dsimp only at H
  have A10 := Aside0.mk A100
  clear A100
  simp only [Option.some.injEq, Prod.mk.injEq] at H
  obtain ⟨rfl, rfl, rfl, rfl⟩ := H
  have hnb11 := NB839_840.out
  have hnc11 := NB840_839.out
  obtain ⟨hcz12_0, hcz12_1, hcz12_2, hfz12_0, hfz12_1, hfz12_2⟩ := BK839.c3
  go_wp2_with (first | ((with_reducible refine gate_callee (f := 78) rfl ?_); refine gL_ (some 13) Tryd.func78 #[.string a0_2, .string (⟨#[48]⟩ : ByteArray)] ?_; (with_reducible refine (strings_TrimRight.calls k a0_2 (⟨#[48]⟩ : ByteArray) t842 _ A10.out).mono ?_); rintro e w13 ⟨rfl, hb⟩; refine ⟨_, rfl, ?_⟩; replace BK839 := BK839.bl hb; replace BK840 := BK840.bl hb; replace HB := Aside0.mk (below_step hb_ hb); obtain ⟨hcz14_0, hcz14_1, hcz14_2, hfz14_0, hfz14_1, hfz14_2⟩ := BK839.c3; obtain ⟨hcz15_0, hcz15_1, hcz15_2, hfz15_0, hfz15_1, hfz15_2⟩ := BK840.c3))
  refine bodyPost_ret (results_ct rfl _ _ gb840 23 #[.bool a0_0, .string a0_1, .string t842] (0, 0) _ rfl (by refine put3_ (cs := #[.bool false, .string (⟨#[]⟩ : ByteArray), .string (⟨#[]⟩ : ByteArray)]) ?_; refine blk_far ?_ NB840_839.out _; exact BK840.out) Tryd.underlying23 rfl (by kernel_rfl)) rfl ?_
  exact fin_
 ·rw [if_neg c9] at H
  have c9b0 : (t841 == 0) = false := beq_eq_false_iff_ne.mpr c9
  have c9b1 : (t841 != 0) = true := bne_iff_ne.mpr c9
  (first | rw [c9b0] | (simp only [i64_w, i32_w]; rw [c9b0]) | rw [c9b1] | skip)
  simp only [Option.some.injEq, Prod.mk.injEq] at H
  obtain ⟨rfl, rfl, rfl, rfl⟩ := H
  have hnb16 := NB840_839.out
  have hnc16 := NB839_840.out
  obtain ⟨hcz17_0, hcz17_1, hcz17_2, hfz17_0, hfz17_1, hfz17_2⟩ := BK840.c3
  go_wp2
  refine bodyPost_ret (results_ct rfl _ _ gb840 23 #[.bool false, .string (⟨#[]⟩ : ByteArray), .string (⟨#[]⟩ : ByteArray)] (0, 0) _ rfl (by refine put3_ (cs := #[.bool false, .string (⟨#[]⟩ : ByteArray), .string (⟨#[]⟩ : ByteArray)]) ?_; exact BK840.out) Tryd.underlying23 rfl (by kernel_rfl)) rfl ?_
  exact fin_
attribute [local go_sem] max2_int max_two
set_option linter.unusedVariables false
set_option linter.unusedSimpArgs false
def decimal_divided.f (k : Nat) (a0_0 : Bool) (a0_1 : ByteArray) (a0_2 : ByteArray) (a1_0 : Bool) (a1_1 : ByteArray) (a1_2 : ByteArray) : Option (List Int × List Int × Int × Int) := (decimal_both.f k a0_0 a0_1 a0_2 a1_0 a1_1 a1_2).bind fun t354 => (if t354 = 0 then ((decimal_aligned.f k a0_0 a0_1 a0_2 a1_0 a1_1 a1_2).bind fun bt355 => (if (bt355.2.1.length : Int) = 0 then (some (([] : List Int), ([] : List Int), 0, 21)) else ((decimal_digits_by.f k bt355.1 bt355.2.1).bind fun bt362 => (some (bt362.1, bt362.2, bt355.2.2, 0))))) else (some (([] : List Int), ([] : List Int), 0, t354)))
set_option maxHeartbeats 8000000 in
set_option maxRecDepth 100000 in
theorem decimal_divided.calls (k : Nat) (a0_0 : Bool) (a0_1 : ByteArray) (a0_2 : ByteArray) (a1_0 : Bool) (a1_1 : ByteArray) (a1_2 : ByteArray) (r1 : List Int) (r2 : List Int) (r3 : Int) (r4 : Int) (w : World) (h : decimal_divided.f k a0_0 a0_1 a0_2 a1_0 a1_1 a1_2 = some (r1, r2, r3, r4)) :
    Calls Tryd.prog 61 #[.agg #[.bool a0_0, .string a0_1, .string a0_2], .agg #[.bool a1_0, .string a1_1, .string a1_2]] w fun e w' => ∃ v0_ v1_ : Value, e = .returned (.tuple #[v0_, v1_, .int .i64 r3, .int .i64 r4]) ∧ Kd.V (Kd.int .u8) 5 w' w.heap.size (fun k_ => (w.heap.size ≤ k_)) v0_ r1 ∧ Kd.V (Kd.int .u8) 5 w' w.heap.size (fun k_ => (w.heap.size ≤ k_)) v1_ r2 ∧ Below w.heap.size w w' := by
 have hu23 := Tryd.underlying23
 have HB := Aside0.mk (Below.refl w.heap.size w)
 unfold decimal_divided.f at h
 have H := h
 clear h
 replace H := Option.bind_eq_some_iff.mp H
 obtain ⟨t354, A30, H⟩ := H
 try dsimp only at H
 have A3 := Aside0.mk A30
 clear A30
 have HF4 := Aside0.mk H
 clear H
 go_enter Tryd.func61, Tryd.ntmps61
 go_upto_if 15 with (first | ((with_reducible refine gate_dst (N := 2) rfl ?_); refine bx_ #[.bool a0_0, .string a0_1, .string a0_2] 23 ?_; intro gb352 hg w5 hbox hb; have BK352 := Aside0.mk (hbox); have GW352 := ge_ (w := w) hg; have GE352 := ge_ (w := w) hg; replace HB := Aside0.mk (below_step hb_ hb); clear hb hbox hg) | ((with_reducible refine gate_dst (N := 3) rfl ?_); refine bx_ #[.bool a1_0, .string a1_1, .string a1_2] 23 ?_; intro gb353 hg w6 hbox hb; have BK353 := Aside0.mk (hbox); have GW353 := ge_ (w := w) hg; have GE353 := ge_ (w := w) hg; have NB352_353 := BK352.nl hg; have NB353_352 := BK352.ng hg; replace BK352 := BK352.bl hb; replace HB := Aside0.mk (below_step hb_ hb); clear hb hbox hg; have hnb7 := NB352_353.out; have hnc7 := NB353_352.out; obtain ⟨hcz8_0, hcz8_1, hcz8_2, hfz8_0, hfz8_1, hfz8_2⟩ := BK352.c3; obtain ⟨hcz9_0, hcz9_1, hcz9_2, hfz9_0, hfz9_1, hfz9_2⟩ := BK353.c3) | ((with_reducible refine gate_callee (f := 65) rfl ?_); refine gL_ (some 13) Tryd.func65 #[.agg #[.bool a0_0, .string a0_1, .string a0_2], .agg #[.bool a1_0, .string a1_1, .string a1_2]] ?_; (with_reducible refine (decimal_both.calls k a0_0 a0_1 a0_2 a1_0 a1_1 a1_2 t354 _ A3.out).mono ?_); rintro e w10 ⟨rfl, hb⟩; refine ⟨_, rfl, ?_⟩; replace BK352 := BK352.bl hb; replace BK353 := BK353.bl hb; replace HB := Aside0.mk (below_step hb_ hb)))
 (try simp only [Act.put, List.setIfInBounds_toArray, List.set_cons_zero, List.set_cons_succ])
 have H := HF4.out
 clear HF4
 by_cases c11 : t354 = 0
 ·rw [if_pos c11] at H
  have c11b0 : (t354 == 0) = true := beq_iff_eq.mpr c11
  have c11b1 : (t354 != 0) = false := bne_eq_false_iff_eq.mpr c11
  clear c11
  (first | rw [c11b0] | (simp only [i64_w, i32_w]; rw [c11b0]) | rw [c11b1] | skip)
  replace H := Option.bind_eq_some_iff.mp H
  obtain ⟨⟨t355, t358, t361⟩, A120, H⟩ := H
  try dsimp only at H
  have A12 := Aside0.mk A120
  clear A120
  have HF13 := Aside0.mk H
  clear H
  have hnb14 := NB352_353.out
  have hnc14 := NB353_352.out
  obtain ⟨hcz15_0, hcz15_1, hcz15_2, hfz15_0, hfz15_1, hfz15_2⟩ := BK352.c3
  obtain ⟨hcz16_0, hcz16_1, hcz16_2, hfz16_0, hfz16_1, hfz16_2⟩ := BK353.c3
  go_upto_if 26 with (first | ((with_reducible refine gate_callee (f := 66) rfl ?_); refine gL_ (some 20) Tryd.func66 #[.agg #[.bool a0_0, .string a0_1, .string a0_2], .agg #[.bool a1_0, .string a1_1, .string a1_2]] ?_; (with_reducible refine (decimal_aligned.calls k a0_0 a0_1 a0_2 a1_0 a1_1 a1_2 t355 t358 t361 _ A12.out).mono ?_); rintro e w17 ⟨v356, v359, rfl, ho0, ho1, hb⟩; refine ⟨_, rfl, ?_⟩; have HO357 := Aside0.mk (Kd.V_lower (Kd.V_mono (ok' := fun k_ => (w.heap.size ≤ k_) ∧ k_ ≠ gb352 ∧ k_ ≠ gb353) ho0 (fun k_ hk_ => ⟨(Nat.le_trans (below_size hb_) hk_), (Kd.freshB (g := gb352) (o := .cells #[.bool a0_0, .string a0_1, .string a0_2] 23 (0, 0)) BK352.out k_ hk_), (Kd.freshB (g := gb353) (o := .cells #[.bool a1_0, .string a1_1, .string a1_2] 23 (0, 0)) BK353.out k_ hk_)⟩)) (below_size hb_)); have HO360 := Aside0.mk (Kd.V_lower (Kd.V_mono (ok' := fun k_ => (w.heap.size ≤ k_) ∧ k_ ≠ gb352 ∧ k_ ≠ gb353) ho1 (fun k_ hk_ => ⟨(Nat.le_trans (below_size hb_) hk_), (Kd.freshB (g := gb352) (o := .cells #[.bool a0_0, .string a0_1, .string a0_2] 23 (0, 0)) BK352.out k_ hk_), (Kd.freshB (g := gb353) (o := .cells #[.bool a1_0, .string a1_1, .string a1_2] 23 (0, 0)) BK353.out k_ hk_)⟩)) (below_size hb_)); replace BK352 := BK352.bl hb; replace BK353 := BK353.bl hb; replace HB := Aside0.mk (below_step hb_ hb); (try clear ho0); (try clear ho1); obtain ⟨Ao18, co18, eo18⟩ := Kd.V_slice HO360.out; subst eo18))
  (try simp only [Act.put, List.setIfInBounds_toArray, List.set_cons_zero, List.set_cons_succ])
  have H := HF13.out
  clear HF13
  by_cases c19 : (t358.length : Int) = 0
  ·rw [if_pos c19] at H
   have c19b0 : ((t358.length : Int) == 0) = true := beq_iff_eq.mpr c19
   have c19b1 : ((t358.length : Int) != 0) = false := bne_eq_false_iff_eq.mpr c19
   clear c19
   (first | rw [c19b0] | (simp only [i64_w, i32_w]; rw [c19b0]) | rw [c19b1] | skip)
   simp only [Option.some.injEq, Prod.mk.injEq] at H
   obtain ⟨rfl, rfl, rfl, rfl⟩ := H
   go_wp2
   refine bodyPost_ret (results_list (rs := [.tmp 4, .tmp 5, .tmp 6, .tmp 7]) rfl (by simp) (.tmp (.tmp (.tmp (.tmp .nil))))) rfl ?_
   exact ⟨_, _, by first | rfl | (simp [errW_none, errW_some] <;> rfl) | (simp [*, errW_none, errW_some] <;> rfl) | (simp [bne_nil_]; done), Kd.V_nil _ _ _ _ _, Kd.V_nil _ _ _ _ _, hb_⟩
  ·rw [if_neg c19] at H
   have c19b0 : ((t358.length : Int) == 0) = false := beq_eq_false_iff_ne.mpr c19
   have c19b1 : ((t358.length : Int) != 0) = true := bne_iff_ne.mpr c19
   have c19b2 : ¬ (t358 = []) := fun h_ => c19 (by rw [h_]; rfl)
   (first | rw [c19b0] | (simp only [i64_w, i32_w]; rw [c19b0]) | rw [c19b1] | skip)
   replace H := Option.bind_eq_some_iff.mp H
   obtain ⟨⟨t362, t365⟩, A200, H⟩ := H
   try dsimp only at H
   have A20 := Aside0.mk A200
   clear A200
   simp only [Option.some.injEq, Prod.mk.injEq] at H
   obtain ⟨rfl, rfl, rfl, rfl⟩ := H
   obtain ⟨Ao21, co21, eo21⟩ := Kd.V_slice HO357.out
   subst eo21
   go_wp2_with (first | ((with_reducible refine gate_callee (f := 92) rfl ?_); refine gL_ (some 30) Tryd.func92 #[.slice Ao21 t355.length co21, .slice Ao18 t358.length co18] ?_; (with_reducible refine (decimal_digits_by.calls k _ _ t355 _ _ t358 t362 t365 _ ?side1 ?side2 ?side3 ?side4 A20.out).mono ?_); (case side1 => repeat (first | exact (Kd.V_reads' HO357.out).2.2 | (with_reducible refine Kd.C_alloc ?_ _) | (with_reducible refine Kd.C_drewN ?_ _) | (with_reducible refine Kd.C_drew ?_))); (case side2 => exact (Kd.V_reads' HO357.out).2.1); (case side3 => repeat (first | exact (Kd.V_reads' HO360.out).2.2 | (with_reducible refine Kd.C_alloc ?_ _) | (with_reducible refine Kd.C_drewN ?_ _) | (with_reducible refine Kd.C_drew ?_))); (case side4 => exact (Kd.V_reads' HO360.out).2.1); rintro e w22 ⟨v363, v366, rfl, ho0, ho1, hb⟩; refine ⟨_, rfl, ?_⟩; have HO364 := Aside0.mk (Kd.V_lower (Kd.V_mono (ok' := fun k_ => (w.heap.size ≤ k_) ∧ k_ ≠ gb352 ∧ k_ ≠ gb353) ho0 (fun k_ hk_ => ⟨(Nat.le_trans (below_size hb_) hk_), (Kd.freshB (g := gb352) (o := .cells #[.bool a0_0, .string a0_1, .string a0_2] 23 (0, 0)) BK352.out k_ hk_), (Kd.freshB (g := gb353) (o := .cells #[.bool a1_0, .string a1_1, .string a1_2] 23 (0, 0)) BK353.out k_ hk_)⟩)) (below_size hb_)); have HO367 := Aside0.mk (Kd.V_lower (Kd.V_mono (ok' := fun k_ => (w.heap.size ≤ k_) ∧ k_ ≠ gb352 ∧ k_ ≠ gb353) ho1 (fun k_ hk_ => ⟨(Nat.le_trans (below_size hb_) hk_), (Kd.freshB (g := gb352) (o := .cells #[.bool a0_0, .string a0_1, .string a0_2] 23 (0, 0)) BK352.out k_ hk_), (Kd.freshB (g := gb353) (o := .cells #[.bool a1_0, .string a1_1, .string a1_2] 23 (0, 0)) BK353.out k_ hk_)⟩)) (below_size hb_)); replace HO357 := Aside0.mk (Kd.V_below (by (with_reducible repeat (first | apply Kd.V_alloc | apply Kd.V_drewN | apply Kd.V_drew)); exact HO357.out) hb); replace HO360 := Aside0.mk (Kd.V_below (by (with_reducible repeat (first | apply Kd.V_alloc | apply Kd.V_drewN | apply Kd.V_drew)); exact HO360.out) hb); replace BK352 := BK352.bl hb; replace BK353 := BK353.bl hb; replace HB := Aside0.mk (below_step hb_ hb); (try clear ho0); (try clear ho1)))
   refine bodyPost_ret (results_list (rs := [.tmp 4, .tmp 5, .tmp 6, .tmp 7]) rfl (by simp) (.tmp (.tmp (.tmp (.tmp .nil))))) rfl ?_
   exact ⟨_, _, by first | rfl | (simp [errW_none, errW_some] <;> rfl) | (simp [*, errW_none, errW_some] <;> rfl) | (simp [bne_nil_]; done), by (with_reducible repeat (first | apply Kd.V_alloc | apply Kd.V_drewN | apply Kd.V_drew)); exact Kd.V_mono HO364.out (fun _ hk => hk.1), by (with_reducible repeat (first | apply Kd.V_alloc | apply Kd.V_drewN | apply Kd.V_drew)); exact Kd.V_mono HO367.out (fun _ hk => hk.1), hb_⟩
 ·rw [if_neg c11] at H
  have c11b0 : (t354 == 0) = false := beq_eq_false_iff_ne.mpr c11
  have c11b1 : (t354 != 0) = true := bne_iff_ne.mpr c11
  (first | rw [c11b0] | (simp only [i64_w, i32_w]; rw [c11b0]) | rw [c11b1] | skip)
  simp only [Option.some.injEq, Prod.mk.injEq] at H
  obtain ⟨rfl, rfl, rfl, rfl⟩ := H
  go_wp2
  refine bodyPost_ret (results_list (rs := [.tmp 4, .tmp 5, .tmp 6, .tmp 7]) rfl (by simp) (.tmp (.tmp (.tmp (.tmp .nil))))) rfl ?_
  exact ⟨_, _, by first | rfl | (simp [errW_none, errW_some] <;> rfl) | (simp [*, errW_none, errW_some] <;> rfl) | (simp [bne_nil_]; done), Kd.V_nil _ _ _ _ _, Kd.V_nil _ _ _ _ _, hb_⟩
attribute [local go_sem] max2_int max_two
set_option linter.unusedVariables false
set_option linter.unusedSimpArgs false
def decimal_Rem.f (k : Nat) (a0_0 : Bool) (a0_1 : ByteArray) (a0_2 : ByteArray) (a1_0 : Bool) (a1_1 : ByteArray) (a1_2 : ByteArray) : Option (Bool × ByteArray × ByteArray × Int) := (decimal_divided.f k a0_0 a0_1 a0_2 a1_0 a1_1 a1_2).bind fun bt451 => (if bt451.2.2.2 = 0 then ((decimal_made.f k a0_0 bt451.2.1 bt451.2.2.1).bind fun bt459 => (some (bt459.1, bt459.2.1, bt459.2.2.1, bt459.2.2.2))) else (some (false, (⟨#[]⟩ : ByteArray), (⟨#[]⟩ : ByteArray), bt451.2.2.2)))
set_option maxHeartbeats 8000000 in
set_option maxRecDepth 100000 in
theorem decimal_Rem.calls (k : Nat) (a0_0 : Bool) (a0_1 : ByteArray) (a0_2 : ByteArray) (a1_0 : Bool) (a1_1 : ByteArray) (a1_2 : ByteArray) (r1 : Bool) (r2 : ByteArray) (r3 : ByteArray) (r4 : Int) (w : World) (h : decimal_Rem.f k a0_0 a0_1 a0_2 a1_0 a1_1 a1_2 = some (r1, r2, r3, r4)) :
    Calls Tryd.prog 27 #[.agg #[.bool a0_0, .string a0_1, .string a0_2], .agg #[.bool a1_0, .string a1_1, .string a1_2]] w fun e w' => e = .returned (.tuple #[.agg #[.bool r1, .string r2, .string r3], .int .i64 r4]) ∧ Below w.heap.size w w' := by
 have hu23 := Tryd.underlying23
 have HB := Aside0.mk (Below.refl w.heap.size w)
 unfold decimal_Rem.f at h
 have H := h
 clear h
 replace H := Option.bind_eq_some_iff.mp H
 obtain ⟨⟨t451, t454, t457, t458⟩, A30, H⟩ := H
 try dsimp only at H
 have A3 := Aside0.mk A30
 clear A30
 have HF4 := Aside0.mk H
 clear H
 go_enter Tryd.func27, Tryd.ntmps27
 go_upto_if 19 with (first | ((with_reducible refine gate_dst (N := 2) rfl ?_); refine bx_ #[.bool a0_0, .string a0_1, .string a0_2] 23 ?_; intro gb448 hg w5 hbox hb; have BK448 := Aside0.mk (hbox); have GW448 := ge_ (w := w) hg; have GE448 := ge_ (w := w) hg; replace HB := Aside0.mk (below_step hb_ hb); clear hb hbox hg) | ((with_reducible refine gate_dst (N := 3) rfl ?_); refine bx_ #[.bool a1_0, .string a1_1, .string a1_2] 23 ?_; intro gb449 hg w6 hbox hb; have BK449 := Aside0.mk (hbox); have GW449 := ge_ (w := w) hg; have GE449 := ge_ (w := w) hg; have NB448_449 := BK448.nl hg; have NB449_448 := BK448.ng hg; replace BK448 := BK448.bl hb; replace HB := Aside0.mk (below_step hb_ hb); clear hb hbox hg) | ((with_reducible refine gate_dst (N := 4) rfl ?_); refine bx_ #[.bool false, .string (⟨#[]⟩ : ByteArray), .string (⟨#[]⟩ : ByteArray)] 23 ?_; intro gb450 hg w7 hbox hb; have BK450 := Aside0.mk (hbox); have GW450 := ge_ (w := w) hg; have GE450 := ge_ (w := w) hg; have NB448_450 := BK448.nl hg; have NB450_448 := BK448.ng hg; have NB449_450 := BK449.nl hg; have NB450_449 := BK449.ng hg; replace BK448 := BK448.bl hb; replace BK449 := BK449.bl hb; replace HB := Aside0.mk (below_step hb_ hb); clear hb hbox hg; have hnb8 := NB448_449.out; have hnc8 := NB449_448.out; have hnb9 := NB448_450.out; have hnc9 := NB450_448.out; obtain ⟨hcz10_0, hcz10_1, hcz10_2, hfz10_0, hfz10_1, hfz10_2⟩ := BK448.c3; have hnb11 := NB449_450.out; have hnc11 := NB450_449.out; obtain ⟨hcz12_0, hcz12_1, hcz12_2, hfz12_0, hfz12_1, hfz12_2⟩ := BK449.c3) | ((with_reducible refine gate_callee (f := 61) rfl ?_); refine gL_ (some 13) Tryd.func61 #[.agg #[.bool a0_0, .string a0_1, .string a0_2], .agg #[.bool a1_0, .string a1_1, .string a1_2]] ?_; (with_reducible refine (decimal_divided.calls k a0_0 a0_1 a0_2 a1_0 a1_1 a1_2 t451 t454 t457 t458 _ A3.out).mono ?_); rintro e w13 ⟨v452, v455, rfl, ho0, ho1, hb⟩; refine ⟨_, rfl, ?_⟩; have HO453 := Aside0.mk (Kd.V_lower (Kd.V_mono (ok' := fun k_ => k_ ≠ gb448 ∧ k_ ≠ gb449 ∧ k_ ≠ gb450) ho0 (fun k_ hk_ => ⟨(Kd.freshB (g := gb448) (o := .cells #[.bool a0_0, .string a0_1, .string a0_2] 23 (0, 0)) BK448.out k_ hk_), (Kd.freshB (g := gb449) (o := .cells #[.bool a1_0, .string a1_1, .string a1_2] 23 (0, 0)) BK449.out k_ hk_), (Kd.freshB (g := gb450) (o := .cells #[.bool false, .string (⟨#[]⟩ : ByteArray), .string (⟨#[]⟩ : ByteArray)] 23 (0, 0)) BK450.out k_ hk_)⟩)) (below_size hb_)); have HO456 := Aside0.mk (Kd.V_lower (Kd.V_mono (ok' := fun k_ => k_ ≠ gb448 ∧ k_ ≠ gb449 ∧ k_ ≠ gb450) ho1 (fun k_ hk_ => ⟨(Kd.freshB (g := gb448) (o := .cells #[.bool a0_0, .string a0_1, .string a0_2] 23 (0, 0)) BK448.out k_ hk_), (Kd.freshB (g := gb449) (o := .cells #[.bool a1_0, .string a1_1, .string a1_2] 23 (0, 0)) BK449.out k_ hk_), (Kd.freshB (g := gb450) (o := .cells #[.bool false, .string (⟨#[]⟩ : ByteArray), .string (⟨#[]⟩ : ByteArray)] 23 (0, 0)) BK450.out k_ hk_)⟩)) (below_size hb_)); replace BK448 := BK448.bl hb; replace BK449 := BK449.bl hb; replace BK450 := BK450.bl hb; replace HB := Aside0.mk (below_step hb_ hb); (try clear ho0); (try clear ho1)))
 (try simp only [Act.put, List.setIfInBounds_toArray, List.set_cons_zero, List.set_cons_succ])
 have H := HF4.out
 clear HF4
 by_cases c14 : t458 = 0
 ·rw [if_pos c14] at H
  have c14b0 : (t458 == 0) = true := beq_iff_eq.mpr c14
  have c14b1 : (t458 != 0) = false := bne_eq_false_iff_eq.mpr c14
  clear c14
  (first | rw [c14b0] | (simp only [i64_w, i32_w]; rw [c14b0]) | rw [c14b1] | skip)
  replace H := Option.bind_eq_some_iff.mp H
  obtain ⟨⟨t459, t460, t461, t462⟩, A150, H⟩ := H
  try dsimp only at H
  have A15 := Aside0.mk A150
  clear A150
  simp only [Option.some.injEq, Prod.mk.injEq] at H
  obtain ⟨rfl, rfl, rfl, rfl⟩ := H
  have hnb16 := NB448_449.out
  have hnc16 := NB449_448.out
  have hnb17 := NB448_450.out
  have hnc17 := NB450_448.out
  obtain ⟨hcz18_0, hcz18_1, hcz18_2, hfz18_0, hfz18_1, hfz18_2⟩ := BK448.c3
  obtain ⟨Ao19, co19, eo19⟩ := Kd.V_slice HO456.out
  subst eo19
  go_wp2_with (first | ((with_reducible refine gate_callee (f := 62) rfl ?_); refine gL_ (some 26) Tryd.func62 #[.bool a0_0, .slice Ao19 t454.length co19, .int .i64 t457] ?_; (with_reducible refine (decimal_made.calls k a0_0 _ _ t454 t457 t459 t460 t461 t462 _ ?side1 ?side2 A15.out).mono ?_); (case side1 => repeat (first | exact (Kd.V_reads' HO456.out).2.2 | (with_reducible refine Kd.C_alloc ?_ _) | (with_reducible refine Kd.C_drewN ?_ _) | (with_reducible refine Kd.C_drew ?_))); (case side2 => exact (Kd.V_reads' HO456.out).2.1); rintro e w20 ⟨rfl, hb⟩; refine ⟨_, rfl, ?_⟩; replace HO453 := Aside0.mk (Kd.V_below (by (with_reducible repeat (first | apply Kd.V_alloc | apply Kd.V_drewN | apply Kd.V_drew)); exact HO453.out) hb); replace HO456 := Aside0.mk (Kd.V_below (by (with_reducible repeat (first | apply Kd.V_alloc | apply Kd.V_drewN | apply Kd.V_drew)); exact HO456.out) hb); replace BK448 := BK448.bl hb; replace BK449 := BK449.bl hb; replace BK450 := BK450.bl hb; replace HB := Aside0.mk (below_step hb_ hb); have hnb21 := NB450_449.out; have hnc21 := NB449_450.out; obtain ⟨hcz22_0, hcz22_1, hcz22_2, hfz22_0, hfz22_1, hfz22_2⟩ := BK450.c3))
  refine bodyPost_ret (results_ct rfl _ _ gb450 23 #[.bool t459, .string t460, .string t461] (0, 0) _ rfl (by refine put3_ (cs := #[.bool false, .string (⟨#[]⟩ : ByteArray), .string (⟨#[]⟩ : ByteArray)]) ?_; exact BK450.out) Tryd.underlying23 rfl (by kernel_rfl)) rfl ?_
  exact fin_
 ·rw [if_neg c14] at H
  have c14b0 : (t458 == 0) = false := beq_eq_false_iff_ne.mpr c14
  have c14b1 : (t458 != 0) = true := bne_iff_ne.mpr c14
  (first | rw [c14b0] | (simp only [i64_w, i32_w]; rw [c14b0]) | rw [c14b1] | skip)
  simp only [Option.some.injEq, Prod.mk.injEq] at H
  obtain ⟨rfl, rfl, rfl, rfl⟩ := H
  have hnb23 := NB450_448.out
  have hnc23 := NB448_450.out
  have hnb24 := NB450_449.out
  have hnc24 := NB449_450.out
  obtain ⟨hcz25_0, hcz25_1, hcz25_2, hfz25_0, hfz25_1, hfz25_2⟩ := BK450.c3
  go_wp2
  refine bodyPost_ret (results_ct rfl _ _ gb450 23 #[.bool false, .string (⟨#[]⟩ : ByteArray), .string (⟨#[]⟩ : ByteArray)] (0, 0) _ rfl (by refine put3_ (cs := #[.bool false, .string (⟨#[]⟩ : ByteArray), .string (⟨#[]⟩ : ByteArray)]) ?_; exact BK450.out) Tryd.underlying23 rfl (by kernel_rfl)) rfl ?_
  exact fin_
attribute [local go_sem] max2_int max_two
set_option linter.unusedVariables false
set_option linter.unusedSimpArgs false
def operand_whole.f (k : Nat) (a0 : ByteArray) : Option (ByteArray) := (strings_TrimLeft.f k a0 (⟨#[48]⟩ : ByteArray)).bind fun t918 => (if t918.toList = ([] : List UInt8) then (some (⟨#[48]⟩ : ByteArray)) else (some t918))
theorem operand_whole.mono : ∀ a0 k, LeO (operand_whole.f k a0) (operand_whole.f (k + 1) a0) := by
 intro a0 k
 unfold operand_whole.f
 repeat' first
   | (with_reducible exact strings_TrimLeft.mono _ _ _)
   | (with_reducible exact LeO.refl _)
   | (with_reducible exact LeO.none _)
   | (with_reducible refine LeO.ite ?_ ?_)
   | (with_reducible refine LeO.bind ?_ (fun _ => ?_))
   | exact strings_TrimLeft.mono _ _ _
   | exact LeO.none _
   | refine LeO.ite ?_ ?_
   | refine LeO.bind ?_ (fun _ => ?_)
set_option maxHeartbeats 8000000 in
set_option maxRecDepth 100000 in
theorem operand_whole.calls (k : Nat) (a0 : ByteArray) (r : ByteArray) (w : World) (h : operand_whole.f k a0 = some r) :
    Calls Tryd.prog 82 #[.string a0] w fun e w' => e = .returned (.string r) ∧ Below w.heap.size w w' := by
 have HB := Aside0.mk (Below.refl w.heap.size w)
 unfold operand_whole.f at h
 have H := h
 clear h
 replace H := Option.bind_eq_some_iff.mp H
 obtain ⟨t918, A20, H⟩ := H
 try dsimp only at H
 have A2 := Aside0.mk A20
 clear A20
 have HF3 := Aside0.mk H
 clear H
 go_enter Tryd.func82, Tryd.ntmps82
 go_upto_if 6 with (first | ((with_reducible refine gate_callee (f := 99) rfl ?_); refine gL_ (some 4) Tryd.func99 #[.string a0, .string (⟨#[48]⟩ : ByteArray)] ?_; (with_reducible refine (strings_TrimLeft.calls k a0 (⟨#[48]⟩ : ByteArray) t918 _ A2.out).mono ?_); rintro e w4 ⟨rfl, hb⟩; refine ⟨_, rfl, ?_⟩; replace HB := Aside0.mk (below_step hb_ hb)))
 (try simp only [Act.put, List.setIfInBounds_toArray, List.set_cons_zero, List.set_cons_succ])
 have H := HF3.out
 clear HF3
 by_cases c5 : t918.toList = ([] : List UInt8)
 ·rw [if_pos c5] at H
  have c5b0 : (t918.toList == ([] : List UInt8)) = true := beq_iff_eq.mpr c5
  have c5b1 : (t918.toList != ([] : List UInt8)) = false := bne_eq_false_iff_eq.mpr c5
  clear c5
  (first | rw [c5b0] | (simp only [i64_w, i32_w]; rw [c5b0]) | rw [c5b1] | rw [(by rw [← c5b0]; cases t918.toList <;> rfl : t918.toList.isEmpty = true)] | skip)
  obtain rfl := Option.some.inj H
  go_wp2
  go_ret
  exact fin_
 ·rw [if_neg c5] at H
  have c5b0 : (t918.toList == ([] : List UInt8)) = false := beq_eq_false_iff_ne.mpr c5
  have c5b1 : (t918.toList != ([] : List UInt8)) = true := bne_iff_ne.mpr c5
  (first | rw [c5b0] | (simp only [i64_w, i32_w]; rw [c5b0]) | rw [c5b1] | rw [(by rw [← c5b0]; cases t918.toList <;> rfl : t918.toList.isEmpty = false)] | skip)
  obtain rfl := Option.some.inj H
  go_wp2
  go_ret
  exact fin_
attribute [local go_sem] max2_int max_two
set_option linter.unusedVariables false
set_option linter.unusedSimpArgs false
def stringslite_HasSuffix.f (a0 : ByteArray) (a1 : ByteArray) : Option (Bool) := if (a0.size : Int) ≥ (a1.size : Int) then (if 0 ≤ (wrap64 ((a0.size : Int) - (a1.size : Int))) then (if (wrap64 ((a0.size : Int) - (a1.size : Int))) ≤ (a0.size : Int) then (some ((a0.extract ((wrap64 ((a0.size : Int) - (a1.size : Int))) : Int).toNat a0.size).toList == a1.toList)) else (none)) else (none)) else (some false)
set_option maxHeartbeats 8000000 in
set_option maxRecDepth 100000 in
theorem stringslite_HasSuffix.calls (a0 : ByteArray) (a1 : ByteArray) (r : Bool) (w : World) (h : stringslite_HasSuffix.f a0 a1 = some r) :
    Calls Tryd.prog 112 #[.string a0, .string a1] w fun e w' => e = .returned (.bool r) ∧ Drawn0 w w' := by
 unfold stringslite_HasSuffix.f at h
 have H := h
 clear h
 by_cases c3 : (a0.size : Int) ≥ (a1.size : Int)
 ·rw [if_pos c3] at H
  have c3b0 : decide ((a1.size : Int) ≤ (a0.size : Int)) = true := decide_eq_true c3
  have c3b1 : decide (a1.size ≤ a0.size) = true := decide_eq_true (Int.ofNat_le.mp c3)
  clear c3
  obtain ⟨ji4, hji4⟩ : ∃ j_ : Int, (wrap64 ((a0.size : Int) - (a1.size : Int))) = j_ := ⟨_, rfl⟩
  replace H : (if 0 ≤ (ji4) then (if (ji4) ≤ (a0.size : Int) then (some ((a0.extract ((ji4) : Int).toNat a0.size).toList == a1.toList)) else (none)) else (none)) = some r := by first | (rw [hji4] at H; exact H) | (simp only [hji4] at H ⊢; exact H)
  have hji4w : (IntKind.i64.wrap ((a0.size : Int) - (a1.size : Int))) = ji4 := (i64_w _).trans hji4
  by_cases c5 : 0 ≤ (ji4)
  ·rw [if_pos c5] at H
   have c5b0 := eq_true c5
   have c5b1 : decide (0 ≤ (ji4)) = true := decide_eq_true c5
   clear c5
   by_cases c6 : (ji4) ≤ (a0.size : Int)
   ·rw [if_pos c6] at H
    have c6b0 := eq_true c6
    have c6b1 : decide ((ji4) ≤ (a0.size : Int)) = true := decide_eq_true c6
    clear c6
    obtain rfl := Option.some.inj H
    go_enter Tryd.func112, Tryd.ntmps112
    go_wp2
    go_ret
    exact ⟨by first | rfl | (simp; done) | (simp only [← hji4] <;> (first | rfl | simp)) | (simp [*]; done), by repeat (first | exact Drawn0.refl _ | apply Drawn0.step)⟩
   ·rw [if_neg c6] at H
    exact absurd H (by simp)
  ·rw [if_neg c5] at H
   exact absurd H (by simp)
 ·rw [if_neg c3] at H
  have c3b0 : decide ((a1.size : Int) ≤ (a0.size : Int)) = false := decide_eq_false c3
  have c3b1 : decide (a1.size ≤ a0.size) = false := decide_eq_false (fun h => c3 (Int.ofNat_le.mpr h))
  clear c3
  obtain rfl := Option.some.inj H
  go_enter Tryd.func112, Tryd.ntmps112
  go_wp2
  go_ret
  exact ⟨by first | rfl | (simp; done) | (simp [*]; done), by repeat (first | exact Drawn0.refl _ | apply Drawn0.step)⟩
attribute [local go_sem] max2_int max_two
set_option linter.unusedVariables false
set_option linter.unusedSimpArgs false
def strings_HasSuffix.f (a0 : ByteArray) (a1 : ByteArray) : Option (Bool) := (stringslite_HasSuffix.f a0 a1).bind fun t970 => (some t970)
set_option maxHeartbeats 8000000 in
set_option maxRecDepth 100000 in
theorem strings_HasSuffix.calls (a0 : ByteArray) (a1 : ByteArray) (r : Bool) (w : World) (h : strings_HasSuffix.f a0 a1 = some r) :
    Calls Tryd.prog 84 #[.string a0, .string a1] w fun e w' => e = .returned (.bool r) ∧ Drawn0 w w' := by
 unfold strings_HasSuffix.f at h
 have H := h
 clear h
 replace H := Option.bind_eq_some_iff.mp H
 obtain ⟨t970, A30, H⟩ := H
 try dsimp only at H
 have A3 := Aside0.mk A30
 clear A30
 obtain rfl := Option.some.inj H
 go_enter Tryd.func84, Tryd.ntmps84
 go_wp2_with (first | ((with_reducible refine gate_callee (f := 112) rfl ?_); refine gL_ (some 7) Tryd.func112 #[.string a0, .string a1] ?_; (with_reducible refine (stringslite_HasSuffix.calls a0 a1 t970 _ A3.out).mono ?_); rintro e w' ⟨rfl, ⟨nd, rfl⟩⟩; refine ⟨_, rfl, ?_⟩))
 go_ret
 exact ⟨by first | rfl | (simp; done) | (simp [*]; done), by repeat (first | exact Drawn0.refl _ | apply Drawn0.step)⟩
attribute [local go_sem] max2_int max_two
set_option linter.unusedVariables false
set_option linter.unusedSimpArgs false
def operand_Check.j0 : Nat → Bool → Bool → ByteArray → ByteArray → ByteArray → Int → Int → ByteArray → ByteArray → Int → Bool → ByteArray → ByteArray → Option (Int)
  | 0, _, _, _, _, _, _, _, _, _, _, _, _, _ => none
  | k + 1, x45, x972000, x972001, x972002, x972003, x972004, x972005, x972006, x972007, x972008, x973000, x973001, x973002 => if x45 = true then (some 40) else ((strings_Repeat.f (⟨#[48]⟩ : ByteArray) (wrap64 (x972004 - (x973002.size : Int)))).bind fun t975 => (if x973002.size + t975.size ≤ 9223372036854775807 then (if x972003.toList = x973001.toList then (if x972005 = (x973002.size : Int) then ((operand_whole.f k (x973002 ++ t975)).bind fun t976 => (if x972006.toList = t976.toList then ((operand_whole.f k x973002).bind fun t977 => (if x972007.toList = t977.toList then (some 0) else (some 40))) else (some 40))) else (some 40)) else (some 40)) else (none)))
def operand_Check.f (k : Nat) (a0_0 : Bool) (a0_1 : ByteArray) (a0_2 : ByteArray) (a0_3 : ByteArray) (a0_4 : Int) (a0_5 : Int) (a0_6 : ByteArray) (a0_7 : ByteArray) (a0_8 : Int) : Option (Int) := (decimal_Check.f k a0_0 a0_1 a0_2).bind fun t973 => (if t973 = 0 then (if a0_0 = true then (operand_Check.j0 k true a0_0 a0_1 a0_2 a0_3 a0_4 a0_5 a0_6 a0_7 a0_8 a0_0 a0_1 a0_2) else ((strings_HasSuffix.f a0_2 (⟨#[48]⟩ : ByteArray)).bind fun t974 => (if t974 = true then (operand_Check.j0 k true a0_0 a0_1 a0_2 a0_3 a0_4 a0_5 a0_6 a0_7 a0_8 a0_0 a0_1 a0_2) else (if a0_4 < (a0_2.size : Int) then (operand_Check.j0 k true a0_0 a0_1 a0_2 a0_3 a0_4 a0_5 a0_6 a0_7 a0_8 a0_0 a0_1 a0_2) else (if a0_4 > (wrap64 (40 - (a0_1.size : Int))) then (operand_Check.j0 k true a0_0 a0_1 a0_2 a0_3 a0_4 a0_5 a0_6 a0_7 a0_8 a0_0 a0_1 a0_2) else (if a0_8 < 0 then (operand_Check.j0 k true a0_0 a0_1 a0_2 a0_3 a0_4 a0_5 a0_6 a0_7 a0_8 a0_0 a0_1 a0_2) else (operand_Check.j0 k (decide (a0_8 > 40)) a0_0 a0_1 a0_2 a0_3 a0_4 a0_5 a0_6 a0_7 a0_8 a0_0 a0_1 a0_2))))))) else (operand_Check.j0 k true a0_0 a0_1 a0_2 a0_3 a0_4 a0_5 a0_6 a0_7 a0_8 a0_0 a0_1 a0_2))
theorem operand_Check.mono_l : ∀ k, (∀ y0 y1 y2 y3 y4 y5 y6 y7 y8 y9 y10 y11 y12, LeO (operand_Check.j0 k y0 y1 y2 y3 y4 y5 y6 y7 y8 y9 y10 y11 y12) (operand_Check.j0 (k + 1) y0 y1 y2 y3 y4 y5 y6 y7 y8 y9 y10 y11 y12))
  | 0 => fun _ _ _ _ _ _ _ _ _ _ _ _ _ r h => by simp [operand_Check.j0] at h
  | k + 1 => by
    have ih0 := operand_Check.mono_l k
    · intro y0 y1 y2 y3 y4 y5 y6 y7 y8 y9 y10 y11 y12
      unfold operand_Check.j0
      repeat' first
      | (with_reducible exact ih0 _ _ _ _ _ _ _ _ _ _ _ _ _)
      | (with_reducible exact decimal_Check.mono _ _ _ _)
      | (with_reducible exact operand_whole.mono _ _)
      | (with_reducible exact LeO.refl _)
      | (with_reducible exact LeO.none _)
      | (with_reducible refine LeO.ite ?_ ?_)
      | (with_reducible refine LeO.bind ?_ (fun _ => ?_))
      | exact ih0 _ _ _ _ _ _ _ _ _ _ _ _ _
      | exact decimal_Check.mono _ _ _ _
      | exact operand_whole.mono _ _
      | exact LeO.none _
      | refine LeO.ite ?_ ?_
      | refine LeO.bind ?_ (fun _ => ?_)
theorem operand_Check.mono : ∀ a0 a1 a2 a3 a4 a5 a6 a7 a8 k, LeO (operand_Check.f k a0 a1 a2 a3 a4 a5 a6 a7 a8) (operand_Check.f (k + 1) a0 a1 a2 a3 a4 a5 a6 a7 a8) := by
 intro a0 a1 a2 a3 a4 a5 a6 a7 a8 k
 have ih0 := operand_Check.mono_l k
 unfold operand_Check.f
 repeat' first
   | (with_reducible exact ih0 _ _ _ _ _ _ _ _ _ _ _ _ _)
   | (with_reducible exact decimal_Check.mono _ _ _ _)
   | (with_reducible exact operand_whole.mono _ _)
   | (with_reducible exact LeO.refl _)
   | (with_reducible exact LeO.none _)
   | (with_reducible refine LeO.ite ?_ ?_)
   | (with_reducible refine LeO.bind ?_ (fun _ => ?_))
   | exact ih0 _ _ _ _ _ _ _ _ _ _ _ _ _
   | exact decimal_Check.mono _ _ _ _
   | exact operand_whole.mono _ _
   | exact LeO.none _
   | refine LeO.ite ?_ ?_
   | refine LeO.bind ?_ (fun _ => ?_)
def operand_Check.T4 : Bool × List (List Nat × List Nat) := (true, [([], []), ([0], [0]), ([], []), ([2], [2]), ([], []), ([4], [4]), ([5], [5]), ([3, 6], [3, 6]), ([7], [7]), ([1, 8], [1, 8]), ([9, 8, 0, 1, 2, 3, 4, 5, 6, 7, 8, 9], [9])])
def operand_Check.B4 : List Nat := [0, 1, 0, 4, 0, 16, 48, 124, 252, 511, 1023]
theorem operand_Check.tab4 : rtab .any (opsOf Tryd.f47 4) = operand_Check.T4 := by kernel_rfl
theorem operand_Check.bits4 : waitsOk operand_Check.T4.2 operand_Check.B4 = true := by kernel_rfl
def operand_Check.T5 : Bool × List (List Nat × List Nat) := (true, [([], []), ([0], [0]), ([], []), ([2], [2]), ([1, 3], [1, 3]), ([4], [4]), ([5], [5]), ([6, 5], [5, 6]), ([5], [5]), ([8, 5], [5, 8]), ([9, 5], [5, 9]), ([7, 10, 5], [5, 7, 10]), ([5, 11], [5, 11]), ([12, 5], [12]), ([13], [13]), ([14, 13], [13, 14]), ([13], [13]), ([16, 13, 13], [13, 16]), ([15, 17, 13], [13, 15, 17]), ([13, 18], [13, 18]), ([19, 17], [19]), ([20], [20]), ([21, 20], [20, 21]), ([20], [20]), ([23, 20], [20, 23]), ([24, 20, 20], [20, 24]), ([22, 25, 20], [20, 22, 25]), ([20, 26], [20, 26])])
def operand_Check.B5 : List Nat := [0, 1, 0, 4, 15, 31, 63, 127, 63, 319, 831, 2047, 4095, 8191, 16383, 32767, 16383, 81919, 262143, 524287, 1048575, 2097151, 4194303, 2097151, 10485759, 27262975, 67108863, 134217727]
theorem operand_Check.tab5 : rtab .any (opsOf Tryd.f47 5) = operand_Check.T5 := by kernel_rfl
theorem operand_Check.bits5 : waitsOk operand_Check.T5.2 operand_Check.B5 = true := by kernel_rfl
set_option maxHeartbeats 8000000 in
set_option maxRecDepth 100000 in
theorem operand_Check.calls (k : Nat) (a0_0 : Bool) (a0_1 : ByteArray) (a0_2 : ByteArray) (a0_3 : ByteArray) (a0_4 : Int) (a0_5 : Int) (a0_6 : ByteArray) (a0_7 : ByteArray) (a0_8 : Int) (r : Int) (w : World) (h : operand_Check.f k a0_0 a0_1 a0_2 a0_3 a0_4 a0_5 a0_6 a0_7 a0_8 = some r) :
    Calls Tryd.prog 47 #[.agg #[.bool a0_0, .string a0_1, .string a0_2, .string a0_3, .int .i64 a0_4, .int .i64 a0_5, .string a0_6, .string a0_7, .int .i64 a0_8]] w fun e w' => e = .returned (.int .i64 r) ∧ Below w.heap.size w w' := by
 have hu45 := Tryd.underlying45
 have hu23 := Tryd.underlying23
 have HB := Aside0.mk (Below.refl w.heap.size w)
 unfold operand_Check.f at h
 have H := h
 clear h
 have HC2 := Aside0.mk H
 clear H
 go_enter Tryd.func47, Tryd.ntmps47
 go_upto_region 2 with (first | ((with_reducible refine gate_dst (N := 1) rfl ?_); (try (refine gate_guard (by rfl) ?_; dsimp only)); refine box_event ?hg (N := 1) ?hd (cs := #[.bool a0_0, .string a0_1, .string a0_2, .string a0_3, .int .i64 a0_4, .int .i64 a0_5, .string a0_6, .string a0_7, .int .i64 a0_8]) (t := 45) ?hr ?_; (case hd => rfl); (case hg => rfl); (case hr => first | (go_simp; done) | (go_simp; rfl)); intro gb971 hg w3 hbox hb; have BK971 := Aside0.mk (hbox); have GW971 := ge_ (w := w) hg; have GE971 := ge_ (w := w) hg; replace HB := Aside0.mk (below_step hb_ hb); clear hb hbox hg; obtain ⟨hcz4_0, hcz4_1, hcz4_2, hcz4_3, hcz4_4, hcz4_5, hcz4_6, hcz4_7, hcz4_8, hfz4_0, hfz4_1, hfz4_2, hfz4_3, hfz4_4, hfz4_5, hfz4_6, hfz4_7, hfz4_8⟩ := BK971.c9) | ((with_reducible refine gate_dst (N := 3) rfl ?_); (try (refine gate_guard (by rfl) ?_; dsimp only)); refine box_event ?hg (N := 3) ?hd (cs := #[.bool false, .string (⟨#[]⟩ : ByteArray), .string (⟨#[]⟩ : ByteArray)]) (t := 23) ?hr ?_; (case hd => rfl); (case hg => rfl); (case hr => first | (go_simp; done) | (go_simp; rfl)); intro gb972 hg w5 hbox hb; have BK972 := Aside0.mk (hbox); have GW972 := ge_ (w := w) hg; have GE972 := ge_ (w := w) hg; have NB971_972 := BK971.nl hg; have NB972_971 := BK971.ng hg; replace BK971 := BK971.bl hb; replace HB := Aside0.mk (below_step hb_ hb); clear hb hbox hg; have hnb6 := NB972_971.out; have hnc6 := NB971_972.out; obtain ⟨hcz7_0, hcz7_1, hcz7_2, hfz7_0, hfz7_1, hfz7_2⟩ := BK972.c3))
 (try simp only [Act.put, List.setIfInBounds_toArray, List.set_cons_zero, List.set_cons_succ])
 go_cut [45] (fun v45 wc => ∃ (kq : Nat) (x45_1 : Bool), v45 = .bool x45_1 ∧ Aside0 (operand_Check.j0 kq x45_1 a0_0 a0_1 a0_2 a0_3 a0_4 a0_5 a0_6 a0_7 a0_8 a0_0 a0_1 a0_2 = some r) ∧ Aside0 (kq ≤ k) ∧ Aside0 (wc.heap[gb971]? = some (.cells #[.bool a0_0, .string a0_1, .string a0_2, .string a0_3, .int .i64 a0_4, .int .i64 a0_5, .string a0_6, .string a0_7, .int .i64 a0_8] 45 (0, 0))) ∧ Aside0 (wc.heap[gb972]? = some (.cells #[.bool a0_0, .string a0_1, .string a0_2] 23 (0, 0))) ∧ Aside0 (Below w.heap.size w wc))
 case first =>
  have H := HC2.out
  clear HC2
  replace H := Option.bind_eq_some_iff.mp H
  obtain ⟨t973, A80, H⟩ := H
  try dsimp only at H
  have A8 := Aside0.mk A80
  clear A80
  by_cases c9 : t973 = 0
  ·rw [if_pos c9] at H
   have c9b0 : (t973 == 0) = true := beq_iff_eq.mpr c9
   have c9b1 : (t973 != 0) = false := bne_eq_false_iff_eq.mpr c9
   clear c9
   (first | rw [c9b0] | (simp only [i64_w, i32_w]; rw [c9b0]) | rw [c9b1] | skip)
   by_cases c10 : a0_0 = true
   ·subst c10
    have H1 : (operand_Check.j0 k true true a0_1 a0_2 a0_3 a0_4 a0_5 a0_6 a0_7 a0_8 true a0_1 a0_2) = some r := by rw [if_pos rfl] at H; exact H
    clear H
    have H := H1
    clear H1
    have H' := Aside0.mk H
    clear H
    have hnb11 := NB972_971.out
    have hnc11 := NB971_972.out
    obtain ⟨hcz12_0, hcz12_1, hcz12_2, hfz12_0, hfz12_1, hfz12_2⟩ := BK972.c3
    go_wp2_with (first | ((with_reducible refine gate_callee (f := 19) rfl ?_); refine gL_ (some 8) Tryd.func19 #[.agg #[.bool true, .string a0_1, .string a0_2]] ?_; (with_reducible refine (decimal_Check.calls k true a0_1 a0_2 t973 _ A8.out).mono ?_); rintro e w13 ⟨rfl, hb⟩; refine ⟨_, rfl, ?_⟩; replace BK971 := Aside0.mk (blk_below (g := gb971) (o := .cells #[.bool true, .string a0_1, .string a0_2, .string a0_3, .int .i64 a0_4, .int .i64 a0_5, .string a0_6, .string a0_7, .int .i64 a0_8] 45 (0, 0)) (by refine far3_ ?_ NB971_972.out; exact BK971.out) hb); replace BK972 := Aside0.mk (blk_below (g := gb972) (o := .cells #[.bool true, .string a0_1, .string a0_2] 23 (0, 0)) (by refine put3_ (cs := #[.bool false, .string (⟨#[]⟩ : ByteArray), .string (⟨#[]⟩ : ByteArray)]) ?_; exact BK972.out) hb); replace HB := Aside0.mk (below_step hb_ hb); obtain ⟨hcz14_0, hcz14_1, hcz14_2, hfz14_0, hfz14_1, hfz14_2⟩ := BK972.c3))
    go_meet
    case rel => exact ⟨_, (true), (by first | rfl | (simp; done) | (simp [*]; done)), H', ⟨by first | exact Nat.le_refl _ | omega⟩, ⟨by exact BK971.out⟩, ⟨by exact BK972.out⟩, ⟨hb_⟩⟩
   ·replace c10 := Bool.eq_false_iff.mpr c10
    subst c10
    have H1 : ((strings_HasSuffix.f a0_2 (⟨#[48]⟩ : ByteArray)).bind fun t974 => (if t974 = true then (operand_Check.j0 k true false a0_1 a0_2 a0_3 a0_4 a0_5 a0_6 a0_7 a0_8 false a0_1 a0_2) else (if a0_4 < (a0_2.size : Int) then (operand_Check.j0 k true false a0_1 a0_2 a0_3 a0_4 a0_5 a0_6 a0_7 a0_8 false a0_1 a0_2) else (if a0_4 > (wrap64 (40 - (a0_1.size : Int))) then (operand_Check.j0 k true false a0_1 a0_2 a0_3 a0_4 a0_5 a0_6 a0_7 a0_8 false a0_1 a0_2) else (if a0_8 < 0 then (operand_Check.j0 k true false a0_1 a0_2 a0_3 a0_4 a0_5 a0_6 a0_7 a0_8 false a0_1 a0_2) else (operand_Check.j0 k (decide (a0_8 > 40)) false a0_1 a0_2 a0_3 a0_4 a0_5 a0_6 a0_7 a0_8 false a0_1 a0_2)))))) = some r := by rw [if_neg (show ¬ (false = true) by decide)] at H; exact H
    clear H
    have H := H1
    clear H1
    replace H := Option.bind_eq_some_iff.mp H
    obtain ⟨t974, A150, H⟩ := H
    try dsimp only at H
    have A15 := Aside0.mk A150
    clear A150
    by_cases c16 : t974 = true
    ·subst c16
     have H1 : (operand_Check.j0 k true false a0_1 a0_2 a0_3 a0_4 a0_5 a0_6 a0_7 a0_8 false a0_1 a0_2) = some r := by rw [if_pos rfl] at H; exact H
     clear H
     have H := H1
     clear H1
     have H' := Aside0.mk H
     clear H
     have hnb17 := NB972_971.out
     have hnc17 := NB971_972.out
     obtain ⟨hcz18_0, hcz18_1, hcz18_2, hfz18_0, hfz18_1, hfz18_2⟩ := BK972.c3
     go_wp2_with (first | ((with_reducible refine gate_callee (f := 19) rfl ?_); refine gL_ (some 8) Tryd.func19 #[.agg #[.bool false, .string a0_1, .string a0_2]] ?_; (with_reducible refine (decimal_Check.calls k false a0_1 a0_2 t973 _ A8.out).mono ?_); rintro e w19 ⟨rfl, hb⟩; refine ⟨_, rfl, ?_⟩; replace BK971 := Aside0.mk (blk_below (g := gb971) (o := .cells #[.bool false, .string a0_1, .string a0_2, .string a0_3, .int .i64 a0_4, .int .i64 a0_5, .string a0_6, .string a0_7, .int .i64 a0_8] 45 (0, 0)) (by refine far3_ ?_ NB971_972.out; exact BK971.out) hb); replace BK972 := Aside0.mk (blk_below (g := gb972) (o := .cells #[.bool false, .string a0_1, .string a0_2] 23 (0, 0)) (by refine put3_ (cs := #[.bool false, .string (⟨#[]⟩ : ByteArray), .string (⟨#[]⟩ : ByteArray)]) ?_; exact BK972.out) hb); replace HB := Aside0.mk (below_step hb_ hb); obtain ⟨hcz20_0, hcz20_1, hcz20_2, hfz20_0, hfz20_1, hfz20_2⟩ := BK972.c3) | (go_at_call 84; (with_reducible refine (strings_HasSuffix.calls a0_2 (⟨#[48]⟩ : ByteArray) true _ A15.out).mono ?_); rintro e w' ⟨rfl, ⟨nd, rfl⟩⟩))
     go_meet
     case rel => exact ⟨_, (true), (by first | rfl | (simp; done) | (simp [*]; done)), H', ⟨by first | exact Nat.le_refl _ | omega⟩, ⟨by exact BK971.out⟩, ⟨by exact BK972.out⟩, ⟨hb_⟩⟩
    ·replace c16 := Bool.eq_false_iff.mpr c16
     subst c16
     have H1 : (if a0_4 < (a0_2.size : Int) then (operand_Check.j0 k true false a0_1 a0_2 a0_3 a0_4 a0_5 a0_6 a0_7 a0_8 false a0_1 a0_2) else (if a0_4 > (wrap64 (40 - (a0_1.size : Int))) then (operand_Check.j0 k true false a0_1 a0_2 a0_3 a0_4 a0_5 a0_6 a0_7 a0_8 false a0_1 a0_2) else (if a0_8 < 0 then (operand_Check.j0 k true false a0_1 a0_2 a0_3 a0_4 a0_5 a0_6 a0_7 a0_8 false a0_1 a0_2) else (operand_Check.j0 k (decide (a0_8 > 40)) false a0_1 a0_2 a0_3 a0_4 a0_5 a0_6 a0_7 a0_8 false a0_1 a0_2)))) = some r := by rw [if_neg (show ¬ (false = true) by decide)] at H; exact H
     clear H
     have H := H1
     clear H1
     by_cases c21 : a0_4 < (a0_2.size : Int)
     ·rw [if_pos c21] at H
      have c21b0 : decide (a0_4 < (a0_2.size : Int)) = true := decide_eq_true c21
      clear c21
      have H' := Aside0.mk H
      clear H
      have hnb22 := NB972_971.out
      have hnc22 := NB971_972.out
      obtain ⟨hcz23_0, hcz23_1, hcz23_2, hfz23_0, hfz23_1, hfz23_2⟩ := BK972.c3
      go_wp2_with (first | ((with_reducible refine gate_callee (f := 19) rfl ?_); refine gL_ (some 8) Tryd.func19 #[.agg #[.bool false, .string a0_1, .string a0_2]] ?_; (with_reducible refine (decimal_Check.calls k false a0_1 a0_2 t973 _ A8.out).mono ?_); rintro e w24 ⟨rfl, hb⟩; refine ⟨_, rfl, ?_⟩; replace BK971 := Aside0.mk (blk_below (g := gb971) (o := .cells #[.bool false, .string a0_1, .string a0_2, .string a0_3, .int .i64 a0_4, .int .i64 a0_5, .string a0_6, .string a0_7, .int .i64 a0_8] 45 (0, 0)) (by refine far3_ ?_ NB971_972.out; exact BK971.out) hb); replace BK972 := Aside0.mk (blk_below (g := gb972) (o := .cells #[.bool false, .string a0_1, .string a0_2] 23 (0, 0)) (by refine put3_ (cs := #[.bool false, .string (⟨#[]⟩ : ByteArray), .string (⟨#[]⟩ : ByteArray)]) ?_; exact BK972.out) hb); replace HB := Aside0.mk (below_step hb_ hb); obtain ⟨hcz25_0, hcz25_1, hcz25_2, hfz25_0, hfz25_1, hfz25_2⟩ := BK972.c3) | (go_at_call 84; (with_reducible refine (strings_HasSuffix.calls a0_2 (⟨#[48]⟩ : ByteArray) false _ A15.out).mono ?_); rintro e w' ⟨rfl, ⟨nd, rfl⟩⟩; obtain ⟨hcz26_0, hcz26_1, hcz26_2, hcz26_3, hcz26_4, hcz26_5, hcz26_6, hcz26_7, hcz26_8, hfz26_0, hfz26_1, hfz26_2, hfz26_3, hfz26_4, hfz26_5, hfz26_6, hfz26_7, hfz26_8⟩ := BK971.c9))
      go_meet
      case rel => exact ⟨_, (true), (by first | rfl | (simp; done) | (simp [*]; done)), H', ⟨by first | exact Nat.le_refl _ | omega⟩, ⟨by exact BK971.out⟩, ⟨by exact BK972.out⟩, ⟨hb_⟩⟩
     ·rw [if_neg c21] at H
      have c21b0 : decide (a0_4 < (a0_2.size : Int)) = false := decide_eq_false c21
      clear c21
      by_cases c27 : a0_4 > (wrap64 (40 - (a0_1.size : Int)))
      ·rw [if_pos c27] at H
       have c27b0 : decide ((wrap64 (40 - (a0_1.size : Int))) < a0_4) = true := decide_eq_true c27
       clear c27
       have H' := Aside0.mk H
       clear H
       have hnb28 := NB972_971.out
       have hnc28 := NB971_972.out
       obtain ⟨hcz29_0, hcz29_1, hcz29_2, hfz29_0, hfz29_1, hfz29_2⟩ := BK972.c3
       go_wp2_with (first | ((with_reducible refine gate_callee (f := 19) rfl ?_); refine gL_ (some 8) Tryd.func19 #[.agg #[.bool false, .string a0_1, .string a0_2]] ?_; (with_reducible refine (decimal_Check.calls k false a0_1 a0_2 t973 _ A8.out).mono ?_); rintro e w30 ⟨rfl, hb⟩; refine ⟨_, rfl, ?_⟩; replace BK971 := Aside0.mk (blk_below (g := gb971) (o := .cells #[.bool false, .string a0_1, .string a0_2, .string a0_3, .int .i64 a0_4, .int .i64 a0_5, .string a0_6, .string a0_7, .int .i64 a0_8] 45 (0, 0)) (by refine far3_ ?_ NB971_972.out; exact BK971.out) hb); replace BK972 := Aside0.mk (blk_below (g := gb972) (o := .cells #[.bool false, .string a0_1, .string a0_2] 23 (0, 0)) (by refine put3_ (cs := #[.bool false, .string (⟨#[]⟩ : ByteArray), .string (⟨#[]⟩ : ByteArray)]) ?_; exact BK972.out) hb); replace HB := Aside0.mk (below_step hb_ hb); obtain ⟨hcz31_0, hcz31_1, hcz31_2, hfz31_0, hfz31_1, hfz31_2⟩ := BK972.c3) | (go_at_call 84; (with_reducible refine (strings_HasSuffix.calls a0_2 (⟨#[48]⟩ : ByteArray) false _ A15.out).mono ?_); rintro e w' ⟨rfl, ⟨nd, rfl⟩⟩; obtain ⟨hcz32_0, hcz32_1, hcz32_2, hcz32_3, hcz32_4, hcz32_5, hcz32_6, hcz32_7, hcz32_8, hfz32_0, hfz32_1, hfz32_2, hfz32_3, hfz32_4, hfz32_5, hfz32_6, hfz32_7, hfz32_8⟩ := BK971.c9))
       go_meet
       case rel => exact ⟨_, (true), (by first | rfl | (simp; done) | (simp [*]; done)), H', ⟨by first | exact Nat.le_refl _ | omega⟩, ⟨by exact BK971.out⟩, ⟨by exact BK972.out⟩, ⟨hb_⟩⟩
      ·rw [if_neg c27] at H
       have c27b0 : decide ((wrap64 (40 - (a0_1.size : Int))) < a0_4) = false := decide_eq_false c27
       clear c27
       by_cases c33 : a0_8 < 0
       ·rw [if_pos c33] at H
        have c33b0 : decide (a0_8 < 0) = true := decide_eq_true c33
        clear c33
        have H' := Aside0.mk H
        clear H
        have hnb34 := NB972_971.out
        have hnc34 := NB971_972.out
        obtain ⟨hcz35_0, hcz35_1, hcz35_2, hfz35_0, hfz35_1, hfz35_2⟩ := BK972.c3
        go_wp2_with (first | ((with_reducible refine gate_callee (f := 19) rfl ?_); refine gL_ (some 8) Tryd.func19 #[.agg #[.bool false, .string a0_1, .string a0_2]] ?_; (with_reducible refine (decimal_Check.calls k false a0_1 a0_2 t973 _ A8.out).mono ?_); rintro e w36 ⟨rfl, hb⟩; refine ⟨_, rfl, ?_⟩; replace BK971 := Aside0.mk (blk_below (g := gb971) (o := .cells #[.bool false, .string a0_1, .string a0_2, .string a0_3, .int .i64 a0_4, .int .i64 a0_5, .string a0_6, .string a0_7, .int .i64 a0_8] 45 (0, 0)) (by refine far3_ ?_ NB971_972.out; exact BK971.out) hb); replace BK972 := Aside0.mk (blk_below (g := gb972) (o := .cells #[.bool false, .string a0_1, .string a0_2] 23 (0, 0)) (by refine put3_ (cs := #[.bool false, .string (⟨#[]⟩ : ByteArray), .string (⟨#[]⟩ : ByteArray)]) ?_; exact BK972.out) hb); replace HB := Aside0.mk (below_step hb_ hb); obtain ⟨hcz37_0, hcz37_1, hcz37_2, hfz37_0, hfz37_1, hfz37_2⟩ := BK972.c3) | (go_at_call 84; (with_reducible refine (strings_HasSuffix.calls a0_2 (⟨#[48]⟩ : ByteArray) false _ A15.out).mono ?_); rintro e w' ⟨rfl, ⟨nd, rfl⟩⟩; obtain ⟨hcz38_0, hcz38_1, hcz38_2, hcz38_3, hcz38_4, hcz38_5, hcz38_6, hcz38_7, hcz38_8, hfz38_0, hfz38_1, hfz38_2, hfz38_3, hfz38_4, hfz38_5, hfz38_6, hfz38_7, hfz38_8⟩ := BK971.c9))
        go_meet
        case rel => exact ⟨_, (true), (by first | rfl | (simp; done) | (simp [*]; done)), H', ⟨by first | exact Nat.le_refl _ | omega⟩, ⟨by exact BK971.out⟩, ⟨by exact BK972.out⟩, ⟨hb_⟩⟩
       ·rw [if_neg c33] at H
        have c33b0 : decide (a0_8 < 0) = false := decide_eq_false c33
        clear c33
        have H' := Aside0.mk H
        clear H
        have hnb39 := NB972_971.out
        have hnc39 := NB971_972.out
        obtain ⟨hcz40_0, hcz40_1, hcz40_2, hfz40_0, hfz40_1, hfz40_2⟩ := BK972.c3
        go_wp2_with (first | ((with_reducible refine gate_callee (f := 19) rfl ?_); refine gL_ (some 8) Tryd.func19 #[.agg #[.bool false, .string a0_1, .string a0_2]] ?_; (with_reducible refine (decimal_Check.calls k false a0_1 a0_2 t973 _ A8.out).mono ?_); rintro e w41 ⟨rfl, hb⟩; refine ⟨_, rfl, ?_⟩; replace BK971 := Aside0.mk (blk_below (g := gb971) (o := .cells #[.bool false, .string a0_1, .string a0_2, .string a0_3, .int .i64 a0_4, .int .i64 a0_5, .string a0_6, .string a0_7, .int .i64 a0_8] 45 (0, 0)) (by refine far3_ ?_ NB971_972.out; exact BK971.out) hb); replace BK972 := Aside0.mk (blk_below (g := gb972) (o := .cells #[.bool false, .string a0_1, .string a0_2] 23 (0, 0)) (by refine put3_ (cs := #[.bool false, .string (⟨#[]⟩ : ByteArray), .string (⟨#[]⟩ : ByteArray)]) ?_; exact BK972.out) hb); replace HB := Aside0.mk (below_step hb_ hb); obtain ⟨hcz42_0, hcz42_1, hcz42_2, hfz42_0, hfz42_1, hfz42_2⟩ := BK972.c3) | (go_at_call 84; (with_reducible refine (strings_HasSuffix.calls a0_2 (⟨#[48]⟩ : ByteArray) false _ A15.out).mono ?_); rintro e w' ⟨rfl, ⟨nd, rfl⟩⟩; obtain ⟨hcz43_0, hcz43_1, hcz43_2, hcz43_3, hcz43_4, hcz43_5, hcz43_6, hcz43_7, hcz43_8, hfz43_0, hfz43_1, hfz43_2, hfz43_3, hfz43_4, hfz43_5, hfz43_6, hfz43_7, hfz43_8⟩ := BK971.c9))
        go_meet
        case rel => exact ⟨_, (decide (a0_8 > 40)), (by first | rfl | (simp; done) | (simp [*]; done)), H', ⟨by first | exact Nat.le_refl _ | omega⟩, ⟨by exact BK971.out⟩, ⟨by exact BK972.out⟩, ⟨hb_⟩⟩
  ·rw [if_neg c9] at H
   have c9b0 : (t973 == 0) = false := beq_eq_false_iff_ne.mpr c9
   have c9b1 : (t973 != 0) = true := bne_iff_ne.mpr c9
   (first | rw [c9b0] | (simp only [i64_w, i32_w]; rw [c9b0]) | rw [c9b1] | skip)
   have H' := Aside0.mk H
   clear H
   have hnb44 := NB972_971.out
   have hnc44 := NB971_972.out
   obtain ⟨hcz45_0, hcz45_1, hcz45_2, hfz45_0, hfz45_1, hfz45_2⟩ := BK972.c3
   go_wp2_with (first | ((with_reducible refine gate_callee (f := 19) rfl ?_); refine gL_ (some 8) Tryd.func19 #[.agg #[.bool a0_0, .string a0_1, .string a0_2]] ?_; (with_reducible refine (decimal_Check.calls k a0_0 a0_1 a0_2 t973 _ A8.out).mono ?_); rintro e w46 ⟨rfl, hb⟩; refine ⟨_, rfl, ?_⟩; replace BK971 := Aside0.mk (blk_below (g := gb971) (o := .cells #[.bool a0_0, .string a0_1, .string a0_2, .string a0_3, .int .i64 a0_4, .int .i64 a0_5, .string a0_6, .string a0_7, .int .i64 a0_8] 45 (0, 0)) (by refine far3_ ?_ NB971_972.out; exact BK971.out) hb); replace BK972 := Aside0.mk (blk_below (g := gb972) (o := .cells #[.bool a0_0, .string a0_1, .string a0_2] 23 (0, 0)) (by refine put3_ (cs := #[.bool false, .string (⟨#[]⟩ : ByteArray), .string (⟨#[]⟩ : ByteArray)]) ?_; exact BK972.out) hb); replace HB := Aside0.mk (below_step hb_ hb)))
   go_meet
   case rel => exact ⟨_, (true), (by first | rfl | (simp; done) | (simp [*]; done)), H', ⟨by first | exact Nat.le_refl _ | omega⟩, ⟨by exact BK971.out⟩, ⟨by exact BK972.out⟩, ⟨hb_⟩⟩
 case rest =>
  clear HC2
  (try clear hcz4_0); (try clear hcz4_1); (try clear hcz4_2); (try clear hcz4_3); (try clear hcz4_4); (try clear hcz4_5); (try clear hcz4_6); (try clear hcz4_7); (try clear hcz4_8); (try clear hcz7_0); (try clear hcz7_1); (try clear hcz7_2); (try clear hfz4_0); (try clear hfz4_1); (try clear hfz4_2); (try clear hfz4_3); (try clear hfz4_4); (try clear hfz4_5); (try clear hfz4_6); (try clear hfz4_7); (try clear hfz4_8); (try clear hfz7_0); (try clear hfz7_1); (try clear hfz7_2)
  obtain ⟨kq, x45_1, rfl, HA, HJ1, BK971, BK972, HB⟩ := hcut
  cases kq with
  | zero => exact absurd HA.out (by simp [operand_Check.j0])
  | succ kj1 =>
   have H := HA.out
   clear HA
   simp only [operand_Check.j0] at H
   by_cases c47 : x45_1 = true
   ·subst c47
    have H1 : (some 40) = some r := by rw [if_pos rfl] at H; exact H
    clear H
    have H := H1
    clear H1
    obtain rfl := Option.some.inj H
    go_wp2
    go_ret
    exact fin_
   ·replace c47 := Bool.eq_false_iff.mpr c47
    subst c47
    have H1 : ((strings_Repeat.f (⟨#[48]⟩ : ByteArray) (wrap64 (a0_4 - (a0_2.size : Int)))).bind fun t975 => (if a0_2.size + t975.size ≤ 9223372036854775807 then (if a0_3.toList = a0_1.toList then (if a0_5 = (a0_2.size : Int) then ((operand_whole.f kj1 (a0_2 ++ t975)).bind fun t976 => (if a0_6.toList = t976.toList then ((operand_whole.f kj1 a0_2).bind fun t977 => (if a0_7.toList = t977.toList then (some 0) else (some 40))) else (some 40))) else (some 40)) else (some 40)) else (none))) = some r := by rw [if_neg (show ¬ (false = true) by decide)] at H; exact H
    clear H
    have H := H1
    clear H1
    replace H := Option.bind_eq_some_iff.mp H
    obtain ⟨t975, A480, H⟩ := H
    try dsimp only at H
    have A48 := Aside0.mk A480
    clear A480
    by_cases c49 : a0_2.size + t975.size ≤ 9223372036854775807
    ·rw [if_pos c49] at H
     have c49b0 := eq_true c49
     have c49b1 : decide (a0_2.size + t975.size ≤ 9223372036854775807) = true := decide_eq_true c49
     try have c49b2 : (9223372036854775807 < a0_2.size + t975.size) = False := eq_false (Nat.not_lt.2 c49)
     by_cases c50 : a0_3.toList = a0_1.toList
     ·rw [if_pos c50] at H
      have c50b0 : (a0_3.toList == a0_1.toList) = true := beq_iff_eq.mpr c50
      have c50b1 : (a0_3.toList != a0_1.toList) = false := bne_eq_false_iff_eq.mpr c50
      clear c50
      by_cases c51 : a0_5 = (a0_2.size : Int)
      ·rw [if_pos c51] at H
       have c51b0 : (a0_5 == (a0_2.size : Int)) = true := beq_iff_eq.mpr c51
       have c51b1 : (a0_5 != (a0_2.size : Int)) = false := bne_eq_false_iff_eq.mpr c51
       clear c51
       replace H := Option.bind_eq_some_iff.mp H
       obtain ⟨t976, A520, H⟩ := H
       try dsimp only at H
       have A52 := Aside0.mk A520
       clear A520
       by_cases c53 : a0_6.toList = t976.toList
       ·rw [if_pos c53] at H
        have c53b0 : (a0_6.toList == t976.toList) = true := beq_iff_eq.mpr c53
        have c53b1 : (a0_6.toList != t976.toList) = false := bne_eq_false_iff_eq.mpr c53
        clear c53
        replace H := Option.bind_eq_some_iff.mp H
        obtain ⟨t977, A540, H⟩ := H
        try dsimp only at H
        have A54 := Aside0.mk A540
        clear A540
        have HF55 := Aside0.mk H
        clear H
        try go_wp2
        replace BK971 := Aside0.mk (blk_drew BK971.out)
        replace BK972 := Aside0.mk (blk_drew BK972.out)
        replace HB := Aside0.mk (below_drew1 HB.out)
        refine start_ (n := 11) (S := fun w' => w'.cell? ⟨gb972, 0, none⟩ = some (.bool a0_0) ∧ w'.cell? ⟨gb972, 1, none⟩ = some (.string a0_1) ∧ w'.cell? ⟨gb972, 2, none⟩ = some (.string a0_2) ∧ w'.cell? ⟨gb971, 0, none⟩ = some (.bool a0_0) ∧ w'.cell? ⟨gb971, 1, none⟩ = some (.string a0_1) ∧ w'.cell? ⟨gb971, 2, none⟩ = some (.string a0_2) ∧ w'.cell? ⟨gb971, 3, none⟩ = some (.string a0_3) ∧ w'.cell? ⟨gb971, 4, none⟩ = some (.int .i64 a0_4) ∧ w'.cell? ⟨gb971, 5, none⟩ = some (.int .i64 a0_5) ∧ w'.cell? ⟨gb971, 6, none⟩ = some (.string a0_6) ∧ w'.cell? ⟨gb971, 7, none⟩ = some (.string a0_7) ∧ w'.cell? ⟨gb971, 8, none⟩ = some (.int .i64 a0_8)) (ds := []) #[false, false, false, false, false, false, false, false, false, false, false] (by kernel_rfl) rfl rfl ⟨(blk_cell BK972.out 0).trans rfl, (blk_cell BK972.out 1).trans rfl, (blk_cell BK972.out 2).trans rfl, (blk_cell BK971.out 0).trans rfl, (blk_cell BK971.out 1).trans rfl, (blk_cell BK971.out 2).trans rfl, (blk_cell BK971.out 3).trans rfl, (blk_cell BK971.out 4).trans rfl, (blk_cell BK971.out 5).trans rfl, (blk_cell BK971.out 6).trans rfl, (blk_cell BK971.out 7).trans rfl, (blk_cell BK971.out 8).trans rfl⟩ (fun hHeld => ?_); refine with_tabW operand_Check.tab4 operand_Check.bits4 (fun HT_ HW_ => ?_)
        generalize wc.drew = w56 at BK971 BK972 HB hHeld ⊢
        refine pr_ 0 (some 46) ?_
        refine pr_ 2 (some 48) ?_
        refine pr_ 4 (some 50) ?_
        refine tk_ 1 (some 47) hHeld ?_
        refine tk_ 3 (some 49) hHeld ?_
        refine tk_ 5 (some 51) hHeld ?_
        refine pr_ 6 (some 52) ?_
        refine pr_ 7 (some 53) ?_
        refine one_ (i := 8) (N := some 54) #[true, true, true, true, true, true, true, true, true, false, false] rfl rfl (one_of HT_.out (by kernel_rfl)) (by decide) (fun K hK => ?_)
        refine goes_ Tryd.func79 (by kernel_rfl) rfl #[.string (⟨#[48]⟩ : ByteArray), .int .i64 (wrap64 (a0_4 - (a0_2.size : Int)))] (by rfl) rfl rfl ar_ ?_
        with_reducible refine (strings_Repeat.calls (⟨#[48]⟩ : ByteArray) (wrap64 (a0_4 - (a0_2.size : Int))) t975 _ A48.out).mono ?_
        rintro e w57 ⟨rfl, hb⟩
        refine ⟨_, rfl, ?_⟩
        replace BK971 := BK971.bl hb
        replace BK972 := BK972.bl hb
        replace HB := Aside0.mk (below_step hb_ hb)
        (try clear hb)
        (try clear hb2)
        (try clear hk)
        (try clear hi)
        refine hK.out _ _ ⟨(blk_cell BK972.out 0).trans rfl, (blk_cell BK972.out 1).trans rfl, (blk_cell BK972.out 2).trans rfl, (blk_cell BK971.out 0).trans rfl, (blk_cell BK971.out 1).trans rfl, (blk_cell BK971.out 2).trans rfl, (blk_cell BK971.out 3).trans rfl, (blk_cell BK971.out 4).trans rfl, (blk_cell BK971.out 5).trans rfl, (blk_cell BK971.out 6).trans rfl, (blk_cell BK971.out 7).trans rfl, (blk_cell BK971.out 8).trans rfl⟩ (fun hHeld => ?_)
        clear hK K
        refine norm_ (a' := ?_) ?_ ?_
        rotate_left
        ·show Act.put _ (some 54) _ = _
         simp only [Act.put, List.setIfInBounds_toArray, List.set_cons_zero, List.set_cons_succ, i64_w, i32_w]
         rfl
        refine pr_ 9 (some 55) ?_
        refine pr_ 10 (some 4) ?_
        refine done_ (done_of HT_.out (by kernel_rfl)) ?_
        try go_wp2
        replace BK971 := Aside0.mk (blk_drew BK971.out)
        replace BK972 := Aside0.mk (blk_drew BK972.out)
        replace HB := Aside0.mk (below_drew1 HB.out)
        refine start_ (n := 28) (S := fun w' => w'.cell? ⟨gb971, 0, none⟩ = some (.bool a0_0) ∧ w'.cell? ⟨gb971, 1, none⟩ = some (.string a0_1) ∧ w'.cell? ⟨gb971, 2, none⟩ = some (.string a0_2) ∧ w'.cell? ⟨gb971, 3, none⟩ = some (.string a0_3) ∧ w'.cell? ⟨gb971, 4, none⟩ = some (.int .i64 a0_4) ∧ w'.cell? ⟨gb971, 5, none⟩ = some (.int .i64 a0_5) ∧ w'.cell? ⟨gb971, 6, none⟩ = some (.string a0_6) ∧ w'.cell? ⟨gb971, 7, none⟩ = some (.string a0_7) ∧ w'.cell? ⟨gb971, 8, none⟩ = some (.int .i64 a0_8) ∧ w'.cell? ⟨gb972, 0, none⟩ = some (.bool a0_0) ∧ w'.cell? ⟨gb972, 1, none⟩ = some (.string a0_1) ∧ w'.cell? ⟨gb972, 2, none⟩ = some (.string a0_2)) (ds := []) #[false, false, false, false, false, false, false, false, false, false, false, false, false, false, false, false, false, false, false, false, false, false, false, false, false, false, false, false] (by kernel_rfl) rfl rfl ⟨(blk_cell BK971.out 0).trans rfl, (blk_cell BK971.out 1).trans rfl, (blk_cell BK971.out 2).trans rfl, (blk_cell BK971.out 3).trans rfl, (blk_cell BK971.out 4).trans rfl, (blk_cell BK971.out 5).trans rfl, (blk_cell BK971.out 6).trans rfl, (blk_cell BK971.out 7).trans rfl, (blk_cell BK971.out 8).trans rfl, (blk_cell BK972.out 0).trans rfl, (blk_cell BK972.out 1).trans rfl, (blk_cell BK972.out 2).trans rfl⟩ (fun hHeld => ?_); refine with_tabW operand_Check.tab5 operand_Check.bits5 (fun HT_ HW_ => ?_)
        generalize w57.drew = w58 at BK971 BK972 HB hHeld ⊢
        refine pr_ 0 (some 56) ?_
        refine pr_ 2 (some 58) ?_
        refine tk_ 1 (some 57) hHeld ?_
        refine tk_ 3 (some 59) hHeld ?_
        refine pr_ 4 (some 60) ?_
        refine pr_ 5 (some 61) ?_
        refine pr_ 6 (some 62) ?_
        refine pr_ 8 (some 64) ?_
        refine tk_ 7 (some 63) hHeld ?_
        refine tk_ 9 (some 65) hHeld ?_
        refine pr_ 10 (some 66) ?_
        refine pr_ 11 (some 67) ?_
        refine pr_ 12 (some 68) ?_
        refine pr_ 13 (some 69) ?_
        refine pr_ 14 (some 70) ?_
        refine pr_ 16 (some 72) ?_
        refine tk_ 15 (some 71) hHeld ?_
        refine one_ (i := 17) (N := some 73) #[true, true, true, true, true, true, true, true, true, true, true, true, true, true, true, true, true, true, false, false, false, false, false, false, false, false, false, false] rfl rfl (one_of HT_.out (by kernel_rfl)) (by decide) (fun K hK => ?_)
        refine goes_ Tryd.func82 (by kernel_rfl) rfl #[.string (a0_2 ++ t975)] (by rfl) rfl rfl ar_ ?_
        with_reducible refine (operand_whole.calls kj1 (a0_2 ++ t975) t976 _ A52.out).mono ?_
        rintro e w59 ⟨rfl, hb⟩
        refine ⟨_, rfl, ?_⟩
        replace BK971 := BK971.bl hb
        replace BK972 := BK972.bl hb
        replace HB := Aside0.mk (below_step hb_ hb)
        (try clear hb)
        (try clear hb2)
        (try clear hk)
        (try clear hi)
        refine hK.out _ _ ⟨(blk_cell BK971.out 0).trans rfl, (blk_cell BK971.out 1).trans rfl, (blk_cell BK971.out 2).trans rfl, (blk_cell BK971.out 3).trans rfl, (blk_cell BK971.out 4).trans rfl, (blk_cell BK971.out 5).trans rfl, (blk_cell BK971.out 6).trans rfl, (blk_cell BK971.out 7).trans rfl, (blk_cell BK971.out 8).trans rfl, (blk_cell BK972.out 0).trans rfl, (blk_cell BK972.out 1).trans rfl, (blk_cell BK972.out 2).trans rfl⟩ (fun hHeld => ?_)
        clear hK K
        refine norm_ (a' := ?_) ?_ ?_
        rotate_left
        ·show Act.put _ (some 73) _ = _
         simp only [Act.put, List.setIfInBounds_toArray, List.set_cons_zero, List.set_cons_succ, i64_w, i32_w]
         rfl
        refine pr_ 18 (some 74) ?_
        refine pr_ 19 (some 75) ?_
        refine pr_ 20 (some 76) ?_
        refine pr_ 21 (some 77) ?_
        refine pr_ 23 (some 79) ?_
        refine tk_ 22 (some 78) hHeld ?_
        refine tk_ 24 (some 80) hHeld ?_
        refine one_ (i := 25) (N := some 81) #[true, true, true, true, true, true, true, true, true, true, true, true, true, true, true, true, true, true, true, true, true, true, true, true, true, true, false, false] rfl rfl (one_of HT_.out (by kernel_rfl)) (by decide) (fun K hK => ?_)
        refine goes_ Tryd.func82 (by kernel_rfl) rfl #[.string a0_2] (by rfl) rfl rfl ar_ ?_
        with_reducible refine (operand_whole.calls kj1 a0_2 t977 _ A54.out).mono ?_
        rintro e w60 ⟨rfl, hb⟩
        refine ⟨_, rfl, ?_⟩
        replace BK971 := BK971.bl hb
        replace BK972 := BK972.bl hb
        replace HB := Aside0.mk (below_step hb_ hb)
        (try clear hb)
        (try clear hb2)
        (try clear hk)
        (try clear hi)
        refine hK.out _ _ ⟨(blk_cell BK971.out 0).trans rfl, (blk_cell BK971.out 1).trans rfl, (blk_cell BK971.out 2).trans rfl, (blk_cell BK971.out 3).trans rfl, (blk_cell BK971.out 4).trans rfl, (blk_cell BK971.out 5).trans rfl, (blk_cell BK971.out 6).trans rfl, (blk_cell BK971.out 7).trans rfl, (blk_cell BK971.out 8).trans rfl, (blk_cell BK972.out 0).trans rfl, (blk_cell BK972.out 1).trans rfl, (blk_cell BK972.out 2).trans rfl⟩ (fun hHeld => ?_)
        clear hK K
        refine norm_ (a' := ?_) ?_ ?_
        rotate_left
        ·show Act.put _ (some 81) _ = _
         simp only [Act.put, List.setIfInBounds_toArray, List.set_cons_zero, List.set_cons_succ, i64_w, i32_w]
         rfl
        refine pr_ 26 (some 82) ?_
        refine pr_ 27 (some 83) ?_
        refine done_ (done_of HT_.out (by kernel_rfl)) ?_
        go_upto_if 83 with (fail)
        have H := HF55.out
        clear HF55
        by_cases c61 : a0_7.toList = t977.toList
        ·rw [if_pos c61] at H
         have c61b0 : (a0_7.toList == t977.toList) = true := beq_iff_eq.mpr c61
         have c61b1 : (a0_7.toList != t977.toList) = false := bne_eq_false_iff_eq.mpr c61
         clear c61
         (first | rw [c61b0] | (simp only [i64_w, i32_w]; rw [c61b0]) | rw [c61b1] | skip)
         obtain rfl := Option.some.inj H
         go_wp2
         go_ret
         exact fin_
        ·rw [if_neg c61] at H
         have c61b0 : (a0_7.toList == t977.toList) = false := beq_eq_false_iff_ne.mpr c61
         have c61b1 : (a0_7.toList != t977.toList) = true := bne_iff_ne.mpr c61
         (first | rw [c61b0] | (simp only [i64_w, i32_w]; rw [c61b0]) | rw [c61b1] | skip)
         obtain rfl := Option.some.inj H
         go_wp2
         go_ret
         exact fin_
       ·rw [if_neg c53] at H
        have c53b0 : (a0_6.toList == t976.toList) = false := beq_eq_false_iff_ne.mpr c53
        have c53b1 : (a0_6.toList != t976.toList) = true := bne_iff_ne.mpr c53
        obtain rfl := Option.some.inj H
        try go_wp2
        replace BK971 := Aside0.mk (blk_drew BK971.out)
        replace BK972 := Aside0.mk (blk_drew BK972.out)
        replace HB := Aside0.mk (below_drew1 HB.out)
        refine start_ (n := 11) (S := fun w' => w'.cell? ⟨gb972, 0, none⟩ = some (.bool a0_0) ∧ w'.cell? ⟨gb972, 1, none⟩ = some (.string a0_1) ∧ w'.cell? ⟨gb972, 2, none⟩ = some (.string a0_2) ∧ w'.cell? ⟨gb971, 0, none⟩ = some (.bool a0_0) ∧ w'.cell? ⟨gb971, 1, none⟩ = some (.string a0_1) ∧ w'.cell? ⟨gb971, 2, none⟩ = some (.string a0_2) ∧ w'.cell? ⟨gb971, 3, none⟩ = some (.string a0_3) ∧ w'.cell? ⟨gb971, 4, none⟩ = some (.int .i64 a0_4) ∧ w'.cell? ⟨gb971, 5, none⟩ = some (.int .i64 a0_5) ∧ w'.cell? ⟨gb971, 6, none⟩ = some (.string a0_6) ∧ w'.cell? ⟨gb971, 7, none⟩ = some (.string a0_7) ∧ w'.cell? ⟨gb971, 8, none⟩ = some (.int .i64 a0_8)) (ds := []) #[false, false, false, false, false, false, false, false, false, false, false] (by kernel_rfl) rfl rfl ⟨(blk_cell BK972.out 0).trans rfl, (blk_cell BK972.out 1).trans rfl, (blk_cell BK972.out 2).trans rfl, (blk_cell BK971.out 0).trans rfl, (blk_cell BK971.out 1).trans rfl, (blk_cell BK971.out 2).trans rfl, (blk_cell BK971.out 3).trans rfl, (blk_cell BK971.out 4).trans rfl, (blk_cell BK971.out 5).trans rfl, (blk_cell BK971.out 6).trans rfl, (blk_cell BK971.out 7).trans rfl, (blk_cell BK971.out 8).trans rfl⟩ (fun hHeld => ?_); refine with_tabW operand_Check.tab4 operand_Check.bits4 (fun HT_ HW_ => ?_)
        generalize wc.drew = w62 at BK971 BK972 HB hHeld ⊢
        refine pr_ 0 (some 46) ?_
        refine pr_ 2 (some 48) ?_
        refine pr_ 4 (some 50) ?_
        refine tk_ 1 (some 47) hHeld ?_
        refine tk_ 3 (some 49) hHeld ?_
        refine tk_ 5 (some 51) hHeld ?_
        refine pr_ 6 (some 52) ?_
        refine pr_ 7 (some 53) ?_
        refine one_ (i := 8) (N := some 54) #[true, true, true, true, true, true, true, true, true, false, false] rfl rfl (one_of HT_.out (by kernel_rfl)) (by decide) (fun K hK => ?_)
        refine goes_ Tryd.func79 (by kernel_rfl) rfl #[.string (⟨#[48]⟩ : ByteArray), .int .i64 (wrap64 (a0_4 - (a0_2.size : Int)))] (by rfl) rfl rfl ar_ ?_
        with_reducible refine (strings_Repeat.calls (⟨#[48]⟩ : ByteArray) (wrap64 (a0_4 - (a0_2.size : Int))) t975 _ A48.out).mono ?_
        rintro e w63 ⟨rfl, hb⟩
        refine ⟨_, rfl, ?_⟩
        replace BK971 := BK971.bl hb
        replace BK972 := BK972.bl hb
        replace HB := Aside0.mk (below_step hb_ hb)
        (try clear hb)
        (try clear hb2)
        (try clear hk)
        (try clear hi)
        refine hK.out _ _ ⟨(blk_cell BK972.out 0).trans rfl, (blk_cell BK972.out 1).trans rfl, (blk_cell BK972.out 2).trans rfl, (blk_cell BK971.out 0).trans rfl, (blk_cell BK971.out 1).trans rfl, (blk_cell BK971.out 2).trans rfl, (blk_cell BK971.out 3).trans rfl, (blk_cell BK971.out 4).trans rfl, (blk_cell BK971.out 5).trans rfl, (blk_cell BK971.out 6).trans rfl, (blk_cell BK971.out 7).trans rfl, (blk_cell BK971.out 8).trans rfl⟩ (fun hHeld => ?_)
        clear hK K
        refine norm_ (a' := ?_) ?_ ?_
        rotate_left
        ·show Act.put _ (some 54) _ = _
         simp only [Act.put, List.setIfInBounds_toArray, List.set_cons_zero, List.set_cons_succ, i64_w, i32_w]
         rfl
        refine pr_ 9 (some 55) ?_
        refine pr_ 10 (some 4) ?_
        refine done_ (done_of HT_.out (by kernel_rfl)) ?_
        try go_wp2
        replace BK971 := Aside0.mk (blk_drew BK971.out)
        replace BK972 := Aside0.mk (blk_drew BK972.out)
        replace HB := Aside0.mk (below_drew1 HB.out)
        refine start_ (n := 28) (S := fun w' => w'.cell? ⟨gb971, 0, none⟩ = some (.bool a0_0) ∧ w'.cell? ⟨gb971, 1, none⟩ = some (.string a0_1) ∧ w'.cell? ⟨gb971, 2, none⟩ = some (.string a0_2) ∧ w'.cell? ⟨gb971, 3, none⟩ = some (.string a0_3) ∧ w'.cell? ⟨gb971, 4, none⟩ = some (.int .i64 a0_4) ∧ w'.cell? ⟨gb971, 5, none⟩ = some (.int .i64 a0_5) ∧ w'.cell? ⟨gb971, 6, none⟩ = some (.string a0_6) ∧ w'.cell? ⟨gb971, 7, none⟩ = some (.string a0_7) ∧ w'.cell? ⟨gb971, 8, none⟩ = some (.int .i64 a0_8) ∧ w'.cell? ⟨gb972, 0, none⟩ = some (.bool a0_0) ∧ w'.cell? ⟨gb972, 1, none⟩ = some (.string a0_1) ∧ w'.cell? ⟨gb972, 2, none⟩ = some (.string a0_2)) (ds := []) #[false, false, false, false, false, false, false, false, false, false, false, false, false, false, false, false, false, false, false, false, false, false, false, false, false, false, false, false] (by kernel_rfl) rfl rfl ⟨(blk_cell BK971.out 0).trans rfl, (blk_cell BK971.out 1).trans rfl, (blk_cell BK971.out 2).trans rfl, (blk_cell BK971.out 3).trans rfl, (blk_cell BK971.out 4).trans rfl, (blk_cell BK971.out 5).trans rfl, (blk_cell BK971.out 6).trans rfl, (blk_cell BK971.out 7).trans rfl, (blk_cell BK971.out 8).trans rfl, (blk_cell BK972.out 0).trans rfl, (blk_cell BK972.out 1).trans rfl, (blk_cell BK972.out 2).trans rfl⟩ (fun hHeld => ?_); refine with_tabW operand_Check.tab5 operand_Check.bits5 (fun HT_ HW_ => ?_)
        generalize w63.drew = w64 at BK971 BK972 HB hHeld ⊢
        refine pr_ 0 (some 56) ?_
        refine pr_ 2 (some 58) ?_
        refine tk_ 1 (some 57) hHeld ?_
        refine tk_ 3 (some 59) hHeld ?_
        refine pr_ 4 (some 60) ?_
        refine pr_ 5 (some 61) ?_
        refine pr_ 6 (some 62) ?_
        refine pr_ 8 (some 64) ?_
        refine tk_ 7 (some 63) hHeld ?_
        refine tk_ 9 (some 65) hHeld ?_
        refine pr_ 10 (some 66) ?_
        refine pr_ 11 (some 67) ?_
        refine pr_ 12 (some 68) ?_
        refine pr_ 13 (some 69) ?_
        refine pr_ 14 (some 70) ?_
        refine pr_ 16 (some 72) ?_
        refine tk_ 15 (some 71) hHeld ?_
        refine one_ (i := 17) (N := some 73) #[true, true, true, true, true, true, true, true, true, true, true, true, true, true, true, true, true, true, false, false, false, false, false, false, false, false, false, false] rfl rfl (one_of HT_.out (by kernel_rfl)) (by decide) (fun K hK => ?_)
        refine goes_ Tryd.func82 (by kernel_rfl) rfl #[.string (a0_2 ++ t975)] (by rfl) rfl rfl ar_ ?_
        with_reducible refine (operand_whole.calls kj1 (a0_2 ++ t975) t976 _ A52.out).mono ?_
        rintro e w65 ⟨rfl, hb⟩
        refine ⟨_, rfl, ?_⟩
        replace BK971 := BK971.bl hb
        replace BK972 := BK972.bl hb
        replace HB := Aside0.mk (below_step hb_ hb)
        (try clear hb)
        (try clear hb2)
        (try clear hk)
        (try clear hi)
        refine hK.out _ _ ⟨(blk_cell BK971.out 0).trans rfl, (blk_cell BK971.out 1).trans rfl, (blk_cell BK971.out 2).trans rfl, (blk_cell BK971.out 3).trans rfl, (blk_cell BK971.out 4).trans rfl, (blk_cell BK971.out 5).trans rfl, (blk_cell BK971.out 6).trans rfl, (blk_cell BK971.out 7).trans rfl, (blk_cell BK971.out 8).trans rfl, (blk_cell BK972.out 0).trans rfl, (blk_cell BK972.out 1).trans rfl, (blk_cell BK972.out 2).trans rfl⟩ (fun hHeld => ?_)
        clear hK K
        refine norm_ (a' := ?_) ?_ ?_
        rotate_left
        ·show Act.put _ (some 73) _ = _
         simp only [Act.put, List.setIfInBounds_toArray, List.set_cons_zero, List.set_cons_succ, i64_w, i32_w]
         rfl
        refine pr_ 18 (some 74) ?_
        refine pr_ 19 (some 75) ?_
        refine pr_ 20 (some 76) ?_
        refine pu_ 21 (some 77) (a' := ?_) ?_ ?_
        rotate_left
        ·simp only [Act.put, List.setIfInBounds_toArray, List.set_cons_zero, List.set_cons_succ, i64_w, i32_w]
         rfl
        refine pu_ 22 (some 78) (a' := ?_) ?_ ?_
        rotate_left
        ·simp only [Act.put, List.setIfInBounds_toArray, List.set_cons_zero, List.set_cons_succ, i64_w, i32_w]
         rfl
        refine pu_ 23 (some 79) (a' := ?_) ?_ ?_
        rotate_left
        ·simp only [Act.put, List.setIfInBounds_toArray, List.set_cons_zero, List.set_cons_succ, i64_w, i32_w]
         rfl
        refine pu_ 24 (some 80) (a' := ?_) ?_ ?_
        rotate_left
        ·simp only [Act.put, List.setIfInBounds_toArray, List.set_cons_zero, List.set_cons_succ, i64_w, i32_w]
         rfl
        refine pu_ 25 (some 81) (a' := ?_) ?_ ?_
        rotate_left
        ·simp only [Act.put, List.setIfInBounds_toArray, List.set_cons_zero, List.set_cons_succ, i64_w, i32_w]
         rfl
        refine pu_ 26 (some 82) (a' := ?_) ?_ ?_
        rotate_left
        ·simp only [Act.put, List.setIfInBounds_toArray, List.set_cons_zero, List.set_cons_succ, i64_w, i32_w]
         rfl
        refine pr_ 27 (some 83) ?_
        refine done_ (done_of HT_.out (by kernel_rfl)) ?_
        try go_wp2
        go_ret
        exact fin_
      ·rw [if_neg c51] at H
       have c51b0 : (a0_5 == (a0_2.size : Int)) = false := beq_eq_false_iff_ne.mpr c51
       have c51b1 : (a0_5 != (a0_2.size : Int)) = true := bne_iff_ne.mpr c51
       obtain rfl := Option.some.inj H
       try go_wp2
       replace BK971 := Aside0.mk (blk_drew BK971.out)
       replace BK972 := Aside0.mk (blk_drew BK972.out)
       replace HB := Aside0.mk (below_drew1 HB.out)
       refine start_ (n := 11) (S := fun w' => w'.cell? ⟨gb972, 0, none⟩ = some (.bool a0_0) ∧ w'.cell? ⟨gb972, 1, none⟩ = some (.string a0_1) ∧ w'.cell? ⟨gb972, 2, none⟩ = some (.string a0_2) ∧ w'.cell? ⟨gb971, 0, none⟩ = some (.bool a0_0) ∧ w'.cell? ⟨gb971, 1, none⟩ = some (.string a0_1) ∧ w'.cell? ⟨gb971, 2, none⟩ = some (.string a0_2) ∧ w'.cell? ⟨gb971, 3, none⟩ = some (.string a0_3) ∧ w'.cell? ⟨gb971, 4, none⟩ = some (.int .i64 a0_4) ∧ w'.cell? ⟨gb971, 5, none⟩ = some (.int .i64 a0_5) ∧ w'.cell? ⟨gb971, 6, none⟩ = some (.string a0_6) ∧ w'.cell? ⟨gb971, 7, none⟩ = some (.string a0_7) ∧ w'.cell? ⟨gb971, 8, none⟩ = some (.int .i64 a0_8)) (ds := []) #[false, false, false, false, false, false, false, false, false, false, false] (by kernel_rfl) rfl rfl ⟨(blk_cell BK972.out 0).trans rfl, (blk_cell BK972.out 1).trans rfl, (blk_cell BK972.out 2).trans rfl, (blk_cell BK971.out 0).trans rfl, (blk_cell BK971.out 1).trans rfl, (blk_cell BK971.out 2).trans rfl, (blk_cell BK971.out 3).trans rfl, (blk_cell BK971.out 4).trans rfl, (blk_cell BK971.out 5).trans rfl, (blk_cell BK971.out 6).trans rfl, (blk_cell BK971.out 7).trans rfl, (blk_cell BK971.out 8).trans rfl⟩ (fun hHeld => ?_); refine with_tabW operand_Check.tab4 operand_Check.bits4 (fun HT_ HW_ => ?_)
       generalize wc.drew = w66 at BK971 BK972 HB hHeld ⊢
       refine pr_ 0 (some 46) ?_
       refine pr_ 2 (some 48) ?_
       refine pr_ 4 (some 50) ?_
       refine tk_ 1 (some 47) hHeld ?_
       refine tk_ 3 (some 49) hHeld ?_
       refine tk_ 5 (some 51) hHeld ?_
       refine pr_ 6 (some 52) ?_
       refine pr_ 7 (some 53) ?_
       refine one_ (i := 8) (N := some 54) #[true, true, true, true, true, true, true, true, true, false, false] rfl rfl (one_of HT_.out (by kernel_rfl)) (by decide) (fun K hK => ?_)
       refine goes_ Tryd.func79 (by kernel_rfl) rfl #[.string (⟨#[48]⟩ : ByteArray), .int .i64 (wrap64 (a0_4 - (a0_2.size : Int)))] (by rfl) rfl rfl ar_ ?_
       with_reducible refine (strings_Repeat.calls (⟨#[48]⟩ : ByteArray) (wrap64 (a0_4 - (a0_2.size : Int))) t975 _ A48.out).mono ?_
       rintro e w67 ⟨rfl, hb⟩
       refine ⟨_, rfl, ?_⟩
       replace BK971 := BK971.bl hb
       replace BK972 := BK972.bl hb
       replace HB := Aside0.mk (below_step hb_ hb)
       (try clear hb)
       (try clear hb2)
       (try clear hk)
       (try clear hi)
       refine hK.out _ _ ⟨(blk_cell BK972.out 0).trans rfl, (blk_cell BK972.out 1).trans rfl, (blk_cell BK972.out 2).trans rfl, (blk_cell BK971.out 0).trans rfl, (blk_cell BK971.out 1).trans rfl, (blk_cell BK971.out 2).trans rfl, (blk_cell BK971.out 3).trans rfl, (blk_cell BK971.out 4).trans rfl, (blk_cell BK971.out 5).trans rfl, (blk_cell BK971.out 6).trans rfl, (blk_cell BK971.out 7).trans rfl, (blk_cell BK971.out 8).trans rfl⟩ (fun hHeld => ?_)
       clear hK K
       refine norm_ (a' := ?_) ?_ ?_
       rotate_left
       ·show Act.put _ (some 54) _ = _
        simp only [Act.put, List.setIfInBounds_toArray, List.set_cons_zero, List.set_cons_succ, i64_w, i32_w]
        rfl
       refine pr_ 9 (some 55) ?_
       refine pr_ 10 (some 4) ?_
       refine done_ (done_of HT_.out (by kernel_rfl)) ?_
       try go_wp2
       replace BK971 := Aside0.mk (blk_drew BK971.out)
       replace BK972 := Aside0.mk (blk_drew BK972.out)
       replace HB := Aside0.mk (below_drew1 HB.out)
       refine start_ (n := 28) (S := fun w' => w'.cell? ⟨gb971, 0, none⟩ = some (.bool a0_0) ∧ w'.cell? ⟨gb971, 1, none⟩ = some (.string a0_1) ∧ w'.cell? ⟨gb971, 2, none⟩ = some (.string a0_2) ∧ w'.cell? ⟨gb971, 3, none⟩ = some (.string a0_3) ∧ w'.cell? ⟨gb971, 4, none⟩ = some (.int .i64 a0_4) ∧ w'.cell? ⟨gb971, 5, none⟩ = some (.int .i64 a0_5) ∧ w'.cell? ⟨gb971, 6, none⟩ = some (.string a0_6) ∧ w'.cell? ⟨gb971, 7, none⟩ = some (.string a0_7) ∧ w'.cell? ⟨gb971, 8, none⟩ = some (.int .i64 a0_8) ∧ w'.cell? ⟨gb972, 0, none⟩ = some (.bool a0_0) ∧ w'.cell? ⟨gb972, 1, none⟩ = some (.string a0_1) ∧ w'.cell? ⟨gb972, 2, none⟩ = some (.string a0_2)) (ds := []) #[false, false, false, false, false, false, false, false, false, false, false, false, false, false, false, false, false, false, false, false, false, false, false, false, false, false, false, false] (by kernel_rfl) rfl rfl ⟨(blk_cell BK971.out 0).trans rfl, (blk_cell BK971.out 1).trans rfl, (blk_cell BK971.out 2).trans rfl, (blk_cell BK971.out 3).trans rfl, (blk_cell BK971.out 4).trans rfl, (blk_cell BK971.out 5).trans rfl, (blk_cell BK971.out 6).trans rfl, (blk_cell BK971.out 7).trans rfl, (blk_cell BK971.out 8).trans rfl, (blk_cell BK972.out 0).trans rfl, (blk_cell BK972.out 1).trans rfl, (blk_cell BK972.out 2).trans rfl⟩ (fun hHeld => ?_); refine with_tabW operand_Check.tab5 operand_Check.bits5 (fun HT_ HW_ => ?_)
       generalize w67.drew = w68 at BK971 BK972 HB hHeld ⊢
       refine pr_ 0 (some 56) ?_
       refine pr_ 2 (some 58) ?_
       refine tk_ 1 (some 57) hHeld ?_
       refine tk_ 3 (some 59) hHeld ?_
       refine pr_ 4 (some 60) ?_
       refine pr_ 5 (some 61) ?_
       refine pr_ 6 (some 62) ?_
       refine pr_ 8 (some 64) ?_
       refine tk_ 7 (some 63) hHeld ?_
       refine tk_ 9 (some 65) hHeld ?_
       refine pr_ 10 (some 66) ?_
       refine pr_ 11 (some 67) ?_
       refine pr_ 12 (some 68) ?_
       refine pr_ 13 (some 69) ?_
       refine pu_ 14 (some 70) (a' := ?_) ?_ ?_
       rotate_left
       ·simp only [Act.put, List.setIfInBounds_toArray, List.set_cons_zero, List.set_cons_succ, i64_w, i32_w]
        rfl
       refine pu_ 15 (some 71) (a' := ?_) ?_ ?_
       rotate_left
       ·simp only [Act.put, List.setIfInBounds_toArray, List.set_cons_zero, List.set_cons_succ, i64_w, i32_w]
        rfl
       refine pu_ 16 (some 72) (a' := ?_) ?_ ?_
       rotate_left
       ·simp only [Act.put, List.setIfInBounds_toArray, List.set_cons_zero, List.set_cons_succ, i64_w, i32_w]
        rfl
       refine pu_ 17 (some 73) (a' := ?_) ?_ ?_
       rotate_left
       ·simp only [Act.put, List.setIfInBounds_toArray, List.set_cons_zero, List.set_cons_succ, i64_w, i32_w]
        rfl
       refine pu_ 18 (some 74) (a' := ?_) ?_ ?_
       rotate_left
       ·simp only [Act.put, List.setIfInBounds_toArray, List.set_cons_zero, List.set_cons_succ, i64_w, i32_w]
        rfl
       refine pr_ 19 (some 75) ?_
       refine pr_ 20 (some 76) ?_
       refine pu_ 21 (some 77) (a' := ?_) ?_ ?_
       rotate_left
       ·simp only [Act.put, List.setIfInBounds_toArray, List.set_cons_zero, List.set_cons_succ, i64_w, i32_w]
        rfl
       refine pu_ 22 (some 78) (a' := ?_) ?_ ?_
       rotate_left
       ·simp only [Act.put, List.setIfInBounds_toArray, List.set_cons_zero, List.set_cons_succ, i64_w, i32_w]
        rfl
       refine pu_ 23 (some 79) (a' := ?_) ?_ ?_
       rotate_left
       ·simp only [Act.put, List.setIfInBounds_toArray, List.set_cons_zero, List.set_cons_succ, i64_w, i32_w]
        rfl
       refine pu_ 24 (some 80) (a' := ?_) ?_ ?_
       rotate_left
       ·simp only [Act.put, List.setIfInBounds_toArray, List.set_cons_zero, List.set_cons_succ, i64_w, i32_w]
        rfl
       refine pu_ 25 (some 81) (a' := ?_) ?_ ?_
       rotate_left
       ·simp only [Act.put, List.setIfInBounds_toArray, List.set_cons_zero, List.set_cons_succ, i64_w, i32_w]
        rfl
       refine pu_ 26 (some 82) (a' := ?_) ?_ ?_
       rotate_left
       ·simp only [Act.put, List.setIfInBounds_toArray, List.set_cons_zero, List.set_cons_succ, i64_w, i32_w]
        rfl
       refine pr_ 27 (some 83) ?_
       refine done_ (done_of HT_.out (by kernel_rfl)) ?_
       try go_wp2
       go_ret
       exact fin_
     ·rw [if_neg c50] at H
      have c50b0 : (a0_3.toList == a0_1.toList) = false := beq_eq_false_iff_ne.mpr c50
      have c50b1 : (a0_3.toList != a0_1.toList) = true := bne_iff_ne.mpr c50
      obtain rfl := Option.some.inj H
      try go_wp2
      replace BK971 := Aside0.mk (blk_drew BK971.out)
      replace BK972 := Aside0.mk (blk_drew BK972.out)
      replace HB := Aside0.mk (below_drew1 HB.out)
      refine start_ (n := 11) (S := fun w' => w'.cell? ⟨gb972, 0, none⟩ = some (.bool a0_0) ∧ w'.cell? ⟨gb972, 1, none⟩ = some (.string a0_1) ∧ w'.cell? ⟨gb972, 2, none⟩ = some (.string a0_2) ∧ w'.cell? ⟨gb971, 0, none⟩ = some (.bool a0_0) ∧ w'.cell? ⟨gb971, 1, none⟩ = some (.string a0_1) ∧ w'.cell? ⟨gb971, 2, none⟩ = some (.string a0_2) ∧ w'.cell? ⟨gb971, 3, none⟩ = some (.string a0_3) ∧ w'.cell? ⟨gb971, 4, none⟩ = some (.int .i64 a0_4) ∧ w'.cell? ⟨gb971, 5, none⟩ = some (.int .i64 a0_5) ∧ w'.cell? ⟨gb971, 6, none⟩ = some (.string a0_6) ∧ w'.cell? ⟨gb971, 7, none⟩ = some (.string a0_7) ∧ w'.cell? ⟨gb971, 8, none⟩ = some (.int .i64 a0_8)) (ds := []) #[false, false, false, false, false, false, false, false, false, false, false] (by kernel_rfl) rfl rfl ⟨(blk_cell BK972.out 0).trans rfl, (blk_cell BK972.out 1).trans rfl, (blk_cell BK972.out 2).trans rfl, (blk_cell BK971.out 0).trans rfl, (blk_cell BK971.out 1).trans rfl, (blk_cell BK971.out 2).trans rfl, (blk_cell BK971.out 3).trans rfl, (blk_cell BK971.out 4).trans rfl, (blk_cell BK971.out 5).trans rfl, (blk_cell BK971.out 6).trans rfl, (blk_cell BK971.out 7).trans rfl, (blk_cell BK971.out 8).trans rfl⟩ (fun hHeld => ?_); refine with_tabW operand_Check.tab4 operand_Check.bits4 (fun HT_ HW_ => ?_)
      generalize wc.drew = w69 at BK971 BK972 HB hHeld ⊢
      refine pr_ 0 (some 46) ?_
      refine pr_ 2 (some 48) ?_
      refine pr_ 4 (some 50) ?_
      refine tk_ 1 (some 47) hHeld ?_
      refine tk_ 3 (some 49) hHeld ?_
      refine tk_ 5 (some 51) hHeld ?_
      refine pr_ 6 (some 52) ?_
      refine pr_ 7 (some 53) ?_
      refine one_ (i := 8) (N := some 54) #[true, true, true, true, true, true, true, true, true, false, false] rfl rfl (one_of HT_.out (by kernel_rfl)) (by decide) (fun K hK => ?_)
      refine goes_ Tryd.func79 (by kernel_rfl) rfl #[.string (⟨#[48]⟩ : ByteArray), .int .i64 (wrap64 (a0_4 - (a0_2.size : Int)))] (by rfl) rfl rfl ar_ ?_
      with_reducible refine (strings_Repeat.calls (⟨#[48]⟩ : ByteArray) (wrap64 (a0_4 - (a0_2.size : Int))) t975 _ A48.out).mono ?_
      rintro e w70 ⟨rfl, hb⟩
      refine ⟨_, rfl, ?_⟩
      replace BK971 := BK971.bl hb
      replace BK972 := BK972.bl hb
      replace HB := Aside0.mk (below_step hb_ hb)
      (try clear hb)
      (try clear hb2)
      (try clear hk)
      (try clear hi)
      refine hK.out _ _ ⟨(blk_cell BK972.out 0).trans rfl, (blk_cell BK972.out 1).trans rfl, (blk_cell BK972.out 2).trans rfl, (blk_cell BK971.out 0).trans rfl, (blk_cell BK971.out 1).trans rfl, (blk_cell BK971.out 2).trans rfl, (blk_cell BK971.out 3).trans rfl, (blk_cell BK971.out 4).trans rfl, (blk_cell BK971.out 5).trans rfl, (blk_cell BK971.out 6).trans rfl, (blk_cell BK971.out 7).trans rfl, (blk_cell BK971.out 8).trans rfl⟩ (fun hHeld => ?_)
      clear hK K
      refine norm_ (a' := ?_) ?_ ?_
      rotate_left
      ·show Act.put _ (some 54) _ = _
       simp only [Act.put, List.setIfInBounds_toArray, List.set_cons_zero, List.set_cons_succ, i64_w, i32_w]
       rfl
      refine pr_ 9 (some 55) ?_
      refine pr_ 10 (some 4) ?_
      refine done_ (done_of HT_.out (by kernel_rfl)) ?_
      try go_wp2
      replace BK971 := Aside0.mk (blk_drew BK971.out)
      replace BK972 := Aside0.mk (blk_drew BK972.out)
      replace HB := Aside0.mk (below_drew1 HB.out)
      refine start_ (n := 28) (S := fun w' => w'.cell? ⟨gb971, 0, none⟩ = some (.bool a0_0) ∧ w'.cell? ⟨gb971, 1, none⟩ = some (.string a0_1) ∧ w'.cell? ⟨gb971, 2, none⟩ = some (.string a0_2) ∧ w'.cell? ⟨gb971, 3, none⟩ = some (.string a0_3) ∧ w'.cell? ⟨gb971, 4, none⟩ = some (.int .i64 a0_4) ∧ w'.cell? ⟨gb971, 5, none⟩ = some (.int .i64 a0_5) ∧ w'.cell? ⟨gb971, 6, none⟩ = some (.string a0_6) ∧ w'.cell? ⟨gb971, 7, none⟩ = some (.string a0_7) ∧ w'.cell? ⟨gb971, 8, none⟩ = some (.int .i64 a0_8) ∧ w'.cell? ⟨gb972, 0, none⟩ = some (.bool a0_0) ∧ w'.cell? ⟨gb972, 1, none⟩ = some (.string a0_1) ∧ w'.cell? ⟨gb972, 2, none⟩ = some (.string a0_2)) (ds := []) #[false, false, false, false, false, false, false, false, false, false, false, false, false, false, false, false, false, false, false, false, false, false, false, false, false, false, false, false] (by kernel_rfl) rfl rfl ⟨(blk_cell BK971.out 0).trans rfl, (blk_cell BK971.out 1).trans rfl, (blk_cell BK971.out 2).trans rfl, (blk_cell BK971.out 3).trans rfl, (blk_cell BK971.out 4).trans rfl, (blk_cell BK971.out 5).trans rfl, (blk_cell BK971.out 6).trans rfl, (blk_cell BK971.out 7).trans rfl, (blk_cell BK971.out 8).trans rfl, (blk_cell BK972.out 0).trans rfl, (blk_cell BK972.out 1).trans rfl, (blk_cell BK972.out 2).trans rfl⟩ (fun hHeld => ?_); refine with_tabW operand_Check.tab5 operand_Check.bits5 (fun HT_ HW_ => ?_)
      generalize w70.drew = w71 at BK971 BK972 HB hHeld ⊢
      refine pr_ 0 (some 56) ?_
      refine pr_ 2 (some 58) ?_
      refine tk_ 1 (some 57) hHeld ?_
      refine tk_ 3 (some 59) hHeld ?_
      refine pr_ 4 (some 60) ?_
      refine pr_ 5 (some 61) ?_
      refine pu_ 6 (some 62) (a' := ?_) ?_ ?_
      rotate_left
      ·simp only [Act.put, List.setIfInBounds_toArray, List.set_cons_zero, List.set_cons_succ, i64_w, i32_w]
       rfl
      refine pu_ 7 (some 63) (a' := ?_) ?_ ?_
      rotate_left
      ·simp only [Act.put, List.setIfInBounds_toArray, List.set_cons_zero, List.set_cons_succ, i64_w, i32_w]
       rfl
      refine pu_ 8 (some 64) (a' := ?_) ?_ ?_
      rotate_left
      ·simp only [Act.put, List.setIfInBounds_toArray, List.set_cons_zero, List.set_cons_succ, i64_w, i32_w]
       rfl
      refine pu_ 9 (some 65) (a' := ?_) ?_ ?_
      rotate_left
      ·simp only [Act.put, List.setIfInBounds_toArray, List.set_cons_zero, List.set_cons_succ, i64_w, i32_w]
       rfl
      refine pu_ 10 (some 66) (a' := ?_) ?_ ?_
      rotate_left
      ·simp only [Act.put, List.setIfInBounds_toArray, List.set_cons_zero, List.set_cons_succ, i64_w, i32_w]
       rfl
      refine pu_ 11 (some 67) (a' := ?_) ?_ ?_
      rotate_left
      ·simp only [Act.put, List.setIfInBounds_toArray, List.set_cons_zero, List.set_cons_succ, i64_w, i32_w]
       rfl
      refine pr_ 12 (some 68) ?_
      refine pr_ 13 (some 69) ?_
      refine pu_ 14 (some 70) (a' := ?_) ?_ ?_
      rotate_left
      ·simp only [Act.put, List.setIfInBounds_toArray, List.set_cons_zero, List.set_cons_succ, i64_w, i32_w]
       rfl
      refine pu_ 15 (some 71) (a' := ?_) ?_ ?_
      rotate_left
      ·simp only [Act.put, List.setIfInBounds_toArray, List.set_cons_zero, List.set_cons_succ, i64_w, i32_w]
       rfl
      refine pu_ 16 (some 72) (a' := ?_) ?_ ?_
      rotate_left
      ·simp only [Act.put, List.setIfInBounds_toArray, List.set_cons_zero, List.set_cons_succ, i64_w, i32_w]
       rfl
      refine pu_ 17 (some 73) (a' := ?_) ?_ ?_
      rotate_left
      ·simp only [Act.put, List.setIfInBounds_toArray, List.set_cons_zero, List.set_cons_succ, i64_w, i32_w]
       rfl
      refine pu_ 18 (some 74) (a' := ?_) ?_ ?_
      rotate_left
      ·simp only [Act.put, List.setIfInBounds_toArray, List.set_cons_zero, List.set_cons_succ, i64_w, i32_w]
       rfl
      refine pr_ 19 (some 75) ?_
      refine pr_ 20 (some 76) ?_
      refine pu_ 21 (some 77) (a' := ?_) ?_ ?_
      rotate_left
      ·simp only [Act.put, List.setIfInBounds_toArray, List.set_cons_zero, List.set_cons_succ, i64_w, i32_w]
       rfl
      refine pu_ 22 (some 78) (a' := ?_) ?_ ?_
      rotate_left
      ·simp only [Act.put, List.setIfInBounds_toArray, List.set_cons_zero, List.set_cons_succ, i64_w, i32_w]
       rfl
      refine pu_ 23 (some 79) (a' := ?_) ?_ ?_
      rotate_left
      ·simp only [Act.put, List.setIfInBounds_toArray, List.set_cons_zero, List.set_cons_succ, i64_w, i32_w]
       rfl
      refine pu_ 24 (some 80) (a' := ?_) ?_ ?_
      rotate_left
      ·simp only [Act.put, List.setIfInBounds_toArray, List.set_cons_zero, List.set_cons_succ, i64_w, i32_w]
       rfl
      refine pu_ 25 (some 81) (a' := ?_) ?_ ?_
      rotate_left
      ·simp only [Act.put, List.setIfInBounds_toArray, List.set_cons_zero, List.set_cons_succ, i64_w, i32_w]
       rfl
      refine pu_ 26 (some 82) (a' := ?_) ?_ ?_
      rotate_left
      ·simp only [Act.put, List.setIfInBounds_toArray, List.set_cons_zero, List.set_cons_succ, i64_w, i32_w]
       rfl
      refine pr_ 27 (some 83) ?_
      refine done_ (done_of HT_.out (by kernel_rfl)) ?_
      try go_wp2
      go_ret
      exact fin_
    ·rw [if_neg c49] at H
     exact absurd H (by simp)
end Go.Proofs.YtihjcaglhjepdaaDoor.P
namespace Go.Proofs
open Go.Shelf
def Tryd.laysM171_ren : Go.Shelf.Ren := ⟨fun | 171 => 128 | 243 => 138 | 246 => 144 | 283 => 145 | 284 => 146 | 285 => 147 | 286 => 148 | 129 => 150 | 317 => 149 | 318 => 151 | 319 => 152 | 320 => 153 | 337 => 154 | 338 => 155 | n => n, fun | 3 => 3 | 9 => 9 | 2 => 2 | 4 => 4 | 171 => 149 | 0 => 0 | 53 => 132 | 37 => 68 | 5 => 5 | 173 => 152 | 212 => 155 | 51 => 129 | 20 => 20 | 213 => 156 | 46 => 109 | 232 => 160 | 233 => 161 | n => n, fun | 17 => 3 | 18 => 4 | 19 => 5 | n => n⟩
theorem Tryd.laysM171 : Go.Proofs.LaysM.n171 Tryd.prog Tryd.laysM171_ren := {
  mixed := by kernel_rfl
  f129 := Tryd.func150.trans (congrArg some (by kernel_rfl))
  f171 := Tryd.func128.trans (congrArg some (by kernel_rfl))
  f243 := Tryd.func138.trans (congrArg some (by kernel_rfl))
  f246 := Tryd.func144.trans (congrArg some (by kernel_rfl))
  f283 := Tryd.func145.trans (congrArg some (by kernel_rfl))
  f284 := Tryd.func146.trans (congrArg some (by kernel_rfl))
  f285 := Tryd.func147.trans (congrArg some (by kernel_rfl))
  f286 := Tryd.func148.trans (congrArg some (by kernel_rfl))
  f317 := Tryd.func149.trans (congrArg some (by kernel_rfl))
  f318 := Tryd.func151.trans (congrArg some (by kernel_rfl))
  f319 := Tryd.func152.trans (congrArg some (by kernel_rfl))
  f320 := Tryd.func153.trans (congrArg some (by kernel_rfl))
  f337 := Tryd.func154.trans (congrArg some (by kernel_rfl))
  f338 := Tryd.func155.trans (congrArg some (by kernel_rfl))
  t0 := Tryd.underlying0
  a0 := Tryd.isAgg0
  z0 := Tryd.sizeOf0
  v0 := Tryd.zeroValue0
  t2 := Tryd.underlying2
  a2 := Tryd.isAgg2
  z2 := Tryd.sizeOf2
  v2 := Tryd.zeroValue2
  t3 := Tryd.underlying3
  a3 := Tryd.isAgg3
  z3 := Tryd.sizeOf3
  v3 := Tryd.zeroValue3
  t4 := Tryd.underlying4
  a4 := Tryd.isAgg4
  z4 := Tryd.sizeOf4
  v4 := Tryd.zeroValue4
  t5 := Tryd.underlying5
  a5 := Tryd.isAgg5
  z5 := Tryd.sizeOf5
  v5 := Tryd.zeroValue5
  t9 := Tryd.underlying9
  a9 := Tryd.isAgg9
  z9 := Tryd.sizeOf9
  v9 := Tryd.zeroValue9
  t20 := Tryd.underlying20
  a20 := Tryd.isAgg20
  z20 := Tryd.sizeOf20
  v20 := Tryd.zeroValue20
  t37 := Tryd.underlying68
  a37 := Tryd.isAgg68
  z37 := Tryd.sizeOf68
  v37 := Tryd.zeroValue68
  t46 := Tryd.underlying109
  a46 := Tryd.isAgg109
  z46 := Tryd.sizeOf109
  v46 := Tryd.zeroValue109
  t51 := Tryd.underlying129
  a51 := Tryd.isAgg129
  z51 := Tryd.sizeOf129
  v51 := Tryd.zeroValue129
  t53 := Tryd.underlying132
  a53 := Tryd.isAgg132
  z53 := Tryd.sizeOf132
  v53 := Tryd.zeroValue132
  t171 := Tryd.underlying149
  a171 := Tryd.isAgg149
  z171 := Tryd.sizeOf149
  v171 := Tryd.zeroValue149
  t173 := Tryd.underlying152
  a173 := Tryd.isAgg152
  z173 := Tryd.sizeOf152
  v173 := Tryd.zeroValue152
  t212 := Tryd.underlying155
  a212 := Tryd.isAgg155
  z212 := Tryd.sizeOf155
  v212 := Tryd.zeroValue155
  t213 := Tryd.underlying156
  a213 := Tryd.isAgg156
  z213 := Tryd.sizeOf156
  t232 := Tryd.underlying160
  a232 := Tryd.isAgg160
  z232 := Tryd.sizeOf160
  v232 := Tryd.zeroValue160
  t233 := Tryd.underlying161
  a233 := Tryd.isAgg161
  z233 := Tryd.sizeOf161
  v233 := Tryd.zeroValue161
  g17 := by kernel_rfl
  g18 := by kernel_rfl
  g19 := by kernel_rfl
  i0 := by kernel_rfl
  i2 := by kernel_rfl
  i3 := by kernel_rfl
  i4 := by kernel_rfl
  i5 := by kernel_rfl
  i9 := by kernel_rfl
  i20 := by kernel_rfl
  i37 := by kernel_rfl
  i46 := by kernel_rfl
  i51 := by kernel_rfl
  i53 := by kernel_rfl
  i171 := by kernel_rfl
  i173 := by kernel_rfl
  i212 := by kernel_rfl
  i232 := by kernel_rfl
  i233 := by kernel_rfl
  m17 := by kernel_rfl
  m18 := by kernel_rfl
  m19 := by kernel_rfl }
open Go.RowKit Go.Sort Go.Lib in
theorem Tryd.strconv_Itoa (n : Int) (h0 : -9223372036854775808 ≤ n) (h1 : n ≤ 9223372036854775807) (w : World) (htab : Lib.TabIs Tryd.prog w "internal/strconv.uint64pow10" .u64 Lib.pow10Tab) :
    Calls Tryd.prog 128 #[.int .i64 n] w fun e w' => e = .returned (.string ⟨(Lib.itoa n).toArray⟩) ∧ ∃ k os, w' = grow (w.drewN k) os := Any.strconv_Itoa Tryd.laysM171 n h0 h1 w htab
end Go.Proofs
namespace Go.Proofs.YtihjcaglhjepdaaDoor.P
open Go.RowKit Go.Proofs.YtihjcaglhjepdaaDoorW.PrintWords Go.Proofs.YtihjcaglhjepdaaDoorW.PrintLast Go.Proofs.YtihjcaglhjepdaaDoorW.PrintMore
def TB (w : World) : Prop := Lib.TabIs Tryd.prog w "internal/strconv.uint64pow10" .u64 Lib.pow10Tab
theorem TB.below {w w' : World} (h : TB w) (hb : Below w.heap.size w w') : TB w' := by
 unfold TB Lib.TabIs World.var? at *
 cases hg : (Tryd.prog).globalNamed "internal/strconv.uint64pow10" with
 | none => simp [hg] at h
 | some g =>
  simp only [hg, Option.bind_some] at h ⊢
  have hlt : g < w.heap.size := by
   rcases Nat.lt_or_ge g w.heap.size with h' | h'
   ·exact h'
   ·rw [Array.getElem?_eq_none h'] at h; simp at h
  rw [hb.block g hlt]
  exact h
def strconv_Itoa.f (a0 : Int) : Option ByteArray :=
  if -9223372036854775808 ≤ a0 ∧ a0 ≤ 9223372036854775807 then some ⟨(Lib.itoa a0).toArray⟩ else none
theorem strconv_Itoa.calls (a0 : Int) (r : ByteArray) (w : World) (ht : TB w) (h : strconv_Itoa.f a0 = some r) :
    Calls Tryd.prog 128 #[.int .i64 a0] w fun e w' => e = .returned (.string r) ∧ Below w.heap.size w w' := by
 unfold strconv_Itoa.f at h
 split at h
 ·rename_i hc
  obtain ⟨h0, h1⟩ := hc
  obtain rfl := Option.some.inj h
  refine (Tryd.strconv_Itoa a0 h0 h1 w ht).mono ?_
  rintro e w' ⟨rfl, k, os, rfl⟩
  refine ⟨rfl, (pw_below_drewN (Below.refl _ w) k).trans ⟨rfl, rfl, rfl, by simp [Sort.grow], fun g hg => ?_⟩⟩
  have hg' : g < (w.drewN k).heap.size := hg
  show ((w.drewN k).heap ++ os)[g]? = _
  rw [Array.getElem?_append_left hg']
 ·cases h
attribute [local go_sem] max2_int max_two
set_option linter.unusedVariables false
set_option linter.unusedSimpArgs false
theorem eqA45 (d : Nat) (w : World) (x0 y0 : Bool) (x1 y1 : ByteArray) (x2 y2 : ByteArray) (x3 y3 : ByteArray) (x4 y4 : Int) (x5 y5 : Int) (x6 y6 : ByteArray) (x7 y7 : ByteArray) (x8 y8 : Int) :
    (Op.equalIn (d + 3) 45 (.agg #[.bool x0, .string x1, .string x2, .string x3, .int .i64 x4, .int .i64 x5, .string x6, .string x7, .int .i64 x8]) (.agg #[.bool y0, .string y1, .string y2, .string y3, .int .i64 y4, .int .i64 y5, .string y6, .string y7, .int .i64 y8])).run Tryd.prog w = .ok ((x0 == y0 && (x1.toList == y1.toList && (x2.toList == y2.toList))) && (x3.toList == y3.toList && (x4 == y4 && (x5 == y5 && (x6.toList == y6.toList && (x7.toList == y7.toList && (x8 == y8))))))) w := by
 refine eqA_of Tryd.underlying45 (by kernel_rfl) ?_
 refine eqf_cons (by rfl) (by go_simp) (by go_simp) (eqA23 (d + 0) w _ _ _ _ _ _) ?_
 refine eqf_cons (by rfl) (by go_simp; rfl) (by go_simp; rfl) (by go_simp) ?_
 refine eqf_cons (by rfl) (by go_simp; rfl) (by go_simp; rfl) (by go_simp) ?_
 refine eqf_cons (by rfl) (by go_simp; rfl) (by go_simp; rfl) (by go_simp) ?_
 refine eqf_cons (by rfl) (by go_simp; rfl) (by go_simp; rfl) (by go_simp) ?_
 refine eqf_cons (by rfl) (by go_simp; rfl) (by go_simp; rfl) (by go_simp) ?_
 exact eqf_last (by rfl) (by go_simp; rfl) (by go_simp; rfl) (by go_simp)
attribute [local go_sem] max2_int max_two
set_option linter.unusedVariables false
set_option linter.unusedSimpArgs false
def operand_Of.j0 : Nat → Int → Bool → Bool → ByteArray → ByteArray → Option (Bool × ByteArray × ByteArray × ByteArray × Int × Int × ByteArray × ByteArray × Int × Int)
  | 0, _, _, _, _, _ => none
  | k + 1, x1, x21, x920000, x920001, x920002 => if x21 = true then (some (false, (⟨#[]⟩ : ByteArray), (⟨#[]⟩ : ByteArray), (⟨#[]⟩ : ByteArray), 0, 0, (⟨#[]⟩ : ByteArray), (⟨#[]⟩ : ByteArray), 0, 1)) else ((decimal_Shift.f k x920000 x920001 x920002 x1).bind fun bt922 => (if bt922.2.2.2 = 0 then ((decimal_Trim.f k false bt922.2.1 bt922.2.2.1).bind fun bt927 => (if bt927.2.2.2 = 0 then ((operand_whole.f k bt922.2.2.1).bind fun t932 => ((operand_whole.f k bt927.2.2.1).bind fun t933 => (some (bt927.1, bt927.2.1, bt927.2.2.1, bt922.2.1, (bt922.2.2.1.size : Int), (bt927.2.2.1.size : Int), t932, t933, x1, 0)))) else (some (false, (⟨#[]⟩ : ByteArray), (⟨#[]⟩ : ByteArray), (⟨#[]⟩ : ByteArray), 0, 0, (⟨#[]⟩ : ByteArray), (⟨#[]⟩ : ByteArray), 0, bt927.2.2.2)))) else (some (false, (⟨#[]⟩ : ByteArray), (⟨#[]⟩ : ByteArray), (⟨#[]⟩ : ByteArray), 0, 0, (⟨#[]⟩ : ByteArray), (⟨#[]⟩ : ByteArray), 0, bt922.2.2.2))))
def operand_Of.f (k : Nat) (a0_0 : Bool) (a0_1 : ByteArray) (a0_2 : ByteArray) (a1 : Int) : Option (Bool × ByteArray × ByteArray × ByteArray × Int × Int × ByteArray × ByteArray × Int × Int) := (decimal_Check.f k a0_0 a0_1 a0_2).bind fun t921 => (if t921 = 0 then (if a1 < 0 then (operand_Of.j0 k a1 true a0_0 a0_1 a0_2) else (operand_Of.j0 k a1 (decide (a1 > 40)) a0_0 a0_1 a0_2)) else (some (false, (⟨#[]⟩ : ByteArray), (⟨#[]⟩ : ByteArray), (⟨#[]⟩ : ByteArray), 0, 0, (⟨#[]⟩ : ByteArray), (⟨#[]⟩ : ByteArray), 0, t921)))
theorem operand_Of.mono_l : ∀ k, (∀ y0 y1 y2 y3 y4, LeO (operand_Of.j0 k y0 y1 y2 y3 y4) (operand_Of.j0 (k + 1) y0 y1 y2 y3 y4))
  | 0 => fun _ _ _ _ _ r h => by simp [operand_Of.j0] at h
  | k + 1 => by
    have ih0 := operand_Of.mono_l k
    · intro y0 y1 y2 y3 y4
      unfold operand_Of.j0
      repeat' first
      | (with_reducible exact ih0 _ _ _ _ _)
      | (with_reducible exact decimal_Check.mono _ _ _ _)
      | (with_reducible exact decimal_Shift.mono _ _ _ _ _)
      | (with_reducible exact decimal_Trim.mono _ _ _ _)
      | (with_reducible exact operand_whole.mono _ _)
      | (with_reducible exact LeO.refl _)
      | (with_reducible exact LeO.none _)
      | (with_reducible refine LeO.ite ?_ ?_)
      | (with_reducible refine LeO.bind ?_ (fun _ => ?_))
      | exact ih0 _ _ _ _ _
      | exact decimal_Check.mono _ _ _ _
      | exact decimal_Shift.mono _ _ _ _ _
      | exact decimal_Trim.mono _ _ _ _
      | exact operand_whole.mono _ _
      | exact LeO.none _
      | refine LeO.ite ?_ ?_
      | refine LeO.bind ?_ (fun _ => ?_)
theorem operand_Of.mono : ∀ a0 a1 a2 a3 k, LeO (operand_Of.f k a0 a1 a2 a3) (operand_Of.f (k + 1) a0 a1 a2 a3) := by
 intro a0 a1 a2 a3 k
 have ih0 := operand_Of.mono_l k
 unfold operand_Of.f
 repeat' first
   | (with_reducible exact ih0 _ _ _ _ _)
   | (with_reducible exact decimal_Check.mono _ _ _ _)
   | (with_reducible exact decimal_Shift.mono _ _ _ _ _)
   | (with_reducible exact decimal_Trim.mono _ _ _ _)
   | (with_reducible exact operand_whole.mono _ _)
   | (with_reducible exact LeO.refl _)
   | (with_reducible exact LeO.none _)
   | (with_reducible refine LeO.ite ?_ ?_)
   | (with_reducible refine LeO.bind ?_ (fun _ => ?_))
   | exact ih0 _ _ _ _ _
   | exact decimal_Check.mono _ _ _ _
   | exact decimal_Shift.mono _ _ _ _ _
   | exact decimal_Trim.mono _ _ _ _
   | exact operand_whole.mono _ _
   | exact LeO.none _
   | refine LeO.ite ?_ ?_
   | refine LeO.bind ?_ (fun _ => ?_)
def operand_Of.T13 : Bool × List (List Nat × List Nat) := (true, [([], []), ([], []), ([1], [1]), ([], []), ([3], [3]), ([4], [4]), ([], []), ([6], [6]), ([7], [7]), ([], []), ([9], [9]), ([10], [10]), ([], []), ([12], [12]), ([13, 11], [13]), ([], []), ([0, 2, 5, 8, 11, 14, 15], [0, 2, 5, 8, 11, 14, 15]), ([16, 14, 0, 1, 2, 3, 4, 5, 6, 7, 8, 9, 10, 11, 12, 13, 14, 15, 16], [16]), ([17, 0, 1, 2, 3, 4, 5, 6, 7, 8, 9, 10, 11, 12, 13, 14, 15, 16, 17], [])])
def operand_Of.B13 : List Nat := [0, 0, 2, 0, 8, 24, 0, 64, 192, 0, 512, 1536, 0, 4096, 15872, 0, 65535, 131071, 262143]
theorem operand_Of.tab13 : rtab .any (opsOf Tryd.f45 13) = operand_Of.T13 := by kernel_rfl
theorem operand_Of.bits13 : waitsOk operand_Of.T13.2 operand_Of.B13 = true := by kernel_rfl
set_option maxHeartbeats 8000000 in
set_option maxRecDepth 100000 in
theorem operand_Of.calls (k : Nat) (a0_0 : Bool) (a0_1 : ByteArray) (a0_2 : ByteArray) (a1 : Int) (r1 : Bool) (r2 : ByteArray) (r3 : ByteArray) (r4 : ByteArray) (r5 : Int) (r6 : Int) (r7 : ByteArray) (r8 : ByteArray) (r9 : Int) (r10 : Int) (w : World) (h : operand_Of.f k a0_0 a0_1 a0_2 a1 = some (r1, r2, r3, r4, r5, r6, r7, r8, r9, r10)) :
    Calls Tryd.prog 45 #[.agg #[.bool a0_0, .string a0_1, .string a0_2], .int .i64 a1] w fun e w' => e = .returned (.tuple #[.agg #[.bool r1, .string r2, .string r3, .string r4, .int .i64 r5, .int .i64 r6, .string r7, .string r8, .int .i64 r9], .int .i64 r10]) ∧ Below w.heap.size w w' := by
 have hu23 := Tryd.underlying23
 have hu45 := Tryd.underlying45
 have HB := Aside0.mk (Below.refl w.heap.size w)
 unfold operand_Of.f at h
 have H := h
 clear h
 replace H := Option.bind_eq_some_iff.mp H
 obtain ⟨t921, A30, H⟩ := H
 try dsimp only at H
 have A3 := Aside0.mk A30
 clear A30
 have HF4 := Aside0.mk H
 clear H
 go_enter Tryd.func45, Tryd.ntmps45
 go_upto_if 13 with (first | ((with_reducible refine gate_dst (N := 2) rfl ?_); refine bx_ #[.bool a0_0, .string a0_1, .string a0_2] 23 ?_; intro gb919 hg w5 hbox hb; have BK919 := Aside0.mk (hbox); have GW919 := ge_ (w := w) hg; have GE919 := ge_ (w := w) hg; replace HB := Aside0.mk (below_step hb_ hb); clear hb hbox hg) | ((with_reducible refine gate_dst (N := 4) rfl ?_); refine bx_ #[.bool false, .string (⟨#[]⟩ : ByteArray), .string (⟨#[]⟩ : ByteArray), .string (⟨#[]⟩ : ByteArray), .int .i64 0, .int .i64 0, .string (⟨#[]⟩ : ByteArray), .string (⟨#[]⟩ : ByteArray), .int .i64 0] 45 ?_; intro gb920 hg w6 hbox hb; have BK920 := Aside0.mk (hbox); have GW920 := ge_ (w := w) hg; have GE920 := ge_ (w := w) hg; have NB919_920 := BK919.nl hg; have NB920_919 := BK919.ng hg; replace BK919 := BK919.bl hb; replace HB := Aside0.mk (below_step hb_ hb); clear hb hbox hg; have hnb7 := NB919_920.out; have hnc7 := NB920_919.out; obtain ⟨hcz8_0, hcz8_1, hcz8_2, hfz8_0, hfz8_1, hfz8_2⟩ := BK919.c3) | ((with_reducible refine gate_callee (f := 19) rfl ?_); refine gL_ (some 11) Tryd.func19 #[.agg #[.bool a0_0, .string a0_1, .string a0_2]] ?_; (with_reducible refine (decimal_Check.calls k a0_0 a0_1 a0_2 t921 _ A3.out).mono ?_); rintro e w9 ⟨rfl, hb⟩; refine ⟨_, rfl, ?_⟩; replace BK919 := BK919.bl hb; replace BK920 := BK920.bl hb; replace HB := Aside0.mk (below_step hb_ hb)))
 (try simp only [Act.put, List.setIfInBounds_toArray, List.set_cons_zero, List.set_cons_succ])
 have H := HF4.out
 clear HF4
 by_cases c10 : t921 = 0
 ·rw [if_pos c10] at H
  have c10b0 : (t921 == 0) = true := beq_iff_eq.mpr c10
  have c10b1 : (t921 != 0) = false := bne_eq_false_iff_eq.mpr c10
  clear c10
  (first | rw [c10b0] | (simp only [i64_w, i32_w]; rw [c10b0]) | rw [c10b1] | skip)
  have HC11 := Aside0.mk H
  clear H
  go_upto_region 4 with (fail)
  go_cut [21] (fun v21 wc => ∃ (kq : Nat) (x21_10 : Bool), v21 = .bool x21_10 ∧ Aside0 (operand_Of.j0 kq a1 x21_10 a0_0 a0_1 a0_2 = some (r1, r2, r3, r4, r5, r6, r7, r8, r9, r10)) ∧ Aside0 (kq ≤ k) ∧ Aside0 (wc.heap[gb919]? = some (.cells #[.bool a0_0, .string a0_1, .string a0_2] 23 (0, 0))) ∧ Aside0 (wc.heap[gb920]? = some (.cells #[.bool false, .string (⟨#[]⟩ : ByteArray), .string (⟨#[]⟩ : ByteArray), .string (⟨#[]⟩ : ByteArray), .int .i64 0, .int .i64 0, .string (⟨#[]⟩ : ByteArray), .string (⟨#[]⟩ : ByteArray), .int .i64 0] 45 (0, 0))) ∧ Aside0 (Below w.heap.size w wc))
  case first =>
   have H := HC11.out
   clear HC11
   by_cases c12 : a1 < 0
   ·rw [if_pos c12] at H
    have c12b0 : decide (a1 < 0) = true := decide_eq_true c12
    clear c12
    (first | rw [c12b0] | (simp only [i64_w, i32_w]; rw [c12b0]) | skip)
    have H' := Aside0.mk H
    clear H
    go_wp2
    go_meet
    case rel => exact ⟨_, (true), (by first | rfl | (simp; done) | (simp [*]; done)), H', ⟨by first | exact Nat.le_refl _ | omega⟩, ⟨by exact BK919.out⟩, ⟨by exact BK920.out⟩, ⟨hb_⟩⟩
   ·rw [if_neg c12] at H
    have c12b0 : decide (a1 < 0) = false := decide_eq_false c12
    clear c12
    (first | rw [c12b0] | (simp only [i64_w, i32_w]; rw [c12b0]) | skip)
    have H' := Aside0.mk H
    clear H
    go_wp2
    go_meet
    case rel => exact ⟨_, (decide (a1 > 40)), (by first | rfl | (simp; done) | (simp [*]; done)), H', ⟨by first | exact Nat.le_refl _ | omega⟩, ⟨by exact BK919.out⟩, ⟨by exact BK920.out⟩, ⟨hb_⟩⟩
  case rest =>
   clear HC11
   (try clear c10); (try clear c10b0); (try clear c10b1); (try clear hcz8_0); (try clear hcz8_1); (try clear hcz8_2); (try clear hfz8_0); (try clear hfz8_1); (try clear hfz8_2)
   obtain ⟨kq, x21_10, rfl, HA, HJ10, BK919, BK920, HB⟩ := hcut
   cases kq with
   | zero => exact absurd HA.out (by simp [operand_Of.j0])
   | succ kj10 =>
    have H := HA.out
    clear HA
    simp only [operand_Of.j0] at H
    by_cases c13 : x21_10 = true
    ·subst c13
     have H1 : (some (false, (⟨#[]⟩ : ByteArray), (⟨#[]⟩ : ByteArray), (⟨#[]⟩ : ByteArray), 0, 0, (⟨#[]⟩ : ByteArray), (⟨#[]⟩ : ByteArray), 0, 1)) = some (r1, r2, r3, r4, r5, r6, r7, r8, r9, r10) := by rw [if_pos rfl] at H; exact H
     clear H
     have H := H1
     clear H1
     simp only [Option.some.injEq, Prod.mk.injEq] at H
     obtain ⟨rfl, rfl, rfl, rfl, rfl, rfl, rfl, rfl, rfl, rfl⟩ := H
     have hnb14 := NB920_919.out
     have hnc14 := NB919_920.out
     obtain ⟨hcz15_0, hcz15_1, hcz15_2, hcz15_3, hcz15_4, hcz15_5, hcz15_6, hcz15_7, hcz15_8, hfz15_0, hfz15_1, hfz15_2, hfz15_3, hfz15_4, hfz15_5, hfz15_6, hfz15_7, hfz15_8⟩ := BK920.c9
     go_wp2
     refine bodyPost_ret (results_ct rfl _ _ gb920 45 #[.bool false, .string (⟨#[]⟩ : ByteArray), .string (⟨#[]⟩ : ByteArray), .string (⟨#[]⟩ : ByteArray), .int .i64 0, .int .i64 0, .string (⟨#[]⟩ : ByteArray), .string (⟨#[]⟩ : ByteArray), .int .i64 0] (0, 0) _ rfl (by refine put9_ (cs := #[.bool false, .string (⟨#[]⟩ : ByteArray), .string (⟨#[]⟩ : ByteArray), .string (⟨#[]⟩ : ByteArray), .int .i64 0, .int .i64 0, .string (⟨#[]⟩ : ByteArray), .string (⟨#[]⟩ : ByteArray), .int .i64 0]) ?_; exact BK920.out) Tryd.underlying45 rfl (by kernel_rfl)) rfl ?_
     exact fin_
    ·replace c13 := Bool.eq_false_iff.mpr c13
     subst c13
     have H1 : ((decimal_Shift.f kj10 a0_0 a0_1 a0_2 a1).bind fun bt922 => (if bt922.2.2.2 = 0 then ((decimal_Trim.f kj10 false bt922.2.1 bt922.2.2.1).bind fun bt927 => (if bt927.2.2.2 = 0 then ((operand_whole.f kj10 bt922.2.2.1).bind fun t932 => ((operand_whole.f kj10 bt927.2.2.1).bind fun t933 => (some (bt927.1, bt927.2.1, bt927.2.2.1, bt922.2.1, (bt922.2.2.1.size : Int), (bt927.2.2.1.size : Int), t932, t933, a1, 0)))) else (some (false, (⟨#[]⟩ : ByteArray), (⟨#[]⟩ : ByteArray), (⟨#[]⟩ : ByteArray), 0, 0, (⟨#[]⟩ : ByteArray), (⟨#[]⟩ : ByteArray), 0, bt927.2.2.2)))) else (some (false, (⟨#[]⟩ : ByteArray), (⟨#[]⟩ : ByteArray), (⟨#[]⟩ : ByteArray), 0, 0, (⟨#[]⟩ : ByteArray), (⟨#[]⟩ : ByteArray), 0, bt922.2.2.2)))) = some (r1, r2, r3, r4, r5, r6, r7, r8, r9, r10) := by rw [if_neg (show ¬ (false = true) by decide)] at H; exact H
     clear H
     have H := H1
     clear H1
     replace H := Option.bind_eq_some_iff.mp H
     obtain ⟨⟨t922, t923, t924, t925⟩, A160, H⟩ := H
     try dsimp only at H
     have A16 := Aside0.mk A160
     clear A160
     have HF17 := Aside0.mk H
     clear H
     have hnb18 := NB919_920.out
     have hnc18 := NB920_919.out
     obtain ⟨hcz19_0, hcz19_1, hcz19_2, hfz19_0, hfz19_1, hfz19_2⟩ := BK919.c3
     go_upto_if 30 with (first | ((with_reducible refine gate_callee (f := 39) rfl ?_); refine gL_ (some 26) Tryd.func39 #[.agg #[.bool a0_0, .string a0_1, .string a0_2], .int .i64 a1] ?_; (with_reducible refine (decimal_Shift.calls kj10 a0_0 a0_1 a0_2 a1 t922 t923 t924 t925 _ A16.out).mono ?_); rintro e w20 ⟨rfl, hb⟩; refine ⟨_, rfl, ?_⟩; replace BK919 := BK919.bl hb; replace BK920 := BK920.bl hb; replace HB := Aside0.mk (below_step hb_ hb)) | ((with_reducible refine gate_dst (N := 7) rfl ?_); refine bx_ #[.bool false, .string (⟨#[]⟩ : ByteArray), .string (⟨#[]⟩ : ByteArray)] 23 ?_; intro gb926 hg w21 hbox hb; have BK926 := Aside0.mk (hbox); have GW926 := ge_ (w := w) hg; have GE926 := ge_ (w := w) hg; have NB919_926 := BK919.nl hg; have NB926_919 := BK919.ng hg; have NB920_926 := BK920.nl hg; have NB926_920 := BK920.ng hg; replace BK919 := BK919.bl hb; replace BK920 := BK920.bl hb; replace HB := Aside0.mk (below_step hb_ hb); clear hb hbox hg; have hnb22 := NB926_919.out; have hnc22 := NB919_926.out; have hnb23 := NB926_920.out; have hnc23 := NB920_926.out; obtain ⟨hcz24_0, hcz24_1, hcz24_2, hfz24_0, hfz24_1, hfz24_2⟩ := BK926.c3))
     (try simp only [Act.put, List.setIfInBounds_toArray, List.set_cons_zero, List.set_cons_succ])
     have H := HF17.out
     clear HF17
     by_cases c25 : t925 = 0
     ·rw [if_pos c25] at H
      have c25b0 : (t925 == 0) = true := beq_iff_eq.mpr c25
      have c25b1 : (t925 != 0) = false := bne_eq_false_iff_eq.mpr c25
      clear c25
      (first | rw [c25b0] | (simp only [i64_w, i32_w]; rw [c25b0]) | rw [c25b1] | skip)
      replace H := Option.bind_eq_some_iff.mp H
      obtain ⟨⟨t927, t928, t929, t930⟩, A260, H⟩ := H
      try dsimp only at H
      have A26 := Aside0.mk A260
      clear A260
      have HF27 := Aside0.mk H
      clear H
      have hnb28 := NB926_919.out
      have hnc28 := NB919_926.out
      have hnb29 := NB926_920.out
      have hnc29 := NB920_926.out
      obtain ⟨hcz30_0, hcz30_1, hcz30_2, hfz30_0, hfz30_1, hfz30_2⟩ := BK926.c3
      go_upto_if 40 with (first | ((with_reducible refine gate_callee (f := 40) rfl ?_); refine gL_ (some 36) Tryd.func40 #[.agg #[.bool false, .string t923, .string t924]] ?_; (with_reducible refine (decimal_Trim.calls kj10 false t923 t924 t927 t928 t929 t930 _ A26.out).mono ?_); rintro e w31 ⟨rfl, hb⟩; refine ⟨_, rfl, ?_⟩; replace BK919 := Aside0.mk (blk_below (g := gb919) (o := .cells #[.bool a0_0, .string a0_1, .string a0_2] 23 (0, 0)) (by refine far3_ ?_ NB919_926.out; refine blk_far ?_ NB919_926.out _; exact BK919.out) hb); replace BK920 := Aside0.mk (blk_below (g := gb920) (o := .cells #[.bool false, .string (⟨#[]⟩ : ByteArray), .string (⟨#[]⟩ : ByteArray), .string (⟨#[]⟩ : ByteArray), .int .i64 0, .int .i64 0, .string (⟨#[]⟩ : ByteArray), .string (⟨#[]⟩ : ByteArray), .int .i64 0] 45 (0, 0)) (by refine far3_ ?_ NB920_926.out; refine blk_far ?_ NB920_926.out _; exact BK920.out) hb); replace BK926 := Aside0.mk (blk_below (g := gb926) (o := .cells #[.bool false, .string t923, .string t924] 23 (0, 0)) (by refine blk_put (cs := #[.bool t922, .string t923, .string t924]) ?_ 0 _ rfl; refine blk_put (cs := #[.bool t922, .string t923, .string (⟨#[]⟩ : ByteArray)]) ?_ 2 _ rfl; refine blk_put (cs := #[.bool t922, .string (⟨#[]⟩ : ByteArray), .string (⟨#[]⟩ : ByteArray)]) ?_ 1 _ rfl; refine blk_put (cs := #[.bool false, .string (⟨#[]⟩ : ByteArray), .string (⟨#[]⟩ : ByteArray)]) ?_ 0 _ rfl; exact BK926.out) hb); replace HB := Aside0.mk (below_step hb_ hb)) | ((with_reducible refine gate_dst (N := 9) rfl ?_); refine bx_ #[.bool false, .string (⟨#[]⟩ : ByteArray), .string (⟨#[]⟩ : ByteArray)] 23 ?_; intro gb931 hg w32 hbox hb; have BK931 := Aside0.mk (hbox); have GW931 := ge_ (w := w) hg; have GE931 := ge_ (w := w) hg; have NB919_931 := BK919.nl hg; have NB931_919 := BK919.ng hg; have NB920_931 := BK920.nl hg; have NB931_920 := BK920.ng hg; have NB926_931 := BK926.nl hg; have NB931_926 := BK926.ng hg; replace BK919 := BK919.bl hb; replace BK920 := BK920.bl hb; replace BK926 := BK926.bl hb; replace HB := Aside0.mk (below_step hb_ hb); clear hb hbox hg; have hnb33 := NB931_919.out; have hnc33 := NB919_931.out; have hnb34 := NB931_920.out; have hnc34 := NB920_931.out; have hnb35 := NB931_926.out; have hnc35 := NB926_931.out; obtain ⟨hcz36_0, hcz36_1, hcz36_2, hfz36_0, hfz36_1, hfz36_2⟩ := BK931.c3))
      (try simp only [Act.put, List.setIfInBounds_toArray, List.set_cons_zero, List.set_cons_succ])
      have H := HF27.out
      clear HF27
      by_cases c37 : t930 = 0
      ·rw [if_pos c37] at H
       have c37b0 : (t930 == 0) = true := beq_iff_eq.mpr c37
       have c37b1 : (t930 != 0) = false := bne_eq_false_iff_eq.mpr c37
       clear c37
       (first | rw [c37b0] | (simp only [i64_w, i32_w]; rw [c37b0]) | rw [c37b1] | skip)
       replace H := Option.bind_eq_some_iff.mp H
       obtain ⟨t932, A380, H⟩ := H
       try dsimp only at H
       have A38 := Aside0.mk A380
       clear A380
       replace H := Option.bind_eq_some_iff.mp H
       obtain ⟨t933, A390, H⟩ := H
       try dsimp only at H
       have A39 := Aside0.mk A390
       clear A390
       simp only [Option.some.injEq, Prod.mk.injEq] at H
       obtain ⟨rfl, rfl, rfl, rfl, rfl, rfl, rfl, rfl, rfl, rfl⟩ := H
       try go_wp2
       have n0_ : Aside0 ((((w32.setCell ⟨gb931, 0, none⟩ (.bool t927)).setCell ⟨gb931, 1, none⟩ (.string t928)).setCell ⟨gb931, 2, none⟩ (.string t929)).heap[gb919]? = some (.cells #[.bool a0_0, .string a0_1, .string a0_2] 23 (0, 0))) := ⟨by refine far3_ ?_ NB919_931.out; exact BK919.out⟩
       have n1_ : Aside0 ((((w32.setCell ⟨gb931, 0, none⟩ (.bool t927)).setCell ⟨gb931, 1, none⟩ (.string t928)).setCell ⟨gb931, 2, none⟩ (.string t929)).heap[gb920]? = some (.cells #[.bool false, .string (⟨#[]⟩ : ByteArray), .string (⟨#[]⟩ : ByteArray), .string (⟨#[]⟩ : ByteArray), .int .i64 0, .int .i64 0, .string (⟨#[]⟩ : ByteArray), .string (⟨#[]⟩ : ByteArray), .int .i64 0] 45 (0, 0))) := ⟨by refine far3_ ?_ NB920_931.out; exact BK920.out⟩
       have n2_ : Aside0 ((((w32.setCell ⟨gb931, 0, none⟩ (.bool t927)).setCell ⟨gb931, 1, none⟩ (.string t928)).setCell ⟨gb931, 2, none⟩ (.string t929)).heap[gb926]? = some (.cells #[.bool false, .string t923, .string t924] 23 (0, 0))) := ⟨by refine far3_ ?_ NB926_931.out; exact BK926.out⟩
       have n3_ : Aside0 ((((w32.setCell ⟨gb931, 0, none⟩ (.bool t927)).setCell ⟨gb931, 1, none⟩ (.string t928)).setCell ⟨gb931, 2, none⟩ (.string t929)).heap[gb931]? = some (.cells #[.bool t927, .string t928, .string t929] 23 (0, 0))) := ⟨by refine put3_ (cs := #[.bool false, .string (⟨#[]⟩ : ByteArray), .string (⟨#[]⟩ : ByteArray)]) ?_; exact BK931.out⟩
       have n4_ : Aside0 (Below w.heap.size w (((w32.setCell ⟨gb931, 0, none⟩ (.bool t927)).setCell ⟨gb931, 1, none⟩ (.string t928)).setCell ⟨gb931, 2, none⟩ (.string t929))) := ⟨hb_⟩
       (try clear BK919)
       (try clear BK920)
       (try clear BK926)
       (try clear BK931)
       (try clear HB)
       generalize (((w32.setCell ⟨gb931, 0, none⟩ (.bool t927)).setCell ⟨gb931, 1, none⟩ (.string t928)).setCell ⟨gb931, 2, none⟩ (.string t929)) = w40 at n0_ n1_ n2_ n3_ n4_ ⊢
       have BK919 := n0_
       have BK920 := n1_
       have BK926 := n2_
       have BK931 := n3_
       have HB := n4_
       clear n0_ n1_ n2_ n3_ n4_
       replace BK919 := Aside0.mk (blk_drew BK919.out)
       replace BK920 := Aside0.mk (blk_drew BK920.out)
       replace BK926 := Aside0.mk (blk_drew BK926.out)
       replace BK931 := Aside0.mk (blk_drew BK931.out)
       replace HB := Aside0.mk (below_drew1 HB.out)
       refine start_ (n := 19) (S := fun w' => w'.cell? ⟨gb931, 0, none⟩ = some (.bool t927) ∧ w'.cell? ⟨gb931, 1, none⟩ = some (.string t928) ∧ w'.cell? ⟨gb931, 2, none⟩ = some (.string t929) ∧ w'.cell? ⟨gb926, 0, none⟩ = some (.bool false) ∧ w'.cell? ⟨gb926, 1, none⟩ = some (.string t923) ∧ w'.cell? ⟨gb926, 2, none⟩ = some (.string t924)) (ds := []) #[false, false, false, false, false, false, false, false, false, false, false, false, false, false, false, false, false, false, false] (by kernel_rfl) rfl rfl ⟨(blk_cell BK931.out 0).trans rfl, (blk_cell BK931.out 1).trans rfl, (blk_cell BK931.out 2).trans rfl, (blk_cell BK926.out 0).trans rfl, (blk_cell BK926.out 1).trans rfl, (blk_cell BK926.out 2).trans rfl⟩ (fun hHeld => ?_); refine with_tabW operand_Of.tab13 operand_Of.bits13 (fun HT_ HW_ => ?_)
       generalize w40.drew = w41 at BK919 BK920 BK926 BK931 HB hHeld ⊢
       refine pr_ 1 (some 44) ?_
       refine pr_ 3 (some 46) ?_
       refine pr_ 6 (some 49) ?_
       refine pr_ 9 (some 52) ?_
       refine pr_ 12 (some 55) ?_
       refine pr_ 15 (some 58) ?_
       refine tk_ 0 (some 43) hHeld ?_
       refine tk_ 2 (some 45) hHeld ?_
       refine tk_ 4 (some 47) hHeld ?_
       refine pr_ 5 (some 48) ?_
       refine tk_ 7 (some 50) hHeld ?_
       refine pr_ 8 (some 51) ?_
       refine tk_ 10 (some 53) hHeld ?_
       refine tk_ 13 (some 56) hHeld ?_
       refine one_ (i := 11) (N := some 54) #[true, true, true, true, true, true, true, true, true, true, true, true, true, true, false, true, false, false, false] rfl rfl (one_of HT_.out (by kernel_rfl)) (by decide) (fun K hK => ?_)
       refine goes_ Tryd.func82 (by kernel_rfl) rfl #[.string t924] (by rfl) rfl rfl ar_ ?_
       with_reducible refine (operand_whole.calls kj10 t924 t932 _ A38.out).mono ?_
       rintro e w42 ⟨rfl, hb⟩
       refine ⟨_, rfl, ?_⟩
       replace BK919 := BK919.bl hb
       replace BK920 := BK920.bl hb
       replace BK926 := BK926.bl hb
       replace BK931 := BK931.bl hb
       replace HB := Aside0.mk (below_step hb_ hb)
       (try clear hb)
       (try clear hb2)
       (try clear hk)
       (try clear hi)
       refine hK.out _ _ ⟨(blk_cell BK931.out 0).trans rfl, (blk_cell BK931.out 1).trans rfl, (blk_cell BK931.out 2).trans rfl, (blk_cell BK926.out 0).trans rfl, (blk_cell BK926.out 1).trans rfl, (blk_cell BK926.out 2).trans rfl⟩ (fun hHeld => ?_)
       clear hK K
       refine norm_ (a' := ?_) ?_ ?_
       rotate_left
       ·show Act.put _ (some 54) _ = _
        simp only [Act.put, List.setIfInBounds_toArray, List.set_cons_zero, List.set_cons_succ, i64_w, i32_w]
        rfl
       refine one_ (i := 14) (N := some 57) #[true, true, true, true, true, true, true, true, true, true, true, true, true, true, true, true, false, false, false] rfl rfl (one_of HT_.out (by kernel_rfl)) (by decide) (fun K hK => ?_)
       refine goes_ Tryd.func82 (by kernel_rfl) rfl #[.string t929] (by rfl) rfl rfl ar_ ?_
       with_reducible refine (operand_whole.calls kj10 t929 t933 _ A39.out).mono ?_
       rintro e w43 ⟨rfl, hb⟩
       refine ⟨_, rfl, ?_⟩
       replace BK919 := BK919.bl hb
       replace BK920 := BK920.bl hb
       replace BK926 := BK926.bl hb
       replace BK931 := BK931.bl hb
       replace HB := Aside0.mk (below_step hb_ hb)
       (try clear hb)
       (try clear hb2)
       (try clear hk)
       (try clear hi)
       refine hK.out _ _ ⟨(blk_cell BK931.out 0).trans rfl, (blk_cell BK931.out 1).trans rfl, (blk_cell BK931.out 2).trans rfl, (blk_cell BK926.out 0).trans rfl, (blk_cell BK926.out 1).trans rfl, (blk_cell BK926.out 2).trans rfl⟩ (fun hHeld => ?_)
       clear hK K
       refine norm_ (a' := ?_) ?_ ?_
       rotate_left
       ·show Act.put _ (some 57) _ = _
        simp only [Act.put, List.setIfInBounds_toArray, List.set_cons_zero, List.set_cons_succ, i64_w, i32_w]
        rfl
       refine pr_ 16 (some 59) ?_
       refine one_ (i := 17) (N := none) #[true, true, true, true, true, true, true, true, true, true, true, true, true, true, true, true, true, true, false] rfl rfl (one_of HT_.out (by kernel_rfl)) (by decide) (fun K hK => ?_)
       have hs44 : w43.cell? ⟨gb920, 0, none⟩ = some (.bool false) := (blk_cell BK920.out 0).trans rfl
       have hfs44 := blk_frozen BK920.out 0
       have hns44_0 := NB919_920.out
       have hns44_2 := NB926_920.out
       have hns44_3 := NB931_920.out
       have hms44_0 := NB920_919.out
       have hms44_2 := NB920_926.out
       have hms44_3 := NB920_931.out
       have hs45 : w43.cell? ⟨gb920, 1, none⟩ = some (.string (⟨#[]⟩ : ByteArray)) := (blk_cell BK920.out 1).trans rfl
       have hfs45 := blk_frozen BK920.out 1
       have hns45_0 := NB919_920.out
       have hns45_2 := NB926_920.out
       have hns45_3 := NB931_920.out
       have hms45_0 := NB920_919.out
       have hms45_2 := NB920_926.out
       have hms45_3 := NB920_931.out
       have hs46 : w43.cell? ⟨gb920, 2, none⟩ = some (.string (⟨#[]⟩ : ByteArray)) := (blk_cell BK920.out 2).trans rfl
       have hfs46 := blk_frozen BK920.out 2
       have hns46_0 := NB919_920.out
       have hns46_2 := NB926_920.out
       have hns46_3 := NB931_920.out
       have hms46_0 := NB920_919.out
       have hms46_2 := NB920_926.out
       have hms46_3 := NB920_931.out
       have hs47 : w43.cell? ⟨gb920, 3, none⟩ = some (.string (⟨#[]⟩ : ByteArray)) := (blk_cell BK920.out 3).trans rfl
       have hfs47 := blk_frozen BK920.out 3
       have hns47_0 := NB919_920.out
       have hns47_2 := NB926_920.out
       have hns47_3 := NB931_920.out
       have hms47_0 := NB920_919.out
       have hms47_2 := NB920_926.out
       have hms47_3 := NB920_931.out
       have hs48 : w43.cell? ⟨gb920, 4, none⟩ = some (.int .i64 0) := (blk_cell BK920.out 4).trans rfl
       have hfs48 := blk_frozen BK920.out 4
       have hns48_0 := NB919_920.out
       have hns48_2 := NB926_920.out
       have hns48_3 := NB931_920.out
       have hms48_0 := NB920_919.out
       have hms48_2 := NB920_926.out
       have hms48_3 := NB920_931.out
       have hs49 : w43.cell? ⟨gb920, 5, none⟩ = some (.int .i64 0) := (blk_cell BK920.out 5).trans rfl
       have hfs49 := blk_frozen BK920.out 5
       have hns49_0 := NB919_920.out
       have hns49_2 := NB926_920.out
       have hns49_3 := NB931_920.out
       have hms49_0 := NB920_919.out
       have hms49_2 := NB920_926.out
       have hms49_3 := NB920_931.out
       have hs50 : w43.cell? ⟨gb920, 6, none⟩ = some (.string (⟨#[]⟩ : ByteArray)) := (blk_cell BK920.out 6).trans rfl
       have hfs50 := blk_frozen BK920.out 6
       have hns50_0 := NB919_920.out
       have hns50_2 := NB926_920.out
       have hns50_3 := NB931_920.out
       have hms50_0 := NB920_919.out
       have hms50_2 := NB920_926.out
       have hms50_3 := NB920_931.out
       have hs51 : w43.cell? ⟨gb920, 7, none⟩ = some (.string (⟨#[]⟩ : ByteArray)) := (blk_cell BK920.out 7).trans rfl
       have hfs51 := blk_frozen BK920.out 7
       have hns51_0 := NB919_920.out
       have hns51_2 := NB926_920.out
       have hns51_3 := NB931_920.out
       have hms51_0 := NB920_919.out
       have hms51_2 := NB920_926.out
       have hms51_3 := NB920_931.out
       have hs52 : w43.cell? ⟨gb920, 8, none⟩ = some (.int .i64 0) := (blk_cell BK920.out 8).trans rfl
       have hfs52 := blk_frozen BK920.out 8
       have hns52_0 := NB919_920.out
       have hns52_2 := NB926_920.out
       have hns52_3 := NB931_920.out
       have hms52_0 := NB920_919.out
       have hms52_2 := NB920_926.out
       have hms52_3 := NB920_931.out
       refine skip_ (w1 := ?_) (by rfl) rfl ?_ ?_
       rotate_left
       ·go_simp
        rfl
       refine hK.out _ _ ⟨((cell_far (p := ⟨gb920, _, none⟩) NB931_920.out _).trans (((cell_far (p := ⟨gb920, _, none⟩) NB931_920.out _).trans (((cell_far (p := ⟨gb920, _, none⟩) NB931_920.out _).trans (((cell_far (p := ⟨gb920, _, none⟩) NB931_920.out _).trans (((cell_far (p := ⟨gb920, _, none⟩) NB931_920.out _).trans (((cell_far (p := ⟨gb920, _, none⟩) NB931_920.out _).trans (((cell_far (p := ⟨gb920, _, none⟩) NB931_920.out _).trans (((cell_far (p := ⟨gb920, _, none⟩) NB931_920.out _).trans (((cell_far (p := ⟨gb920, _, none⟩) NB931_920.out _).trans (hHeld.1)))))))))))))))))), ((cell_far (p := ⟨gb920, _, none⟩) NB931_920.out _).trans (((cell_far (p := ⟨gb920, _, none⟩) NB931_920.out _).trans (((cell_far (p := ⟨gb920, _, none⟩) NB931_920.out _).trans (((cell_far (p := ⟨gb920, _, none⟩) NB931_920.out _).trans (((cell_far (p := ⟨gb920, _, none⟩) NB931_920.out _).trans (((cell_far (p := ⟨gb920, _, none⟩) NB931_920.out _).trans (((cell_far (p := ⟨gb920, _, none⟩) NB931_920.out _).trans (((cell_far (p := ⟨gb920, _, none⟩) NB931_920.out _).trans (((cell_far (p := ⟨gb920, _, none⟩) NB931_920.out _).trans (hHeld.2.1)))))))))))))))))), ((cell_far (p := ⟨gb920, _, none⟩) NB931_920.out _).trans (((cell_far (p := ⟨gb920, _, none⟩) NB931_920.out _).trans (((cell_far (p := ⟨gb920, _, none⟩) NB931_920.out _).trans (((cell_far (p := ⟨gb920, _, none⟩) NB931_920.out _).trans (((cell_far (p := ⟨gb920, _, none⟩) NB931_920.out _).trans (((cell_far (p := ⟨gb920, _, none⟩) NB931_920.out _).trans (((cell_far (p := ⟨gb920, _, none⟩) NB931_920.out _).trans (((cell_far (p := ⟨gb920, _, none⟩) NB931_920.out _).trans (((cell_far (p := ⟨gb920, _, none⟩) NB931_920.out _).trans (hHeld.2.2.1)))))))))))))))))), ((cell_far (p := ⟨gb920, _, none⟩) NB926_920.out _).trans (((cell_far (p := ⟨gb920, _, none⟩) NB926_920.out _).trans (((cell_far (p := ⟨gb920, _, none⟩) NB926_920.out _).trans (((cell_far (p := ⟨gb920, _, none⟩) NB926_920.out _).trans (((cell_far (p := ⟨gb920, _, none⟩) NB926_920.out _).trans (((cell_far (p := ⟨gb920, _, none⟩) NB926_920.out _).trans (((cell_far (p := ⟨gb920, _, none⟩) NB926_920.out _).trans (((cell_far (p := ⟨gb920, _, none⟩) NB926_920.out _).trans (((cell_far (p := ⟨gb920, _, none⟩) NB926_920.out _).trans (hHeld.2.2.2.1)))))))))))))))))), ((cell_far (p := ⟨gb920, _, none⟩) NB926_920.out _).trans (((cell_far (p := ⟨gb920, _, none⟩) NB926_920.out _).trans (((cell_far (p := ⟨gb920, _, none⟩) NB926_920.out _).trans (((cell_far (p := ⟨gb920, _, none⟩) NB926_920.out _).trans (((cell_far (p := ⟨gb920, _, none⟩) NB926_920.out _).trans (((cell_far (p := ⟨gb920, _, none⟩) NB926_920.out _).trans (((cell_far (p := ⟨gb920, _, none⟩) NB926_920.out _).trans (((cell_far (p := ⟨gb920, _, none⟩) NB926_920.out _).trans (((cell_far (p := ⟨gb920, _, none⟩) NB926_920.out _).trans (hHeld.2.2.2.2.1)))))))))))))))))), ((cell_far (p := ⟨gb920, _, none⟩) NB926_920.out _).trans (((cell_far (p := ⟨gb920, _, none⟩) NB926_920.out _).trans (((cell_far (p := ⟨gb920, _, none⟩) NB926_920.out _).trans (((cell_far (p := ⟨gb920, _, none⟩) NB926_920.out _).trans (((cell_far (p := ⟨gb920, _, none⟩) NB926_920.out _).trans (((cell_far (p := ⟨gb920, _, none⟩) NB926_920.out _).trans (((cell_far (p := ⟨gb920, _, none⟩) NB926_920.out _).trans (((cell_far (p := ⟨gb920, _, none⟩) NB926_920.out _).trans (((cell_far (p := ⟨gb920, _, none⟩) NB926_920.out _).trans (hHeld.2.2.2.2.2))))))))))))))))))⟩ (fun hHeld => ?_)
       clear hK K
       refine pr_ 18 (some 5) ?_
       refine done_ (done_of HT_.out (by kernel_rfl)) ?_
       (try clear hms52_3 hms52_2 hms52_0 hns52_3 hns52_2 hns52_0 hfs52 hs52 hms51_3 hms51_2 hms51_0 hns51_3 hns51_2 hns51_0 hfs51 hs51 hms50_3 hms50_2 hms50_0 hns50_3 hns50_2 hns50_0 hfs50 hs50 hms49_3 hms49_2 hms49_0 hns49_3 hns49_2 hns49_0 hfs49 hs49 hms48_3 hms48_2 hms48_0 hns48_3 hns48_2 hns48_0 hfs48 hs48 hms47_3 hms47_2 hms47_0 hns47_3 hns47_2 hns47_0 hfs47 hs47 hms46_3 hms46_2 hms46_0 hns46_3 hns46_2 hns46_0 hfs46 hs46 hms45_3 hms45_2 hms45_0 hns45_3 hns45_2 hns45_0 hfs45 hs45 hms44_3 hms44_2 hms44_0 hns44_3 hns44_2 hns44_0 hfs44 hs44)
       have n0_ : Aside0 ((((((((((w43.setCell ⟨gb920, 0, none⟩ (.bool t927)).setCell ⟨gb920, 1, none⟩ (.string t928)).setCell ⟨gb920, 2, none⟩ (.string t929)).setCell ⟨gb920, 3, none⟩ (.string t923)).setCell ⟨gb920, 4, none⟩ (.int .i64 (t924.size : Int))).setCell ⟨gb920, 5, none⟩ (.int .i64 (t929.size : Int))).setCell ⟨gb920, 6, none⟩ (.string t932)).setCell ⟨gb920, 7, none⟩ (.string t933)).setCell ⟨gb920, 8, none⟩ (.int .i64 a1)).heap[gb919]? = some (.cells #[.bool a0_0, .string a0_1, .string a0_2] 23 (0, 0))) := ⟨by refine far3_ ?_ NB919_920.out; refine far3_ ?_ NB919_920.out; refine far3_ ?_ NB919_920.out; exact BK919.out⟩
       have n1_ : Aside0 ((((((((((w43.setCell ⟨gb920, 0, none⟩ (.bool t927)).setCell ⟨gb920, 1, none⟩ (.string t928)).setCell ⟨gb920, 2, none⟩ (.string t929)).setCell ⟨gb920, 3, none⟩ (.string t923)).setCell ⟨gb920, 4, none⟩ (.int .i64 (t924.size : Int))).setCell ⟨gb920, 5, none⟩ (.int .i64 (t929.size : Int))).setCell ⟨gb920, 6, none⟩ (.string t932)).setCell ⟨gb920, 7, none⟩ (.string t933)).setCell ⟨gb920, 8, none⟩ (.int .i64 a1)).heap[gb920]? = some (.cells #[.bool t927, .string t928, .string t929, .string t923, .int .i64 (t924.size : Int), .int .i64 (t929.size : Int), .string t932, .string t933, .int .i64 a1] 45 (0, 0))) := ⟨by refine put9_ (cs := #[.bool false, .string (⟨#[]⟩ : ByteArray), .string (⟨#[]⟩ : ByteArray), .string (⟨#[]⟩ : ByteArray), .int .i64 0, .int .i64 0, .string (⟨#[]⟩ : ByteArray), .string (⟨#[]⟩ : ByteArray), .int .i64 0]) ?_; exact BK920.out⟩
       have n2_ : Aside0 ((((((((((w43.setCell ⟨gb920, 0, none⟩ (.bool t927)).setCell ⟨gb920, 1, none⟩ (.string t928)).setCell ⟨gb920, 2, none⟩ (.string t929)).setCell ⟨gb920, 3, none⟩ (.string t923)).setCell ⟨gb920, 4, none⟩ (.int .i64 (t924.size : Int))).setCell ⟨gb920, 5, none⟩ (.int .i64 (t929.size : Int))).setCell ⟨gb920, 6, none⟩ (.string t932)).setCell ⟨gb920, 7, none⟩ (.string t933)).setCell ⟨gb920, 8, none⟩ (.int .i64 a1)).heap[gb926]? = some (.cells #[.bool false, .string t923, .string t924] 23 (0, 0))) := ⟨by refine far3_ ?_ NB926_920.out; refine far3_ ?_ NB926_920.out; refine far3_ ?_ NB926_920.out; exact BK926.out⟩
       have n3_ : Aside0 ((((((((((w43.setCell ⟨gb920, 0, none⟩ (.bool t927)).setCell ⟨gb920, 1, none⟩ (.string t928)).setCell ⟨gb920, 2, none⟩ (.string t929)).setCell ⟨gb920, 3, none⟩ (.string t923)).setCell ⟨gb920, 4, none⟩ (.int .i64 (t924.size : Int))).setCell ⟨gb920, 5, none⟩ (.int .i64 (t929.size : Int))).setCell ⟨gb920, 6, none⟩ (.string t932)).setCell ⟨gb920, 7, none⟩ (.string t933)).setCell ⟨gb920, 8, none⟩ (.int .i64 a1)).heap[gb931]? = some (.cells #[.bool t927, .string t928, .string t929] 23 (0, 0))) := ⟨by refine far3_ ?_ NB931_920.out; refine far3_ ?_ NB931_920.out; refine far3_ ?_ NB931_920.out; exact BK931.out⟩
       have n4_ : Aside0 (Below w.heap.size w (((((((((w43.setCell ⟨gb920, 0, none⟩ (.bool t927)).setCell ⟨gb920, 1, none⟩ (.string t928)).setCell ⟨gb920, 2, none⟩ (.string t929)).setCell ⟨gb920, 3, none⟩ (.string t923)).setCell ⟨gb920, 4, none⟩ (.int .i64 (t924.size : Int))).setCell ⟨gb920, 5, none⟩ (.int .i64 (t929.size : Int))).setCell ⟨gb920, 6, none⟩ (.string t932)).setCell ⟨gb920, 7, none⟩ (.string t933)).setCell ⟨gb920, 8, none⟩ (.int .i64 a1))) := ⟨hb_⟩
       (try clear BK919)
       (try clear BK920)
       (try clear BK926)
       (try clear BK931)
       (try clear HB)
       generalize (((((((((w43.setCell ⟨gb920, 0, none⟩ (.bool t927)).setCell ⟨gb920, 1, none⟩ (.string t928)).setCell ⟨gb920, 2, none⟩ (.string t929)).setCell ⟨gb920, 3, none⟩ (.string t923)).setCell ⟨gb920, 4, none⟩ (.int .i64 (t924.size : Int))).setCell ⟨gb920, 5, none⟩ (.int .i64 (t929.size : Int))).setCell ⟨gb920, 6, none⟩ (.string t932)).setCell ⟨gb920, 7, none⟩ (.string t933)).setCell ⟨gb920, 8, none⟩ (.int .i64 a1)) = w53 at n0_ n1_ n2_ n3_ n4_ ⊢
       have BK919 := n0_
       have BK920 := n1_
       have BK926 := n2_
       have BK931 := n3_
       have HB := n4_
       clear n0_ n1_ n2_ n3_ n4_
       try go_wp2
       refine bodyPost_ret (results_ct rfl _ _ gb920 45 #[.bool t927, .string t928, .string t929, .string t923, .int .i64 (t924.size : Int), .int .i64 (t929.size : Int), .string t932, .string t933, .int .i64 a1] (0, 0) _ rfl BK920.out Tryd.underlying45 rfl (by kernel_rfl)) rfl ?_
       exact fin_
      ·rw [if_neg c37] at H
       have c37b0 : (t930 == 0) = false := beq_eq_false_iff_ne.mpr c37
       have c37b1 : (t930 != 0) = true := bne_iff_ne.mpr c37
       (first | rw [c37b0] | (simp only [i64_w, i32_w]; rw [c37b0]) | rw [c37b1] | skip)
       simp only [Option.some.injEq, Prod.mk.injEq] at H
       obtain ⟨rfl, rfl, rfl, rfl, rfl, rfl, rfl, rfl, rfl, rfl⟩ := H
       have hnb54 := NB920_919.out
       have hnc54 := NB919_920.out
       have hnb55 := NB920_926.out
       have hnc55 := NB926_920.out
       have hnb56 := NB920_931.out
       have hnc56 := NB931_920.out
       obtain ⟨hcz57_0, hcz57_1, hcz57_2, hcz57_3, hcz57_4, hcz57_5, hcz57_6, hcz57_7, hcz57_8, hfz57_0, hfz57_1, hfz57_2, hfz57_3, hfz57_4, hfz57_5, hfz57_6, hfz57_7, hfz57_8⟩ := BK920.c9
       go_wp2
       refine bodyPost_ret (results_ct rfl _ _ gb920 45 #[.bool false, .string (⟨#[]⟩ : ByteArray), .string (⟨#[]⟩ : ByteArray), .string (⟨#[]⟩ : ByteArray), .int .i64 0, .int .i64 0, .string (⟨#[]⟩ : ByteArray), .string (⟨#[]⟩ : ByteArray), .int .i64 0] (0, 0) _ rfl (by refine put9_ (cs := #[.bool false, .string (⟨#[]⟩ : ByteArray), .string (⟨#[]⟩ : ByteArray), .string (⟨#[]⟩ : ByteArray), .int .i64 0, .int .i64 0, .string (⟨#[]⟩ : ByteArray), .string (⟨#[]⟩ : ByteArray), .int .i64 0]) ?_; refine far3_ ?_ NB920_931.out; exact BK920.out) Tryd.underlying45 rfl (by kernel_rfl)) rfl ?_
       exact fin_
     ·rw [if_neg c25] at H
      have c25b0 : (t925 == 0) = false := beq_eq_false_iff_ne.mpr c25
      have c25b1 : (t925 != 0) = true := bne_iff_ne.mpr c25
      (first | rw [c25b0] | (simp only [i64_w, i32_w]; rw [c25b0]) | rw [c25b1] | skip)
      simp only [Option.some.injEq, Prod.mk.injEq] at H
      obtain ⟨rfl, rfl, rfl, rfl, rfl, rfl, rfl, rfl, rfl, rfl⟩ := H
      have hnb58 := NB920_919.out
      have hnc58 := NB919_920.out
      have hnb59 := NB920_926.out
      have hnc59 := NB926_920.out
      obtain ⟨hcz60_0, hcz60_1, hcz60_2, hcz60_3, hcz60_4, hcz60_5, hcz60_6, hcz60_7, hcz60_8, hfz60_0, hfz60_1, hfz60_2, hfz60_3, hfz60_4, hfz60_5, hfz60_6, hfz60_7, hfz60_8⟩ := BK920.c9
      go_wp2
      refine bodyPost_ret (results_ct rfl _ _ gb920 45 #[.bool false, .string (⟨#[]⟩ : ByteArray), .string (⟨#[]⟩ : ByteArray), .string (⟨#[]⟩ : ByteArray), .int .i64 0, .int .i64 0, .string (⟨#[]⟩ : ByteArray), .string (⟨#[]⟩ : ByteArray), .int .i64 0] (0, 0) _ rfl (by refine put9_ (cs := #[.bool false, .string (⟨#[]⟩ : ByteArray), .string (⟨#[]⟩ : ByteArray), .string (⟨#[]⟩ : ByteArray), .int .i64 0, .int .i64 0, .string (⟨#[]⟩ : ByteArray), .string (⟨#[]⟩ : ByteArray), .int .i64 0]) ?_; refine far3_ ?_ NB920_926.out; exact BK920.out) Tryd.underlying45 rfl (by kernel_rfl)) rfl ?_
      exact fin_
 ·rw [if_neg c10] at H
  have c10b0 : (t921 == 0) = false := beq_eq_false_iff_ne.mpr c10
  have c10b1 : (t921 != 0) = true := bne_iff_ne.mpr c10
  (first | rw [c10b0] | (simp only [i64_w, i32_w]; rw [c10b0]) | rw [c10b1] | skip)
  simp only [Option.some.injEq, Prod.mk.injEq] at H
  obtain ⟨rfl, rfl, rfl, rfl, rfl, rfl, rfl, rfl, rfl, rfl⟩ := H
  have hnb61 := NB920_919.out
  have hnc61 := NB919_920.out
  obtain ⟨hcz62_0, hcz62_1, hcz62_2, hcz62_3, hcz62_4, hcz62_5, hcz62_6, hcz62_7, hcz62_8, hfz62_0, hfz62_1, hfz62_2, hfz62_3, hfz62_4, hfz62_5, hfz62_6, hfz62_7, hfz62_8⟩ := BK920.c9
  go_wp2
  refine bodyPost_ret (results_ct rfl _ _ gb920 45 #[.bool false, .string (⟨#[]⟩ : ByteArray), .string (⟨#[]⟩ : ByteArray), .string (⟨#[]⟩ : ByteArray), .int .i64 0, .int .i64 0, .string (⟨#[]⟩ : ByteArray), .string (⟨#[]⟩ : ByteArray), .int .i64 0] (0, 0) _ rfl (by refine put9_ (cs := #[.bool false, .string (⟨#[]⟩ : ByteArray), .string (⟨#[]⟩ : ByteArray), .string (⟨#[]⟩ : ByteArray), .int .i64 0, .int .i64 0, .string (⟨#[]⟩ : ByteArray), .string (⟨#[]⟩ : ByteArray), .int .i64 0]) ?_; exact BK920.out) Tryd.underlying45 rfl (by kernel_rfl)) rfl ?_
  exact fin_
attribute [local go_sem] max2_int max_two
set_option linter.unusedVariables false
set_option linter.unusedSimpArgs false
def operand_get.f (a0_0 : Bool) (a0_1 : ByteArray) (a0_2 : ByteArray) (a0_3 : ByteArray) (a0_4 : Int) (a0_5 : Int) (a0_6 : ByteArray) (a0_7 : ByteArray) (a0_8 : Int) (a1 : ByteArray) : Option (Bool × ByteArray × ByteArray × Bool) := if a1.toList = ([110] : List UInt8) then (some (a0_0, a0_1, a0_2, true)) else (if a1.toList = ([105] : List UInt8) then (some (false, a0_3, (⟨#[]⟩ : ByteArray), true)) else (if a1.toList = ([102] : List UInt8) then (some (false, a0_6, (⟨#[]⟩ : ByteArray), true)) else (if a1.toList = ([116] : List UInt8) then (some (false, a0_7, (⟨#[]⟩ : ByteArray), true)) else (if a1.toList = ([118] : List UInt8) then ((strconv_Itoa.f a0_4).bind fun t996 => (some (false, t996, (⟨#[]⟩ : ByteArray), true))) else (if a1.toList = ([119] : List UInt8) then ((strconv_Itoa.f a0_5).bind fun t997 => (some (false, t997, (⟨#[]⟩ : ByteArray), true))) else (if a1.toList = ([99] : List UInt8) then ((strconv_Itoa.f a0_8).bind fun t998 => (some (false, t998, (⟨#[]⟩ : ByteArray), true))) else (if a1.toList = ([101] : List UInt8) then ((strconv_Itoa.f a0_8).bind fun t999 => (some (false, t999, (⟨#[]⟩ : ByteArray), true))) else (some (false, (⟨#[]⟩ : ByteArray), (⟨#[]⟩ : ByteArray), false)))))))))
set_option maxHeartbeats 8000000 in
set_option maxRecDepth 100000 in
theorem operand_get.calls (a0_0 : Bool) (a0_1 : ByteArray) (a0_2 : ByteArray) (a0_3 : ByteArray) (a0_4 : Int) (a0_5 : Int) (a0_6 : ByteArray) (a0_7 : ByteArray) (a0_8 : Int) (a1 : ByteArray) (r1 : Bool) (r2 : ByteArray) (r3 : ByteArray) (r4 : Bool) (w : World) (ht : TB w) (h : operand_get.f a0_0 a0_1 a0_2 a0_3 a0_4 a0_5 a0_6 a0_7 a0_8 a1 = some (r1, r2, r3, r4)) :
    Calls Tryd.prog 113 #[.agg #[.bool a0_0, .string a0_1, .string a0_2, .string a0_3, .int .i64 a0_4, .int .i64 a0_5, .string a0_6, .string a0_7, .int .i64 a0_8], .string a1] w fun e w' => e = .returned (.tuple #[.agg #[.bool r1, .string r2, .string r3], .bool r4]) ∧ Below w.heap.size w w' := by
 have hu45 := Tryd.underlying45
 have hu23 := Tryd.underlying23
 have HTB := Aside0.mk ht
 clear ht
 have HB := Aside0.mk (Below.refl w.heap.size w)
 unfold operand_get.f at h
 have H := h
 clear h
 have HF3 := Aside0.mk H
 clear H
 go_enter Tryd.func113, Tryd.ntmps113
 go_upto_if 7 with (first | ((with_reducible refine gate_dst (N := 2) rfl ?_); refine bx_ #[.bool a0_0, .string a0_1, .string a0_2, .string a0_3, .int .i64 a0_4, .int .i64 a0_5, .string a0_6, .string a0_7, .int .i64 a0_8] 45 ?_; intro gb994 hg w4 hbox hb; have BK994 := Aside0.mk (hbox); have GW994 := ge_ (w := w) hg; have GE994 := ge_ (w := w) hg; replace HB := Aside0.mk (below_step hb_ hb); clear hb hbox hg) | ((with_reducible refine gate_dst (N := 4) rfl ?_); refine bx_ #[.bool false, .string (⟨#[]⟩ : ByteArray), .string (⟨#[]⟩ : ByteArray)] 23 ?_; intro gb995 hg w5 hbox hb; have BK995 := Aside0.mk (hbox); have GW995 := ge_ (w := w) hg; have GE995 := ge_ (w := w) hg; have NB994_995 := BK994.nl hg; have NB995_994 := BK994.ng hg; replace BK994 := BK994.bl hb; replace HB := Aside0.mk (below_step hb_ hb); clear hb hbox hg))
 (try simp only [Act.put, List.setIfInBounds_toArray, List.set_cons_zero, List.set_cons_succ])
 have H := HF3.out
 clear HF3
 by_cases c6 : a1.toList = ([110] : List UInt8)
 ·rw [if_pos c6] at H
  have c6b0 : (a1.toList == ([110] : List UInt8)) = true := beq_iff_eq.mpr c6
  have c6b1 : (a1.toList != ([110] : List UInt8)) = false := bne_eq_false_iff_eq.mpr c6
  clear c6
  (first | rw [c6b0] | (simp only [i64_w, i32_w]; rw [c6b0]) | rw [c6b1] | skip)
  simp only [Option.some.injEq, Prod.mk.injEq] at H
  obtain ⟨rfl, rfl, rfl, rfl⟩ := H
  have hnb7 := NB994_995.out
  have hnc7 := NB995_994.out
  obtain ⟨hcz8_0, hcz8_1, hcz8_2, hcz8_3, hcz8_4, hcz8_5, hcz8_6, hcz8_7, hcz8_8, hfz8_0, hfz8_1, hfz8_2, hfz8_3, hfz8_4, hfz8_5, hfz8_6, hfz8_7, hfz8_8⟩ := BK994.c9
  obtain ⟨hcz9_0, hcz9_1, hcz9_2, hfz9_0, hfz9_1, hfz9_2⟩ := BK995.c3
  go_wp2
  refine bodyPost_ret (results_ct rfl _ _ gb995 23 #[.bool a0_0, .string a0_1, .string a0_2] (0, 0) _ rfl (by refine put3_ (cs := #[.bool false, .string (⟨#[]⟩ : ByteArray), .string (⟨#[]⟩ : ByteArray)]) ?_; exact BK995.out) Tryd.underlying23 rfl (by kernel_rfl)) rfl ?_
  exact fin_
 ·rw [if_neg c6] at H
  have c6b0 : (a1.toList == ([110] : List UInt8)) = false := beq_eq_false_iff_ne.mpr c6
  have c6b1 : (a1.toList != ([110] : List UInt8)) = true := bne_iff_ne.mpr c6
  (first | rw [c6b0] | (simp only [i64_w, i32_w]; rw [c6b0]) | rw [c6b1] | skip)
  by_cases c10 : a1.toList = ([105] : List UInt8)
  ·rw [if_pos c10] at H
   have c10b0 : (a1.toList == ([105] : List UInt8)) = true := beq_iff_eq.mpr c10
   have c10b1 : (a1.toList != ([105] : List UInt8)) = false := bne_eq_false_iff_eq.mpr c10
   clear c10
   simp only [Option.some.injEq, Prod.mk.injEq] at H
   obtain ⟨rfl, rfl, rfl, rfl⟩ := H
   have hnb11 := NB994_995.out
   have hnc11 := NB995_994.out
   obtain ⟨hcz12_0, hcz12_1, hcz12_2, hcz12_3, hcz12_4, hcz12_5, hcz12_6, hcz12_7, hcz12_8, hfz12_0, hfz12_1, hfz12_2, hfz12_3, hfz12_4, hfz12_5, hfz12_6, hfz12_7, hfz12_8⟩ := BK994.c9
   obtain ⟨hcz13_0, hcz13_1, hcz13_2, hfz13_0, hfz13_1, hfz13_2⟩ := BK995.c3
   go_wp2
   refine bodyPost_ret (results_ct rfl _ _ gb995 23 #[.bool false, .string a0_3, .string (⟨#[]⟩ : ByteArray)] (0, 0) _ rfl (by refine put3_ (cs := #[.bool false, .string (⟨#[]⟩ : ByteArray), .string (⟨#[]⟩ : ByteArray)]) ?_; exact BK995.out) Tryd.underlying23 rfl (by kernel_rfl)) rfl ?_
   exact fin_
  ·rw [if_neg c10] at H
   have c10b0 : (a1.toList == ([105] : List UInt8)) = false := beq_eq_false_iff_ne.mpr c10
   have c10b1 : (a1.toList != ([105] : List UInt8)) = true := bne_iff_ne.mpr c10
   by_cases c14 : a1.toList = ([102] : List UInt8)
   ·rw [if_pos c14] at H
    have c14b0 : (a1.toList == ([102] : List UInt8)) = true := beq_iff_eq.mpr c14
    have c14b1 : (a1.toList != ([102] : List UInt8)) = false := bne_eq_false_iff_eq.mpr c14
    clear c14
    simp only [Option.some.injEq, Prod.mk.injEq] at H
    obtain ⟨rfl, rfl, rfl, rfl⟩ := H
    have hnb15 := NB994_995.out
    have hnc15 := NB995_994.out
    obtain ⟨hcz16_0, hcz16_1, hcz16_2, hcz16_3, hcz16_4, hcz16_5, hcz16_6, hcz16_7, hcz16_8, hfz16_0, hfz16_1, hfz16_2, hfz16_3, hfz16_4, hfz16_5, hfz16_6, hfz16_7, hfz16_8⟩ := BK994.c9
    obtain ⟨hcz17_0, hcz17_1, hcz17_2, hfz17_0, hfz17_1, hfz17_2⟩ := BK995.c3
    go_wp2
    refine bodyPost_ret (results_ct rfl _ _ gb995 23 #[.bool false, .string a0_6, .string (⟨#[]⟩ : ByteArray)] (0, 0) _ rfl (by refine put3_ (cs := #[.bool false, .string (⟨#[]⟩ : ByteArray), .string (⟨#[]⟩ : ByteArray)]) ?_; exact BK995.out) Tryd.underlying23 rfl (by kernel_rfl)) rfl ?_
    exact fin_
   ·rw [if_neg c14] at H
    have c14b0 : (a1.toList == ([102] : List UInt8)) = false := beq_eq_false_iff_ne.mpr c14
    have c14b1 : (a1.toList != ([102] : List UInt8)) = true := bne_iff_ne.mpr c14
    by_cases c18 : a1.toList = ([116] : List UInt8)
    ·rw [if_pos c18] at H
     have c18b0 : (a1.toList == ([116] : List UInt8)) = true := beq_iff_eq.mpr c18
     have c18b1 : (a1.toList != ([116] : List UInt8)) = false := bne_eq_false_iff_eq.mpr c18
     clear c18
     simp only [Option.some.injEq, Prod.mk.injEq] at H
     obtain ⟨rfl, rfl, rfl, rfl⟩ := H
     have hnb19 := NB994_995.out
     have hnc19 := NB995_994.out
     obtain ⟨hcz20_0, hcz20_1, hcz20_2, hcz20_3, hcz20_4, hcz20_5, hcz20_6, hcz20_7, hcz20_8, hfz20_0, hfz20_1, hfz20_2, hfz20_3, hfz20_4, hfz20_5, hfz20_6, hfz20_7, hfz20_8⟩ := BK994.c9
     obtain ⟨hcz21_0, hcz21_1, hcz21_2, hfz21_0, hfz21_1, hfz21_2⟩ := BK995.c3
     go_wp2
     refine bodyPost_ret (results_ct rfl _ _ gb995 23 #[.bool false, .string a0_7, .string (⟨#[]⟩ : ByteArray)] (0, 0) _ rfl (by refine put3_ (cs := #[.bool false, .string (⟨#[]⟩ : ByteArray), .string (⟨#[]⟩ : ByteArray)]) ?_; exact BK995.out) Tryd.underlying23 rfl (by kernel_rfl)) rfl ?_
     exact fin_
    ·rw [if_neg c18] at H
     have c18b0 : (a1.toList == ([116] : List UInt8)) = false := beq_eq_false_iff_ne.mpr c18
     have c18b1 : (a1.toList != ([116] : List UInt8)) = true := bne_iff_ne.mpr c18
     by_cases c22 : a1.toList = ([118] : List UInt8)
     ·rw [if_pos c22] at H
      have c22b0 : (a1.toList == ([118] : List UInt8)) = true := beq_iff_eq.mpr c22
      have c22b1 : (a1.toList != ([118] : List UInt8)) = false := bne_eq_false_iff_eq.mpr c22
      clear c22
      replace H := Option.bind_eq_some_iff.mp H
      obtain ⟨t996, A230, H⟩ := H
      try dsimp only at H
      have A23 := Aside0.mk A230
      clear A230
      simp only [Option.some.injEq, Prod.mk.injEq] at H
      obtain ⟨rfl, rfl, rfl, rfl⟩ := H
      have hnb24 := NB994_995.out
      have hnc24 := NB995_994.out
      obtain ⟨hcz25_0, hcz25_1, hcz25_2, hcz25_3, hcz25_4, hcz25_5, hcz25_6, hcz25_7, hcz25_8, hfz25_0, hfz25_1, hfz25_2, hfz25_3, hfz25_4, hfz25_5, hfz25_6, hfz25_7, hfz25_8⟩ := BK994.c9
      go_wp2_with (first | ((with_reducible refine gate_callee (f := 128) rfl ?_); refine gL_ (some 36) Tryd.func128 #[.int .i64 a0_4] ?_; (with_reducible refine (strconv_Itoa.calls a0_4 t996 _ (TB.below HTB.out hb_) A23.out).mono ?_); rintro e w26 ⟨rfl, hb⟩; refine ⟨_, rfl, ?_⟩; replace BK994 := BK994.bl hb; replace BK995 := BK995.bl hb; replace HB := Aside0.mk (below_step hb_ hb); obtain ⟨hcz27_0, hcz27_1, hcz27_2, hfz27_0, hfz27_1, hfz27_2⟩ := BK995.c3))
      refine bodyPost_ret (results_ct rfl _ _ gb995 23 #[.bool false, .string t996, .string (⟨#[]⟩ : ByteArray)] (0, 0) _ rfl (by refine put3_ (cs := #[.bool false, .string (⟨#[]⟩ : ByteArray), .string (⟨#[]⟩ : ByteArray)]) ?_; exact BK995.out) Tryd.underlying23 rfl (by kernel_rfl)) rfl ?_
      exact fin_
     ·rw [if_neg c22] at H
      have c22b0 : (a1.toList == ([118] : List UInt8)) = false := beq_eq_false_iff_ne.mpr c22
      have c22b1 : (a1.toList != ([118] : List UInt8)) = true := bne_iff_ne.mpr c22
      by_cases c28 : a1.toList = ([119] : List UInt8)
      ·rw [if_pos c28] at H
       have c28b0 : (a1.toList == ([119] : List UInt8)) = true := beq_iff_eq.mpr c28
       have c28b1 : (a1.toList != ([119] : List UInt8)) = false := bne_eq_false_iff_eq.mpr c28
       clear c28
       replace H := Option.bind_eq_some_iff.mp H
       obtain ⟨t997, A290, H⟩ := H
       try dsimp only at H
       have A29 := Aside0.mk A290
       clear A290
       simp only [Option.some.injEq, Prod.mk.injEq] at H
       obtain ⟨rfl, rfl, rfl, rfl⟩ := H
       have hnb30 := NB994_995.out
       have hnc30 := NB995_994.out
       obtain ⟨hcz31_0, hcz31_1, hcz31_2, hcz31_3, hcz31_4, hcz31_5, hcz31_6, hcz31_7, hcz31_8, hfz31_0, hfz31_1, hfz31_2, hfz31_3, hfz31_4, hfz31_5, hfz31_6, hfz31_7, hfz31_8⟩ := BK994.c9
       go_wp2_with (first | ((with_reducible refine gate_callee (f := 128) rfl ?_); refine gL_ (some 40) Tryd.func128 #[.int .i64 a0_5] ?_; (with_reducible refine (strconv_Itoa.calls a0_5 t997 _ (TB.below HTB.out hb_) A29.out).mono ?_); rintro e w32 ⟨rfl, hb⟩; refine ⟨_, rfl, ?_⟩; replace BK994 := BK994.bl hb; replace BK995 := BK995.bl hb; replace HB := Aside0.mk (below_step hb_ hb); obtain ⟨hcz33_0, hcz33_1, hcz33_2, hfz33_0, hfz33_1, hfz33_2⟩ := BK995.c3))
       refine bodyPost_ret (results_ct rfl _ _ gb995 23 #[.bool false, .string t997, .string (⟨#[]⟩ : ByteArray)] (0, 0) _ rfl (by refine put3_ (cs := #[.bool false, .string (⟨#[]⟩ : ByteArray), .string (⟨#[]⟩ : ByteArray)]) ?_; exact BK995.out) Tryd.underlying23 rfl (by kernel_rfl)) rfl ?_
       exact fin_
      ·rw [if_neg c28] at H
       have c28b0 : (a1.toList == ([119] : List UInt8)) = false := beq_eq_false_iff_ne.mpr c28
       have c28b1 : (a1.toList != ([119] : List UInt8)) = true := bne_iff_ne.mpr c28
       by_cases c34 : a1.toList = ([99] : List UInt8)
       ·rw [if_pos c34] at H
        have c34b0 : (a1.toList == ([99] : List UInt8)) = true := beq_iff_eq.mpr c34
        have c34b1 : (a1.toList != ([99] : List UInt8)) = false := bne_eq_false_iff_eq.mpr c34
        clear c34
        replace H := Option.bind_eq_some_iff.mp H
        obtain ⟨t998, A350, H⟩ := H
        try dsimp only at H
        have A35 := Aside0.mk A350
        clear A350
        simp only [Option.some.injEq, Prod.mk.injEq] at H
        obtain ⟨rfl, rfl, rfl, rfl⟩ := H
        have hnb36 := NB994_995.out
        have hnc36 := NB995_994.out
        obtain ⟨hcz37_0, hcz37_1, hcz37_2, hcz37_3, hcz37_4, hcz37_5, hcz37_6, hcz37_7, hcz37_8, hfz37_0, hfz37_1, hfz37_2, hfz37_3, hfz37_4, hfz37_5, hfz37_6, hfz37_7, hfz37_8⟩ := BK994.c9
        go_wp2_with (first | ((with_reducible refine gate_callee (f := 128) rfl ?_); refine gL_ (some 44) Tryd.func128 #[.int .i64 a0_8] ?_; (with_reducible refine (strconv_Itoa.calls a0_8 t998 _ (TB.below HTB.out hb_) A35.out).mono ?_); rintro e w38 ⟨rfl, hb⟩; refine ⟨_, rfl, ?_⟩; replace BK994 := BK994.bl hb; replace BK995 := BK995.bl hb; replace HB := Aside0.mk (below_step hb_ hb); obtain ⟨hcz39_0, hcz39_1, hcz39_2, hfz39_0, hfz39_1, hfz39_2⟩ := BK995.c3))
        refine bodyPost_ret (results_ct rfl _ _ gb995 23 #[.bool false, .string t998, .string (⟨#[]⟩ : ByteArray)] (0, 0) _ rfl (by refine put3_ (cs := #[.bool false, .string (⟨#[]⟩ : ByteArray), .string (⟨#[]⟩ : ByteArray)]) ?_; exact BK995.out) Tryd.underlying23 rfl (by kernel_rfl)) rfl ?_
        exact fin_
       ·rw [if_neg c34] at H
        have c34b0 : (a1.toList == ([99] : List UInt8)) = false := beq_eq_false_iff_ne.mpr c34
        have c34b1 : (a1.toList != ([99] : List UInt8)) = true := bne_iff_ne.mpr c34
        by_cases c40 : a1.toList = ([101] : List UInt8)
        ·rw [if_pos c40] at H
         have c40b0 : (a1.toList == ([101] : List UInt8)) = true := beq_iff_eq.mpr c40
         have c40b1 : (a1.toList != ([101] : List UInt8)) = false := bne_eq_false_iff_eq.mpr c40
         clear c40
         replace H := Option.bind_eq_some_iff.mp H
         obtain ⟨t999, A410, H⟩ := H
         try dsimp only at H
         have A41 := Aside0.mk A410
         clear A410
         simp only [Option.some.injEq, Prod.mk.injEq] at H
         obtain ⟨rfl, rfl, rfl, rfl⟩ := H
         have hnb42 := NB994_995.out
         have hnc42 := NB995_994.out
         obtain ⟨hcz43_0, hcz43_1, hcz43_2, hcz43_3, hcz43_4, hcz43_5, hcz43_6, hcz43_7, hcz43_8, hfz43_0, hfz43_1, hfz43_2, hfz43_3, hfz43_4, hfz43_5, hfz43_6, hfz43_7, hfz43_8⟩ := BK994.c9
         go_wp2_with (first | ((with_reducible refine gate_callee (f := 128) rfl ?_); refine gL_ (some 44) Tryd.func128 #[.int .i64 a0_8] ?_; (with_reducible refine (strconv_Itoa.calls a0_8 t999 _ (TB.below HTB.out hb_) A41.out).mono ?_); rintro e w44 ⟨rfl, hb⟩; refine ⟨_, rfl, ?_⟩; replace BK994 := BK994.bl hb; replace BK995 := BK995.bl hb; replace HB := Aside0.mk (below_step hb_ hb); obtain ⟨hcz45_0, hcz45_1, hcz45_2, hfz45_0, hfz45_1, hfz45_2⟩ := BK995.c3))
         refine bodyPost_ret (results_ct rfl _ _ gb995 23 #[.bool false, .string t999, .string (⟨#[]⟩ : ByteArray)] (0, 0) _ rfl (by refine put3_ (cs := #[.bool false, .string (⟨#[]⟩ : ByteArray), .string (⟨#[]⟩ : ByteArray)]) ?_; exact BK995.out) Tryd.underlying23 rfl (by kernel_rfl)) rfl ?_
         exact fin_
        ·rw [if_neg c40] at H
         have c40b0 : (a1.toList == ([101] : List UInt8)) = false := beq_eq_false_iff_ne.mpr c40
         have c40b1 : (a1.toList != ([101] : List UInt8)) = true := bne_iff_ne.mpr c40
         simp only [Option.some.injEq, Prod.mk.injEq] at H
         obtain ⟨rfl, rfl, rfl, rfl⟩ := H
         have hnb46 := NB995_994.out
         have hnc46 := NB994_995.out
         obtain ⟨hcz47_0, hcz47_1, hcz47_2, hfz47_0, hfz47_1, hfz47_2⟩ := BK995.c3
         go_wp2
         refine bodyPost_ret (results_ct rfl _ _ gb995 23 #[.bool false, .string (⟨#[]⟩ : ByteArray), .string (⟨#[]⟩ : ByteArray)] (0, 0) _ rfl (by refine put3_ (cs := #[.bool false, .string (⟨#[]⟩ : ByteArray), .string (⟨#[]⟩ : ByteArray)]) ?_; exact BK995.out) Tryd.underlying23 rfl (by kernel_rfl)) rfl ?_
         exact fin_
attribute [local go_sem] max2_int max_two
set_option linter.unusedVariables false
set_option linter.unusedSimpArgs false
def operand_Get.f (k : Nat) (a0_0 : Bool) (a0_1 : ByteArray) (a0_2 : ByteArray) (a0_3 : ByteArray) (a0_4 : Int) (a0_5 : Int) (a0_6 : ByteArray) (a0_7 : ByteArray) (a0_8 : Int) (a1 : ByteArray) : Option (Bool × ByteArray × ByteArray × Int) := (operand_Check.f k a0_0 a0_1 a0_2 a0_3 a0_4 a0_5 a0_6 a0_7 a0_8).bind fun t1002 => (if t1002 = 0 then ((operand_get.f a0_0 a0_1 a0_2 a0_3 a0_4 a0_5 a0_6 a0_7 a0_8 a1).bind fun bt1003 => (if bt1003.2.2.2 = true then (some (bt1003.1, bt1003.2.1, bt1003.2.2.1, 0)) else (some (false, (⟨#[]⟩ : ByteArray), (⟨#[]⟩ : ByteArray), 40)))) else (some (false, (⟨#[]⟩ : ByteArray), (⟨#[]⟩ : ByteArray), t1002)))
theorem operand_Get.mono : ∀ a0 a1 a2 a3 a4 a5 a6 a7 a8 a9 k, LeO (operand_Get.f k a0 a1 a2 a3 a4 a5 a6 a7 a8 a9) (operand_Get.f (k + 1) a0 a1 a2 a3 a4 a5 a6 a7 a8 a9) := by
 intro a0 a1 a2 a3 a4 a5 a6 a7 a8 a9 k
 unfold operand_Get.f
 repeat' first
   | (with_reducible exact operand_Check.mono _ _ _ _ _ _ _ _ _ _)
   | (with_reducible exact LeO.refl _)
   | (with_reducible exact LeO.none _)
   | (with_reducible refine LeO.ite ?_ ?_)
   | (with_reducible refine LeO.bind ?_ (fun _ => ?_))
   | exact operand_Check.mono _ _ _ _ _ _ _ _ _ _
   | exact LeO.none _
   | refine LeO.ite ?_ ?_
   | refine LeO.bind ?_ (fun _ => ?_)
set_option maxHeartbeats 8000000 in
set_option maxRecDepth 100000 in
theorem operand_Get.calls (k : Nat) (a0_0 : Bool) (a0_1 : ByteArray) (a0_2 : ByteArray) (a0_3 : ByteArray) (a0_4 : Int) (a0_5 : Int) (a0_6 : ByteArray) (a0_7 : ByteArray) (a0_8 : Int) (a1 : ByteArray) (r1 : Bool) (r2 : ByteArray) (r3 : ByteArray) (r4 : Int) (w : World) (ht : TB w) (h : operand_Get.f k a0_0 a0_1 a0_2 a0_3 a0_4 a0_5 a0_6 a0_7 a0_8 a1 = some (r1, r2, r3, r4)) :
    Calls Tryd.prog 85 #[.agg #[.bool a0_0, .string a0_1, .string a0_2, .string a0_3, .int .i64 a0_4, .int .i64 a0_5, .string a0_6, .string a0_7, .int .i64 a0_8], .string a1] w fun e w' => e = .returned (.tuple #[.agg #[.bool r1, .string r2, .string r3], .int .i64 r4]) ∧ Below w.heap.size w w' := by
 have hu45 := Tryd.underlying45
 have hu23 := Tryd.underlying23
 have HTB := Aside0.mk ht
 clear ht
 have HB := Aside0.mk (Below.refl w.heap.size w)
 unfold operand_Get.f at h
 have H := h
 clear h
 replace H := Option.bind_eq_some_iff.mp H
 obtain ⟨t1002, A30, H⟩ := H
 try dsimp only at H
 have A3 := Aside0.mk A30
 clear A30
 have HF4 := Aside0.mk H
 clear H
 go_enter Tryd.func85, Tryd.ntmps85
 go_upto_if 12 with (first | ((with_reducible refine gate_dst (N := 2) rfl ?_); refine bx_ #[.bool a0_0, .string a0_1, .string a0_2, .string a0_3, .int .i64 a0_4, .int .i64 a0_5, .string a0_6, .string a0_7, .int .i64 a0_8] 45 ?_; intro gb1000 hg w5 hbox hb; have BK1000 := Aside0.mk (hbox); have GW1000 := ge_ (w := w) hg; have GE1000 := ge_ (w := w) hg; replace HB := Aside0.mk (below_step hb_ hb); clear hb hbox hg) | ((with_reducible refine gate_dst (N := 4) rfl ?_); refine bx_ #[.bool false, .string (⟨#[]⟩ : ByteArray), .string (⟨#[]⟩ : ByteArray)] 23 ?_; intro gb1001 hg w6 hbox hb; have BK1001 := Aside0.mk (hbox); have GW1001 := ge_ (w := w) hg; have GE1001 := ge_ (w := w) hg; have NB1000_1001 := BK1000.nl hg; have NB1001_1000 := BK1000.ng hg; replace BK1000 := BK1000.bl hb; replace HB := Aside0.mk (below_step hb_ hb); clear hb hbox hg; have hnb7 := NB1000_1001.out; have hnc7 := NB1001_1000.out; obtain ⟨hcz8_0, hcz8_1, hcz8_2, hcz8_3, hcz8_4, hcz8_5, hcz8_6, hcz8_7, hcz8_8, hfz8_0, hfz8_1, hfz8_2, hfz8_3, hfz8_4, hfz8_5, hfz8_6, hfz8_7, hfz8_8⟩ := BK1000.c9) | ((with_reducible refine gate_callee (f := 47) rfl ?_); refine gL_ (some 10) Tryd.func47 #[.agg #[.bool a0_0, .string a0_1, .string a0_2, .string a0_3, .int .i64 a0_4, .int .i64 a0_5, .string a0_6, .string a0_7, .int .i64 a0_8]] ?_; (with_reducible refine (operand_Check.calls k a0_0 a0_1 a0_2 a0_3 a0_4 a0_5 a0_6 a0_7 a0_8 t1002 _ A3.out).mono ?_); rintro e w9 ⟨rfl, hb⟩; refine ⟨_, rfl, ?_⟩; replace BK1000 := BK1000.bl hb; replace BK1001 := BK1001.bl hb; replace HB := Aside0.mk (below_step hb_ hb)))
 (try simp only [Act.put, List.setIfInBounds_toArray, List.set_cons_zero, List.set_cons_succ])
 have H := HF4.out
 clear HF4
 by_cases c10 : t1002 = 0
 ·rw [if_pos c10] at H
  have c10b0 : (t1002 == 0) = true := beq_iff_eq.mpr c10
  have c10b1 : (t1002 != 0) = false := bne_eq_false_iff_eq.mpr c10
  clear c10
  (first | rw [c10b0] | (simp only [i64_w, i32_w]; rw [c10b0]) | rw [c10b1] | skip)
  replace H := Option.bind_eq_some_iff.mp H
  obtain ⟨⟨t1003, t1004, t1005, t1006⟩, A110, H⟩ := H
  try dsimp only at H
  have A11 := Aside0.mk A110
  clear A110
  have HF12 := Aside0.mk H
  clear H
  have hnb13 := NB1000_1001.out
  have hnc13 := NB1001_1000.out
  obtain ⟨hcz14_0, hcz14_1, hcz14_2, hcz14_3, hcz14_4, hcz14_5, hcz14_6, hcz14_7, hcz14_8, hfz14_0, hfz14_1, hfz14_2, hfz14_3, hfz14_4, hfz14_5, hfz14_6, hfz14_7, hfz14_8⟩ := BK1000.c9
  go_upto_if 22 with (first | ((with_reducible refine gate_callee (f := 113) rfl ?_); refine gL_ (some 18) Tryd.func113 #[.agg #[.bool a0_0, .string a0_1, .string a0_2, .string a0_3, .int .i64 a0_4, .int .i64 a0_5, .string a0_6, .string a0_7, .int .i64 a0_8], .string a1] ?_; (with_reducible refine (operand_get.calls a0_0 a0_1 a0_2 a0_3 a0_4 a0_5 a0_6 a0_7 a0_8 a1 t1003 t1004 t1005 t1006 _ (TB.below HTB.out hb_) A11.out).mono ?_); rintro e w15 ⟨rfl, hb⟩; refine ⟨_, rfl, ?_⟩; replace BK1000 := BK1000.bl hb; replace BK1001 := BK1001.bl hb; replace HB := Aside0.mk (below_step hb_ hb)) | ((with_reducible refine gate_dst (N := 7) rfl ?_); refine bx_ #[.bool false, .string (⟨#[]⟩ : ByteArray), .string (⟨#[]⟩ : ByteArray)] 23 ?_; intro gb1007 hg w16 hbox hb; have BK1007 := Aside0.mk (hbox); have GW1007 := ge_ (w := w) hg; have GE1007 := ge_ (w := w) hg; have NB1000_1007 := BK1000.nl hg; have NB1007_1000 := BK1000.ng hg; have NB1001_1007 := BK1001.nl hg; have NB1007_1001 := BK1001.ng hg; replace BK1000 := BK1000.bl hb; replace BK1001 := BK1001.bl hb; replace HB := Aside0.mk (below_step hb_ hb); clear hb hbox hg; have hnb17 := NB1007_1000.out; have hnc17 := NB1000_1007.out; have hnb18 := NB1007_1001.out; have hnc18 := NB1001_1007.out; obtain ⟨hcz19_0, hcz19_1, hcz19_2, hfz19_0, hfz19_1, hfz19_2⟩ := BK1007.c3))
  (try simp only [Act.put, List.setIfInBounds_toArray, List.set_cons_zero, List.set_cons_succ])
  have H := HF12.out
  clear HF12
  by_cases c20 : t1006 = true
  ·subst c20
   have H1 : (some (t1003, t1004, t1005, 0)) = some (r1, r2, r3, r4) := by rw [if_pos rfl] at H; exact H
   clear H
   have H := H1
   clear H1
   simp only [Option.some.injEq, Prod.mk.injEq] at H
   obtain ⟨rfl, rfl, rfl, rfl⟩ := H
   have hnb21 := NB1007_1000.out
   have hnc21 := NB1000_1007.out
   have hnb22 := NB1007_1001.out
   have hnc22 := NB1001_1007.out
   obtain ⟨hcz23_0, hcz23_1, hcz23_2, hfz23_0, hfz23_1, hfz23_2⟩ := BK1007.c3
   have hnb24 := NB1001_1000.out
   have hnc24 := NB1000_1001.out
   obtain ⟨hcz25_0, hcz25_1, hcz25_2, hfz25_0, hfz25_1, hfz25_2⟩ := BK1001.c3
   go_wp2
   refine bodyPost_ret (results_ct rfl _ _ gb1001 23 #[.bool t1003, .string t1004, .string t1005] (0, 0) _ rfl (by refine put3_ (cs := #[.bool false, .string (⟨#[]⟩ : ByteArray), .string (⟨#[]⟩ : ByteArray)]) ?_; refine far3_ ?_ NB1001_1007.out; exact BK1001.out) Tryd.underlying23 rfl (by kernel_rfl)) rfl ?_
   exact fin_
  ·replace c20 := Bool.eq_false_iff.mpr c20
   subst c20
   have H1 : (some (false, (⟨#[]⟩ : ByteArray), (⟨#[]⟩ : ByteArray), 40)) = some (r1, r2, r3, r4) := by rw [if_neg (show ¬ (false = true) by decide)] at H; exact H
   clear H
   have H := H1
   clear H1
   simp only [Option.some.injEq, Prod.mk.injEq] at H
   obtain ⟨rfl, rfl, rfl, rfl⟩ := H
   have hnb26 := NB1001_1000.out
   have hnc26 := NB1000_1001.out
   have hnb27 := NB1001_1007.out
   have hnc27 := NB1007_1001.out
   obtain ⟨hcz28_0, hcz28_1, hcz28_2, hfz28_0, hfz28_1, hfz28_2⟩ := BK1001.c3
   go_wp2
   refine bodyPost_ret (results_ct rfl _ _ gb1001 23 #[.bool false, .string (⟨#[]⟩ : ByteArray), .string (⟨#[]⟩ : ByteArray)] (0, 0) _ rfl (by refine put3_ (cs := #[.bool false, .string (⟨#[]⟩ : ByteArray), .string (⟨#[]⟩ : ByteArray)]) ?_; refine far3_ ?_ NB1001_1007.out; exact BK1001.out) Tryd.underlying23 rfl (by kernel_rfl)) rfl ?_
   exact fin_
 ·rw [if_neg c10] at H
  have c10b0 : (t1002 == 0) = false := beq_eq_false_iff_ne.mpr c10
  have c10b1 : (t1002 != 0) = true := bne_iff_ne.mpr c10
  (first | rw [c10b0] | (simp only [i64_w, i32_w]; rw [c10b0]) | rw [c10b1] | skip)
  simp only [Option.some.injEq, Prod.mk.injEq] at H
  obtain ⟨rfl, rfl, rfl, rfl⟩ := H
  have hnb29 := NB1001_1000.out
  have hnc29 := NB1000_1001.out
  obtain ⟨hcz30_0, hcz30_1, hcz30_2, hfz30_0, hfz30_1, hfz30_2⟩ := BK1001.c3
  go_wp2
  refine bodyPost_ret (results_ct rfl _ _ gb1001 23 #[.bool false, .string (⟨#[]⟩ : ByteArray), .string (⟨#[]⟩ : ByteArray)] (0, 0) _ rfl (by refine put3_ (cs := #[.bool false, .string (⟨#[]⟩ : ByteArray), .string (⟨#[]⟩ : ByteArray)]) ?_; exact BK1001.out) Tryd.underlying23 rfl (by kernel_rfl)) rfl ?_
  exact fin_
attribute [local go_sem] max2_int max_two
set_option linter.unusedVariables false
set_option linter.unusedSimpArgs false
attribute [local go_sem high] eqA23 eqA45
def idiomlaw04_awake.f (k : Nat)  : Option (Bool) := (operand_Of.f k false (⟨#[49]⟩ : ByteArray) (⟨#[53, 48]⟩ : ByteArray) 0).bind fun bt1008 => ((operand_Get.f k bt1008.1 bt1008.2.1 bt1008.2.2.1 bt1008.2.2.2.1 bt1008.2.2.2.2.1 bt1008.2.2.2.2.2.1 bt1008.2.2.2.2.2.2.1 bt1008.2.2.2.2.2.2.2.1 bt1008.2.2.2.2.2.2.2.2.1 (⟨#[116]⟩ : ByteArray)).bind fun bt1019 => (if bt1008.2.2.2.2.2.2.2.2.2 = 0 then (if ((!bt1008.1 && (bt1008.2.1.toList == ([49] : List UInt8) && (bt1008.2.2.1.toList == ([53] : List UInt8)))) && (bt1008.2.2.2.1.toList == ([49] : List UInt8) && (bt1008.2.2.2.2.1 == 2 && (bt1008.2.2.2.2.2.1 == 1 && (bt1008.2.2.2.2.2.2.1.toList == ([53, 48] : List UInt8) && (bt1008.2.2.2.2.2.2.2.1.toList == ([53] : List UInt8) && (bt1008.2.2.2.2.2.2.2.2.1 == 0))))))) = true then (if bt1019.2.2.2 = 0 then (some (!bt1019.1 && (bt1019.2.1.toList == ([53] : List UInt8) && (bt1019.2.2.1.toList == ([] : List UInt8))))) else (some false)) else (some false)) else (some false)))
theorem idiomlaw04_awake.mono : ∀ k, LeO (idiomlaw04_awake.f k ) (idiomlaw04_awake.f (k + 1) ) := by
 intro  k
 unfold idiomlaw04_awake.f
 repeat' first
   | (with_reducible exact operand_Get.mono _ _ _ _ _ _ _ _ _ _ _)
   | (with_reducible exact operand_Of.mono _ _ _ _ _)
   | (with_reducible exact LeO.refl _)
   | (with_reducible exact LeO.none _)
   | (with_reducible refine LeO.ite ?_ ?_)
   | (with_reducible refine LeO.bind ?_ (fun _ => ?_))
   | exact operand_Get.mono _ _ _ _ _ _ _ _ _ _ _
   | exact operand_Of.mono _ _ _ _ _
   | exact LeO.none _
   | refine LeO.ite ?_ ?_
   | refine LeO.bind ?_ (fun _ => ?_)
set_option maxHeartbeats 8000000 in
set_option maxRecDepth 100000 in
theorem idiomlaw04_awake.calls (k : Nat)  (r : Bool) (w : World) (ht : TB w) (h : idiomlaw04_awake.f k  = some r) :
    Calls Tryd.prog 49 #[] w fun e w' => e = .returned (.bool r) ∧ Below w.heap.size w w' := by
 have hu23 := Tryd.underlying23
 have hu45 := Tryd.underlying45
 have HTB := Aside0.mk ht
 clear ht
 have HB := Aside0.mk (Below.refl w.heap.size w)
 unfold idiomlaw04_awake.f at h
 have H := h
 clear h
 replace H := Option.bind_eq_some_iff.mp H
 obtain ⟨⟨t1008, t1009, t1010, t1011, t1012, t1013, t1014, t1015, t1016, t1017⟩, A10, H⟩ := H
 try dsimp only at H
 have A1 := Aside0.mk A10
 clear A10
 replace H := Option.bind_eq_some_iff.mp H
 obtain ⟨⟨t1019, t1020, t1021, t1022⟩, A20, H⟩ := H
 try dsimp only at H
 have A2 := Aside0.mk A20
 clear A20
 by_cases c3 : t1017 = 0
 ·rw [if_pos c3] at H
  have c3b0 : (t1017 == 0) = true := beq_iff_eq.mpr c3
  have c3b1 : (t1017 != 0) = false := bne_eq_false_iff_eq.mpr c3
  clear c3
  by_cases c4 : ((!t1008 && (t1009.toList == ([49] : List UInt8) && (t1010.toList == ([53] : List UInt8)))) && (t1011.toList == ([49] : List UInt8) && (t1012 == 2 && (t1013 == 1 && (t1014.toList == ([53, 48] : List UInt8) && (t1015.toList == ([53] : List UInt8) && (t1016 == 0))))))) = true
  ·rw [if_pos c4] at H
   have c4b0 : ((!t1008 && (t1009.toList == ([49] : List UInt8) && (t1010.toList == ([53] : List UInt8)))) && (t1011.toList == ([49] : List UInt8) && (t1012 == 2 && (t1013 == 1 && (t1014.toList == ([53, 48] : List UInt8) && (t1015.toList == ([53] : List UInt8) && (t1016 == 0))))))) = true := c4
   clear c4
   by_cases c5 : t1022 = 0
   ·rw [if_pos c5] at H
    have c5b0 : (t1022 == 0) = true := beq_iff_eq.mpr c5
    have c5b1 : (t1022 != 0) = false := bne_eq_false_iff_eq.mpr c5
    clear c5
    obtain rfl := Option.some.inj H
    go_enter Tryd.func49, Tryd.ntmps49
    go_wp2_with (first | ((with_reducible refine gate_callee (f := 45) rfl ?_); refine gL_ (some 7) Tryd.func45 #[.agg #[.bool false, .string (⟨#[49]⟩ : ByteArray), .string (⟨#[53, 48]⟩ : ByteArray)], .int .i64 0] ?_; (with_reducible refine (operand_Of.calls k false (⟨#[49]⟩ : ByteArray) (⟨#[53, 48]⟩ : ByteArray) 0 t1008 t1009 t1010 t1011 t1012 t1013 t1014 t1015 t1016 t1017 _ A1.out).mono ?_); rintro e w6 ⟨rfl, hb⟩; refine ⟨_, rfl, ?_⟩; replace HB := Aside0.mk (below_step hb_ hb)) | ((with_reducible refine gate_dst (N := 1) rfl ?_); refine bx_ #[.bool false, .string (⟨#[]⟩ : ByteArray), .string (⟨#[]⟩ : ByteArray), .string (⟨#[]⟩ : ByteArray), .int .i64 0, .int .i64 0, .string (⟨#[]⟩ : ByteArray), .string (⟨#[]⟩ : ByteArray), .int .i64 0] 45 ?_; intro gb1018 hg w7 hbox hb; have BK1018 := Aside0.mk (hbox); have GW1018 := ge_ (w := w) hg; have GE1018 := ge_ (w := w) hg; replace HB := Aside0.mk (below_step hb_ hb); clear hb hbox hg; obtain ⟨hcz8_0, hcz8_1, hcz8_2, hcz8_3, hcz8_4, hcz8_5, hcz8_6, hcz8_7, hcz8_8, hfz8_0, hfz8_1, hfz8_2, hfz8_3, hfz8_4, hfz8_5, hfz8_6, hfz8_7, hfz8_8⟩ := BK1018.c9) | ((with_reducible refine gate_callee (f := 85) rfl ?_); refine gL_ (some 12) Tryd.func85 #[.agg #[.bool t1008, .string t1009, .string t1010, .string t1011, .int .i64 t1012, .int .i64 t1013, .string t1014, .string t1015, .int .i64 t1016], .string (⟨#[116]⟩ : ByteArray)] ?_; (with_reducible refine (operand_Get.calls k t1008 t1009 t1010 t1011 t1012 t1013 t1014 t1015 t1016 (⟨#[116]⟩ : ByteArray) t1019 t1020 t1021 t1022 _ (TB.below HTB.out hb_) A2.out).mono ?_); rintro e w9 ⟨rfl, hb⟩; refine ⟨_, rfl, ?_⟩; replace BK1018 := Aside0.mk (blk_below (g := gb1018) (o := .cells #[.bool t1008, .string t1009, .string t1010, .string t1011, .int .i64 t1012, .int .i64 t1013, .string t1014, .string t1015, .int .i64 t1016] 45 (0, 0)) (by refine put9_ (cs := #[.bool false, .string (⟨#[]⟩ : ByteArray), .string (⟨#[]⟩ : ByteArray), .string (⟨#[]⟩ : ByteArray), .int .i64 0, .int .i64 0, .string (⟨#[]⟩ : ByteArray), .string (⟨#[]⟩ : ByteArray), .int .i64 0]) ?_; exact BK1018.out) hb); replace HB := Aside0.mk (below_step hb_ hb)) | ((with_reducible refine gate_dst (N := 3) rfl ?_); refine bx_ #[.bool false, .string (⟨#[]⟩ : ByteArray), .string (⟨#[]⟩ : ByteArray)] 23 ?_; intro gb1023 hg w10 hbox hb; have BK1023 := Aside0.mk (hbox); have GW1023 := ge_ (w := w) hg; have GE1023 := ge_ (w := w) hg; have NB1018_1023 := BK1018.nl hg; have NB1023_1018 := BK1018.ng hg; replace BK1018 := BK1018.bl hb; replace HB := Aside0.mk (below_step hb_ hb); clear hb hbox hg; have hnb11 := NB1023_1018.out; have hnc11 := NB1018_1023.out; obtain ⟨hcz12_0, hcz12_1, hcz12_2, hfz12_0, hfz12_1, hfz12_2⟩ := BK1023.c3; obtain ⟨hcz13_0, hcz13_1, hcz13_2, hcz13_3, hcz13_4, hcz13_5, hcz13_6, hcz13_7, hcz13_8, hfz13_0, hfz13_1, hfz13_2, hfz13_3, hfz13_4, hfz13_5, hfz13_6, hfz13_7, hfz13_8⟩ := BK1018.c9))
    go_ret
    exact fin_
   ·rw [if_neg c5] at H
    have c5b0 : (t1022 == 0) = false := beq_eq_false_iff_ne.mpr c5
    have c5b1 : (t1022 != 0) = true := bne_iff_ne.mpr c5
    obtain rfl := Option.some.inj H
    go_enter Tryd.func49, Tryd.ntmps49
    go_wp2_with (first | ((with_reducible refine gate_callee (f := 45) rfl ?_); refine gL_ (some 7) Tryd.func45 #[.agg #[.bool false, .string (⟨#[49]⟩ : ByteArray), .string (⟨#[53, 48]⟩ : ByteArray)], .int .i64 0] ?_; (with_reducible refine (operand_Of.calls k false (⟨#[49]⟩ : ByteArray) (⟨#[53, 48]⟩ : ByteArray) 0 t1008 t1009 t1010 t1011 t1012 t1013 t1014 t1015 t1016 t1017 _ A1.out).mono ?_); rintro e w14 ⟨rfl, hb⟩; refine ⟨_, rfl, ?_⟩; replace HB := Aside0.mk (below_step hb_ hb)) | ((with_reducible refine gate_dst (N := 1) rfl ?_); refine bx_ #[.bool false, .string (⟨#[]⟩ : ByteArray), .string (⟨#[]⟩ : ByteArray), .string (⟨#[]⟩ : ByteArray), .int .i64 0, .int .i64 0, .string (⟨#[]⟩ : ByteArray), .string (⟨#[]⟩ : ByteArray), .int .i64 0] 45 ?_; intro gb1018 hg w15 hbox hb; have BK1018 := Aside0.mk (hbox); have GW1018 := ge_ (w := w) hg; have GE1018 := ge_ (w := w) hg; replace HB := Aside0.mk (below_step hb_ hb); clear hb hbox hg; obtain ⟨hcz16_0, hcz16_1, hcz16_2, hcz16_3, hcz16_4, hcz16_5, hcz16_6, hcz16_7, hcz16_8, hfz16_0, hfz16_1, hfz16_2, hfz16_3, hfz16_4, hfz16_5, hfz16_6, hfz16_7, hfz16_8⟩ := BK1018.c9) | ((with_reducible refine gate_callee (f := 85) rfl ?_); refine gL_ (some 12) Tryd.func85 #[.agg #[.bool t1008, .string t1009, .string t1010, .string t1011, .int .i64 t1012, .int .i64 t1013, .string t1014, .string t1015, .int .i64 t1016], .string (⟨#[116]⟩ : ByteArray)] ?_; (with_reducible refine (operand_Get.calls k t1008 t1009 t1010 t1011 t1012 t1013 t1014 t1015 t1016 (⟨#[116]⟩ : ByteArray) t1019 t1020 t1021 t1022 _ (TB.below HTB.out hb_) A2.out).mono ?_); rintro e w17 ⟨rfl, hb⟩; refine ⟨_, rfl, ?_⟩; replace BK1018 := Aside0.mk (blk_below (g := gb1018) (o := .cells #[.bool t1008, .string t1009, .string t1010, .string t1011, .int .i64 t1012, .int .i64 t1013, .string t1014, .string t1015, .int .i64 t1016] 45 (0, 0)) (by refine put9_ (cs := #[.bool false, .string (⟨#[]⟩ : ByteArray), .string (⟨#[]⟩ : ByteArray), .string (⟨#[]⟩ : ByteArray), .int .i64 0, .int .i64 0, .string (⟨#[]⟩ : ByteArray), .string (⟨#[]⟩ : ByteArray), .int .i64 0]) ?_; exact BK1018.out) hb); replace HB := Aside0.mk (below_step hb_ hb)) | ((with_reducible refine gate_dst (N := 3) rfl ?_); refine bx_ #[.bool false, .string (⟨#[]⟩ : ByteArray), .string (⟨#[]⟩ : ByteArray)] 23 ?_; intro gb1023 hg w18 hbox hb; have BK1023 := Aside0.mk (hbox); have GW1023 := ge_ (w := w) hg; have GE1023 := ge_ (w := w) hg; have NB1018_1023 := BK1018.nl hg; have NB1023_1018 := BK1018.ng hg; replace BK1018 := BK1018.bl hb; replace HB := Aside0.mk (below_step hb_ hb); clear hb hbox hg; have hnb19 := NB1023_1018.out; have hnc19 := NB1018_1023.out; obtain ⟨hcz20_0, hcz20_1, hcz20_2, hfz20_0, hfz20_1, hfz20_2⟩ := BK1023.c3; obtain ⟨hcz21_0, hcz21_1, hcz21_2, hcz21_3, hcz21_4, hcz21_5, hcz21_6, hcz21_7, hcz21_8, hfz21_0, hfz21_1, hfz21_2, hfz21_3, hfz21_4, hfz21_5, hfz21_6, hfz21_7, hfz21_8⟩ := BK1018.c9))
    go_ret
    exact fin_
  ·rw [if_neg c4] at H
   have c4b0 : ((!t1008 && (t1009.toList == ([49] : List UInt8) && (t1010.toList == ([53] : List UInt8)))) && (t1011.toList == ([49] : List UInt8) && (t1012 == 2 && (t1013 == 1 && (t1014.toList == ([53, 48] : List UInt8) && (t1015.toList == ([53] : List UInt8) && (t1016 == 0))))))) = false := by simpa using c4
   clear c4
   obtain rfl := Option.some.inj H
   go_enter Tryd.func49, Tryd.ntmps49
   go_wp2_with (first | ((with_reducible refine gate_callee (f := 45) rfl ?_); refine gL_ (some 7) Tryd.func45 #[.agg #[.bool false, .string (⟨#[49]⟩ : ByteArray), .string (⟨#[53, 48]⟩ : ByteArray)], .int .i64 0] ?_; (with_reducible refine (operand_Of.calls k false (⟨#[49]⟩ : ByteArray) (⟨#[53, 48]⟩ : ByteArray) 0 t1008 t1009 t1010 t1011 t1012 t1013 t1014 t1015 t1016 t1017 _ A1.out).mono ?_); rintro e w22 ⟨rfl, hb⟩; refine ⟨_, rfl, ?_⟩; replace HB := Aside0.mk (below_step hb_ hb)) | ((with_reducible refine gate_dst (N := 1) rfl ?_); refine bx_ #[.bool false, .string (⟨#[]⟩ : ByteArray), .string (⟨#[]⟩ : ByteArray), .string (⟨#[]⟩ : ByteArray), .int .i64 0, .int .i64 0, .string (⟨#[]⟩ : ByteArray), .string (⟨#[]⟩ : ByteArray), .int .i64 0] 45 ?_; intro gb1018 hg w23 hbox hb; have BK1018 := Aside0.mk (hbox); have GW1018 := ge_ (w := w) hg; have GE1018 := ge_ (w := w) hg; replace HB := Aside0.mk (below_step hb_ hb); clear hb hbox hg; obtain ⟨hcz24_0, hcz24_1, hcz24_2, hcz24_3, hcz24_4, hcz24_5, hcz24_6, hcz24_7, hcz24_8, hfz24_0, hfz24_1, hfz24_2, hfz24_3, hfz24_4, hfz24_5, hfz24_6, hfz24_7, hfz24_8⟩ := BK1018.c9) | ((with_reducible refine gate_callee (f := 85) rfl ?_); refine gL_ (some 12) Tryd.func85 #[.agg #[.bool t1008, .string t1009, .string t1010, .string t1011, .int .i64 t1012, .int .i64 t1013, .string t1014, .string t1015, .int .i64 t1016], .string (⟨#[116]⟩ : ByteArray)] ?_; (with_reducible refine (operand_Get.calls k t1008 t1009 t1010 t1011 t1012 t1013 t1014 t1015 t1016 (⟨#[116]⟩ : ByteArray) t1019 t1020 t1021 t1022 _ (TB.below HTB.out hb_) A2.out).mono ?_); rintro e w25 ⟨rfl, hb⟩; refine ⟨_, rfl, ?_⟩; replace BK1018 := Aside0.mk (blk_below (g := gb1018) (o := .cells #[.bool t1008, .string t1009, .string t1010, .string t1011, .int .i64 t1012, .int .i64 t1013, .string t1014, .string t1015, .int .i64 t1016] 45 (0, 0)) (by refine put9_ (cs := #[.bool false, .string (⟨#[]⟩ : ByteArray), .string (⟨#[]⟩ : ByteArray), .string (⟨#[]⟩ : ByteArray), .int .i64 0, .int .i64 0, .string (⟨#[]⟩ : ByteArray), .string (⟨#[]⟩ : ByteArray), .int .i64 0]) ?_; exact BK1018.out) hb); replace HB := Aside0.mk (below_step hb_ hb)) | ((with_reducible refine gate_dst (N := 3) rfl ?_); refine bx_ #[.bool false, .string (⟨#[]⟩ : ByteArray), .string (⟨#[]⟩ : ByteArray)] 23 ?_; intro gb1023 hg w26 hbox hb; have BK1023 := Aside0.mk (hbox); have GW1023 := ge_ (w := w) hg; have GE1023 := ge_ (w := w) hg; have NB1018_1023 := BK1018.nl hg; have NB1023_1018 := BK1018.ng hg; replace BK1018 := BK1018.bl hb; replace HB := Aside0.mk (below_step hb_ hb); clear hb hbox hg; have hnb27 := NB1023_1018.out; have hnc27 := NB1018_1023.out; obtain ⟨hcz28_0, hcz28_1, hcz28_2, hfz28_0, hfz28_1, hfz28_2⟩ := BK1023.c3; obtain ⟨hcz29_0, hcz29_1, hcz29_2, hcz29_3, hcz29_4, hcz29_5, hcz29_6, hcz29_7, hcz29_8, hfz29_0, hfz29_1, hfz29_2, hfz29_3, hfz29_4, hfz29_5, hfz29_6, hfz29_7, hfz29_8⟩ := BK1018.c9))
   go_ret
   exact fin_
 ·rw [if_neg c3] at H
  have c3b0 : (t1017 == 0) = false := beq_eq_false_iff_ne.mpr c3
  have c3b1 : (t1017 != 0) = true := bne_iff_ne.mpr c3
  obtain rfl := Option.some.inj H
  go_enter Tryd.func49, Tryd.ntmps49
  go_wp2_with (first | ((with_reducible refine gate_callee (f := 45) rfl ?_); refine gL_ (some 7) Tryd.func45 #[.agg #[.bool false, .string (⟨#[49]⟩ : ByteArray), .string (⟨#[53, 48]⟩ : ByteArray)], .int .i64 0] ?_; (with_reducible refine (operand_Of.calls k false (⟨#[49]⟩ : ByteArray) (⟨#[53, 48]⟩ : ByteArray) 0 t1008 t1009 t1010 t1011 t1012 t1013 t1014 t1015 t1016 t1017 _ A1.out).mono ?_); rintro e w30 ⟨rfl, hb⟩; refine ⟨_, rfl, ?_⟩; replace HB := Aside0.mk (below_step hb_ hb)) | ((with_reducible refine gate_dst (N := 1) rfl ?_); refine bx_ #[.bool false, .string (⟨#[]⟩ : ByteArray), .string (⟨#[]⟩ : ByteArray), .string (⟨#[]⟩ : ByteArray), .int .i64 0, .int .i64 0, .string (⟨#[]⟩ : ByteArray), .string (⟨#[]⟩ : ByteArray), .int .i64 0] 45 ?_; intro gb1018 hg w31 hbox hb; have BK1018 := Aside0.mk (hbox); have GW1018 := ge_ (w := w) hg; have GE1018 := ge_ (w := w) hg; replace HB := Aside0.mk (below_step hb_ hb); clear hb hbox hg; obtain ⟨hcz32_0, hcz32_1, hcz32_2, hcz32_3, hcz32_4, hcz32_5, hcz32_6, hcz32_7, hcz32_8, hfz32_0, hfz32_1, hfz32_2, hfz32_3, hfz32_4, hfz32_5, hfz32_6, hfz32_7, hfz32_8⟩ := BK1018.c9) | ((with_reducible refine gate_callee (f := 85) rfl ?_); refine gL_ (some 12) Tryd.func85 #[.agg #[.bool t1008, .string t1009, .string t1010, .string t1011, .int .i64 t1012, .int .i64 t1013, .string t1014, .string t1015, .int .i64 t1016], .string (⟨#[116]⟩ : ByteArray)] ?_; (with_reducible refine (operand_Get.calls k t1008 t1009 t1010 t1011 t1012 t1013 t1014 t1015 t1016 (⟨#[116]⟩ : ByteArray) t1019 t1020 t1021 t1022 _ (TB.below HTB.out hb_) A2.out).mono ?_); rintro e w33 ⟨rfl, hb⟩; refine ⟨_, rfl, ?_⟩; replace BK1018 := Aside0.mk (blk_below (g := gb1018) (o := .cells #[.bool t1008, .string t1009, .string t1010, .string t1011, .int .i64 t1012, .int .i64 t1013, .string t1014, .string t1015, .int .i64 t1016] 45 (0, 0)) (by refine put9_ (cs := #[.bool false, .string (⟨#[]⟩ : ByteArray), .string (⟨#[]⟩ : ByteArray), .string (⟨#[]⟩ : ByteArray), .int .i64 0, .int .i64 0, .string (⟨#[]⟩ : ByteArray), .string (⟨#[]⟩ : ByteArray), .int .i64 0]) ?_; exact BK1018.out) hb); replace HB := Aside0.mk (below_step hb_ hb)) | ((with_reducible refine gate_dst (N := 3) rfl ?_); refine bx_ #[.bool false, .string (⟨#[]⟩ : ByteArray), .string (⟨#[]⟩ : ByteArray)] 23 ?_; intro gb1023 hg w34 hbox hb; have BK1023 := Aside0.mk (hbox); have GW1023 := ge_ (w := w) hg; have GE1023 := ge_ (w := w) hg; have NB1018_1023 := BK1018.nl hg; have NB1023_1018 := BK1018.ng hg; replace BK1018 := BK1018.bl hb; replace HB := Aside0.mk (below_step hb_ hb); clear hb hbox hg; have hnb35 := NB1023_1018.out; have hnc35 := NB1018_1023.out; obtain ⟨hcz36_0, hcz36_1, hcz36_2, hfz36_0, hfz36_1, hfz36_2⟩ := BK1023.c3))
  go_ret
  exact fin_
attribute [local go_sem] max2_int max_two
set_option linter.unusedVariables false
set_option linter.unusedSimpArgs false
def operand_number.f (a0 : ByteArray) : Option (Bool) := if a0.toList = ([] : List UInt8) then (some false) else (if (a0.size : Int) > 40 then (some false) else (if (a0.size : Int) > 1 then (if 0 < (a0.size : Int) then (if (bt a0 0) = 48 then (some false) else ((strings_Trim.f a0 (⟨#[48, 49, 50, 51, 52, 53, 54, 55, 56, 57]⟩ : ByteArray)).bind fun t1194 => (some (t1194.toList == ([] : List UInt8))))) else (none)) else ((strings_Trim.f a0 (⟨#[48, 49, 50, 51, 52, 53, 54, 55, 56, 57]⟩ : ByteArray)).bind fun t1195 => (some (t1195.toList == ([] : List UInt8))))))
set_option maxHeartbeats 8000000 in
set_option maxRecDepth 100000 in
theorem operand_number.calls (a0 : ByteArray) (r : Bool) (w : World) (h : operand_number.f a0 = some r) :
    Calls Tryd.prog 86 #[.string a0] w fun e w' => e = .returned (.bool r) ∧ Below w.heap.size w w' := by
 have HB := Aside0.mk (Below.refl w.heap.size w)
 unfold operand_number.f at h
 have H := h
 clear h
 by_cases c2 : a0.toList = ([] : List UInt8)
 ·rw [if_pos c2] at H
  have c2b0 : (a0.toList == ([] : List UInt8)) = true := beq_iff_eq.mpr c2
  have c2b1 : (a0.toList != ([] : List UInt8)) = false := bne_eq_false_iff_eq.mpr c2
  clear c2
  obtain rfl := Option.some.inj H
  go_enter Tryd.func86, Tryd.ntmps86
  go_wp2
  go_ret
  exact fin_
 ·rw [if_neg c2] at H
  have c2b0 : (a0.toList == ([] : List UInt8)) = false := beq_eq_false_iff_ne.mpr c2
  have c2b1 : (a0.toList != ([] : List UInt8)) = true := bne_iff_ne.mpr c2
  by_cases c3 : (a0.size : Int) > 40
  ·rw [if_pos c3] at H
   have c3b0 : decide (40 < (a0.size : Int)) = true := decide_eq_true c3
   have c3b1 : decide (40 < a0.size) = true := decide_eq_true (by omega)
   clear c3
   obtain rfl := Option.some.inj H
   go_enter Tryd.func86, Tryd.ntmps86
   go_wp2
   go_ret
   exact fin_
  ·rw [if_neg c3] at H
   have c3b0 : decide (40 < (a0.size : Int)) = false := decide_eq_false c3
   have c3b1 : decide (40 < a0.size) = false := decide_eq_false (by omega)
   clear c3
   by_cases c4 : (a0.size : Int) > 1
   ·rw [if_pos c4] at H
    have c4b0 : decide (1 < (a0.size : Int)) = true := decide_eq_true c4
    have c4b1 : decide (1 < a0.size) = true := decide_eq_true (by omega)
    clear c4
    by_cases c5 : 0 < (a0.size : Int)
    ·rw [if_pos c5] at H
     have c5b0 : decide (0 < (a0.size : Int)) = true := decide_eq_true c5
     have c5b1 : decide (0 < a0.size) = true := decide_eq_true (by omega)
     clear c5
     by_cases c7 : (bt a0 0) = 48
     ·rw [if_pos c7] at H
      have c7b0 : ((bt a0 0) == 48) = true := beq_iff_eq.mpr c7
      have c7b1 : ((bt a0 0) != 48) = false := bne_eq_false_iff_eq.mpr c7
      clear c7
      obtain rfl := Option.some.inj H
      have p6 : 0 ≤ (0 : Int) := (by omega)
      have q6 : 0 < a0.size := (by have : (0 : Int) < (a0.size : Int) := of_decide_eq_true (by first | (with_reducible assumption) | assumption); omega)
      have hx6 : ∀ h : 0 < a0.size, ((a0[0]'h).toNat : Int) = bt a0 0 := bt_at a0 0
      clear p6
      have qi6 : (0 < (a0.size : Int)) = True := eq_true (of_decide_eq_true (by first | (with_reducible assumption) | assumption))
      replace q6 := eq_true q6
      go_enter Tryd.func86, Tryd.ntmps86
      go_wp2
      go_ret
      exact fin_
     ·rw [if_neg c7] at H
      have c7b0 : ((bt a0 0) == 48) = false := beq_eq_false_iff_ne.mpr c7
      have c7b1 : ((bt a0 0) != 48) = true := bne_iff_ne.mpr c7
      replace H := Option.bind_eq_some_iff.mp H
      obtain ⟨t1194, A80, H⟩ := H
      try dsimp only at H
      have A8 := Aside0.mk A80
      clear A80
      obtain rfl := Option.some.inj H
      have p6 : 0 ≤ (0 : Int) := (by omega)
      have q6 : 0 < a0.size := (by have : (0 : Int) < (a0.size : Int) := of_decide_eq_true (by first | (with_reducible assumption) | assumption); omega)
      have hx6 : ∀ h : 0 < a0.size, ((a0[0]'h).toNat : Int) = bt a0 0 := bt_at a0 0
      clear p6
      have qi6 : (0 < (a0.size : Int)) = True := eq_true (of_decide_eq_true (by first | (with_reducible assumption) | assumption))
      replace q6 := eq_true q6
      go_enter Tryd.func86, Tryd.ntmps86
      go_wp2_with (first | ((with_reducible refine gate_callee (f := 87) rfl ?_); refine gL_ (some 21) Tryd.func87 #[.string a0, .string (⟨#[48, 49, 50, 51, 52, 53, 54, 55, 56, 57]⟩ : ByteArray)] ?_; (with_reducible refine (strings_Trim.calls a0 (⟨#[48, 49, 50, 51, 52, 53, 54, 55, 56, 57]⟩ : ByteArray) t1194 _ A8.out).mono ?_); rintro e w9 ⟨rfl, hb⟩; refine ⟨_, rfl, ?_⟩; replace HB := Aside0.mk (below_step hb_ hb)))
      go_ret
      exact fin_
    ·rw [if_neg c5] at H
     exact absurd H (by simp)
   ·rw [if_neg c4] at H
    have c4b0 : decide (1 < (a0.size : Int)) = false := decide_eq_false c4
    have c4b1 : decide (1 < a0.size) = false := decide_eq_false (by omega)
    clear c4
    replace H := Option.bind_eq_some_iff.mp H
    obtain ⟨t1195, A100, H⟩ := H
    try dsimp only at H
    have A10 := Aside0.mk A100
    clear A100
    obtain rfl := Option.some.inj H
    go_enter Tryd.func86, Tryd.ntmps86
    go_wp2_with (first | ((with_reducible refine gate_callee (f := 87) rfl ?_); refine gL_ (some 21) Tryd.func87 #[.string a0, .string (⟨#[48, 49, 50, 51, 52, 53, 54, 55, 56, 57]⟩ : ByteArray)] ?_; (with_reducible refine (strings_Trim.calls a0 (⟨#[48, 49, 50, 51, 52, 53, 54, 55, 56, 57]⟩ : ByteArray) t1195 _ A10.out).mono ?_); rintro e w11 ⟨rfl, hb⟩; refine ⟨_, rfl, ?_⟩; replace HB := Aside0.mk (below_step hb_ hb)))
    go_ret
    exact fin_
attribute [local go_sem] max2_int max_two
set_option linter.unusedVariables false
set_option linter.unusedSimpArgs false
def idiomlaw04_copied.f (a0_0 : ByteArray) (a0_1 : ByteArray) (a0_2 : Bool) (a0_3 : Bool) (l0_4 : List (S60)) : Option (ByteArray × ByteArray × Bool × Bool × (List (S60))) := (some (([] : List (S60)) : List (S60))).bind fun y1188 => (if y1188.length + l0_4.length < 4398046511104 then (some (a0_0, a0_1, a0_2, a0_3, (y1188 ++ l0_4))) else (none))
set_option maxHeartbeats 8000000 in
set_option maxRecDepth 100000 in
theorem idiomlaw04_copied.calls (a0_0 : ByteArray) (a0_1 : ByteArray) (a0_2 : Bool) (a0_3 : Bool) (A0_4 : Option Addr) (c0_4 : Nat) (l0_4 : List (S60)) (r1 : ByteArray) (r2 : ByteArray) (r3 : Bool) (r4 : Bool) (r5 : List (S60)) (w : World) (hr0_4 : Kd.C k60 w A0_4 l0_4.length l0_4) (hc0_4 : l0_4.length ≤ c0_4) (h : idiomlaw04_copied.f a0_0 a0_1 a0_2 a0_3 l0_4 = some (r1, r2, r3, r4, r5)) :
    Calls Tryd.prog 51 #[.agg #[.string a0_0, .string a0_1, .bool a0_2, .bool a0_3, .slice A0_4 l0_4.length c0_4]] w fun e w' => ∃ v4_ : Value, e = .returned (.agg #[.string r1, .string r2, .bool r3, .bool r4, v4_]) ∧ Kd.R k60 60 w' w.heap.size (fun _ => True) v4_ r5 ∧ Below w.heap.size w w' := by
 have hu54 := Tryd.underlying54
 have HR0_4 := Aside0.mk hr0_4
 have HC0_4 := Aside0.mk hc0_4
 clear hr0_4 hc0_4
 have HB := Aside0.mk (Below.refl w.heap.size w)
 unfold idiomlaw04_copied.f at h
 have H := h
 clear h
 obtain ⟨y1188, hy1188⟩ : ∃ y_ : List (S60), y_ = (([] : List (S60))) := ⟨_, rfl⟩
 rw [Option.bind_some, ← hy1188] at H
 have Ny1188 := Aside0.mk hy1188
 clear hy1188
 by_cases c2 : y1188.length + l0_4.length < 4398046511104
 ·rw [if_pos c2] at H
  have LMc2 := Aside0.mk c2
  clear c2
  obtain ⟨y1191, hy1191⟩ : ∃ y_ : List (S60), y_ = (y1188 ++ l0_4) := ⟨_, rfl⟩
  rw [← hy1191] at H
  have Ny1191 := Aside0.mk hy1191
  clear hy1191
  simp only [Option.some.injEq, Prod.mk.injEq] at H
  obtain ⟨rfl, rfl, rfl, rfl, rfl⟩ := H
  go_enter Tryd.func51, Tryd.ntmps51
  go_wp2_with (first | ((with_reducible refine gate_dst (N := 1) rfl ?_); refine box_event ?hg (N := 1) ?hd (cs := #[.string a0_0, .string a0_1, .bool a0_2, .bool a0_3, .slice A0_4 l0_4.length c0_4]) (t := 54) ?hr ?_; (case hd => rfl); (case hg => rfl); (case hr => first | (go_simp; done) | (go_simp; rfl)); intro gb1186 hg w3 hbox hb; have n0_ := Aside0.mk (below_step (hb_) hb); have n1_ := Aside0.mk (hbox); have n2_ := Aside0.mk ((by rw [hg]; exact (below_size (hb_)) : w.heap.size ≤ gb1186)); have n3_ := Aside0.mk ((by rw [hg]; exact (below_size (hb_)) : w.heap.size ≤ gb1186)); clear HB; have HB := n0_; have BK1186 := n1_; have GW1186 := n2_; have GE1186 := n3_; clear n0_ n1_ n2_ n3_; clear hb hbox hg) | ((with_reducible refine gate_dst (N := 2) rfl ?_); refine box_event ?hg (N := 2) ?hd (cs := #[.string (⟨#[]⟩ : ByteArray), .string (⟨#[]⟩ : ByteArray), .bool false, .bool false, .slice none 0 0]) (t := 54) ?hr ?_; (case hd => rfl); (case hg => rfl); (case hr => first | (go_simp; done) | (go_simp; rfl)); intro gb1187 hg w4 hbox hb; have n0_ := Aside0.mk (blk_below (g := gb1186) (o := .cells #[.string a0_0, .string a0_1, .bool a0_2, .bool a0_3, .slice A0_4 l0_4.length c0_4] 54 (0, 0)) (by (with_reducible repeat (first | refine blk_drewN ?_ _ | refine blk_drew ?_ | refine blk_alloc ?_ _)); exact BK1186.out) hb); have n1_ := Aside0.mk (below_step (hb_) hb); have n2_ := Aside0.mk (hbox); have n3_ := Aside0.mk ((by rw [hg]; exact (below_size (hb_)) : w.heap.size ≤ gb1187)); have n4_ := Aside0.mk ((by rw [hg]; exact (below_size (hb_)) : w.heap.size ≤ gb1187)); have n5_ := Aside0.mk ((by rw [hg]; exact Nat.ne_of_lt (blk_lt (g := gb1186) (o := .cells #[.string a0_0, .string a0_1, .bool a0_2, .bool a0_3, .slice A0_4 l0_4.length c0_4] 54 (0, 0)) (by (with_reducible repeat (first | refine blk_drewN ?_ _ | refine blk_drew ?_ | refine blk_alloc ?_ _)); exact BK1186.out)) : gb1186 ≠ gb1187)); have n6_ := Aside0.mk ((by rw [hg]; exact Nat.ne_of_gt (blk_lt (g := gb1186) (o := .cells #[.string a0_0, .string a0_1, .bool a0_2, .bool a0_3, .slice A0_4 l0_4.length c0_4] 54 (0, 0)) (by (with_reducible repeat (first | refine blk_drewN ?_ _ | refine blk_drew ?_ | refine blk_alloc ?_ _)); exact BK1186.out)) : gb1187 ≠ gb1186)); clear BK1186; clear HB; have BK1186 := n0_; have HB := n1_; have BK1187 := n2_; have GW1187 := n3_; have GE1187 := n4_; have NB1186_1187 := n5_; have NB1187_1186 := n6_; clear n0_ n1_ n2_ n3_ n4_ n5_ n6_; clear hb hbox hg) | ((with_reducible refine gate_dst (N := 3) rfl ?_); refine Kd.R_lit k60 _ 60 ?hg (N := 3) ?hd (xs := ([] : List (S60))) (inner := []) (ok := fun _ => True) (okp := fun _ => True) ?hr ?hp (fun _ hk => hk) trivial (Below.refl _ _) (Nat.le_refl _) (by simp) ?_; (case hd => rfl); (case hg => rfl); (case hr => first | (go_simp; done) | (go_simp; rfl)); (case hp => exact (Reps.none _ _)); intro v1189 w5 ho6 hb hg_ hnew_; clear hg_ hnew_; (first | rw [← Ny1188.out] at ho6 | (simp only [Int.reduceToNat] at ho6; rw [← Ny1188.out] at ho6)); have n0_ := Aside0.mk (Kd.R_lower ho6 (below_size (hb_))); have n1_ := Aside0.mk (blk_below (g := gb1186) (o := .cells #[.string a0_0, .string a0_1, .bool a0_2, .bool a0_3, .slice A0_4 l0_4.length c0_4] 54 (0, 0)) (by (with_reducible repeat (first | refine blk_drewN ?_ _ | refine blk_drew ?_ | refine blk_alloc ?_ _)); exact BK1186.out) hb); have n2_ := Aside0.mk (blk_below (g := gb1187) (o := .cells #[.string (⟨#[]⟩ : ByteArray), .string (⟨#[]⟩ : ByteArray), .bool false, .bool false, .slice none 0 0] 54 (0, 0)) (by (with_reducible repeat (first | refine blk_drewN ?_ _ | refine blk_drew ?_ | refine blk_alloc ?_ _)); exact BK1187.out) hb); have n3_ := Aside0.mk (below_step (hb_) hb); clear BK1186; clear BK1187; clear HB; have HO1190 := n0_; have BK1186 := n1_; have BK1187 := n2_; have HB := n3_; clear n0_ n1_ n2_ n3_; clear hb ho6; have hnb7 := NB1186_1187.out; have hnc7 := NB1187_1186.out; obtain ⟨hcz8_0, hcz8_1, hcz8_2, hcz8_3, hcz8_4, hfz8_0, hfz8_1, hfz8_2, hfz8_3, hfz8_4⟩ := BK1186.c5) | ((with_reducible refine gate_builtin (b := .append) (xs := #[.tmp 3, .tmp 5]) rfl ?_); at_builtin; refine Kd.R_append_rows k60 (w0 := w) w.heap.size rfl (.tmp 3) (.tmp 5) 52 60 (.agg #[(.string ⟨#[]⟩), (.string ⟨#[]⟩)]) 32 rfl Tryd.underlying52 info60 rfl (by decide) (by omega) v1189 y1188 l0_4 _ _ _ (fun _ => True) (fun _ => False) rfl rfl ?aO ?aR (fun _ _ h => h) (fun _ h => h.elim) ?aF ?aB ?aS ?aL ?_; (case aR => repeat (first | exact (Kd.C_below HR0_4.out HB.out) | (with_reducible refine Kd.C_alloc ?_ _) | (with_reducible refine Kd.C_drewN ?_ _) | (with_reducible refine Kd.C_drew ?_))); (case aB => exact (hb_)); (case aF => exact (fun _ _ => trivial)); (case aO => exact (by (with_reducible repeat (first | apply Kd.R_alloc | apply Kd.R_drewN | apply Kd.R_drew)); exact HO1190.out)); (case aS => exact (below_size (hb_))); (case aL => have := LMc2.out; omega); intro v1192 w9 ho hb hg hat; rw [← Ny1191.out] at ho; have n0_ := Aside0.mk (blk_grown (g := gb1186) (o := .cells #[.string a0_0, .string a0_1, .bool a0_2, .bool a0_3, .slice A0_4 l0_4.length c0_4] 54 (0, 0)) (by (with_reducible repeat (first | refine blk_drewN ?_ _ | refine blk_drew ?_ | refine blk_alloc ?_ _)); exact BK1186.out) hg (Kd.R_ne HO1190.out BK1186.out (by decide))); have n1_ := Aside0.mk (blk_grown (g := gb1187) (o := .cells #[.string (⟨#[]⟩ : ByteArray), .string (⟨#[]⟩ : ByteArray), .bool false, .bool false, .slice none 0 0] 54 (0, 0)) (by (with_reducible repeat (first | refine blk_drewN ?_ _ | refine blk_drew ?_ | refine blk_alloc ?_ _)); exact BK1187.out) hg (Kd.R_ne HO1190.out BK1187.out (by decide))); have n2_ := Aside0.mk (hb); have n3_ := Aside0.mk (ho); clear BK1186; clear BK1187; clear HB; clear HO1190; have BK1186 := n0_; have BK1187 := n1_; have HB := n2_; have HO1193 := n3_; clear n0_ n1_ n2_ n3_; clear ho hb hg hat; obtain ⟨Ao10, co10, eo10⟩ := Kd.R_slice HO1193.out; subst eo10; obtain ⟨hcz11_0, hcz11_1, hcz11_2, hcz11_3, hcz11_4, hfz11_0, hfz11_1, hfz11_2, hfz11_3, hfz11_4⟩ := BK1186.c5; obtain ⟨hcz12_0, hcz12_1, hcz12_2, hcz12_3, hcz12_4, hfz12_0, hfz12_1, hfz12_2, hfz12_3, hfz12_4⟩ := BK1187.c5))
  refine bodyPost_ret (results_cell_row rfl _ _ gb1187 54 #[.string a0_0, .string a0_1, .bool a0_2, .bool a0_3, .slice Ao10 y1191.length co10] (0, 0) _ rfl (by (with_reducible repeat (first | refine blk_drewN ?_ _ | refine blk_drew ?_ | refine blk_alloc ?_ _)); refine blk_put (cs := #[.string a0_0, .string a0_1, .bool a0_2, .bool a0_3, .slice none 0 0]) ?_ 4 _ rfl; (with_reducible repeat (first | refine blk_drewN ?_ _ | refine blk_drew ?_ | refine blk_alloc ?_ _)); refine blk_put (cs := #[.string a0_0, .string a0_1, .bool a0_2, .bool false, .slice none 0 0]) ?_ 3 _ rfl; (with_reducible repeat (first | refine blk_drewN ?_ _ | refine blk_drew ?_ | refine blk_alloc ?_ _)); refine blk_put (cs := #[.string a0_0, .string a0_1, .bool false, .bool false, .slice none 0 0]) ?_ 2 _ rfl; (with_reducible repeat (first | refine blk_drewN ?_ _ | refine blk_drew ?_ | refine blk_alloc ?_ _)); refine blk_put (cs := #[.string a0_0, .string (⟨#[]⟩ : ByteArray), .bool false, .bool false, .slice none 0 0]) ?_ 1 _ rfl; (with_reducible repeat (first | refine blk_drewN ?_ _ | refine blk_drew ?_ | refine blk_alloc ?_ _)); refine blk_put (cs := #[.string (⟨#[]⟩ : ByteArray), .string (⟨#[]⟩ : ByteArray), .bool false, .bool false, .slice none 0 0]) ?_ 0 _ rfl; (with_reducible repeat (first | refine blk_drewN ?_ _ | refine blk_drew ?_ | refine blk_alloc ?_ _)); refine blk_far ?_ NB1187_1186.out _; (with_reducible repeat (first | refine blk_drewN ?_ _ | refine blk_drew ?_ | refine blk_alloc ?_ _)); exact BK1187.out) Tryd.underlying54 rfl (by kernel_rfl)) rfl ?_
  exact ⟨_, by first | rfl | (simp [errW_none, errW_some] <;> rfl) | (simp [*, errW_none, errW_some] <;> rfl) | (simp [bne_nil_]; done), by (with_reducible repeat (first | apply Kd.R_alloc | apply Kd.R_drewN | apply Kd.R_drew)); exact Kd.R_mono (Kd.R_far (p := ⟨gb1187, 4, none⟩) (Kd.R_far (p := ⟨gb1187, 3, none⟩) (Kd.R_far (p := ⟨gb1187, 2, none⟩) (Kd.R_far (p := ⟨gb1187, 1, none⟩) (Kd.R_far (p := ⟨gb1187, 0, none⟩) (Kd.R_far (p := ⟨gb1186, 4, none⟩) (Kd.R_types (Kd.R_types HO1193.out BK1186.out (by decide)) BK1187.out (by decide)) (fun _ hk => hk.1.2) (.slice Ao10 y1191.length co10)) (fun _ hk => hk.2) (.string a0_0)) (fun _ hk => hk.2) (.string a0_1)) (fun _ hk => hk.2) (.bool a0_2)) (fun _ hk => hk.2) (.bool a0_3)) (fun _ hk => hk.2) (.slice Ao10 y1191.length co10)) (fun _ hk => trivial), hb_⟩
 ·rw [if_neg c2] at H
  exact absurd H (by simp)
attribute [local go_sem] max2_int max_two
set_option linter.unusedVariables false
set_option linter.unusedSimpArgs false
def operand_Mod.f (k : Nat) (a0_0 : Bool) (a0_1 : ByteArray) (a0_2 : ByteArray) (a0_3 : ByteArray) (a0_4 : Int) (a0_5 : Int) (a0_6 : ByteArray) (a0_7 : ByteArray) (a0_8 : Int) (a1 : ByteArray) (a2 : ByteArray) : Option (Bool × ByteArray × ByteArray × Int) := (operand_Get.f k a0_0 a0_1 a0_2 a0_3 a0_4 a0_5 a0_6 a0_7 a0_8 a1).bind fun bt1198 => (if bt1198.2.2.2 = 0 then (if a2.toList = ([] : List UInt8) then (some (bt1198.1, bt1198.2.1, bt1198.2.2.1, 0)) else ((operand_number.f a2).bind fun t1203 => (if t1203 = true then (if a2.toList = ([48] : List UInt8) then (some (false, (⟨#[]⟩ : ByteArray), (⟨#[]⟩ : ByteArray), 40)) else ((decimal_Rem.f k bt1198.1 bt1198.2.1 bt1198.2.2.1 false a2 (⟨#[]⟩ : ByteArray)).bind fun bt1204 => (some (bt1204.1, bt1204.2.1, bt1204.2.2.1, bt1204.2.2.2)))) else (some (false, (⟨#[]⟩ : ByteArray), (⟨#[]⟩ : ByteArray), 40))))) else (some (false, (⟨#[]⟩ : ByteArray), (⟨#[]⟩ : ByteArray), bt1198.2.2.2)))
set_option maxHeartbeats 8000000 in
set_option maxRecDepth 100000 in
theorem operand_Mod.calls (k : Nat) (a0_0 : Bool) (a0_1 : ByteArray) (a0_2 : ByteArray) (a0_3 : ByteArray) (a0_4 : Int) (a0_5 : Int) (a0_6 : ByteArray) (a0_7 : ByteArray) (a0_8 : Int) (a1 : ByteArray) (a2 : ByteArray) (r1 : Bool) (r2 : ByteArray) (r3 : ByteArray) (r4 : Int) (w : World) (ht : TB w) (h : operand_Mod.f k a0_0 a0_1 a0_2 a0_3 a0_4 a0_5 a0_6 a0_7 a0_8 a1 a2 = some (r1, r2, r3, r4)) :
    Calls Tryd.prog 53 #[.agg #[.bool a0_0, .string a0_1, .string a0_2, .string a0_3, .int .i64 a0_4, .int .i64 a0_5, .string a0_6, .string a0_7, .int .i64 a0_8], .string a1, .string a2] w fun e w' => e = .returned (.tuple #[.agg #[.bool r1, .string r2, .string r3], .int .i64 r4]) ∧ Below w.heap.size w w' := by
 have hu45 := Tryd.underlying45
 have hu23 := Tryd.underlying23
 have HTB := Aside0.mk ht
 clear ht
 have HB := Aside0.mk (Below.refl w.heap.size w)
 unfold operand_Mod.f at h
 have H := h
 clear h
 replace H := Option.bind_eq_some_iff.mp H
 obtain ⟨⟨t1198, t1199, t1200, t1201⟩, A40, H⟩ := H
 try dsimp only at H
 have A4 := Aside0.mk A40
 clear A40
 have HF5 := Aside0.mk H
 clear H
 go_enter Tryd.func53, Tryd.ntmps53
 go_upto_if 17 with (first | ((with_reducible refine gate_dst (N := 3) rfl ?_); refine bx_ #[.bool a0_0, .string a0_1, .string a0_2, .string a0_3, .int .i64 a0_4, .int .i64 a0_5, .string a0_6, .string a0_7, .int .i64 a0_8] 45 ?_; intro gb1196 hg w6 hbox hb; have BK1196 := Aside0.mk (hbox); have GW1196 := ge_ (w := w) hg; have GE1196 := ge_ (w := w) hg; replace HB := Aside0.mk (below_step hb_ hb); clear hb hbox hg) | ((with_reducible refine gate_dst (N := 6) rfl ?_); refine bx_ #[.bool false, .string (⟨#[]⟩ : ByteArray), .string (⟨#[]⟩ : ByteArray)] 23 ?_; intro gb1197 hg w7 hbox hb; have BK1197 := Aside0.mk (hbox); have GW1197 := ge_ (w := w) hg; have GE1197 := ge_ (w := w) hg; have NB1196_1197 := BK1196.nl hg; have NB1197_1196 := BK1196.ng hg; replace BK1196 := BK1196.bl hb; replace HB := Aside0.mk (below_step hb_ hb); clear hb hbox hg; have hnb8 := NB1196_1197.out; have hnc8 := NB1197_1196.out; obtain ⟨hcz9_0, hcz9_1, hcz9_2, hcz9_3, hcz9_4, hcz9_5, hcz9_6, hcz9_7, hcz9_8, hfz9_0, hfz9_1, hfz9_2, hfz9_3, hfz9_4, hfz9_5, hfz9_6, hfz9_7, hfz9_8⟩ := BK1196.c9) | ((with_reducible refine gate_callee (f := 85) rfl ?_); refine gL_ (some 13) Tryd.func85 #[.agg #[.bool a0_0, .string a0_1, .string a0_2, .string a0_3, .int .i64 a0_4, .int .i64 a0_5, .string a0_6, .string a0_7, .int .i64 a0_8], .string a1] ?_; (with_reducible refine (operand_Get.calls k a0_0 a0_1 a0_2 a0_3 a0_4 a0_5 a0_6 a0_7 a0_8 a1 t1198 t1199 t1200 t1201 _ (TB.below HTB.out hb_) A4.out).mono ?_); rintro e w10 ⟨rfl, hb⟩; refine ⟨_, rfl, ?_⟩; replace BK1196 := BK1196.bl hb; replace BK1197 := BK1197.bl hb; replace HB := Aside0.mk (below_step hb_ hb)) | ((with_reducible refine gate_dst (N := 8) rfl ?_); refine bx_ #[.bool false, .string (⟨#[]⟩ : ByteArray), .string (⟨#[]⟩ : ByteArray)] 23 ?_; intro gb1202 hg w11 hbox hb; have BK1202 := Aside0.mk (hbox); have GW1202 := ge_ (w := w) hg; have GE1202 := ge_ (w := w) hg; have NB1196_1202 := BK1196.nl hg; have NB1202_1196 := BK1196.ng hg; have NB1197_1202 := BK1197.nl hg; have NB1202_1197 := BK1197.ng hg; replace BK1196 := BK1196.bl hb; replace BK1197 := BK1197.bl hb; replace HB := Aside0.mk (below_step hb_ hb); clear hb hbox hg; have hnb12 := NB1202_1196.out; have hnc12 := NB1196_1202.out; have hnb13 := NB1202_1197.out; have hnc13 := NB1197_1202.out; obtain ⟨hcz14_0, hcz14_1, hcz14_2, hfz14_0, hfz14_1, hfz14_2⟩ := BK1202.c3))
 (try simp only [Act.put, List.setIfInBounds_toArray, List.set_cons_zero, List.set_cons_succ])
 have H := HF5.out
 clear HF5
 by_cases c15 : t1201 = 0
 ·rw [if_pos c15] at H
  have c15b0 : (t1201 == 0) = true := beq_iff_eq.mpr c15
  have c15b1 : (t1201 != 0) = false := bne_eq_false_iff_eq.mpr c15
  clear c15
  (first | rw [c15b0] | (simp only [i64_w, i32_w]; rw [c15b0]) | rw [c15b1] | skip)
  by_cases c16 : a2.toList = ([] : List UInt8)
  ·rw [if_pos c16] at H
   have c16b0 : (a2.toList == ([] : List UInt8)) = true := beq_iff_eq.mpr c16
   have c16b1 : (a2.toList != ([] : List UInt8)) = false := bne_eq_false_iff_eq.mpr c16
   clear c16
   simp only [Option.some.injEq, Prod.mk.injEq] at H
   obtain ⟨rfl, rfl, rfl, rfl⟩ := H
   have hnb17 := NB1202_1196.out
   have hnc17 := NB1196_1202.out
   have hnb18 := NB1202_1197.out
   have hnc18 := NB1197_1202.out
   obtain ⟨hcz19_0, hcz19_1, hcz19_2, hfz19_0, hfz19_1, hfz19_2⟩ := BK1202.c3
   have hnb20 := NB1197_1196.out
   have hnc20 := NB1196_1197.out
   obtain ⟨hcz21_0, hcz21_1, hcz21_2, hfz21_0, hfz21_1, hfz21_2⟩ := BK1197.c3
   go_wp2
   refine bodyPost_ret (results_ct rfl _ _ gb1197 23 #[.bool t1198, .string t1199, .string t1200] (0, 0) _ rfl (by refine put3_ (cs := #[.bool false, .string (⟨#[]⟩ : ByteArray), .string (⟨#[]⟩ : ByteArray)]) ?_; refine far3_ ?_ NB1197_1202.out; exact BK1197.out) Tryd.underlying23 rfl (by kernel_rfl)) rfl ?_
   exact fin_
  ·rw [if_neg c16] at H
   have c16b0 : (a2.toList == ([] : List UInt8)) = false := beq_eq_false_iff_ne.mpr c16
   have c16b1 : (a2.toList != ([] : List UInt8)) = true := bne_iff_ne.mpr c16
   replace H := Option.bind_eq_some_iff.mp H
   obtain ⟨t1203, A220, H⟩ := H
   try dsimp only at H
   have A22 := Aside0.mk A220
   clear A220
   by_cases c23 : t1203 = true
   ·subst c23
    have H1 : (if a2.toList = ([48] : List UInt8) then (some (false, (⟨#[]⟩ : ByteArray), (⟨#[]⟩ : ByteArray), 40)) else ((decimal_Rem.f k t1198 t1199 t1200 false a2 (⟨#[]⟩ : ByteArray)).bind fun bt1204 => (some (bt1204.1, bt1204.2.1, bt1204.2.2.1, bt1204.2.2.2)))) = some (r1, r2, r3, r4) := by rw [if_pos rfl] at H; exact H
    clear H
    have H := H1
    clear H1
    have HF24 := Aside0.mk H
    clear H
    go_upto_if 29 with (first | ((with_reducible refine gate_callee (f := 86) rfl ?_); refine gL_ (some 24) Tryd.func86 #[.string a2] ?_; (with_reducible refine (operand_number.calls a2 true _ A22.out).mono ?_); rintro e w25 ⟨rfl, hb⟩; refine ⟨_, rfl, ?_⟩; replace BK1196 := Aside0.mk (blk_below (g := gb1196) (o := .cells #[.bool a0_0, .string a0_1, .string a0_2, .string a0_3, .int .i64 a0_4, .int .i64 a0_5, .string a0_6, .string a0_7, .int .i64 a0_8] 45 (0, 0)) (by refine far3_ ?_ NB1196_1202.out; exact BK1196.out) hb); replace BK1197 := Aside0.mk (blk_below (g := gb1197) (o := .cells #[.bool false, .string (⟨#[]⟩ : ByteArray), .string (⟨#[]⟩ : ByteArray)] 23 (0, 0)) (by refine far3_ ?_ NB1197_1202.out; exact BK1197.out) hb); replace BK1202 := Aside0.mk (blk_below (g := gb1202) (o := .cells #[.bool t1198, .string t1199, .string t1200] 23 (0, 0)) (by refine put3_ (cs := #[.bool false, .string (⟨#[]⟩ : ByteArray), .string (⟨#[]⟩ : ByteArray)]) ?_; exact BK1202.out) hb); replace HB := Aside0.mk (below_step hb_ hb)))
    (try simp only [Act.put, List.setIfInBounds_toArray, List.set_cons_zero, List.set_cons_succ])
    have H := HF24.out
    clear HF24
    by_cases c26 : a2.toList = ([48] : List UInt8)
    ·rw [if_pos c26] at H
     have c26b0 : (a2.toList == ([48] : List UInt8)) = true := beq_iff_eq.mpr c26
     have c26b1 : (a2.toList != ([48] : List UInt8)) = false := bne_eq_false_iff_eq.mpr c26
     clear c26
     (first | rw [c26b0] | (simp only [i64_w, i32_w]; rw [c26b0]) | rw [c26b1] | skip)
     simp only [Option.some.injEq, Prod.mk.injEq] at H
     obtain ⟨rfl, rfl, rfl, rfl⟩ := H
     have hnb27 := NB1197_1196.out
     have hnc27 := NB1196_1197.out
     have hnb28 := NB1197_1202.out
     have hnc28 := NB1202_1197.out
     obtain ⟨hcz29_0, hcz29_1, hcz29_2, hfz29_0, hfz29_1, hfz29_2⟩ := BK1197.c3
     go_wp2
     refine bodyPost_ret (results_ct rfl _ _ gb1197 23 #[.bool false, .string (⟨#[]⟩ : ByteArray), .string (⟨#[]⟩ : ByteArray)] (0, 0) _ rfl (by refine put3_ (cs := #[.bool false, .string (⟨#[]⟩ : ByteArray), .string (⟨#[]⟩ : ByteArray)]) ?_; exact BK1197.out) Tryd.underlying23 rfl (by kernel_rfl)) rfl ?_
     exact fin_
    ·rw [if_neg c26] at H
     have c26b0 : (a2.toList == ([48] : List UInt8)) = false := beq_eq_false_iff_ne.mpr c26
     have c26b1 : (a2.toList != ([48] : List UInt8)) = true := bne_iff_ne.mpr c26
     (first | rw [c26b0] | (simp only [i64_w, i32_w]; rw [c26b0]) | rw [c26b1] | skip)
     replace H := Option.bind_eq_some_iff.mp H
     obtain ⟨⟨t1204, t1205, t1206, t1207⟩, A300, H⟩ := H
     try dsimp only at H
     have A30 := Aside0.mk A300
     clear A300
     simp only [Option.some.injEq, Prod.mk.injEq] at H
     obtain ⟨rfl, rfl, rfl, rfl⟩ := H
     have hnb31 := NB1202_1196.out
     have hnc31 := NB1196_1202.out
     have hnb32 := NB1202_1197.out
     have hnc32 := NB1197_1202.out
     obtain ⟨hcz33_0, hcz33_1, hcz33_2, hfz33_0, hfz33_1, hfz33_2⟩ := BK1202.c3
     go_wp2_with (first | ((with_reducible refine gate_callee (f := 27) rfl ?_); refine gL_ (some 34) Tryd.func27 #[.agg #[.bool t1198, .string t1199, .string t1200], .agg #[.bool false, .string a2, .string (⟨#[]⟩ : ByteArray)]] ?_; (with_reducible refine (decimal_Rem.calls k t1198 t1199 t1200 false a2 (⟨#[]⟩ : ByteArray) t1204 t1205 t1206 t1207 _ A30.out).mono ?_); rintro e w34 ⟨rfl, hb⟩; refine ⟨_, rfl, ?_⟩; replace BK1196 := BK1196.bl hb; replace BK1197 := BK1197.bl hb; replace BK1202 := BK1202.bl hb; replace HB := Aside0.mk (below_step hb_ hb); have hnb35 := NB1197_1196.out; have hnc35 := NB1196_1197.out; obtain ⟨hcz36_0, hcz36_1, hcz36_2, hfz36_0, hfz36_1, hfz36_2⟩ := BK1197.c3))
     refine bodyPost_ret (results_ct rfl _ _ gb1197 23 #[.bool t1204, .string t1205, .string t1206] (0, 0) _ rfl (by refine put3_ (cs := #[.bool false, .string (⟨#[]⟩ : ByteArray), .string (⟨#[]⟩ : ByteArray)]) ?_; exact BK1197.out) Tryd.underlying23 rfl (by kernel_rfl)) rfl ?_
     exact fin_
   ·replace c23 := Bool.eq_false_iff.mpr c23
    subst c23
    have H1 : (some (false, (⟨#[]⟩ : ByteArray), (⟨#[]⟩ : ByteArray), 40)) = some (r1, r2, r3, r4) := by rw [if_neg (show ¬ (false = true) by decide)] at H; exact H
    clear H
    have H := H1
    clear H1
    simp only [Option.some.injEq, Prod.mk.injEq] at H
    obtain ⟨rfl, rfl, rfl, rfl⟩ := H
    go_wp2_with (first | ((with_reducible refine gate_callee (f := 86) rfl ?_); refine gL_ (some 24) Tryd.func86 #[.string a2] ?_; (with_reducible refine (operand_number.calls a2 false _ A22.out).mono ?_); rintro e w37 ⟨rfl, hb⟩; refine ⟨_, rfl, ?_⟩; replace BK1196 := Aside0.mk (blk_below (g := gb1196) (o := .cells #[.bool a0_0, .string a0_1, .string a0_2, .string a0_3, .int .i64 a0_4, .int .i64 a0_5, .string a0_6, .string a0_7, .int .i64 a0_8] 45 (0, 0)) (by refine far3_ ?_ NB1196_1202.out; exact BK1196.out) hb); replace BK1197 := Aside0.mk (blk_below (g := gb1197) (o := .cells #[.bool false, .string (⟨#[]⟩ : ByteArray), .string (⟨#[]⟩ : ByteArray)] 23 (0, 0)) (by refine far3_ ?_ NB1197_1202.out; exact BK1197.out) hb); replace BK1202 := Aside0.mk (blk_below (g := gb1202) (o := .cells #[.bool t1198, .string t1199, .string t1200] 23 (0, 0)) (by refine put3_ (cs := #[.bool false, .string (⟨#[]⟩ : ByteArray), .string (⟨#[]⟩ : ByteArray)]) ?_; exact BK1202.out) hb); replace HB := Aside0.mk (below_step hb_ hb); have hnb38 := NB1197_1196.out; have hnc38 := NB1196_1197.out; have hnb39 := NB1197_1202.out; have hnc39 := NB1202_1197.out; obtain ⟨hcz40_0, hcz40_1, hcz40_2, hfz40_0, hfz40_1, hfz40_2⟩ := BK1197.c3))
    refine bodyPost_ret (results_ct rfl _ _ gb1197 23 #[.bool false, .string (⟨#[]⟩ : ByteArray), .string (⟨#[]⟩ : ByteArray)] (0, 0) _ rfl (by refine put3_ (cs := #[.bool false, .string (⟨#[]⟩ : ByteArray), .string (⟨#[]⟩ : ByteArray)]) ?_; exact BK1197.out) Tryd.underlying23 rfl (by kernel_rfl)) rfl ?_
    exact fin_
 ·rw [if_neg c15] at H
  have c15b0 : (t1201 == 0) = false := beq_eq_false_iff_ne.mpr c15
  have c15b1 : (t1201 != 0) = true := bne_iff_ne.mpr c15
  (first | rw [c15b0] | (simp only [i64_w, i32_w]; rw [c15b0]) | rw [c15b1] | skip)
  simp only [Option.some.injEq, Prod.mk.injEq] at H
  obtain ⟨rfl, rfl, rfl, rfl⟩ := H
  have hnb41 := NB1197_1196.out
  have hnc41 := NB1196_1197.out
  have hnb42 := NB1197_1202.out
  have hnc42 := NB1202_1197.out
  obtain ⟨hcz43_0, hcz43_1, hcz43_2, hfz43_0, hfz43_1, hfz43_2⟩ := BK1197.c3
  go_wp2
  refine bodyPost_ret (results_ct rfl _ _ gb1197 23 #[.bool false, .string (⟨#[]⟩ : ByteArray), .string (⟨#[]⟩ : ByteArray)] (0, 0) _ rfl (by refine put3_ (cs := #[.bool false, .string (⟨#[]⟩ : ByteArray), .string (⟨#[]⟩ : ByteArray)]) ?_; refine far3_ ?_ NB1197_1202.out; exact BK1197.out) Tryd.underlying23 rfl (by kernel_rfl)) rfl ?_
  exact fin_
end Go.Proofs.YtihjcaglhjepdaaDoor.P
