/- A part of the proof. Part 5 of 7; its texts were written by programs, some out of the kit's print. -/
import Derived.Test.YtihjcaglhjepdaaGreatDoorZOv3
namespace Go.Proofs.YtihjcaglhjepdaaGreatDoor.P
open Go.RowKit Go.Proofs.YtihjcaglhjepdaaGreatDoorW.PrintWords Go.Proofs.YtihjcaglhjepdaaGreatDoorW.PrintLast Go.Proofs.YtihjcaglhjepdaaGreatDoorW.PrintMore
attribute [local go_sem] max2_int max_two
set_option linter.unusedVariables false
set_option linter.unusedSimpArgs false
mutual
def operand_In.j0 : Nat → Bool → ByteArray → ByteArray → Bool → Bool → List (S48) → Bool → ByteArray → ByteArray → Option (Bool × Int)
  | 0, _, _, _, _, _, _, _, _, _ => none
  | k + 1, x38, x500000, x500001, x500002, x500003, x500004, x505000, x505001, x505002 => if x38 = true then (some (false, 40)) else (operand_In.l0 k x500004 (x500004.length : Int) 0 x500000 x500001 x500002 x500003 x500004 x505000 x505001 x505002)
def operand_In.l0 : Nat → List (S48) → Int → Int → ByteArray → ByteArray → Bool → Bool → List (S48) → Bool → ByteArray → ByteArray → Option (Bool × Int)
  | 0, _, _, _, _, _, _, _, _, _, _, _ => none
  | k + 1, x40, x41, x42, x500000, x500001, x500002, x500003, x500004, x505000, x505001, x505002 => if x42 < x41 then (if 0 ≤ x42 then (if x42 < (x40.length : Int) then ((operand_number.f ((rd_T48 x40 x42).f0)).bind fun t507 => (if t507 = true then ((operand_number.f ((rd_T48 x40 x42).f1)).bind fun t508 => (if t508 = true then (if (((rd_T48 x40 x42).f0).size : Int) > (((rd_T48 x40 x42).f1).size : Int) then (some (false, 40)) else (if (((rd_T48 x40 x42).f0).size : Int) = (((rd_T48 x40 x42).f1).size : Int) then (if (Op.bytesLess (((rd_T48 x40 x42).f1).toList) (((rd_T48 x40 x42).f0).toList)) = true then (some (false, 40)) else (operand_In.l0 k x40 x41 (wrap64 (x42 + 1)) x500000 x500001 x500002 x500003 x500004 x505000 x505001 x505002)) else (operand_In.l0 k x40 x41 (wrap64 (x42 + 1)) x500000 x500001 x500002 x500003 x500004 x505000 x505001 x505002))) else (some (false, 40)))) else (some (false, 40)))) else (none)) else (none)) else (operand_In.l1 k false x500004 (x500004.length : Int) 0 x500000 x500001 x500002 x500003 x500004 x505000 x505001 x505002)
def operand_In.l1 : Nat → Bool → List (S48) → Int → Int → ByteArray → ByteArray → Bool → Bool → List (S48) → Bool → ByteArray → ByteArray → Option (Bool × Int)
  | 0, _, _, _, _, _, _, _, _, _, _, _, _ => none
  | k + 1, x10, x83, x84, x85, x500000, x500001, x500002, x500003, x500004, x505000, x505001, x505002 => if x85 < x84 then (if 0 ≤ x85 then (if x85 < (x83.length : Int) then ((decimal_Compare.f k false ((rd_T48 x83 x85).f0) (⟨#[]⟩ : ByteArray) x505000 x505001 x505002).bind fun bt511 => ((decimal_Compare.f k x505000 x505001 x505002 false ((rd_T48 x83 x85).f1) (⟨#[]⟩ : ByteArray)).bind fun bt513 => (if x10 = true then (operand_In.l1 k true x83 x84 (wrap64 (x85 + 1)) x500000 x500001 x500002 x500003 x500004 x505000 x505001 x505002) else (if bt511.1 ≤ 0 then (operand_In.l1 k (decide (bt513.1 ≤ 0)) x83 x84 (wrap64 (x85 + 1)) x500000 x500001 x500002 x500003 x500004 x505000 x505001 x505002) else (operand_In.l1 k false x83 x84 (wrap64 (x85 + 1)) x500000 x500001 x500002 x500003 x500004 x505000 x505001 x505002))))) else (none)) else (none)) else (if x500003 = true then (some ((x10 != x500002), 0)) else ((strings_Trim.f x505002 (⟨#[48]⟩ : ByteArray)).bind fun t515 => (if t515.toList = ([] : List UInt8) then (some ((x10 != x500002), 0)) else (some ((false != x500002), 0)))))
end
def operand_In.f (k : Nat) (a0_0 : Bool) (a0_1 : ByteArray) (a0_2 : ByteArray) (a0_3 : ByteArray) (a0_4 : Int) (a0_5 : Int) (a0_6 : ByteArray) (a0_7 : ByteArray) (a0_8 : Int) (a1_0 : ByteArray) (a1_1 : ByteArray) (a1_2 : Bool) (a1_3 : Bool) (l1_4 : List (S48)) : Option (Bool × Int) := (operand_Mod.f k a0_0 a0_1 a0_2 a0_3 a0_4 a0_5 a0_6 a0_7 a0_8 a1_0 a1_1).bind fun bt500 => (if bt500.2.2.2 = 0 then (if (l1_4.length : Int) < 1 then (operand_In.j0 k true a1_0 a1_1 a1_2 a1_3 l1_4 bt500.1 bt500.2.1 bt500.2.2.1) else (operand_In.j0 k (decide ((l1_4.length : Int) > 64)) a1_0 a1_1 a1_2 a1_3 l1_4 bt500.1 bt500.2.1 bt500.2.2.1)) else (some (false, bt500.2.2.2)))
set_option maxHeartbeats 8000000 in
set_option maxRecDepth 100000 in
theorem operand_In.calls (k : Nat) (a0_0 : Bool) (a0_1 : ByteArray) (a0_2 : ByteArray) (a0_3 : ByteArray) (a0_4 : Int) (a0_5 : Int) (a0_6 : ByteArray) (a0_7 : ByteArray) (a0_8 : Int) (a1_0 : ByteArray) (a1_1 : ByteArray) (a1_2 : Bool) (a1_3 : Bool) (A1_4 : Option Addr) (c1_4 : Nat) (l1_4 : List (S48)) (r1 : Bool) (r2 : Int) (w : World) (ht : TB w) (hr1_4 : Kd.C k48 w A1_4 l1_4.length l1_4) (hc1_4 : l1_4.length ≤ c1_4) (h : operand_In.f k a0_0 a0_1 a0_2 a0_3 a0_4 a0_5 a0_6 a0_7 a0_8 a1_0 a1_1 a1_2 a1_3 l1_4 = some (r1, r2)) :
    Calls Tryz.prog 10 #[.agg #[.bool a0_0, .string a0_1, .string a0_2, .string a0_3, .int .i64 a0_4, .int .i64 a0_5, .string a0_6, .string a0_7, .int .i64 a0_8], .agg #[.string a1_0, .string a1_1, .bool a1_2, .bool a1_3, .slice A1_4 l1_4.length c1_4]] w fun e w' => e = .returned (.tuple #[.bool r1, .int .i64 r2]) ∧ Below w.heap.size w w' := by
 have hu25 := Tryz.underlying25
 have hu28 := Tryz.underlying28
 have hu23 := Tryz.underlying23
 have hu48 := Tryz.underlying48
 have HR1_4 := Aside0.mk hr1_4
 have HC1_4 := Aside0.mk hc1_4
 clear hr1_4 hc1_4
 have HTB := Aside0.mk ht
 clear ht
 have HB := Aside0.mk (Below.refl w.heap.size w)
 unfold operand_In.f at h
 have H := h
 clear h
 replace H := Option.bind_eq_some_iff.mp H
 obtain ⟨⟨t500, t501, t502, t503⟩, A30, H⟩ := H
 try dsimp only at H
 have A3 := Aside0.mk A30
 clear A30
 have HF4 := Aside0.mk H
 clear H
 go_enter Tryz.func10, Tryz.ntmps10
 go_upto_if 27 with (first | ((with_reducible refine gate_dst (N := 2) rfl ?_); (try (refine gate_guard (by rfl) ?_; dsimp only)); refine box_event ?hg (N := 2) ?hd (cs := #[.bool a0_0, .string a0_1, .string a0_2, .string a0_3, .int .i64 a0_4, .int .i64 a0_5, .string a0_6, .string a0_7, .int .i64 a0_8]) (t := 25) ?hr ?_; (case hd => rfl); (case hg => rfl); (case hr => first | (go_simp; done) | (go_simp; rfl)); intro gb498 hg w5 hbox hb; have BK498 := Aside0.mk (hbox); have GW498 := ge_ (w := w) hg; have GE498 := ge_ (w := w) hg; replace HB := Aside0.mk (below_step hb_ hb); clear hb hbox hg) | ((with_reducible refine gate_dst (N := 3) rfl ?_); (try (refine gate_guard (by rfl) ?_; dsimp only)); refine box_event ?hg (N := 3) ?hd (cs := #[.string a1_0, .string a1_1, .bool a1_2, .bool a1_3, .slice A1_4 l1_4.length c1_4]) (t := 28) ?hr ?_; (case hd => rfl); (case hg => rfl); (case hr => first | (go_simp; done) | (go_simp; rfl)); intro gb499 hg w6 hbox hb; have BK499 := Aside0.mk (hbox); have GW499 := ge_ (w := w) hg; have GE499 := ge_ (w := w) hg; have NB498_499 := BK498.nl hg; have NB499_498 := BK498.ng hg; replace BK498 := BK498.bl hb; replace HB := Aside0.mk (below_step hb_ hb); clear hb hbox hg; have hnb7 := NB498_499.out; have hnc7 := NB499_498.out; obtain ⟨hcz8_0, hcz8_1, hcz8_2, hcz8_3, hcz8_4, hcz8_5, hcz8_6, hcz8_7, hcz8_8, hfz8_0, hfz8_1, hfz8_2, hfz8_3, hfz8_4, hfz8_5, hfz8_6, hfz8_7, hfz8_8⟩ := BK498.c9; obtain ⟨hcz9_0, hcz9_1, hcz9_2, hcz9_3, hcz9_4, hfz9_0, hfz9_1, hfz9_2, hfz9_3, hfz9_4⟩ := BK499.c5) | ((with_reducible refine gate_callee (f := 8) rfl ?_); refine gL_ (some 23) Tryz.func8 #[.agg #[.bool a0_0, .string a0_1, .string a0_2, .string a0_3, .int .i64 a0_4, .int .i64 a0_5, .string a0_6, .string a0_7, .int .i64 a0_8], .string a1_0, .string a1_1] ?_; (with_reducible refine (operand_Mod.calls k a0_0 a0_1 a0_2 a0_3 a0_4 a0_5 a0_6 a0_7 a0_8 a1_0 a1_1 t500 t501 t502 t503 _ (TB.below HTB.out hb_) A3.out).mono ?_); rintro e w10 ⟨rfl, hb⟩; refine ⟨_, rfl, ?_⟩; replace BK498 := BK498.bl hb; replace BK499 := BK499.bl hb; replace HB := Aside0.mk (below_step hb_ hb)) | ((with_reducible refine gate_dst (N := 6) rfl ?_); (try (refine gate_guard (by rfl) ?_; dsimp only)); refine box_event ?hg (N := 6) ?hd (cs := #[.bool false, .string (⟨#[]⟩ : ByteArray), .string (⟨#[]⟩ : ByteArray)]) (t := 23) ?hr ?_; (case hd => rfl); (case hg => rfl); (case hr => first | (go_simp; done) | (go_simp; rfl)); intro gb504 hg w11 hbox hb; have BK504 := Aside0.mk (hbox); have GW504 := ge_ (w := w) hg; have GE504 := ge_ (w := w) hg; have NB498_504 := BK498.nl hg; have NB504_498 := BK498.ng hg; have NB499_504 := BK499.nl hg; have NB504_499 := BK499.ng hg; replace BK498 := BK498.bl hb; replace BK499 := BK499.bl hb; replace HB := Aside0.mk (below_step hb_ hb); clear hb hbox hg; have hnb12 := NB504_498.out; have hnc12 := NB498_504.out; have hnb13 := NB504_499.out; have hnc13 := NB499_504.out; obtain ⟨hcz14_0, hcz14_1, hcz14_2, hfz14_0, hfz14_1, hfz14_2⟩ := BK504.c3))
 (try simp only [Act.put, List.setIfInBounds_toArray, List.set_cons_zero, List.set_cons_succ])
 have H := HF4.out
 clear HF4
 by_cases c15 : t503 = 0
 ·rw [if_pos c15] at H
  have c15b0 : (t503 == 0) = true := beq_iff_eq.mpr c15
  have c15b1 : (t503 != 0) = false := bne_eq_false_iff_eq.mpr c15
  clear c15
  (first | rw [c15b0] | (simp only [i64_w, i32_w]; rw [c15b0]) | rw [c15b1] | skip)
  have HC16 := Aside0.mk H
  clear H
  go_upto_region 4 with (fail)
  go_cut [38] (fun v38 wc => ∃ (kq : Nat) (x38_15 : Bool), v38 = .bool x38_15 ∧ Aside0 (operand_In.j0 kq x38_15 a1_0 a1_1 a1_2 a1_3 l1_4 t500 t501 t502 = some (r1, r2)) ∧ Aside0 (kq ≤ k) ∧ Aside0 (wc.heap[gb498]? = some (.cells #[.bool a0_0, .string a0_1, .string a0_2, .string a0_3, .int .i64 a0_4, .int .i64 a0_5, .string a0_6, .string a0_7, .int .i64 a0_8] 25 (0, 0))) ∧ Aside0 (wc.heap[gb499]? = some (.cells #[.string a1_0, .string a1_1, .bool a1_2, .bool a1_3, (.slice A1_4 l1_4.length c1_4)] 28 (0, 0))) ∧ Aside0 (wc.heap[gb504]? = some (.cells #[.bool t500, .string t501, .string t502] 23 (0, 0))) ∧ Aside0 (Below w.heap.size w wc))
  case first =>
   have H := HC16.out
   clear HC16
   by_cases c17 : (l1_4.length : Int) < 1
   ·rw [if_pos c17] at H
    have c17b0 : decide ((l1_4.length : Int) < 1) = true := decide_eq_true c17
    have c17b1 : decide (l1_4.length < 1) = true := decide_eq_true (by omega)
    clear c17
    (first | rw [c17b0] | (simp only [i64_w, i32_w]; rw [c17b0]) | rw [c17b1] | skip)
    have H' := Aside0.mk H
    clear H
    have hnb18 := NB499_498.out
    have hnc18 := NB498_499.out
    have hnb19 := NB499_504.out
    have hnc19 := NB504_499.out
    obtain ⟨hcz20_0, hcz20_1, hcz20_2, hcz20_3, hcz20_4, hfz20_0, hfz20_1, hfz20_2, hfz20_3, hfz20_4⟩ := BK499.c5
    go_wp2
    go_meet
    case rel => exact ⟨_, (true), (by first | rfl | (simp; done) | (simp [*]; done)), H', ⟨by first | omega | exact Nat.le_refl _⟩, ⟨by refine far3_ ?_ NB498_504.out; exact BK498.out⟩, ⟨by refine far3_ ?_ NB499_504.out; exact BK499.out⟩, ⟨by refine put3_ (cs := #[.bool false, .string (⟨#[]⟩ : ByteArray), .string (⟨#[]⟩ : ByteArray)]) ?_; exact BK504.out⟩, ⟨hb_⟩⟩
   ·rw [if_neg c17] at H
    have c17b0 : decide ((l1_4.length : Int) < 1) = false := decide_eq_false c17
    have c17b1 : decide (l1_4.length < 1) = false := decide_eq_false (by omega)
    clear c17
    (first | rw [c17b0] | (simp only [i64_w, i32_w]; rw [c17b0]) | rw [c17b1] | skip)
    have H' := Aside0.mk H
    clear H
    have hnb21 := NB499_498.out
    have hnc21 := NB498_499.out
    have hnb22 := NB499_504.out
    have hnc22 := NB504_499.out
    obtain ⟨hcz23_0, hcz23_1, hcz23_2, hcz23_3, hcz23_4, hfz23_0, hfz23_1, hfz23_2, hfz23_3, hfz23_4⟩ := BK499.c5
    go_wp2
    go_meet
    case rel => exact ⟨_, (decide ((l1_4.length : Int) > 64)), (by first | rfl | (simp; done) | (simp [*]; done)), H', ⟨by first | omega | exact Nat.le_refl _⟩, ⟨by refine far3_ ?_ NB498_504.out; exact BK498.out⟩, ⟨by refine far3_ ?_ NB499_504.out; exact BK499.out⟩, ⟨by refine put3_ (cs := #[.bool false, .string (⟨#[]⟩ : ByteArray), .string (⟨#[]⟩ : ByteArray)]) ?_; exact BK504.out⟩, ⟨hb_⟩⟩
  case rest =>
   clear HC16
   (try clear c15); (try clear c15b0); (try clear c15b1); (try clear hcz14_0); (try clear hcz14_1); (try clear hcz14_2); (try clear hcz8_0); (try clear hcz8_1); (try clear hcz8_2); (try clear hcz8_3); (try clear hcz8_4); (try clear hcz8_5); (try clear hcz8_6); (try clear hcz8_7); (try clear hcz8_8); (try clear hcz9_0); (try clear hcz9_1); (try clear hcz9_2); (try clear hcz9_3); (try clear hcz9_4); (try clear hfz14_0); (try clear hfz14_1); (try clear hfz14_2); (try clear hfz8_0); (try clear hfz8_1); (try clear hfz8_2); (try clear hfz8_3); (try clear hfz8_4); (try clear hfz8_5); (try clear hfz8_6); (try clear hfz8_7); (try clear hfz8_8); (try clear hfz9_0); (try clear hfz9_1); (try clear hfz9_2); (try clear hfz9_3); (try clear hfz9_4)
   obtain ⟨kq, x38_15, rfl, HA, HJ15, BK498, BK499, BK504, HB⟩ := hcut
   cases kq with
   | zero => exact absurd HA.out (by simp [operand_In.j0])
   | succ kj15 =>
    have H := HA.out
    clear HA
    simp only [operand_In.j0] at H
    by_cases c24 : x38_15 = true
    ·subst c24
     have H1 : (some (false, 40)) = some (r1, r2) := by rw [if_pos rfl] at H; exact H
     clear H
     have H := H1
     clear H1
     simp only [Option.some.injEq, Prod.mk.injEq] at H
     obtain ⟨rfl, rfl⟩ := H
     go_wp2
     go_ret2
     exact fin_
    ·replace c24 := Bool.eq_false_iff.mpr c24
     subst c24
     have H1 : (operand_In.l0 kj15 l1_4 (l1_4.length : Int) 0 a1_0 a1_1 a1_2 a1_3 l1_4 t500 t501 t502) = some (r1, r2) := by rw [if_neg (show ¬ (false = true) by decide)] at H; exact H
     clear H
     have H := H1
     clear H1
     have H' := Aside0.mk H
     clear H
     have hnb25 := NB499_498.out
     have hnc25 := NB498_499.out
     have hnb26 := NB499_504.out
     have hnc26 := NB504_499.out
     obtain ⟨hcz27_0, hcz27_1, hcz27_2, hcz27_3, hcz27_4, hfz27_0, hfz27_1, hfz27_2, hfz27_3, hfz27_4⟩ := BK499.c5
     go_wp2
     go_loopg [42] kj15 (fun kq v42 w' => ∃ (x42_2 : Int), v42 = .int .i64 x42_2 ∧ Aside0 (operand_In.l0 kq l1_4 (l1_4.length : Int) x42_2 a1_0 a1_1 a1_2 a1_3 l1_4 t500 t501 t502 = some (r1, r2)) ∧ Aside0 (kq ≤ kj15) ∧ Aside0 (w'.heap[gb498]? = some (.cells #[.bool a0_0, .string a0_1, .string a0_2, .string a0_3, .int .i64 a0_4, .int .i64 a0_5, .string a0_6, .string a0_7, .int .i64 a0_8] 25 (0, 0))) ∧ Aside0 (w'.heap[gb499]? = some (.cells #[.string a1_0, .string a1_1, .bool a1_2, .bool a1_3, (.slice A1_4 l1_4.length c1_4)] 28 (0, 0))) ∧ Aside0 (w'.heap[gb504]? = some (.cells #[.bool t500, .string t501, .string t502] 23 (0, 0))) ∧ Aside0 (Below w.heap.size w w'))
     case atStart => exact ⟨(0), (by first | rfl | (simp; done) | (simp [*]; done)), H', ⟨Nat.le_refl _⟩, ⟨by exact BK498.out⟩, ⟨by exact BK499.out⟩, ⟨by exact BK504.out⟩, ⟨hb_⟩⟩
     case round =>
      clear H'
      (try clear c15); (try clear c15b0); (try clear c15b1); (try clear c24); (try clear hcz14_0); (try clear hcz14_1); (try clear hcz14_2); (try clear hcz27_0); (try clear hcz27_1); (try clear hcz27_2); (try clear hcz27_3); (try clear hcz27_4); (try clear hcz8_0); (try clear hcz8_1); (try clear hcz8_2); (try clear hcz8_3); (try clear hcz8_4); (try clear hcz8_5); (try clear hcz8_6); (try clear hcz8_7); (try clear hcz8_8); (try clear hcz9_0); (try clear hcz9_1); (try clear hcz9_2); (try clear hcz9_3); (try clear hcz9_4); (try clear hfz14_0); (try clear hfz14_1); (try clear hfz14_2); (try clear hfz27_0); (try clear hfz27_1); (try clear hfz27_2); (try clear hfz27_3); (try clear hfz27_4); (try clear hfz8_0); (try clear hfz8_1); (try clear hfz8_2); (try clear hfz8_3); (try clear hfz8_4); (try clear hfz8_5); (try clear hfz8_6); (try clear hfz8_7); (try clear hfz8_8); (try clear hfz9_0); (try clear hfz9_1); (try clear hfz9_2); (try clear hfz9_3); (try clear hfz9_4)
      obtain ⟨x42_2, rfl, HA, HK2, BK498, BK499, BK504, HB⟩ := hrel
      cases gk with
      | zero => exact absurd HA.out (by simp [operand_In.l0])
      | succ k2 =>
       have H := HA.out
       clear HA
       simp only [operand_In.l0] at H
       by_cases c28 : x42_2 < (l1_4.length : Int)
       ·rw [if_pos c28] at H
        have c28b0 : decide (x42_2 < (l1_4.length : Int)) = true := decide_eq_true c28
        clear c28
        by_cases c29 : 0 ≤ x42_2
        ·rw [if_pos c29] at H
         have c29b0 : decide (0 ≤ x42_2) = true := decide_eq_true c29
         clear c29
         by_cases c30 : x42_2 < (l1_4.length : Int)
         ·rw [if_pos c30] at H
          have c30b0 : decide (x42_2 < (l1_4.length : Int)) = true := decide_eq_true c30
          clear c30
          replace H := Option.bind_eq_some_iff.mp H
          obtain ⟨t507, A310, H⟩ := H
          try dsimp only at H
          have A31 := Aside0.mk A310
          clear A310
          by_cases c32 : t507 = true
          ·subst c32
           have H1 : ((operand_number.f ((rd_T48 l1_4 x42_2).f1)).bind fun t508 => (if t508 = true then (if (((rd_T48 l1_4 x42_2).f0).size : Int) > (((rd_T48 l1_4 x42_2).f1).size : Int) then (some (false, 40)) else (if (((rd_T48 l1_4 x42_2).f0).size : Int) = (((rd_T48 l1_4 x42_2).f1).size : Int) then (if (Op.bytesLess (((rd_T48 l1_4 x42_2).f1).toList) (((rd_T48 l1_4 x42_2).f0).toList)) = true then (some (false, 40)) else (operand_In.l0 k2 l1_4 (l1_4.length : Int) (wrap64 (x42_2 + 1)) a1_0 a1_1 a1_2 a1_3 l1_4 t500 t501 t502)) else (operand_In.l0 k2 l1_4 (l1_4.length : Int) (wrap64 (x42_2 + 1)) a1_0 a1_1 a1_2 a1_3 l1_4 t500 t501 t502))) else (some (false, 40)))) = some (r1, r2) := by rw [if_pos rfl] at H; exact H
           clear H
           have H := H1
           clear H1
           replace H := Option.bind_eq_some_iff.mp H
           obtain ⟨t508, A330, H⟩ := H
           try dsimp only at H
           have A33 := Aside0.mk A330
           clear A330
           by_cases c34 : t508 = true
           ·subst c34
            have H1 : (if (((rd_T48 l1_4 x42_2).f0).size : Int) > (((rd_T48 l1_4 x42_2).f1).size : Int) then (some (false, 40)) else (if (((rd_T48 l1_4 x42_2).f0).size : Int) = (((rd_T48 l1_4 x42_2).f1).size : Int) then (if (Op.bytesLess (((rd_T48 l1_4 x42_2).f1).toList) (((rd_T48 l1_4 x42_2).f0).toList)) = true then (some (false, 40)) else (operand_In.l0 k2 l1_4 (l1_4.length : Int) (wrap64 (x42_2 + 1)) a1_0 a1_1 a1_2 a1_3 l1_4 t500 t501 t502)) else (operand_In.l0 k2 l1_4 (l1_4.length : Int) (wrap64 (x42_2 + 1)) a1_0 a1_1 a1_2 a1_3 l1_4 t500 t501 t502))) = some (r1, r2) := by rw [if_pos rfl] at H; exact H
            clear H
            have H := H1
            clear H1
            by_cases c35 : (((rd_T48 l1_4 x42_2).f0).size : Int) > (((rd_T48 l1_4 x42_2).f1).size : Int)
            ·rw [if_pos c35] at H
             have c35b0 : decide ((((rd_T48 l1_4 x42_2).f1).size : Int) < (((rd_T48 l1_4 x42_2).f0).size : Int)) = true := decide_eq_true c35
             have c35b1 : decide (((rd_T48 l1_4 x42_2).f1).size < ((rd_T48 l1_4 x42_2).f0).size) = true := decide_eq_true (Int.ofNat_lt.mp c35)
             clear c35
             simp only [Option.some.injEq, Prod.mk.injEq] at H
             obtain ⟨rfl, rfl⟩ := H
             have p505 : 0 ≤ (x42_2 : Int) := of_decide_eq_true (by first | (with_reducible assumption) | assumption)
             have q505 : x42_2 < (l1_4.length : Int) := of_decide_eq_true (by first | (with_reducible assumption) | assumption)
             obtain ⟨ad505, e505, hx505_0, hx505_1⟩ := at_T48 HR1_4.out x42_2 p505 q505
             cases e505
             replace hx505_0 := (HB.out.cell (World.block_lt_of_cell? w _ hx505_0)).trans hx505_0
             replace hx505_1 := (HB.out.cell (World.block_lt_of_cell? w _ hx505_1)).trans hx505_1
             replace p505 := eq_true p505
             replace q505 := eq_true q505
             go_wp2_with (first | ((with_reducible refine gate_dst (N := 9) rfl ?_); (try (refine gate_guard (by rfl) ?_; dsimp only)); refine box_event ?hg (N := 9) ?hd (cs := #[.string (⟨#[]⟩ : ByteArray), .string (⟨#[]⟩ : ByteArray)]) (t := 48) ?hr ?_; (case hd => rfl); (case hg => rfl); (case hr => first | (go_simp; done) | (go_simp; rfl)); intro gb506 hg w36 hbox hb; have BK506 := Aside0.mk (hbox); have GW506 := ge_ (w := w) hg; have GE506 := ge_ (w := w) hg; have NB498_506 := BK498.nl hg; have NB506_498 := BK498.ng hg; have NB499_506 := BK499.nl hg; have NB506_499 := BK499.ng hg; have NB504_506 := BK504.nl hg; have NB506_504 := BK504.ng hg; replace BK498 := BK498.bl hb; replace BK499 := BK499.bl hb; replace BK504 := BK504.bl hb; replace HB := Aside0.mk (below_step hb_ hb); clear hb hbox hg; have hnb37 := NB506_498.out; have hnc37 := NB498_506.out; have hnb38 := NB506_499.out; have hnc38 := NB499_506.out; have hnb39 := NB506_504.out; have hnc39 := NB504_506.out; obtain ⟨hcz40_0, hcz40_1, hfz40_0, hfz40_1⟩ := BK506.c2) | ((with_reducible refine gate_callee (f := 19) rfl ?_); refine gL_ (some 48) Tryz.func19 #[.string ((rd_T48 l1_4 x42_2).f0)] ?_; (with_reducible refine (operand_number.calls ((rd_T48 l1_4 x42_2).f0) true _ A31.out).mono ?_); rintro e w41 ⟨rfl, hb⟩; refine ⟨_, rfl, ?_⟩; replace BK498 := Aside0.mk (blk_below (g := gb498) (o := .cells #[.bool a0_0, .string a0_1, .string a0_2, .string a0_3, .int .i64 a0_4, .int .i64 a0_5, .string a0_6, .string a0_7, .int .i64 a0_8] 25 (0, 0)) (by refine blk_far ?_ NB498_506.out _; refine blk_far ?_ NB498_506.out _; exact BK498.out) hb); replace BK499 := Aside0.mk (blk_below (g := gb499) (o := .cells #[.string a1_0, .string a1_1, .bool a1_2, .bool a1_3, .slice (some ad505) l1_4.length c1_4] 28 (0, 0)) (by refine blk_far ?_ NB499_506.out _; refine blk_far ?_ NB499_506.out _; exact BK499.out) hb); replace BK504 := Aside0.mk (blk_below (g := gb504) (o := .cells #[.bool t500, .string t501, .string t502] 23 (0, 0)) (by refine blk_far ?_ NB504_506.out _; refine blk_far ?_ NB504_506.out _; exact BK504.out) hb); replace BK506 := Aside0.mk (blk_below (g := gb506) (o := .cells #[.string ((rd_T48 l1_4 x42_2).f0), .string ((rd_T48 l1_4 x42_2).f1)] 48 (0, 0)) (by refine blk_put (cs := #[.string ((rd_T48 l1_4 x42_2).f0), .string (⟨#[]⟩ : ByteArray)]) ?_ 1 _ rfl; refine blk_put (cs := #[.string (⟨#[]⟩ : ByteArray), .string (⟨#[]⟩ : ByteArray)]) ?_ 0 _ rfl; exact BK506.out) hb); replace HB := Aside0.mk (below_step hb_ hb); obtain ⟨hcz42_0, hcz42_1, hfz42_0, hfz42_1⟩ := BK506.c2) | (go_at_call 19; (with_reducible refine (operand_number.calls ((rd_T48 l1_4 x42_2).f1) true _ A33.out).mono ?_); rintro e w43 ⟨rfl, hb⟩; replace BK498 := BK498.bl hb; replace BK499 := BK499.bl hb; replace BK504 := BK504.bl hb; replace BK506 := BK506.bl hb; replace HB := Aside0.mk (below_step hb_ hb); obtain ⟨hcz44_0, hcz44_1, hfz44_0, hfz44_1⟩ := BK506.c2))
             go_ret2
             exact fin_
            ·rw [if_neg c35] at H
             have c35b0 : decide ((((rd_T48 l1_4 x42_2).f1).size : Int) < (((rd_T48 l1_4 x42_2).f0).size : Int)) = false := decide_eq_false c35
             have c35b1 : decide (((rd_T48 l1_4 x42_2).f1).size < ((rd_T48 l1_4 x42_2).f0).size) = false := decide_eq_false (fun h => c35 (Int.ofNat_lt.mpr h))
             clear c35
             by_cases c45 : (((rd_T48 l1_4 x42_2).f0).size : Int) = (((rd_T48 l1_4 x42_2).f1).size : Int)
             ·rw [if_pos c45] at H
              have c45b0 : ((((rd_T48 l1_4 x42_2).f0).size : Int) == (((rd_T48 l1_4 x42_2).f1).size : Int)) = true := beq_iff_eq.mpr c45
              have c45b1 : ((((rd_T48 l1_4 x42_2).f0).size : Int) != (((rd_T48 l1_4 x42_2).f1).size : Int)) = false := bne_eq_false_iff_eq.mpr c45
              have c45b2 : (((rd_T48 l1_4 x42_2).f0).size == ((rd_T48 l1_4 x42_2).f1).size) = true := by first | simpa using c45 | (simp at c45 ⊢; omega)
              clear c45
              have HF46 := Aside0.mk H
              clear H
              have p505 : 0 ≤ (x42_2 : Int) := of_decide_eq_true (by first | (with_reducible assumption) | assumption)
              have q505 : x42_2 < (l1_4.length : Int) := of_decide_eq_true (by first | (with_reducible assumption) | assumption)
              obtain ⟨ad505, e505, hx505_0, hx505_1⟩ := at_T48 HR1_4.out x42_2 p505 q505
              cases e505
              replace hx505_0 := (HB.out.cell (World.block_lt_of_cell? w _ hx505_0)).trans hx505_0
              replace hx505_1 := (HB.out.cell (World.block_lt_of_cell? w _ hx505_1)).trans hx505_1
              replace p505 := eq_true p505
              replace q505 := eq_true q505
              go_upto_if 80 with (first | ((with_reducible refine gate_dst (N := 9) rfl ?_); (try (refine gate_guard (by rfl) ?_; dsimp only)); refine box_event ?hg (N := 9) ?hd (cs := #[.string (⟨#[]⟩ : ByteArray), .string (⟨#[]⟩ : ByteArray)]) (t := 48) ?hr ?_; (case hd => rfl); (case hg => rfl); (case hr => first | (go_simp; done) | (go_simp; rfl)); intro gb506 hg w47 hbox hb; have BK506 := Aside0.mk (hbox); have GW506 := ge_ (w := w) hg; have GE506 := ge_ (w := w) hg; have NB498_506 := BK498.nl hg; have NB506_498 := BK498.ng hg; have NB499_506 := BK499.nl hg; have NB506_499 := BK499.ng hg; have NB504_506 := BK504.nl hg; have NB506_504 := BK504.ng hg; replace BK498 := BK498.bl hb; replace BK499 := BK499.bl hb; replace BK504 := BK504.bl hb; replace HB := Aside0.mk (below_step hb_ hb); clear hb hbox hg; have hnb48 := NB506_498.out; have hnc48 := NB498_506.out; have hnb49 := NB506_499.out; have hnc49 := NB499_506.out; have hnb50 := NB506_504.out; have hnc50 := NB504_506.out; obtain ⟨hcz51_0, hcz51_1, hfz51_0, hfz51_1⟩ := BK506.c2) | ((with_reducible refine gate_callee (f := 19) rfl ?_); refine gL_ (some 48) Tryz.func19 #[.string ((rd_T48 l1_4 x42_2).f0)] ?_; (with_reducible refine (operand_number.calls ((rd_T48 l1_4 x42_2).f0) true _ A31.out).mono ?_); rintro e w52 ⟨rfl, hb⟩; refine ⟨_, rfl, ?_⟩; replace BK498 := Aside0.mk (blk_below (g := gb498) (o := .cells #[.bool a0_0, .string a0_1, .string a0_2, .string a0_3, .int .i64 a0_4, .int .i64 a0_5, .string a0_6, .string a0_7, .int .i64 a0_8] 25 (0, 0)) (by refine blk_far ?_ NB498_506.out _; refine blk_far ?_ NB498_506.out _; exact BK498.out) hb); replace BK499 := Aside0.mk (blk_below (g := gb499) (o := .cells #[.string a1_0, .string a1_1, .bool a1_2, .bool a1_3, .slice (some ad505) l1_4.length c1_4] 28 (0, 0)) (by refine blk_far ?_ NB499_506.out _; refine blk_far ?_ NB499_506.out _; exact BK499.out) hb); replace BK504 := Aside0.mk (blk_below (g := gb504) (o := .cells #[.bool t500, .string t501, .string t502] 23 (0, 0)) (by refine blk_far ?_ NB504_506.out _; refine blk_far ?_ NB504_506.out _; exact BK504.out) hb); replace BK506 := Aside0.mk (blk_below (g := gb506) (o := .cells #[.string ((rd_T48 l1_4 x42_2).f0), .string ((rd_T48 l1_4 x42_2).f1)] 48 (0, 0)) (by refine blk_put (cs := #[.string ((rd_T48 l1_4 x42_2).f0), .string (⟨#[]⟩ : ByteArray)]) ?_ 1 _ rfl; refine blk_put (cs := #[.string (⟨#[]⟩ : ByteArray), .string (⟨#[]⟩ : ByteArray)]) ?_ 0 _ rfl; exact BK506.out) hb); replace HB := Aside0.mk (below_step hb_ hb); obtain ⟨hcz53_0, hcz53_1, hfz53_0, hfz53_1⟩ := BK506.c2) | (go_at_call 19; (with_reducible refine (operand_number.calls ((rd_T48 l1_4 x42_2).f1) true _ A33.out).mono ?_); rintro e w54 ⟨rfl, hb⟩; replace BK498 := BK498.bl hb; replace BK499 := BK499.bl hb; replace BK504 := BK504.bl hb; replace BK506 := BK506.bl hb; replace HB := Aside0.mk (below_step hb_ hb); obtain ⟨hcz55_0, hcz55_1, hfz55_0, hfz55_1⟩ := BK506.c2))
              (try simp only [Act.put, List.setIfInBounds_toArray, List.set_cons_zero, List.set_cons_succ])
              have H := HF46.out
              clear HF46
              by_cases c56 : (Op.bytesLess (((rd_T48 l1_4 x42_2).f1).toList) (((rd_T48 l1_4 x42_2).f0).toList)) = true
              ·rw [if_pos c56] at H
               have c56b0 : (Op.bytesLess (((rd_T48 l1_4 x42_2).f1).toList) (((rd_T48 l1_4 x42_2).f0).toList)) = true := c56
               clear c56
               (first | rw [c56b0] | (simp only [i64_w, i32_w]; rw [c56b0]) | skip)
               simp only [Option.some.injEq, Prod.mk.injEq] at H
               obtain ⟨rfl, rfl⟩ := H
               go_wp2
               go_ret2
               exact fin_
              ·rw [if_neg c56] at H
               have c56b0 : (Op.bytesLess (((rd_T48 l1_4 x42_2).f1).toList) (((rd_T48 l1_4 x42_2).f0).toList)) = false := by simpa using c56
               clear c56
               (first | rw [c56b0] | (simp only [i64_w, i32_w]; rw [c56b0]) | skip)
               have H' := Aside0.mk H
               clear H
               go_wp2
               go_roundg k2
               case measure => have := HJ15.out; have := HK2.out; omega
               case rel => exact ⟨(wrap64 (x42_2 + 1)), (by first | rfl | (simp; done) | (simp [*]; done)), H', ⟨by have := HJ15.out; have := HK2.out; omega⟩, ⟨by exact BK498.out⟩, ⟨by exact BK499.out⟩, ⟨by exact BK504.out⟩, ⟨hb_⟩⟩
             ·rw [if_neg c45] at H
              have c45b0 : ((((rd_T48 l1_4 x42_2).f0).size : Int) == (((rd_T48 l1_4 x42_2).f1).size : Int)) = false := beq_eq_false_iff_ne.mpr c45
              have c45b1 : ((((rd_T48 l1_4 x42_2).f0).size : Int) != (((rd_T48 l1_4 x42_2).f1).size : Int)) = true := bne_iff_ne.mpr c45
              have c45b2 : (((rd_T48 l1_4 x42_2).f0).size == ((rd_T48 l1_4 x42_2).f1).size) = false := by first | simpa using c45 | (simp at c45 ⊢; omega)
              have H' := Aside0.mk H
              clear H
              have p505 : 0 ≤ (x42_2 : Int) := of_decide_eq_true (by first | (with_reducible assumption) | assumption)
              have q505 : x42_2 < (l1_4.length : Int) := of_decide_eq_true (by first | (with_reducible assumption) | assumption)
              obtain ⟨ad505, e505, hx505_0, hx505_1⟩ := at_T48 HR1_4.out x42_2 p505 q505
              cases e505
              replace hx505_0 := (HB.out.cell (World.block_lt_of_cell? w _ hx505_0)).trans hx505_0
              replace hx505_1 := (HB.out.cell (World.block_lt_of_cell? w _ hx505_1)).trans hx505_1
              replace p505 := eq_true p505
              replace q505 := eq_true q505
              go_wp2_with (first | ((with_reducible refine gate_dst (N := 9) rfl ?_); (try (refine gate_guard (by rfl) ?_; dsimp only)); refine box_event ?hg (N := 9) ?hd (cs := #[.string (⟨#[]⟩ : ByteArray), .string (⟨#[]⟩ : ByteArray)]) (t := 48) ?hr ?_; (case hd => rfl); (case hg => rfl); (case hr => first | (go_simp; done) | (go_simp; rfl)); intro gb506 hg w57 hbox hb; have BK506 := Aside0.mk (hbox); have GW506 := ge_ (w := w) hg; have GE506 := ge_ (w := w) hg; have NB498_506 := BK498.nl hg; have NB506_498 := BK498.ng hg; have NB499_506 := BK499.nl hg; have NB506_499 := BK499.ng hg; have NB504_506 := BK504.nl hg; have NB506_504 := BK504.ng hg; replace BK498 := BK498.bl hb; replace BK499 := BK499.bl hb; replace BK504 := BK504.bl hb; replace HB := Aside0.mk (below_step hb_ hb); clear hb hbox hg; have hnb58 := NB506_498.out; have hnc58 := NB498_506.out; have hnb59 := NB506_499.out; have hnc59 := NB499_506.out; have hnb60 := NB506_504.out; have hnc60 := NB504_506.out; obtain ⟨hcz61_0, hcz61_1, hfz61_0, hfz61_1⟩ := BK506.c2) | ((with_reducible refine gate_callee (f := 19) rfl ?_); refine gL_ (some 48) Tryz.func19 #[.string ((rd_T48 l1_4 x42_2).f0)] ?_; (with_reducible refine (operand_number.calls ((rd_T48 l1_4 x42_2).f0) true _ A31.out).mono ?_); rintro e w62 ⟨rfl, hb⟩; refine ⟨_, rfl, ?_⟩; replace BK498 := Aside0.mk (blk_below (g := gb498) (o := .cells #[.bool a0_0, .string a0_1, .string a0_2, .string a0_3, .int .i64 a0_4, .int .i64 a0_5, .string a0_6, .string a0_7, .int .i64 a0_8] 25 (0, 0)) (by refine blk_far ?_ NB498_506.out _; refine blk_far ?_ NB498_506.out _; exact BK498.out) hb); replace BK499 := Aside0.mk (blk_below (g := gb499) (o := .cells #[.string a1_0, .string a1_1, .bool a1_2, .bool a1_3, .slice (some ad505) l1_4.length c1_4] 28 (0, 0)) (by refine blk_far ?_ NB499_506.out _; refine blk_far ?_ NB499_506.out _; exact BK499.out) hb); replace BK504 := Aside0.mk (blk_below (g := gb504) (o := .cells #[.bool t500, .string t501, .string t502] 23 (0, 0)) (by refine blk_far ?_ NB504_506.out _; refine blk_far ?_ NB504_506.out _; exact BK504.out) hb); replace BK506 := Aside0.mk (blk_below (g := gb506) (o := .cells #[.string ((rd_T48 l1_4 x42_2).f0), .string ((rd_T48 l1_4 x42_2).f1)] 48 (0, 0)) (by refine blk_put (cs := #[.string ((rd_T48 l1_4 x42_2).f0), .string (⟨#[]⟩ : ByteArray)]) ?_ 1 _ rfl; refine blk_put (cs := #[.string (⟨#[]⟩ : ByteArray), .string (⟨#[]⟩ : ByteArray)]) ?_ 0 _ rfl; exact BK506.out) hb); replace HB := Aside0.mk (below_step hb_ hb); obtain ⟨hcz63_0, hcz63_1, hfz63_0, hfz63_1⟩ := BK506.c2) | (go_at_call 19; (with_reducible refine (operand_number.calls ((rd_T48 l1_4 x42_2).f1) true _ A33.out).mono ?_); rintro e w64 ⟨rfl, hb⟩; replace BK498 := BK498.bl hb; replace BK499 := BK499.bl hb; replace BK504 := BK504.bl hb; replace BK506 := BK506.bl hb; replace HB := Aside0.mk (below_step hb_ hb); obtain ⟨hcz65_0, hcz65_1, hfz65_0, hfz65_1⟩ := BK506.c2))
              go_roundg k2
              case measure => have := HJ15.out; have := HK2.out; omega
              case rel => exact ⟨(wrap64 (x42_2 + 1)), (by first | rfl | (simp; done) | (simp [*]; done)), H', ⟨by have := HJ15.out; have := HK2.out; omega⟩, ⟨by exact BK498.out⟩, ⟨by exact BK499.out⟩, ⟨by exact BK504.out⟩, ⟨hb_⟩⟩
           ·replace c34 := Bool.eq_false_iff.mpr c34
            subst c34
            have H1 : (some (false, 40)) = some (r1, r2) := by rw [if_neg (show ¬ (false = true) by decide)] at H; exact H
            clear H
            have H := H1
            clear H1
            simp only [Option.some.injEq, Prod.mk.injEq] at H
            obtain ⟨rfl, rfl⟩ := H
            have p505 : 0 ≤ (x42_2 : Int) := of_decide_eq_true (by first | (with_reducible assumption) | assumption)
            have q505 : x42_2 < (l1_4.length : Int) := of_decide_eq_true (by first | (with_reducible assumption) | assumption)
            obtain ⟨ad505, e505, hx505_0, hx505_1⟩ := at_T48 HR1_4.out x42_2 p505 q505
            cases e505
            replace hx505_0 := (HB.out.cell (World.block_lt_of_cell? w _ hx505_0)).trans hx505_0
            replace hx505_1 := (HB.out.cell (World.block_lt_of_cell? w _ hx505_1)).trans hx505_1
            replace p505 := eq_true p505
            replace q505 := eq_true q505
            go_wp2_with (first | ((with_reducible refine gate_dst (N := 9) rfl ?_); (try (refine gate_guard (by rfl) ?_; dsimp only)); refine box_event ?hg (N := 9) ?hd (cs := #[.string (⟨#[]⟩ : ByteArray), .string (⟨#[]⟩ : ByteArray)]) (t := 48) ?hr ?_; (case hd => rfl); (case hg => rfl); (case hr => first | (go_simp; done) | (go_simp; rfl)); intro gb506 hg w66 hbox hb; have BK506 := Aside0.mk (hbox); have GW506 := ge_ (w := w) hg; have GE506 := ge_ (w := w) hg; have NB498_506 := BK498.nl hg; have NB506_498 := BK498.ng hg; have NB499_506 := BK499.nl hg; have NB506_499 := BK499.ng hg; have NB504_506 := BK504.nl hg; have NB506_504 := BK504.ng hg; replace BK498 := BK498.bl hb; replace BK499 := BK499.bl hb; replace BK504 := BK504.bl hb; replace HB := Aside0.mk (below_step hb_ hb); clear hb hbox hg; have hnb67 := NB506_498.out; have hnc67 := NB498_506.out; have hnb68 := NB506_499.out; have hnc68 := NB499_506.out; have hnb69 := NB506_504.out; have hnc69 := NB504_506.out; obtain ⟨hcz70_0, hcz70_1, hfz70_0, hfz70_1⟩ := BK506.c2) | ((with_reducible refine gate_callee (f := 19) rfl ?_); refine gL_ (some 48) Tryz.func19 #[.string ((rd_T48 l1_4 x42_2).f0)] ?_; (with_reducible refine (operand_number.calls ((rd_T48 l1_4 x42_2).f0) true _ A31.out).mono ?_); rintro e w71 ⟨rfl, hb⟩; refine ⟨_, rfl, ?_⟩; replace BK498 := Aside0.mk (blk_below (g := gb498) (o := .cells #[.bool a0_0, .string a0_1, .string a0_2, .string a0_3, .int .i64 a0_4, .int .i64 a0_5, .string a0_6, .string a0_7, .int .i64 a0_8] 25 (0, 0)) (by refine blk_far ?_ NB498_506.out _; refine blk_far ?_ NB498_506.out _; exact BK498.out) hb); replace BK499 := Aside0.mk (blk_below (g := gb499) (o := .cells #[.string a1_0, .string a1_1, .bool a1_2, .bool a1_3, .slice (some ad505) l1_4.length c1_4] 28 (0, 0)) (by refine blk_far ?_ NB499_506.out _; refine blk_far ?_ NB499_506.out _; exact BK499.out) hb); replace BK504 := Aside0.mk (blk_below (g := gb504) (o := .cells #[.bool t500, .string t501, .string t502] 23 (0, 0)) (by refine blk_far ?_ NB504_506.out _; refine blk_far ?_ NB504_506.out _; exact BK504.out) hb); replace BK506 := Aside0.mk (blk_below (g := gb506) (o := .cells #[.string ((rd_T48 l1_4 x42_2).f0), .string ((rd_T48 l1_4 x42_2).f1)] 48 (0, 0)) (by refine blk_put (cs := #[.string ((rd_T48 l1_4 x42_2).f0), .string (⟨#[]⟩ : ByteArray)]) ?_ 1 _ rfl; refine blk_put (cs := #[.string (⟨#[]⟩ : ByteArray), .string (⟨#[]⟩ : ByteArray)]) ?_ 0 _ rfl; exact BK506.out) hb); replace HB := Aside0.mk (below_step hb_ hb); obtain ⟨hcz72_0, hcz72_1, hfz72_0, hfz72_1⟩ := BK506.c2) | (go_at_call 19; (with_reducible refine (operand_number.calls ((rd_T48 l1_4 x42_2).f1) false _ A33.out).mono ?_); rintro e w73 ⟨rfl, hb⟩; replace BK498 := BK498.bl hb; replace BK499 := BK499.bl hb; replace BK504 := BK504.bl hb; replace BK506 := BK506.bl hb; replace HB := Aside0.mk (below_step hb_ hb)))
            go_ret2
            exact fin_
          ·replace c32 := Bool.eq_false_iff.mpr c32
           subst c32
           have H1 : (some (false, 40)) = some (r1, r2) := by rw [if_neg (show ¬ (false = true) by decide)] at H; exact H
           clear H
           have H := H1
           clear H1
           simp only [Option.some.injEq, Prod.mk.injEq] at H
           obtain ⟨rfl, rfl⟩ := H
           have p505 : 0 ≤ (x42_2 : Int) := of_decide_eq_true (by first | (with_reducible assumption) | assumption)
           have q505 : x42_2 < (l1_4.length : Int) := of_decide_eq_true (by first | (with_reducible assumption) | assumption)
           obtain ⟨ad505, e505, hx505_0, hx505_1⟩ := at_T48 HR1_4.out x42_2 p505 q505
           cases e505
           replace hx505_0 := (HB.out.cell (World.block_lt_of_cell? w _ hx505_0)).trans hx505_0
           replace hx505_1 := (HB.out.cell (World.block_lt_of_cell? w _ hx505_1)).trans hx505_1
           replace p505 := eq_true p505
           replace q505 := eq_true q505
           go_wp2_with (first | ((with_reducible refine gate_dst (N := 9) rfl ?_); (try (refine gate_guard (by rfl) ?_; dsimp only)); refine box_event ?hg (N := 9) ?hd (cs := #[.string (⟨#[]⟩ : ByteArray), .string (⟨#[]⟩ : ByteArray)]) (t := 48) ?hr ?_; (case hd => rfl); (case hg => rfl); (case hr => first | (go_simp; done) | (go_simp; rfl)); intro gb506 hg w74 hbox hb; have BK506 := Aside0.mk (hbox); have GW506 := ge_ (w := w) hg; have GE506 := ge_ (w := w) hg; have NB498_506 := BK498.nl hg; have NB506_498 := BK498.ng hg; have NB499_506 := BK499.nl hg; have NB506_499 := BK499.ng hg; have NB504_506 := BK504.nl hg; have NB506_504 := BK504.ng hg; replace BK498 := BK498.bl hb; replace BK499 := BK499.bl hb; replace BK504 := BK504.bl hb; replace HB := Aside0.mk (below_step hb_ hb); clear hb hbox hg; have hnb75 := NB506_498.out; have hnc75 := NB498_506.out; have hnb76 := NB506_499.out; have hnc76 := NB499_506.out; have hnb77 := NB506_504.out; have hnc77 := NB504_506.out; obtain ⟨hcz78_0, hcz78_1, hfz78_0, hfz78_1⟩ := BK506.c2) | ((with_reducible refine gate_callee (f := 19) rfl ?_); refine gL_ (some 48) Tryz.func19 #[.string ((rd_T48 l1_4 x42_2).f0)] ?_; (with_reducible refine (operand_number.calls ((rd_T48 l1_4 x42_2).f0) false _ A31.out).mono ?_); rintro e w79 ⟨rfl, hb⟩; refine ⟨_, rfl, ?_⟩; replace BK498 := Aside0.mk (blk_below (g := gb498) (o := .cells #[.bool a0_0, .string a0_1, .string a0_2, .string a0_3, .int .i64 a0_4, .int .i64 a0_5, .string a0_6, .string a0_7, .int .i64 a0_8] 25 (0, 0)) (by refine blk_far ?_ NB498_506.out _; refine blk_far ?_ NB498_506.out _; exact BK498.out) hb); replace BK499 := Aside0.mk (blk_below (g := gb499) (o := .cells #[.string a1_0, .string a1_1, .bool a1_2, .bool a1_3, .slice (some ad505) l1_4.length c1_4] 28 (0, 0)) (by refine blk_far ?_ NB499_506.out _; refine blk_far ?_ NB499_506.out _; exact BK499.out) hb); replace BK504 := Aside0.mk (blk_below (g := gb504) (o := .cells #[.bool t500, .string t501, .string t502] 23 (0, 0)) (by refine blk_far ?_ NB504_506.out _; refine blk_far ?_ NB504_506.out _; exact BK504.out) hb); replace BK506 := Aside0.mk (blk_below (g := gb506) (o := .cells #[.string ((rd_T48 l1_4 x42_2).f0), .string ((rd_T48 l1_4 x42_2).f1)] 48 (0, 0)) (by refine blk_put (cs := #[.string ((rd_T48 l1_4 x42_2).f0), .string (⟨#[]⟩ : ByteArray)]) ?_ 1 _ rfl; refine blk_put (cs := #[.string (⟨#[]⟩ : ByteArray), .string (⟨#[]⟩ : ByteArray)]) ?_ 0 _ rfl; exact BK506.out) hb); replace HB := Aside0.mk (below_step hb_ hb)))
           go_ret2
           exact fin_
         ·rw [if_neg c30] at H
          exact absurd H (by simp)
        ·rw [if_neg c29] at H
         exact absurd H (by simp)
       ·rw [if_neg c28] at H
        have c28b0 : decide (x42_2 < (l1_4.length : Int)) = false := decide_eq_false c28
        clear c28
        have H' := Aside0.mk H
        clear H
        have hnb80 := NB499_498.out
        have hnc80 := NB498_499.out
        have hnb81 := NB499_504.out
        have hnc81 := NB504_499.out
        obtain ⟨hcz82_0, hcz82_1, hcz82_2, hcz82_3, hcz82_4, hfz82_0, hfz82_1, hfz82_2, hfz82_3, hfz82_4⟩ := BK499.c5
        go_wp2
        go_loopg [10, 85] k2 (fun kq v10 v85 w' => ∃ (x10_3 : Bool) (x85_3 : Int), v10 = .bool x10_3 ∧ v85 = .int .i64 x85_3 ∧ Aside0 (operand_In.l1 kq x10_3 l1_4 (l1_4.length : Int) x85_3 a1_0 a1_1 a1_2 a1_3 l1_4 t500 t501 t502 = some (r1, r2)) ∧ Aside0 (kq ≤ k2) ∧ Aside0 (w'.heap[gb498]? = some (.cells #[.bool a0_0, .string a0_1, .string a0_2, .string a0_3, .int .i64 a0_4, .int .i64 a0_5, .string a0_6, .string a0_7, .int .i64 a0_8] 25 (0, 0))) ∧ Aside0 (w'.heap[gb499]? = some (.cells #[.string a1_0, .string a1_1, .bool a1_2, .bool a1_3, (.slice A1_4 l1_4.length c1_4)] 28 (0, 0))) ∧ Aside0 (w'.heap[gb504]? = some (.cells #[.bool t500, .string t501, .string t502] 23 (0, 0))) ∧ Aside0 (Below w.heap.size w w'))
        case atStart => exact ⟨(false), (0), (by first | rfl | (simp; done) | (simp [*]; done)), (by first | rfl | (simp; done) | (simp [*]; done)), H', ⟨Nat.le_refl _⟩, ⟨by exact BK498.out⟩, ⟨by exact BK499.out⟩, ⟨by exact BK504.out⟩, ⟨hb_⟩⟩
        case round =>
         clear H'
         (try clear c15); (try clear c15b0); (try clear c15b1); (try clear c24); (try clear c28); (try clear c28b0); (try clear hcz14_0); (try clear hcz14_1); (try clear hcz14_2); (try clear hcz27_0); (try clear hcz27_1); (try clear hcz27_2); (try clear hcz27_3); (try clear hcz27_4); (try clear hcz82_0); (try clear hcz82_1); (try clear hcz82_2); (try clear hcz82_3); (try clear hcz82_4); (try clear hcz8_0); (try clear hcz8_1); (try clear hcz8_2); (try clear hcz8_3); (try clear hcz8_4); (try clear hcz8_5); (try clear hcz8_6); (try clear hcz8_7); (try clear hcz8_8); (try clear hcz9_0); (try clear hcz9_1); (try clear hcz9_2); (try clear hcz9_3); (try clear hcz9_4); (try clear hfz14_0); (try clear hfz14_1); (try clear hfz14_2); (try clear hfz27_0); (try clear hfz27_1); (try clear hfz27_2); (try clear hfz27_3); (try clear hfz27_4); (try clear hfz82_0); (try clear hfz82_1); (try clear hfz82_2); (try clear hfz82_3); (try clear hfz82_4); (try clear hfz8_0); (try clear hfz8_1); (try clear hfz8_2); (try clear hfz8_3); (try clear hfz8_4); (try clear hfz8_5); (try clear hfz8_6); (try clear hfz8_7); (try clear hfz8_8); (try clear hfz9_0); (try clear hfz9_1); (try clear hfz9_2); (try clear hfz9_3); (try clear hfz9_4)
         obtain ⟨x10_3, x85_3, rfl, rfl, HA, HK3, BK498, BK499, BK504, HB⟩ := hrel
         cases gk with
         | zero => exact absurd HA.out (by simp [operand_In.l1])
         | succ k3 =>
          have H := HA.out
          clear HA
          simp only [operand_In.l1] at H
          by_cases c83 : x85_3 < (l1_4.length : Int)
          ·rw [if_pos c83] at H
           have c83b0 : decide (x85_3 < (l1_4.length : Int)) = true := decide_eq_true c83
           clear c83
           by_cases c84 : 0 ≤ x85_3
           ·rw [if_pos c84] at H
            have c84b0 : decide (0 ≤ x85_3) = true := decide_eq_true c84
            clear c84
            by_cases c85 : x85_3 < (l1_4.length : Int)
            ·rw [if_pos c85] at H
             have c85b0 : decide (x85_3 < (l1_4.length : Int)) = true := decide_eq_true c85
             clear c85
             replace H := Option.bind_eq_some_iff.mp H
             obtain ⟨⟨t511, t512⟩, A860, H⟩ := H
             try dsimp only at H
             have A86 := Aside0.mk A860
             clear A860
             replace H := Option.bind_eq_some_iff.mp H
             obtain ⟨⟨t513, t514⟩, A870, H⟩ := H
             try dsimp only at H
             have A87 := Aside0.mk A870
             clear A870
             by_cases c88 : x10_3 = true
             ·subst c88
              have H1 : (operand_In.l1 k3 true l1_4 (l1_4.length : Int) (wrap64 (x85_3 + 1)) a1_0 a1_1 a1_2 a1_3 l1_4 t500 t501 t502) = some (r1, r2) := by rw [if_pos rfl] at H; exact H
              clear H
              have H := H1
              clear H1
              have H' := Aside0.mk H
              clear H
              have p509 : 0 ≤ (x85_3 : Int) := of_decide_eq_true (by first | (with_reducible assumption) | assumption)
              have q509 : x85_3 < (l1_4.length : Int) := of_decide_eq_true (by first | (with_reducible assumption) | assumption)
              obtain ⟨ad509, e509, hx509_0, hx509_1⟩ := at_T48 HR1_4.out x85_3 p509 q509
              cases e509
              replace hx509_0 := (HB.out.cell (World.block_lt_of_cell? w _ hx509_0)).trans hx509_0
              replace hx509_1 := (HB.out.cell (World.block_lt_of_cell? w _ hx509_1)).trans hx509_1
              replace p509 := eq_true p509
              replace q509 := eq_true q509
              go_wp2_with (first | ((with_reducible refine gate_dst (N := 12) rfl ?_); (try (refine gate_guard (by rfl) ?_; dsimp only)); refine box_event ?hg (N := 12) ?hd (cs := #[.string (⟨#[]⟩ : ByteArray), .string (⟨#[]⟩ : ByteArray)]) (t := 48) ?hr ?_; (case hd => rfl); (case hg => rfl); (case hr => first | (go_simp; done) | (go_simp; rfl)); intro gb510 hg w89 hbox hb; have BK510 := Aside0.mk (hbox); have GW510 := ge_ (w := w) hg; have GE510 := ge_ (w := w) hg; have NB498_510 := BK498.nl hg; have NB510_498 := BK498.ng hg; have NB499_510 := BK499.nl hg; have NB510_499 := BK499.ng hg; have NB504_510 := BK504.nl hg; have NB510_504 := BK504.ng hg; replace BK498 := BK498.bl hb; replace BK499 := BK499.bl hb; replace BK504 := BK504.bl hb; replace HB := Aside0.mk (below_step hb_ hb); clear hb hbox hg; have hnb90 := NB510_498.out; have hnc90 := NB498_510.out; have hnb91 := NB510_499.out; have hnc91 := NB499_510.out; have hnb92 := NB510_504.out; have hnc92 := NB504_510.out; obtain ⟨hcz93_0, hcz93_1, hfz93_0, hfz93_1⟩ := BK510.c2; have hnb94 := NB504_498.out; have hnc94 := NB498_504.out; have hnb95 := NB504_499.out; have hnc95 := NB499_504.out; obtain ⟨hcz96_0, hcz96_1, hcz96_2, hfz96_0, hfz96_1, hfz96_2⟩ := BK504.c3) | ((with_reducible refine gate_callee (f := 23) rfl ?_); refine gL_ (some 94) Tryz.func23 #[.agg #[.bool false, .string ((rd_T48 l1_4 x85_3).f0), .string (⟨#[]⟩ : ByteArray)], .agg #[.bool t500, .string t501, .string t502]] ?_; (with_reducible refine (decimal_Compare.calls k3 false ((rd_T48 l1_4 x85_3).f0) (⟨#[]⟩ : ByteArray) t500 t501 t502 t511 t512 _ A86.out).mono ?_); rintro e w97 ⟨rfl, hb⟩; refine ⟨_, rfl, ?_⟩; replace BK498 := Aside0.mk (blk_below (g := gb498) (o := .cells #[.bool a0_0, .string a0_1, .string a0_2, .string a0_3, .int .i64 a0_4, .int .i64 a0_5, .string a0_6, .string a0_7, .int .i64 a0_8] 25 (0, 0)) (by refine blk_far ?_ NB498_510.out _; refine blk_far ?_ NB498_510.out _; exact BK498.out) hb); replace BK499 := Aside0.mk (blk_below (g := gb499) (o := .cells #[.string a1_0, .string a1_1, .bool a1_2, .bool a1_3, .slice (some ad509) l1_4.length c1_4] 28 (0, 0)) (by refine blk_far ?_ NB499_510.out _; refine blk_far ?_ NB499_510.out _; exact BK499.out) hb); replace BK504 := Aside0.mk (blk_below (g := gb504) (o := .cells #[.bool t500, .string t501, .string t502] 23 (0, 0)) (by refine blk_far ?_ NB504_510.out _; refine blk_far ?_ NB504_510.out _; exact BK504.out) hb); replace BK510 := Aside0.mk (blk_below (g := gb510) (o := .cells #[.string ((rd_T48 l1_4 x85_3).f0), .string ((rd_T48 l1_4 x85_3).f1)] 48 (0, 0)) (by refine blk_put (cs := #[.string ((rd_T48 l1_4 x85_3).f0), .string (⟨#[]⟩ : ByteArray)]) ?_ 1 _ rfl; refine blk_put (cs := #[.string (⟨#[]⟩ : ByteArray), .string (⟨#[]⟩ : ByteArray)]) ?_ 0 _ rfl; exact BK510.out) hb); replace HB := Aside0.mk (below_step hb_ hb); obtain ⟨hcz98_0, hcz98_1, hcz98_2, hfz98_0, hfz98_1, hfz98_2⟩ := BK504.c3; obtain ⟨hcz99_0, hcz99_1, hfz99_0, hfz99_1⟩ := BK510.c2) | ((with_reducible refine gate_callee (f := 23) rfl ?_); refine gL_ (some 102) Tryz.func23 #[.agg #[.bool t500, .string t501, .string t502], .agg #[.bool false, .string ((rd_T48 l1_4 x85_3).f1), .string (⟨#[]⟩ : ByteArray)]] ?_; (with_reducible refine (decimal_Compare.calls k3 t500 t501 t502 false ((rd_T48 l1_4 x85_3).f1) (⟨#[]⟩ : ByteArray) t513 t514 _ A87.out).mono ?_); rintro e w100 ⟨rfl, hb⟩; refine ⟨_, rfl, ?_⟩; replace BK498 := BK498.bl hb; replace BK499 := BK499.bl hb; replace BK504 := BK504.bl hb; replace BK510 := BK510.bl hb; replace HB := Aside0.mk (below_step hb_ hb)))
              go_roundg k3
              case measure => have := HJ15.out; have := HK2.out; have := HK3.out; omega
              case rel => exact ⟨(true), (wrap64 (x85_3 + 1)), (by first | rfl | (simp; done) | (simp [*]; done)), (by first | rfl | (simp; done) | (simp [*]; done)), H', ⟨by have := HJ15.out; have := HK2.out; have := HK3.out; omega⟩, ⟨by exact BK498.out⟩, ⟨by exact BK499.out⟩, ⟨by exact BK504.out⟩, ⟨hb_⟩⟩
             ·replace c88 := Bool.eq_false_iff.mpr c88
              subst c88
              have H1 : (if t511 ≤ 0 then (operand_In.l1 k3 (decide (t513 ≤ 0)) l1_4 (l1_4.length : Int) (wrap64 (x85_3 + 1)) a1_0 a1_1 a1_2 a1_3 l1_4 t500 t501 t502) else (operand_In.l1 k3 false l1_4 (l1_4.length : Int) (wrap64 (x85_3 + 1)) a1_0 a1_1 a1_2 a1_3 l1_4 t500 t501 t502)) = some (r1, r2) := by rw [if_neg (show ¬ (false = true) by decide)] at H; exact H
              clear H
              have H := H1
              clear H1
              by_cases c101 : t511 ≤ 0
              ·rw [if_pos c101] at H
               have c101b0 : decide (t511 ≤ 0) = true := decide_eq_true c101
               clear c101
               have H' := Aside0.mk H
               clear H
               have p509 : 0 ≤ (x85_3 : Int) := of_decide_eq_true (by first | (with_reducible assumption) | assumption)
               have q509 : x85_3 < (l1_4.length : Int) := of_decide_eq_true (by first | (with_reducible assumption) | assumption)
               obtain ⟨ad509, e509, hx509_0, hx509_1⟩ := at_T48 HR1_4.out x85_3 p509 q509
               cases e509
               replace hx509_0 := (HB.out.cell (World.block_lt_of_cell? w _ hx509_0)).trans hx509_0
               replace hx509_1 := (HB.out.cell (World.block_lt_of_cell? w _ hx509_1)).trans hx509_1
               replace p509 := eq_true p509
               replace q509 := eq_true q509
               go_wp2_with (first | ((with_reducible refine gate_dst (N := 12) rfl ?_); (try (refine gate_guard (by rfl) ?_; dsimp only)); refine box_event ?hg (N := 12) ?hd (cs := #[.string (⟨#[]⟩ : ByteArray), .string (⟨#[]⟩ : ByteArray)]) (t := 48) ?hr ?_; (case hd => rfl); (case hg => rfl); (case hr => first | (go_simp; done) | (go_simp; rfl)); intro gb510 hg w102 hbox hb; have BK510 := Aside0.mk (hbox); have GW510 := ge_ (w := w) hg; have GE510 := ge_ (w := w) hg; have NB498_510 := BK498.nl hg; have NB510_498 := BK498.ng hg; have NB499_510 := BK499.nl hg; have NB510_499 := BK499.ng hg; have NB504_510 := BK504.nl hg; have NB510_504 := BK504.ng hg; replace BK498 := BK498.bl hb; replace BK499 := BK499.bl hb; replace BK504 := BK504.bl hb; replace HB := Aside0.mk (below_step hb_ hb); clear hb hbox hg; have hnb103 := NB510_498.out; have hnc103 := NB498_510.out; have hnb104 := NB510_499.out; have hnc104 := NB499_510.out; have hnb105 := NB510_504.out; have hnc105 := NB504_510.out; obtain ⟨hcz106_0, hcz106_1, hfz106_0, hfz106_1⟩ := BK510.c2; have hnb107 := NB504_498.out; have hnc107 := NB498_504.out; have hnb108 := NB504_499.out; have hnc108 := NB499_504.out; obtain ⟨hcz109_0, hcz109_1, hcz109_2, hfz109_0, hfz109_1, hfz109_2⟩ := BK504.c3) | ((with_reducible refine gate_callee (f := 23) rfl ?_); refine gL_ (some 94) Tryz.func23 #[.agg #[.bool false, .string ((rd_T48 l1_4 x85_3).f0), .string (⟨#[]⟩ : ByteArray)], .agg #[.bool t500, .string t501, .string t502]] ?_; (with_reducible refine (decimal_Compare.calls k3 false ((rd_T48 l1_4 x85_3).f0) (⟨#[]⟩ : ByteArray) t500 t501 t502 t511 t512 _ A86.out).mono ?_); rintro e w110 ⟨rfl, hb⟩; refine ⟨_, rfl, ?_⟩; replace BK498 := Aside0.mk (blk_below (g := gb498) (o := .cells #[.bool a0_0, .string a0_1, .string a0_2, .string a0_3, .int .i64 a0_4, .int .i64 a0_5, .string a0_6, .string a0_7, .int .i64 a0_8] 25 (0, 0)) (by refine blk_far ?_ NB498_510.out _; refine blk_far ?_ NB498_510.out _; exact BK498.out) hb); replace BK499 := Aside0.mk (blk_below (g := gb499) (o := .cells #[.string a1_0, .string a1_1, .bool a1_2, .bool a1_3, .slice (some ad509) l1_4.length c1_4] 28 (0, 0)) (by refine blk_far ?_ NB499_510.out _; refine blk_far ?_ NB499_510.out _; exact BK499.out) hb); replace BK504 := Aside0.mk (blk_below (g := gb504) (o := .cells #[.bool t500, .string t501, .string t502] 23 (0, 0)) (by refine blk_far ?_ NB504_510.out _; refine blk_far ?_ NB504_510.out _; exact BK504.out) hb); replace BK510 := Aside0.mk (blk_below (g := gb510) (o := .cells #[.string ((rd_T48 l1_4 x85_3).f0), .string ((rd_T48 l1_4 x85_3).f1)] 48 (0, 0)) (by refine blk_put (cs := #[.string ((rd_T48 l1_4 x85_3).f0), .string (⟨#[]⟩ : ByteArray)]) ?_ 1 _ rfl; refine blk_put (cs := #[.string (⟨#[]⟩ : ByteArray), .string (⟨#[]⟩ : ByteArray)]) ?_ 0 _ rfl; exact BK510.out) hb); replace HB := Aside0.mk (below_step hb_ hb); obtain ⟨hcz111_0, hcz111_1, hcz111_2, hfz111_0, hfz111_1, hfz111_2⟩ := BK504.c3; obtain ⟨hcz112_0, hcz112_1, hfz112_0, hfz112_1⟩ := BK510.c2) | ((with_reducible refine gate_callee (f := 23) rfl ?_); refine gL_ (some 102) Tryz.func23 #[.agg #[.bool t500, .string t501, .string t502], .agg #[.bool false, .string ((rd_T48 l1_4 x85_3).f1), .string (⟨#[]⟩ : ByteArray)]] ?_; (with_reducible refine (decimal_Compare.calls k3 t500 t501 t502 false ((rd_T48 l1_4 x85_3).f1) (⟨#[]⟩ : ByteArray) t513 t514 _ A87.out).mono ?_); rintro e w113 ⟨rfl, hb⟩; refine ⟨_, rfl, ?_⟩; replace BK498 := BK498.bl hb; replace BK499 := BK499.bl hb; replace BK504 := BK504.bl hb; replace BK510 := BK510.bl hb; replace HB := Aside0.mk (below_step hb_ hb)))
               go_roundg k3
               case measure => have := HJ15.out; have := HK2.out; have := HK3.out; omega
               case rel => exact ⟨(decide (t513 ≤ 0)), (wrap64 (x85_3 + 1)), (by first | rfl | (simp; done) | (simp [*]; done)), (by first | rfl | (simp; done) | (simp [*]; done)), H', ⟨by have := HJ15.out; have := HK2.out; have := HK3.out; omega⟩, ⟨by exact BK498.out⟩, ⟨by exact BK499.out⟩, ⟨by exact BK504.out⟩, ⟨hb_⟩⟩
              ·rw [if_neg c101] at H
               have c101b0 : decide (t511 ≤ 0) = false := decide_eq_false c101
               clear c101
               have H' := Aside0.mk H
               clear H
               have p509 : 0 ≤ (x85_3 : Int) := of_decide_eq_true (by first | (with_reducible assumption) | assumption)
               have q509 : x85_3 < (l1_4.length : Int) := of_decide_eq_true (by first | (with_reducible assumption) | assumption)
               obtain ⟨ad509, e509, hx509_0, hx509_1⟩ := at_T48 HR1_4.out x85_3 p509 q509
               cases e509
               replace hx509_0 := (HB.out.cell (World.block_lt_of_cell? w _ hx509_0)).trans hx509_0
               replace hx509_1 := (HB.out.cell (World.block_lt_of_cell? w _ hx509_1)).trans hx509_1
               replace p509 := eq_true p509
               replace q509 := eq_true q509
               go_wp2_with (first | ((with_reducible refine gate_dst (N := 12) rfl ?_); (try (refine gate_guard (by rfl) ?_; dsimp only)); refine box_event ?hg (N := 12) ?hd (cs := #[.string (⟨#[]⟩ : ByteArray), .string (⟨#[]⟩ : ByteArray)]) (t := 48) ?hr ?_; (case hd => rfl); (case hg => rfl); (case hr => first | (go_simp; done) | (go_simp; rfl)); intro gb510 hg w114 hbox hb; have BK510 := Aside0.mk (hbox); have GW510 := ge_ (w := w) hg; have GE510 := ge_ (w := w) hg; have NB498_510 := BK498.nl hg; have NB510_498 := BK498.ng hg; have NB499_510 := BK499.nl hg; have NB510_499 := BK499.ng hg; have NB504_510 := BK504.nl hg; have NB510_504 := BK504.ng hg; replace BK498 := BK498.bl hb; replace BK499 := BK499.bl hb; replace BK504 := BK504.bl hb; replace HB := Aside0.mk (below_step hb_ hb); clear hb hbox hg; have hnb115 := NB510_498.out; have hnc115 := NB498_510.out; have hnb116 := NB510_499.out; have hnc116 := NB499_510.out; have hnb117 := NB510_504.out; have hnc117 := NB504_510.out; obtain ⟨hcz118_0, hcz118_1, hfz118_0, hfz118_1⟩ := BK510.c2; have hnb119 := NB504_498.out; have hnc119 := NB498_504.out; have hnb120 := NB504_499.out; have hnc120 := NB499_504.out; obtain ⟨hcz121_0, hcz121_1, hcz121_2, hfz121_0, hfz121_1, hfz121_2⟩ := BK504.c3) | ((with_reducible refine gate_callee (f := 23) rfl ?_); refine gL_ (some 94) Tryz.func23 #[.agg #[.bool false, .string ((rd_T48 l1_4 x85_3).f0), .string (⟨#[]⟩ : ByteArray)], .agg #[.bool t500, .string t501, .string t502]] ?_; (with_reducible refine (decimal_Compare.calls k3 false ((rd_T48 l1_4 x85_3).f0) (⟨#[]⟩ : ByteArray) t500 t501 t502 t511 t512 _ A86.out).mono ?_); rintro e w122 ⟨rfl, hb⟩; refine ⟨_, rfl, ?_⟩; replace BK498 := Aside0.mk (blk_below (g := gb498) (o := .cells #[.bool a0_0, .string a0_1, .string a0_2, .string a0_3, .int .i64 a0_4, .int .i64 a0_5, .string a0_6, .string a0_7, .int .i64 a0_8] 25 (0, 0)) (by refine blk_far ?_ NB498_510.out _; refine blk_far ?_ NB498_510.out _; exact BK498.out) hb); replace BK499 := Aside0.mk (blk_below (g := gb499) (o := .cells #[.string a1_0, .string a1_1, .bool a1_2, .bool a1_3, .slice (some ad509) l1_4.length c1_4] 28 (0, 0)) (by refine blk_far ?_ NB499_510.out _; refine blk_far ?_ NB499_510.out _; exact BK499.out) hb); replace BK504 := Aside0.mk (blk_below (g := gb504) (o := .cells #[.bool t500, .string t501, .string t502] 23 (0, 0)) (by refine blk_far ?_ NB504_510.out _; refine blk_far ?_ NB504_510.out _; exact BK504.out) hb); replace BK510 := Aside0.mk (blk_below (g := gb510) (o := .cells #[.string ((rd_T48 l1_4 x85_3).f0), .string ((rd_T48 l1_4 x85_3).f1)] 48 (0, 0)) (by refine blk_put (cs := #[.string ((rd_T48 l1_4 x85_3).f0), .string (⟨#[]⟩ : ByteArray)]) ?_ 1 _ rfl; refine blk_put (cs := #[.string (⟨#[]⟩ : ByteArray), .string (⟨#[]⟩ : ByteArray)]) ?_ 0 _ rfl; exact BK510.out) hb); replace HB := Aside0.mk (below_step hb_ hb); obtain ⟨hcz123_0, hcz123_1, hcz123_2, hfz123_0, hfz123_1, hfz123_2⟩ := BK504.c3; obtain ⟨hcz124_0, hcz124_1, hfz124_0, hfz124_1⟩ := BK510.c2) | ((with_reducible refine gate_callee (f := 23) rfl ?_); refine gL_ (some 102) Tryz.func23 #[.agg #[.bool t500, .string t501, .string t502], .agg #[.bool false, .string ((rd_T48 l1_4 x85_3).f1), .string (⟨#[]⟩ : ByteArray)]] ?_; (with_reducible refine (decimal_Compare.calls k3 t500 t501 t502 false ((rd_T48 l1_4 x85_3).f1) (⟨#[]⟩ : ByteArray) t513 t514 _ A87.out).mono ?_); rintro e w125 ⟨rfl, hb⟩; refine ⟨_, rfl, ?_⟩; replace BK498 := BK498.bl hb; replace BK499 := BK499.bl hb; replace BK504 := BK504.bl hb; replace BK510 := BK510.bl hb; replace HB := Aside0.mk (below_step hb_ hb)))
               go_roundg k3
               case measure => have := HJ15.out; have := HK2.out; have := HK3.out; omega
               case rel => exact ⟨(false), (wrap64 (x85_3 + 1)), (by first | rfl | (simp; done) | (simp [*]; done)), (by first | rfl | (simp; done) | (simp [*]; done)), H', ⟨by have := HJ15.out; have := HK2.out; have := HK3.out; omega⟩, ⟨by exact BK498.out⟩, ⟨by exact BK499.out⟩, ⟨by exact BK504.out⟩, ⟨hb_⟩⟩
            ·rw [if_neg c85] at H
             exact absurd H (by simp)
           ·rw [if_neg c84] at H
            exact absurd H (by simp)
          ·rw [if_neg c83] at H
           have c83b0 : decide (x85_3 < (l1_4.length : Int)) = false := decide_eq_false c83
           clear c83
           by_cases c126 : a1_3 = true
           ·subst c126
            have H1 : (some ((x10_3 != a1_2), 0)) = some (r1, r2) := by rw [if_pos rfl] at H; exact H
            clear H
            have H := H1
            clear H1
            simp only [Option.some.injEq, Prod.mk.injEq] at H
            obtain ⟨rfl, rfl⟩ := H
            have hnb127 := NB499_498.out
            have hnc127 := NB498_499.out
            have hnb128 := NB499_504.out
            have hnc128 := NB504_499.out
            obtain ⟨hcz129_0, hcz129_1, hcz129_2, hcz129_3, hcz129_4, hfz129_0, hfz129_1, hfz129_2, hfz129_3, hfz129_4⟩ := BK499.c5
            go_wp2
            go_ret2
            exact fin_
           ·replace c126 := Bool.eq_false_iff.mpr c126
            subst c126
            have H1 : ((strings_Trim.f t502 (⟨#[48]⟩ : ByteArray)).bind fun t515 => (if t515.toList = ([] : List UInt8) then (some ((x10_3 != a1_2), 0)) else (some ((false != a1_2), 0)))) = some (r1, r2) := by rw [if_neg (show ¬ (false = true) by decide)] at H; exact H
            clear H
            have H := H1
            clear H1
            replace H := Option.bind_eq_some_iff.mp H
            obtain ⟨t515, A1300, H⟩ := H
            try dsimp only at H
            have A130 := Aside0.mk A1300
            clear A1300
            have HF131 := Aside0.mk H
            clear H
            have hnb132 := NB499_498.out
            have hnc132 := NB498_499.out
            have hnb133 := NB499_504.out
            have hnc133 := NB504_499.out
            obtain ⟨hcz134_0, hcz134_1, hcz134_2, hcz134_3, hcz134_4, hfz134_0, hfz134_1, hfz134_2, hfz134_3, hfz134_4⟩ := BK499.c5
            have hnb135 := NB504_498.out
            have hnc135 := NB498_504.out
            obtain ⟨hcz136_0, hcz136_1, hcz136_2, hfz136_0, hfz136_1, hfz136_2⟩ := BK504.c3
            go_upto_if 123 with (first | (go_at_call 24; (with_reducible refine (strings_Trim.calls t502 (⟨#[48]⟩ : ByteArray) t515 _ A130.out).mono ?_); rintro e w137 ⟨rfl, hb⟩; replace BK498 := BK498.bl hb; replace BK499 := BK499.bl hb; replace BK504 := BK504.bl hb; replace HB := Aside0.mk (below_step hb_ hb)))
            (try simp only [Act.put, List.setIfInBounds_toArray, List.set_cons_zero, List.set_cons_succ])
            have H := HF131.out
            clear HF131
            by_cases c138 : t515.toList = ([] : List UInt8)
            ·rw [if_pos c138] at H
             have c138b0 : (t515.toList == ([] : List UInt8)) = true := beq_iff_eq.mpr c138
             have c138b1 : (t515.toList != ([] : List UInt8)) = false := bne_eq_false_iff_eq.mpr c138
             clear c138
             (first | rw [c138b0] | (simp only [i64_w, i32_w]; rw [c138b0]) | rw [c138b1] | rw [(by rw [← c138b0]; cases t515.toList <;> rfl : t515.toList.isEmpty = true)] | skip)
             simp only [Option.some.injEq, Prod.mk.injEq] at H
             obtain ⟨rfl, rfl⟩ := H
             have hnb139 := NB499_498.out
             have hnc139 := NB498_499.out
             have hnb140 := NB499_504.out
             have hnc140 := NB504_499.out
             obtain ⟨hcz141_0, hcz141_1, hcz141_2, hcz141_3, hcz141_4, hfz141_0, hfz141_1, hfz141_2, hfz141_3, hfz141_4⟩ := BK499.c5
             go_wp2
             go_ret2
             exact fin_
            ·rw [if_neg c138] at H
             have c138b0 : (t515.toList == ([] : List UInt8)) = false := beq_eq_false_iff_ne.mpr c138
             have c138b1 : (t515.toList != ([] : List UInt8)) = true := bne_iff_ne.mpr c138
             (first | rw [c138b0] | (simp only [i64_w, i32_w]; rw [c138b0]) | rw [c138b1] | rw [(by rw [← c138b0]; cases t515.toList <;> rfl : t515.toList.isEmpty = false)] | skip)
             simp only [Option.some.injEq, Prod.mk.injEq] at H
             obtain ⟨rfl, rfl⟩ := H
             have hnb142 := NB499_498.out
             have hnc142 := NB498_499.out
             have hnb143 := NB499_504.out
             have hnc143 := NB504_499.out
             obtain ⟨hcz144_0, hcz144_1, hcz144_2, hcz144_3, hcz144_4, hfz144_0, hfz144_1, hfz144_2, hfz144_3, hfz144_4⟩ := BK499.c5
             go_wp2
             go_ret2
             exact fin_
 ·rw [if_neg c15] at H
  have c15b0 : (t503 == 0) = false := beq_eq_false_iff_ne.mpr c15
  have c15b1 : (t503 != 0) = true := bne_iff_ne.mpr c15
  (first | rw [c15b0] | (simp only [i64_w, i32_w]; rw [c15b0]) | rw [c15b1] | skip)
  simp only [Option.some.injEq, Prod.mk.injEq] at H
  obtain ⟨rfl, rfl⟩ := H
  go_wp2
  go_ret2
  exact fin_
attribute [local go_sem] max2_int max_two
set_option linter.unusedVariables false
set_option linter.unusedSimpArgs false
def idiomlaw04_copied.f (a0_0 : ByteArray) (a0_1 : ByteArray) (a0_2 : Bool) (a0_3 : Bool) (l0_4 : List (S48)) : Option (ByteArray × ByteArray × Bool × Bool × (List (S48))) := (some (([] : List (S48)) : List (S48))).bind fun y518 => (if y518.length + l0_4.length < 4398046511104 then (some (a0_0, a0_1, a0_2, a0_3, (y518 ++ l0_4))) else (none))
set_option maxHeartbeats 8000000 in
set_option maxRecDepth 100000 in
theorem idiomlaw04_copied.calls (a0_0 : ByteArray) (a0_1 : ByteArray) (a0_2 : Bool) (a0_3 : Bool) (A0_4 : Option Addr) (c0_4 : Nat) (l0_4 : List (S48)) (r1 : ByteArray) (r2 : ByteArray) (r3 : Bool) (r4 : Bool) (r5 : List (S48)) (w : World) (hr0_4 : Kd.C k48 w A0_4 l0_4.length l0_4) (hc0_4 : l0_4.length ≤ c0_4) (h : idiomlaw04_copied.f a0_0 a0_1 a0_2 a0_3 l0_4 = some (r1, r2, r3, r4, r5)) :
    Calls Tryz.prog 11 #[.agg #[.string a0_0, .string a0_1, .bool a0_2, .bool a0_3, .slice A0_4 l0_4.length c0_4]] w fun e w' => ∃ v4_ : Value, e = .returned (.agg #[.string r1, .string r2, .bool r3, .bool r4, v4_]) ∧ Kd.R k48 48 w' w.heap.size (fun _ => True) v4_ r5 ∧ Below w.heap.size w w' := by
 have hu28 := Tryz.underlying28
 have HR0_4 := Aside0.mk hr0_4
 have HC0_4 := Aside0.mk hc0_4
 clear hr0_4 hc0_4
 have HB := Aside0.mk (Below.refl w.heap.size w)
 unfold idiomlaw04_copied.f at h
 have H := h
 clear h
 obtain ⟨y518, hy518⟩ : ∃ y_ : List (S48), y_ = (([] : List (S48))) := ⟨_, rfl⟩
 rw [Option.bind_some, ← hy518] at H
 have Ny518 := Aside0.mk hy518
 clear hy518
 by_cases c2 : y518.length + l0_4.length < 4398046511104
 ·rw [if_pos c2] at H
  have LMc2 := Aside0.mk c2
  clear c2
  obtain ⟨y521, hy521⟩ : ∃ y_ : List (S48), y_ = (y518 ++ l0_4) := ⟨_, rfl⟩
  rw [← hy521] at H
  have Ny521 := Aside0.mk hy521
  clear hy521
  simp only [Option.some.injEq, Prod.mk.injEq] at H
  obtain ⟨rfl, rfl, rfl, rfl, rfl⟩ := H
  go_enter Tryz.func11, Tryz.ntmps11
  go_wp2_with (first | ((with_reducible refine gate_dst (N := 1) rfl ?_); refine box_event ?hg (N := 1) ?hd (cs := #[.string a0_0, .string a0_1, .bool a0_2, .bool a0_3, .slice A0_4 l0_4.length c0_4]) (t := 28) ?hr ?_; (case hd => rfl); (case hg => rfl); (case hr => first | (go_simp; done) | (go_simp; rfl)); intro gb516 hg w3 hbox hb; have n0_ := Aside0.mk (below_step (hb_) hb); have n1_ := Aside0.mk (hbox); have n2_ := Aside0.mk ((by rw [hg]; exact (below_size (hb_)) : w.heap.size ≤ gb516)); have n3_ := Aside0.mk ((by rw [hg]; exact (below_size (hb_)) : w.heap.size ≤ gb516)); clear HB; have HB := n0_; have BK516 := n1_; have GW516 := n2_; have GE516 := n3_; clear n0_ n1_ n2_ n3_; clear hb hbox hg) | ((with_reducible refine gate_dst (N := 2) rfl ?_); refine box_event ?hg (N := 2) ?hd (cs := #[.string (⟨#[]⟩ : ByteArray), .string (⟨#[]⟩ : ByteArray), .bool false, .bool false, .slice none 0 0]) (t := 28) ?hr ?_; (case hd => rfl); (case hg => rfl); (case hr => first | (go_simp; done) | (go_simp; rfl)); intro gb517 hg w4 hbox hb; have n0_ := Aside0.mk (blk_below (g := gb516) (o := .cells #[.string a0_0, .string a0_1, .bool a0_2, .bool a0_3, .slice A0_4 l0_4.length c0_4] 28 (0, 0)) (by (with_reducible repeat (first | refine blk_drewN ?_ _ | refine blk_drew ?_ | refine blk_alloc ?_ _)); exact BK516.out) hb); have n1_ := Aside0.mk (below_step (hb_) hb); have n2_ := Aside0.mk (hbox); have n3_ := Aside0.mk ((by rw [hg]; exact (below_size (hb_)) : w.heap.size ≤ gb517)); have n4_ := Aside0.mk ((by rw [hg]; exact (below_size (hb_)) : w.heap.size ≤ gb517)); have n5_ := Aside0.mk ((by rw [hg]; exact Nat.ne_of_lt (blk_lt (g := gb516) (o := .cells #[.string a0_0, .string a0_1, .bool a0_2, .bool a0_3, .slice A0_4 l0_4.length c0_4] 28 (0, 0)) (by (with_reducible repeat (first | refine blk_drewN ?_ _ | refine blk_drew ?_ | refine blk_alloc ?_ _)); exact BK516.out)) : gb516 ≠ gb517)); have n6_ := Aside0.mk ((by rw [hg]; exact Nat.ne_of_gt (blk_lt (g := gb516) (o := .cells #[.string a0_0, .string a0_1, .bool a0_2, .bool a0_3, .slice A0_4 l0_4.length c0_4] 28 (0, 0)) (by (with_reducible repeat (first | refine blk_drewN ?_ _ | refine blk_drew ?_ | refine blk_alloc ?_ _)); exact BK516.out)) : gb517 ≠ gb516)); clear BK516; clear HB; have BK516 := n0_; have HB := n1_; have BK517 := n2_; have GW517 := n3_; have GE517 := n4_; have NB516_517 := n5_; have NB517_516 := n6_; clear n0_ n1_ n2_ n3_ n4_ n5_ n6_; clear hb hbox hg) | ((with_reducible refine gate_dst (N := 3) rfl ?_); refine Kd.R_lit k48 _ 48 ?hg (N := 3) ?hd (xs := ([] : List (S48))) (inner := []) (ok := fun _ => True) (okp := fun _ => True) ?hr ?hp (fun _ hk => hk) trivial (Below.refl _ _) (Nat.le_refl _) (by simp) ?_; (case hd => rfl); (case hg => rfl); (case hr => first | (go_simp; done) | (go_simp; rfl)); (case hp => exact (Reps.none _ _)); intro v519 w5 ho6 hb hg_ hnew_; clear hg_ hnew_; (first | rw [← Ny518.out] at ho6 | (simp only [Int.reduceToNat] at ho6; rw [← Ny518.out] at ho6)); have n0_ := Aside0.mk (Kd.R_lower ho6 (below_size (hb_))); have n1_ := Aside0.mk (blk_below (g := gb516) (o := .cells #[.string a0_0, .string a0_1, .bool a0_2, .bool a0_3, .slice A0_4 l0_4.length c0_4] 28 (0, 0)) (by (with_reducible repeat (first | refine blk_drewN ?_ _ | refine blk_drew ?_ | refine blk_alloc ?_ _)); exact BK516.out) hb); have n2_ := Aside0.mk (blk_below (g := gb517) (o := .cells #[.string (⟨#[]⟩ : ByteArray), .string (⟨#[]⟩ : ByteArray), .bool false, .bool false, .slice none 0 0] 28 (0, 0)) (by (with_reducible repeat (first | refine blk_drewN ?_ _ | refine blk_drew ?_ | refine blk_alloc ?_ _)); exact BK517.out) hb); have n3_ := Aside0.mk (below_step (hb_) hb); clear BK516; clear BK517; clear HB; have HO520 := n0_; have BK516 := n1_; have BK517 := n2_; have HB := n3_; clear n0_ n1_ n2_ n3_; clear hb ho6; have hnb7 := NB516_517.out; have hnc7 := NB517_516.out; obtain ⟨hcz8_0, hcz8_1, hcz8_2, hcz8_3, hcz8_4, hfz8_0, hfz8_1, hfz8_2, hfz8_3, hfz8_4⟩ := BK516.c5) | ((with_reducible refine gate_builtin (b := .append) (xs := #[.tmp 3, .tmp 5]) rfl ?_); at_builtin; refine Kd.R_append_rows k48 (w0 := w) w.heap.size rfl (.tmp 3) (.tmp 5) 26 48 (.agg #[(.string ⟨#[]⟩), (.string ⟨#[]⟩)]) 32 rfl Tryz.underlying26 info48 rfl (by decide) (by omega) v519 y518 l0_4 _ _ _ (fun _ => True) (fun _ => False) rfl rfl ?aO ?aR (fun _ _ h => h) (fun _ h => h.elim) ?aF ?aB ?aS ?aL ?_; (case aR => repeat (first | exact (Kd.C_below HR0_4.out HB.out) | (with_reducible refine Kd.C_alloc ?_ _) | (with_reducible refine Kd.C_drewN ?_ _) | (with_reducible refine Kd.C_drew ?_))); (case aB => exact (hb_)); (case aF => exact (fun _ _ => trivial)); (case aO => exact (by (with_reducible repeat (first | apply Kd.R_alloc | apply Kd.R_drewN | apply Kd.R_drew)); exact HO520.out)); (case aS => exact (below_size (hb_))); (case aL => have := LMc2.out; omega); intro v522 w9 ho hb hg hat; rw [← Ny521.out] at ho; have n0_ := Aside0.mk (blk_grown (g := gb516) (o := .cells #[.string a0_0, .string a0_1, .bool a0_2, .bool a0_3, .slice A0_4 l0_4.length c0_4] 28 (0, 0)) (by (with_reducible repeat (first | refine blk_drewN ?_ _ | refine blk_drew ?_ | refine blk_alloc ?_ _)); exact BK516.out) hg (Kd.R_ne HO520.out BK516.out (by decide))); have n1_ := Aside0.mk (blk_grown (g := gb517) (o := .cells #[.string (⟨#[]⟩ : ByteArray), .string (⟨#[]⟩ : ByteArray), .bool false, .bool false, .slice none 0 0] 28 (0, 0)) (by (with_reducible repeat (first | refine blk_drewN ?_ _ | refine blk_drew ?_ | refine blk_alloc ?_ _)); exact BK517.out) hg (Kd.R_ne HO520.out BK517.out (by decide))); have n2_ := Aside0.mk (hb); have n3_ := Aside0.mk (ho); clear BK516; clear BK517; clear HB; clear HO520; have BK516 := n0_; have BK517 := n1_; have HB := n2_; have HO523 := n3_; clear n0_ n1_ n2_ n3_; clear ho hb hg hat; obtain ⟨Ao10, co10, eo10⟩ := Kd.R_slice HO523.out; subst eo10; obtain ⟨hcz11_0, hcz11_1, hcz11_2, hcz11_3, hcz11_4, hfz11_0, hfz11_1, hfz11_2, hfz11_3, hfz11_4⟩ := BK516.c5; obtain ⟨hcz12_0, hcz12_1, hcz12_2, hcz12_3, hcz12_4, hfz12_0, hfz12_1, hfz12_2, hfz12_3, hfz12_4⟩ := BK517.c5))
  refine bodyPost_ret (results_cell_row rfl _ _ gb517 28 #[.string a0_0, .string a0_1, .bool a0_2, .bool a0_3, .slice Ao10 y521.length co10] (0, 0) _ rfl (by (with_reducible repeat (first | refine blk_drewN ?_ _ | refine blk_drew ?_ | refine blk_alloc ?_ _)); refine blk_put (cs := #[.string a0_0, .string a0_1, .bool a0_2, .bool a0_3, .slice none 0 0]) ?_ 4 _ rfl; (with_reducible repeat (first | refine blk_drewN ?_ _ | refine blk_drew ?_ | refine blk_alloc ?_ _)); refine blk_put (cs := #[.string a0_0, .string a0_1, .bool a0_2, .bool false, .slice none 0 0]) ?_ 3 _ rfl; (with_reducible repeat (first | refine blk_drewN ?_ _ | refine blk_drew ?_ | refine blk_alloc ?_ _)); refine blk_put (cs := #[.string a0_0, .string a0_1, .bool false, .bool false, .slice none 0 0]) ?_ 2 _ rfl; (with_reducible repeat (first | refine blk_drewN ?_ _ | refine blk_drew ?_ | refine blk_alloc ?_ _)); refine blk_put (cs := #[.string a0_0, .string (⟨#[]⟩ : ByteArray), .bool false, .bool false, .slice none 0 0]) ?_ 1 _ rfl; (with_reducible repeat (first | refine blk_drewN ?_ _ | refine blk_drew ?_ | refine blk_alloc ?_ _)); refine blk_put (cs := #[.string (⟨#[]⟩ : ByteArray), .string (⟨#[]⟩ : ByteArray), .bool false, .bool false, .slice none 0 0]) ?_ 0 _ rfl; (with_reducible repeat (first | refine blk_drewN ?_ _ | refine blk_drew ?_ | refine blk_alloc ?_ _)); refine blk_far ?_ NB517_516.out _; (with_reducible repeat (first | refine blk_drewN ?_ _ | refine blk_drew ?_ | refine blk_alloc ?_ _)); exact BK517.out) Tryz.underlying28 rfl (by kernel_rfl)) rfl ?_
  exact ⟨_, by first | rfl | (simp [errW_none, errW_some] <;> rfl) | (simp [*, errW_none, errW_some] <;> rfl) | (simp [bne_nil_]; done), by (with_reducible repeat (first | apply Kd.R_alloc | apply Kd.R_drewN | apply Kd.R_drew)); exact Kd.R_mono (Kd.R_far (p := ⟨gb517, 4, none⟩) (Kd.R_far (p := ⟨gb517, 3, none⟩) (Kd.R_far (p := ⟨gb517, 2, none⟩) (Kd.R_far (p := ⟨gb517, 1, none⟩) (Kd.R_far (p := ⟨gb517, 0, none⟩) (Kd.R_far (p := ⟨gb516, 4, none⟩) (Kd.R_types (Kd.R_types HO523.out BK516.out (by decide)) BK517.out (by decide)) (fun _ hk => hk.1.2) (.slice Ao10 y521.length co10)) (fun _ hk => hk.2) (.string a0_0)) (fun _ hk => hk.2) (.string a0_1)) (fun _ hk => hk.2) (.bool a0_2)) (fun _ hk => hk.2) (.bool a0_3)) (fun _ hk => hk.2) (.slice Ao10 y521.length co10)) (fun _ hk => trivial), hb_⟩
 ·rw [if_neg c2] at H
  exact absurd H (by simp)
attribute [local go_sem] max2_int max_two
set_option linter.unusedVariables false
set_option linter.unusedSimpArgs false
def idiomref04_SpanIs.f (k : Nat) (a0_0 : ByteArray) (a0_1 : ByteArray) : Option (Bool) := (idiomref04_IsNumber.f k a0_0).bind fun t536 => (if t536 = true then ((idiomref04_IsNumber.f k a0_1).bind fun t537 => (if t537 = true then ((idiomref02_Compare.f k false a0_0 (⟨#[]⟩ : ByteArray) false a0_1 (⟨#[]⟩ : ByteArray)).bind fun bt538 => (some (decide (bt538.1 ≤ 0)))) else (some false))) else (some false))
set_option maxHeartbeats 8000000 in
set_option maxRecDepth 100000 in
theorem idiomref04_SpanIs.calls (k : Nat) (a0_0 : ByteArray) (a0_1 : ByteArray) (r : Bool) (w : World) (h : idiomref04_SpanIs.f k a0_0 a0_1 = some r) :
    Calls Tryz.prog 25 #[.agg #[.string a0_0, .string a0_1]] w fun e w' => e = .returned (.bool r) ∧ Below w.heap.size w w' := by
 have hu48 := Tryz.underlying48
 have hu23 := Tryz.underlying23
 have HB := Aside0.mk (Below.refl w.heap.size w)
 unfold idiomref04_SpanIs.f at h
 have H := h
 clear h
 replace H := Option.bind_eq_some_iff.mp H
 obtain ⟨t536, A20, H⟩ := H
 try dsimp only at H
 have A2 := Aside0.mk A20
 clear A20
 by_cases c3 : t536 = true
 ·subst c3
  have H1 : ((idiomref04_IsNumber.f k a0_1).bind fun t537 => (if t537 = true then ((idiomref02_Compare.f k false a0_0 (⟨#[]⟩ : ByteArray) false a0_1 (⟨#[]⟩ : ByteArray)).bind fun bt538 => (some (decide (bt538.1 ≤ 0)))) else (some false))) = some r := by rw [if_pos rfl] at H; exact H
  clear H
  have H := H1
  clear H1
  replace H := Option.bind_eq_some_iff.mp H
  obtain ⟨t537, A40, H⟩ := H
  try dsimp only at H
  have A4 := Aside0.mk A40
  clear A40
  have HF5 := Aside0.mk H
  clear H
  go_enter Tryz.func25, Tryz.ntmps25
  go_upto_if 14 with (first | ((with_reducible refine gate_dst (N := 1) rfl ?_); refine bx_ #[.string a0_0, .string a0_1] 48 ?_; intro gb535 hg w6 hbox hb; have BK535 := Aside0.mk (hbox); have GW535 := ge_ (w := w) hg; have GE535 := ge_ (w := w) hg; replace HB := Aside0.mk (below_step hb_ hb); clear hb hbox hg; obtain ⟨hcz7_0, hcz7_1, hfz7_0, hfz7_1⟩ := BK535.c2) | ((with_reducible refine gate_callee (f := 21) rfl ?_); refine gL_ (some 7) Tryz.func21 #[.string a0_0] ?_; (with_reducible refine (idiomref04_IsNumber.calls k a0_0 true _ A2.out).mono ?_); rintro e w' ⟨rfl, ⟨nd, rfl⟩⟩; refine ⟨_, rfl, ?_⟩) | (go_at_call 21; (with_reducible refine (idiomref04_IsNumber.calls k a0_1 t537 _ A4.out).mono ?_); rintro e w' ⟨rfl, ⟨nd, rfl⟩⟩))
  (try simp only [Act.put, List.setIfInBounds_toArray, List.set_cons_zero, List.set_cons_succ])
  have H := HF5.out
  clear HF5
  by_cases c8 : t537 = true
  ·subst c8
   have H1 : ((idiomref02_Compare.f k false a0_0 (⟨#[]⟩ : ByteArray) false a0_1 (⟨#[]⟩ : ByteArray)).bind fun bt538 => (some (decide (bt538.1 ≤ 0)))) = some r := by rw [if_pos rfl] at H; exact H
   clear H
   have H := H1
   clear H1
   replace H := Option.bind_eq_some_iff.mp H
   obtain ⟨⟨t538, t539⟩, A90, H⟩ := H
   try dsimp only at H
   have A9 := Aside0.mk A90
   clear A90
   obtain rfl := Option.some.inj H
   obtain ⟨hcz10_0, hcz10_1, hfz10_0, hfz10_1⟩ := BK535.c2
   go_wp2_with (first | ((with_reducible refine gate_callee (f := 27) rfl ?_); refine gL_ (some 22) Tryz.func27 #[.agg #[.bool false, .string a0_0, .string (⟨#[]⟩ : ByteArray)], .agg #[.bool false, .string a0_1, .string (⟨#[]⟩ : ByteArray)]] ?_; (with_reducible refine (idiomref02_Compare.calls k false a0_0 (⟨#[]⟩ : ByteArray) false a0_1 (⟨#[]⟩ : ByteArray) t538 t539 _ A9.out).mono ?_); rintro e w11 ⟨rfl, hb⟩; refine ⟨_, rfl, ?_⟩; replace BK535 := Aside0.mk (blk_below (g := gb535) (o := .cells #[.string a0_0, .string a0_1] 48 (0, 0)) (by (with_reducible repeat (first | refine blk_drewN ?_ _ | refine blk_drew ?_ | refine blk_alloc ?_ _)); exact BK535.out) hb); replace HB := Aside0.mk (below_step hb_ hb)))
   go_ret
   exact fin_
  ·replace c8 := Bool.eq_false_iff.mpr c8
   subst c8
   have H1 : (some false) = some r := by rw [if_neg (show ¬ (false = true) by decide)] at H; exact H
   clear H
   have H := H1
   clear H1
   obtain rfl := Option.some.inj H
   go_wp2
   go_ret
   exact fin_
 ·replace c3 := Bool.eq_false_iff.mpr c3
  subst c3
  have H1 : (some false) = some r := by rw [if_neg (show ¬ (false = true) by decide)] at H; exact H
  clear H
  have H := H1
  clear H1
  obtain rfl := Option.some.inj H
  go_enter Tryz.func25, Tryz.ntmps25
  go_wp2_with (first | ((with_reducible refine gate_dst (N := 1) rfl ?_); refine bx_ #[.string a0_0, .string a0_1] 48 ?_; intro gb535 hg w12 hbox hb; have BK535 := Aside0.mk (hbox); have GW535 := ge_ (w := w) hg; have GE535 := ge_ (w := w) hg; replace HB := Aside0.mk (below_step hb_ hb); clear hb hbox hg; obtain ⟨hcz13_0, hcz13_1, hfz13_0, hfz13_1⟩ := BK535.c2) | ((with_reducible refine gate_callee (f := 21) rfl ?_); refine gL_ (some 7) Tryz.func21 #[.string a0_0] ?_; (with_reducible refine (idiomref04_IsNumber.calls k a0_0 false _ A2.out).mono ?_); rintro e w' ⟨rfl, ⟨nd, rfl⟩⟩; refine ⟨_, rfl, ?_⟩))
  go_ret
  exact fin_
attribute [local go_sem] max2_int max_two
set_option linter.unusedVariables false
set_option linter.unusedSimpArgs false
mutual
def idiomref04_In.j0 : Nat → Bool → ByteArray → ByteArray → Bool → Bool → List (S48) → Bool → ByteArray → ByteArray → Option (Bool × Int)
  | 0, _, _, _, _, _, _, _, _, _ => none
  | k + 1, x38, x542000, x542001, x542002, x542003, x542004, x547000, x547001, x547002 => if x38 = true then (some (false, 40)) else (idiomref04_In.l0 k 0 x542000 x542001 x542002 x542003 x542004 x547000 x547001 x547002)
def idiomref04_In.l0 : Nat → Int → ByteArray → ByteArray → Bool → Bool → List (S48) → Bool → ByteArray → ByteArray → Option (Bool × Int)
  | 0, _, _, _, _, _, _, _, _, _ => none
  | k + 1, x8, x542000, x542001, x542002, x542003, x542004, x547000, x547001, x547002 => if x8 < (x542004.length : Int) then (if 0 ≤ x8 then ((idiomref04_SpanIs.f k ((rd_T48 x542004 x8).f0) ((rd_T48 x542004 x8).f1)).bind fun t548 => (if t548 = true then (idiomref04_In.l0 k (wrap64 (x8 + 1)) x542000 x542001 x542002 x542003 x542004 x547000 x547001 x547002) else (some (false, 40)))) else (none)) else ((idiomref02_Trim.f k x547000 x547001 x547002).bind fun bt549 => (idiomref04_In.l1 k false 0 x542000 x542001 x542002 x542003 x542004 x547000 x547001 x547002 bt549.1 bt549.2.1 bt549.2.2.1))
def idiomref04_In.l1 : Nat → Bool → Int → ByteArray → ByteArray → Bool → Bool → List (S48) → Bool → ByteArray → ByteArray → Bool → ByteArray → ByteArray → Option (Bool × Int)
  | 0, _, _, _, _, _, _, _, _, _, _, _, _, _ => none
  | k + 1, x11, x12, x542000, x542001, x542002, x542003, x542004, x547000, x547001, x547002, x554000, x554001, x554002 => if x12 < (x542004.length : Int) then (if 0 ≤ x12 then ((idiomref02_Compare.f k false ((rd_T48 x542004 x12).f0) (⟨#[]⟩ : ByteArray) x547000 x547001 x547002).bind fun bt555 => ((idiomref02_Compare.f k x547000 x547001 x547002 false ((rd_T48 x542004 x12).f1) (⟨#[]⟩ : ByteArray)).bind fun bt558 => (if x11 = true then (idiomref04_In.l1 k true (wrap64 (x12 + 1)) x542000 x542001 x542002 x542003 x542004 x547000 x547001 x547002 x554000 x554001 x554002) else (if bt555.1 ≤ 0 then (if bt558.1 ≤ 0 then (if x542003 = true then (idiomref04_In.l1 k true (wrap64 (x12 + 1)) x542000 x542001 x542002 x542003 x542004 x547000 x547001 x547002 x554000 x554001 x554002) else (idiomref04_In.l1 k (x554002.toList == ([] : List UInt8)) (wrap64 (x12 + 1)) x542000 x542001 x542002 x542003 x542004 x547000 x547001 x547002 x554000 x554001 x554002)) else (idiomref04_In.l1 k false (wrap64 (x12 + 1)) x542000 x542001 x542002 x542003 x542004 x547000 x547001 x547002 x554000 x554001 x554002)) else (idiomref04_In.l1 k false (wrap64 (x12 + 1)) x542000 x542001 x542002 x542003 x542004 x547000 x547001 x547002 x554000 x554001 x554002))))) else (none)) else (some ((x11 != x542002), 0))
end
def idiomref04_In.f (k : Nat) (a0_0 : Bool) (a0_1 : ByteArray) (a0_2 : ByteArray) (a0_3 : ByteArray) (a0_4 : Int) (a0_5 : Int) (a0_6 : ByteArray) (a0_7 : ByteArray) (a0_8 : Int) (a1_0 : ByteArray) (a1_1 : ByteArray) (a1_2 : Bool) (a1_3 : Bool) (l1_4 : List (S48)) : Option (Bool × Int) := (idiomref04_Mod.f k a0_0 a0_1 a0_2 a0_3 a0_4 a0_5 a0_6 a0_7 a0_8 a1_0 a1_1).bind fun bt542 => (if bt542.2.2.2 = 0 then (if (l1_4.length : Int) < 1 then (idiomref04_In.j0 k true a1_0 a1_1 a1_2 a1_3 l1_4 bt542.1 bt542.2.1 bt542.2.2.1) else (idiomref04_In.j0 k (decide ((l1_4.length : Int) > 64)) a1_0 a1_1 a1_2 a1_3 l1_4 bt542.1 bt542.2.1 bt542.2.2.1)) else (some (false, bt542.2.2.2)))
def idiomref04_In.T16 : Bool × List (List Nat × List Nat) := (true, [([], []), ([0], [0]), ([], []), ([1, 2], [1, 2]), ([3], [3]), ([4], [4]), ([5], [5]), ([], []), ([6, 7], [6, 7]), ([8], [8]), ([9], [9]), ([9], [9]), ([10, 8, 0, 1, 2, 3, 4, 5, 6, 7, 8, 9, 10], [10]), ([11, 12, 0, 1, 2, 3, 4, 5, 6, 7, 8, 9, 10, 11, 12], [11])])
def idiomref04_In.B16 : List Nat := [0, 1, 0, 7, 15, 31, 63, 0, 255, 511, 1023, 1023, 2047, 8191]
theorem idiomref04_In.tab16 : rtab .any (opsOf Tryz.f12 16) = idiomref04_In.T16 := by kernel_rfl
theorem idiomref04_In.bits16 : waitsOk idiomref04_In.T16.2 idiomref04_In.B16 = true := by kernel_rfl
def idiomref04_In.T17 : Bool × List (List Nat × List Nat) := (true, [([], []), ([], []), ([1], [1]), ([], []), ([2, 3], [2, 3]), ([4], [4]), ([5], [5]), ([6], [6]), ([0, 7], [0, 7]), ([8], [8]), ([9], [9]), ([9], [9]), ([10, 8, 0, 1, 2, 3, 4, 5, 6, 7, 8, 9, 10], [10]), ([11, 12, 0, 1, 2, 3, 4, 5, 6, 7, 8, 9, 10, 11, 12], [11])])
def idiomref04_In.B17 : List Nat := [0, 0, 2, 0, 14, 30, 62, 126, 255, 511, 1023, 1023, 2047, 8191]
theorem idiomref04_In.tab17 : rtab .any (opsOf Tryz.f12 17) = idiomref04_In.T17 := by kernel_rfl
theorem idiomref04_In.bits17 : waitsOk idiomref04_In.T17.2 idiomref04_In.B17 = true := by kernel_rfl
set_option maxHeartbeats 8000000 in
set_option maxRecDepth 100000 in
theorem idiomref04_In.calls (k : Nat) (a0_0 : Bool) (a0_1 : ByteArray) (a0_2 : ByteArray) (a0_3 : ByteArray) (a0_4 : Int) (a0_5 : Int) (a0_6 : ByteArray) (a0_7 : ByteArray) (a0_8 : Int) (a1_0 : ByteArray) (a1_1 : ByteArray) (a1_2 : Bool) (a1_3 : Bool) (A1_4 : Option Addr) (c1_4 : Nat) (l1_4 : List (S48)) (r1 : Bool) (r2 : Int) (w : World) (ht : TB w) (hr1_4 : Kd.C k48 w A1_4 l1_4.length l1_4) (hc1_4 : l1_4.length ≤ c1_4) (h : idiomref04_In.f k a0_0 a0_1 a0_2 a0_3 a0_4 a0_5 a0_6 a0_7 a0_8 a1_0 a1_1 a1_2 a1_3 l1_4 = some (r1, r2)) :
    Calls Tryz.prog 12 #[.agg #[.bool a0_0, .string a0_1, .string a0_2, .string a0_3, .int .i64 a0_4, .int .i64 a0_5, .string a0_6, .string a0_7, .int .i64 a0_8], .agg #[.string a1_0, .string a1_1, .bool a1_2, .bool a1_3, .slice A1_4 l1_4.length c1_4]] w fun e w' => e = .returned (.tuple #[.bool r1, .int .i64 r2]) ∧ Below w.heap.size w w' := by
 have hu25 := Tryz.underlying25
 have hu28 := Tryz.underlying28
 have hu23 := Tryz.underlying23
 have hu48 := Tryz.underlying48
 have HR1_4 := Aside0.mk hr1_4
 have HC1_4 := Aside0.mk hc1_4
 clear hr1_4 hc1_4
 have HTB := Aside0.mk ht
 clear ht
 have HB := Aside0.mk (Below.refl w.heap.size w)
 unfold idiomref04_In.f at h
 have H := h
 clear h
 replace H := Option.bind_eq_some_iff.mp H
 obtain ⟨⟨t542, t543, t544, t545⟩, A30, H⟩ := H
 try dsimp only at H
 have A3 := Aside0.mk A30
 clear A30
 have HF4 := Aside0.mk H
 clear H
 go_enter Tryz.func12, Tryz.ntmps12
 go_upto_if 27 with (first | ((with_reducible refine gate_dst (N := 2) rfl ?_); (try (refine gate_guard (by rfl) ?_; dsimp only)); refine box_event ?hg (N := 2) ?hd (cs := #[.bool a0_0, .string a0_1, .string a0_2, .string a0_3, .int .i64 a0_4, .int .i64 a0_5, .string a0_6, .string a0_7, .int .i64 a0_8]) (t := 25) ?hr ?_; (case hd => rfl); (case hg => rfl); (case hr => first | (go_simp; done) | (go_simp; rfl)); intro gb540 hg w5 hbox hb; have BK540 := Aside0.mk (hbox); have GW540 := ge_ (w := w) hg; have GE540 := ge_ (w := w) hg; replace HB := Aside0.mk (below_step hb_ hb); clear hb hbox hg) | ((with_reducible refine gate_dst (N := 3) rfl ?_); (try (refine gate_guard (by rfl) ?_; dsimp only)); refine box_event ?hg (N := 3) ?hd (cs := #[.string a1_0, .string a1_1, .bool a1_2, .bool a1_3, .slice A1_4 l1_4.length c1_4]) (t := 28) ?hr ?_; (case hd => rfl); (case hg => rfl); (case hr => first | (go_simp; done) | (go_simp; rfl)); intro gb541 hg w6 hbox hb; have BK541 := Aside0.mk (hbox); have GW541 := ge_ (w := w) hg; have GE541 := ge_ (w := w) hg; have NB540_541 := BK540.nl hg; have NB541_540 := BK540.ng hg; replace BK540 := BK540.bl hb; replace HB := Aside0.mk (below_step hb_ hb); clear hb hbox hg; have hnb7 := NB540_541.out; have hnc7 := NB541_540.out; obtain ⟨hcz8_0, hcz8_1, hcz8_2, hcz8_3, hcz8_4, hcz8_5, hcz8_6, hcz8_7, hcz8_8, hfz8_0, hfz8_1, hfz8_2, hfz8_3, hfz8_4, hfz8_5, hfz8_6, hfz8_7, hfz8_8⟩ := BK540.c9; obtain ⟨hcz9_0, hcz9_1, hcz9_2, hcz9_3, hcz9_4, hfz9_0, hfz9_1, hfz9_2, hfz9_3, hfz9_4⟩ := BK541.c5) | ((with_reducible refine gate_callee (f := 9) rfl ?_); refine gL_ (some 23) Tryz.func9 #[.agg #[.bool a0_0, .string a0_1, .string a0_2, .string a0_3, .int .i64 a0_4, .int .i64 a0_5, .string a0_6, .string a0_7, .int .i64 a0_8], .string a1_0, .string a1_1] ?_; (with_reducible refine (idiomref04_Mod.calls k a0_0 a0_1 a0_2 a0_3 a0_4 a0_5 a0_6 a0_7 a0_8 a1_0 a1_1 t542 t543 t544 t545 _ (TB.below HTB.out hb_) A3.out).mono ?_); rintro e w10 ⟨rfl, hb⟩; refine ⟨_, rfl, ?_⟩; replace BK540 := BK540.bl hb; replace BK541 := BK541.bl hb; replace HB := Aside0.mk (below_step hb_ hb)) | ((with_reducible refine gate_dst (N := 6) rfl ?_); (try (refine gate_guard (by rfl) ?_; dsimp only)); refine box_event ?hg (N := 6) ?hd (cs := #[.bool false, .string (⟨#[]⟩ : ByteArray), .string (⟨#[]⟩ : ByteArray)]) (t := 23) ?hr ?_; (case hd => rfl); (case hg => rfl); (case hr => first | (go_simp; done) | (go_simp; rfl)); intro gb546 hg w11 hbox hb; have BK546 := Aside0.mk (hbox); have GW546 := ge_ (w := w) hg; have GE546 := ge_ (w := w) hg; have NB540_546 := BK540.nl hg; have NB546_540 := BK540.ng hg; have NB541_546 := BK541.nl hg; have NB546_541 := BK541.ng hg; replace BK540 := BK540.bl hb; replace BK541 := BK541.bl hb; replace HB := Aside0.mk (below_step hb_ hb); clear hb hbox hg; have hnb12 := NB546_540.out; have hnc12 := NB540_546.out; have hnb13 := NB546_541.out; have hnc13 := NB541_546.out; obtain ⟨hcz14_0, hcz14_1, hcz14_2, hfz14_0, hfz14_1, hfz14_2⟩ := BK546.c3))
 (try simp only [Act.put, List.setIfInBounds_toArray, List.set_cons_zero, List.set_cons_succ])
 have H := HF4.out
 clear HF4
 by_cases c15 : t545 = 0
 ·rw [if_pos c15] at H
  have c15b0 : (t545 == 0) = true := beq_iff_eq.mpr c15
  have c15b1 : (t545 != 0) = false := bne_eq_false_iff_eq.mpr c15
  clear c15
  (first | rw [c15b0] | (simp only [i64_w, i32_w]; rw [c15b0]) | rw [c15b1] | skip)
  have HC16 := Aside0.mk H
  clear H
  go_upto_region 4 with (fail)
  go_cut [38] (fun v38 wc => ∃ (kq : Nat) (x38_15 : Bool), v38 = .bool x38_15 ∧ Aside0 (idiomref04_In.j0 kq x38_15 a1_0 a1_1 a1_2 a1_3 l1_4 t542 t543 t544 = some (r1, r2)) ∧ Aside0 (kq ≤ k) ∧ Aside0 (wc.heap[gb540]? = some (.cells #[.bool a0_0, .string a0_1, .string a0_2, .string a0_3, .int .i64 a0_4, .int .i64 a0_5, .string a0_6, .string a0_7, .int .i64 a0_8] 25 (0, 0))) ∧ Aside0 (wc.heap[gb541]? = some (.cells #[.string a1_0, .string a1_1, .bool a1_2, .bool a1_3, (.slice A1_4 l1_4.length c1_4)] 28 (0, 0))) ∧ Aside0 (wc.heap[gb546]? = some (.cells #[.bool t542, .string t543, .string t544] 23 (0, 0))) ∧ Aside0 (Below w.heap.size w wc))
  case first =>
   have H := HC16.out
   clear HC16
   by_cases c17 : (l1_4.length : Int) < 1
   ·rw [if_pos c17] at H
    have c17b0 : decide ((l1_4.length : Int) < 1) = true := decide_eq_true c17
    have c17b1 : decide (l1_4.length < 1) = true := decide_eq_true (by omega)
    clear c17
    (first | rw [c17b0] | (simp only [i64_w, i32_w]; rw [c17b0]) | rw [c17b1] | skip)
    have H' := Aside0.mk H
    clear H
    have hnb18 := NB541_540.out
    have hnc18 := NB540_541.out
    have hnb19 := NB541_546.out
    have hnc19 := NB546_541.out
    obtain ⟨hcz20_0, hcz20_1, hcz20_2, hcz20_3, hcz20_4, hfz20_0, hfz20_1, hfz20_2, hfz20_3, hfz20_4⟩ := BK541.c5
    go_wp2
    go_meet
    case rel => exact ⟨_, (true), (by first | rfl | (simp; done) | (simp [*]; done)), H', ⟨by first | omega | exact Nat.le_refl _⟩, ⟨by refine far3_ ?_ NB540_546.out; exact BK540.out⟩, ⟨by refine far3_ ?_ NB541_546.out; exact BK541.out⟩, ⟨by refine put3_ (cs := #[.bool false, .string (⟨#[]⟩ : ByteArray), .string (⟨#[]⟩ : ByteArray)]) ?_; exact BK546.out⟩, ⟨hb_⟩⟩
   ·rw [if_neg c17] at H
    have c17b0 : decide ((l1_4.length : Int) < 1) = false := decide_eq_false c17
    have c17b1 : decide (l1_4.length < 1) = false := decide_eq_false (by omega)
    clear c17
    (first | rw [c17b0] | (simp only [i64_w, i32_w]; rw [c17b0]) | rw [c17b1] | skip)
    have H' := Aside0.mk H
    clear H
    have hnb21 := NB541_540.out
    have hnc21 := NB540_541.out
    have hnb22 := NB541_546.out
    have hnc22 := NB546_541.out
    obtain ⟨hcz23_0, hcz23_1, hcz23_2, hcz23_3, hcz23_4, hfz23_0, hfz23_1, hfz23_2, hfz23_3, hfz23_4⟩ := BK541.c5
    go_wp2
    go_meet
    case rel => exact ⟨_, (decide ((l1_4.length : Int) > 64)), (by first | rfl | (simp; done) | (simp [*]; done)), H', ⟨by first | omega | exact Nat.le_refl _⟩, ⟨by refine far3_ ?_ NB540_546.out; exact BK540.out⟩, ⟨by refine far3_ ?_ NB541_546.out; exact BK541.out⟩, ⟨by refine put3_ (cs := #[.bool false, .string (⟨#[]⟩ : ByteArray), .string (⟨#[]⟩ : ByteArray)]) ?_; exact BK546.out⟩, ⟨hb_⟩⟩
  case rest =>
   clear HC16
   (try clear c15); (try clear c15b0); (try clear c15b1); (try clear hcz14_0); (try clear hcz14_1); (try clear hcz14_2); (try clear hcz8_0); (try clear hcz8_1); (try clear hcz8_2); (try clear hcz8_3); (try clear hcz8_4); (try clear hcz8_5); (try clear hcz8_6); (try clear hcz8_7); (try clear hcz8_8); (try clear hcz9_0); (try clear hcz9_1); (try clear hcz9_2); (try clear hcz9_3); (try clear hcz9_4); (try clear hfz14_0); (try clear hfz14_1); (try clear hfz14_2); (try clear hfz8_0); (try clear hfz8_1); (try clear hfz8_2); (try clear hfz8_3); (try clear hfz8_4); (try clear hfz8_5); (try clear hfz8_6); (try clear hfz8_7); (try clear hfz8_8); (try clear hfz9_0); (try clear hfz9_1); (try clear hfz9_2); (try clear hfz9_3); (try clear hfz9_4)
   obtain ⟨kq, x38_15, rfl, HA, HJ15, BK540, BK541, BK546, HB⟩ := hcut
   cases kq with
   | zero => exact absurd HA.out (by simp [idiomref04_In.j0])
   | succ kj15 =>
    have H := HA.out
    clear HA
    simp only [idiomref04_In.j0] at H
    by_cases c24 : x38_15 = true
    ·subst c24
     have H1 : (some (false, 40)) = some (r1, r2) := by rw [if_pos rfl] at H; exact H
     clear H
     have H := H1
     clear H1
     simp only [Option.some.injEq, Prod.mk.injEq] at H
     obtain ⟨rfl, rfl⟩ := H
     go_wp2
     go_ret2
     exact fin_
    ·replace c24 := Bool.eq_false_iff.mpr c24
     subst c24
     have H1 : (idiomref04_In.l0 kj15 0 a1_0 a1_1 a1_2 a1_3 l1_4 t542 t543 t544) = some (r1, r2) := by rw [if_neg (show ¬ (false = true) by decide)] at H; exact H
     clear H
     have H := H1
     clear H1
     have H' := Aside0.mk H
     clear H
     go_wp2
     go_loopg [8] kj15 (fun kq v8 w' => ∃ (x8_2 : Int), v8 = .int .i64 x8_2 ∧ Aside0 (idiomref04_In.l0 kq x8_2 a1_0 a1_1 a1_2 a1_3 l1_4 t542 t543 t544 = some (r1, r2)) ∧ Aside0 (kq ≤ kj15) ∧ Aside0 (w'.heap[gb540]? = some (.cells #[.bool a0_0, .string a0_1, .string a0_2, .string a0_3, .int .i64 a0_4, .int .i64 a0_5, .string a0_6, .string a0_7, .int .i64 a0_8] 25 (0, 0))) ∧ Aside0 (w'.heap[gb541]? = some (.cells #[.string a1_0, .string a1_1, .bool a1_2, .bool a1_3, (.slice A1_4 l1_4.length c1_4)] 28 (0, 0))) ∧ Aside0 (w'.heap[gb546]? = some (.cells #[.bool t542, .string t543, .string t544] 23 (0, 0))) ∧ Aside0 (Below w.heap.size w w'))
     case atStart => exact ⟨(0), (by first | rfl | (simp; done) | (simp [*]; done)), H', ⟨Nat.le_refl _⟩, ⟨by exact BK540.out⟩, ⟨by exact BK541.out⟩, ⟨by exact BK546.out⟩, ⟨hb_⟩⟩
     case round =>
      clear H'
      (try clear c15); (try clear c15b0); (try clear c15b1); (try clear c24); (try clear hcz14_0); (try clear hcz14_1); (try clear hcz14_2); (try clear hcz8_0); (try clear hcz8_1); (try clear hcz8_2); (try clear hcz8_3); (try clear hcz8_4); (try clear hcz8_5); (try clear hcz8_6); (try clear hcz8_7); (try clear hcz8_8); (try clear hcz9_0); (try clear hcz9_1); (try clear hcz9_2); (try clear hcz9_3); (try clear hcz9_4); (try clear hfz14_0); (try clear hfz14_1); (try clear hfz14_2); (try clear hfz8_0); (try clear hfz8_1); (try clear hfz8_2); (try clear hfz8_3); (try clear hfz8_4); (try clear hfz8_5); (try clear hfz8_6); (try clear hfz8_7); (try clear hfz8_8); (try clear hfz9_0); (try clear hfz9_1); (try clear hfz9_2); (try clear hfz9_3); (try clear hfz9_4)
      obtain ⟨x8_2, rfl, HA, HK2, BK540, BK541, BK546, HB⟩ := hrel
      cases gk with
      | zero => exact absurd HA.out (by simp [idiomref04_In.l0])
      | succ k2 =>
       have H := HA.out
       clear HA
       simp only [idiomref04_In.l0] at H
       by_cases c25 : x8_2 < (l1_4.length : Int)
       ·rw [if_pos c25] at H
        have c25b0 : decide (x8_2 < (l1_4.length : Int)) = true := decide_eq_true c25
        clear c25
        by_cases c26 : 0 ≤ x8_2
        ·rw [if_pos c26] at H
         have c26b0 : decide (0 ≤ x8_2) = true := decide_eq_true c26
         clear c26
         replace H := Option.bind_eq_some_iff.mp H
         obtain ⟨t548, A270, H⟩ := H
         try dsimp only at H
         have A27 := Aside0.mk A270
         clear A270
         have HF28 := Aside0.mk H
         clear H
         have hnb29 := NB541_540.out
         have hnc29 := NB540_541.out
         have hnb30 := NB541_546.out
         have hnc30 := NB546_541.out
         obtain ⟨hcz31_0, hcz31_1, hcz31_2, hcz31_3, hcz31_4, hfz31_0, hfz31_1, hfz31_2, hfz31_3, hfz31_4⟩ := BK541.c5
         have p547 : 0 ≤ (x8_2 : Int) := of_decide_eq_true (by first | (with_reducible assumption) | assumption)
         have q547 : x8_2 < (l1_4.length : Int) := of_decide_eq_true (by first | (with_reducible assumption) | assumption)
         obtain ⟨ad547, e547, hx547_0, hx547_1⟩ := at_T48 HR1_4.out x8_2 p547 q547
         cases e547
         replace hx547_0 := (HB.out.cell (World.block_lt_of_cell? w _ hx547_0)).trans hx547_0
         replace hx547_1 := (HB.out.cell (World.block_lt_of_cell? w _ hx547_1)).trans hx547_1
         replace p547 := eq_true p547
         replace q547 := eq_true q547
         go_upto_if 52 with (first | ((with_reducible refine gate_callee (f := 25) rfl ?_); refine gL_ (some 51) Tryz.func25 #[.agg #[.string ((rd_T48 l1_4 x8_2).f0), .string ((rd_T48 l1_4 x8_2).f1)]] ?_; (with_reducible refine (idiomref04_SpanIs.calls k2 ((rd_T48 l1_4 x8_2).f0) ((rd_T48 l1_4 x8_2).f1) t548 _ A27.out).mono ?_); rintro e w32 ⟨rfl, hb⟩; refine ⟨_, rfl, ?_⟩; replace BK540 := BK540.bl hb; replace BK541 := BK541.bl hb; replace BK546 := BK546.bl hb; replace HB := Aside0.mk (below_step hb_ hb)))
         (try simp only [Act.put, List.setIfInBounds_toArray, List.set_cons_zero, List.set_cons_succ])
         have H := HF28.out
         clear HF28
         by_cases c33 : t548 = true
         ·subst c33
          have H1 : (idiomref04_In.l0 k2 (wrap64 (x8_2 + 1)) a1_0 a1_1 a1_2 a1_3 l1_4 t542 t543 t544) = some (r1, r2) := by rw [if_pos rfl] at H; exact H
          clear H
          have H := H1
          clear H1
          have H' := Aside0.mk H
          clear H
          go_wp2
          go_roundg k2
          case measure => have := HJ15.out; have := HK2.out; omega
          case rel => exact ⟨(wrap64 (x8_2 + 1)), (by first | rfl | (simp; done) | (simp [*]; done)), H', ⟨by have := HJ15.out; have := HK2.out; omega⟩, ⟨by exact BK540.out⟩, ⟨by exact BK541.out⟩, ⟨by exact BK546.out⟩, ⟨hb_⟩⟩
         ·replace c33 := Bool.eq_false_iff.mpr c33
          subst c33
          have H1 : (some (false, 40)) = some (r1, r2) := by rw [if_neg (show ¬ (false = true) by decide)] at H; exact H
          clear H
          have H := H1
          clear H1
          simp only [Option.some.injEq, Prod.mk.injEq] at H
          obtain ⟨rfl, rfl⟩ := H
          go_wp2
          go_ret2
          exact fin_
        ·rw [if_neg c26] at H
         exact absurd H (by simp)
       ·rw [if_neg c25] at H
        have c25b0 : decide (x8_2 < (l1_4.length : Int)) = false := decide_eq_false c25
        clear c25
        replace H := Option.bind_eq_some_iff.mp H
        obtain ⟨⟨t549, t550, t551, t552⟩, A340, H⟩ := H
        try dsimp only at H
        have A34 := Aside0.mk A340
        clear A340
        have H' := Aside0.mk H
        clear H
        have hnb35 := NB541_540.out
        have hnc35 := NB540_541.out
        have hnb36 := NB541_546.out
        have hnc36 := NB546_541.out
        obtain ⟨hcz37_0, hcz37_1, hcz37_2, hcz37_3, hcz37_4, hfz37_0, hfz37_1, hfz37_2, hfz37_3, hfz37_4⟩ := BK541.c5
        have hnb38 := NB546_540.out
        have hnc38 := NB540_546.out
        obtain ⟨hcz39_0, hcz39_1, hcz39_2, hfz39_0, hfz39_1, hfz39_2⟩ := BK546.c3
        go_wp2_with (first | ((with_reducible refine gate_callee (f := 26) rfl ?_); refine gL_ (some 55) Tryz.func26 #[.agg #[.bool t542, .string t543, .string t544]] ?_; (with_reducible refine (idiomref02_Trim.calls k2 t542 t543 t544 t549 t550 t551 t552 _ A34.out).mono ?_); rintro e w40 ⟨rfl, hb⟩; refine ⟨_, rfl, ?_⟩; replace BK540 := BK540.bl hb; replace BK541 := BK541.bl hb; replace BK546 := BK546.bl hb; replace HB := Aside0.mk (below_step hb_ hb)) | ((with_reducible refine gate_dst (N := 9) rfl ?_); (try (refine gate_guard (by rfl) ?_; dsimp only)); refine box_event ?hg (N := 9) ?hd (cs := #[.bool false, .string (⟨#[]⟩ : ByteArray), .string (⟨#[]⟩ : ByteArray)]) (t := 23) ?hr ?_; (case hd => rfl); (case hg => rfl); (case hr => first | (go_simp; done) | (go_simp; rfl)); intro gb553 hg w41 hbox hb; have BK553 := Aside0.mk (hbox); have GW553 := ge_ (w := w) hg; have GE553 := ge_ (w := w) hg; have NB540_553 := BK540.nl hg; have NB553_540 := BK540.ng hg; have NB541_553 := BK541.nl hg; have NB553_541 := BK541.ng hg; have NB546_553 := BK546.nl hg; have NB553_546 := BK546.ng hg; replace BK540 := BK540.bl hb; replace BK541 := BK541.bl hb; replace BK546 := BK546.bl hb; replace HB := Aside0.mk (below_step hb_ hb); clear hb hbox hg; have hnb42 := NB553_540.out; have hnc42 := NB540_553.out; have hnb43 := NB553_541.out; have hnc43 := NB541_553.out; have hnb44 := NB553_546.out; have hnc44 := NB546_553.out; obtain ⟨hcz45_0, hcz45_1, hcz45_2, hfz45_0, hfz45_1, hfz45_2⟩ := BK553.c3))
        go_loopg [11, 12] k2 (fun kq v11 v12 w' => ∃ (x11_3 : Bool) (x12_3 : Int), v11 = .bool x11_3 ∧ v12 = .int .i64 x12_3 ∧ Aside0 (idiomref04_In.l1 kq x11_3 x12_3 a1_0 a1_1 a1_2 a1_3 l1_4 t542 t543 t544 t549 t550 t551 = some (r1, r2)) ∧ Aside0 (kq ≤ k2) ∧ Aside0 (w'.heap[gb540]? = some (.cells #[.bool a0_0, .string a0_1, .string a0_2, .string a0_3, .int .i64 a0_4, .int .i64 a0_5, .string a0_6, .string a0_7, .int .i64 a0_8] 25 (0, 0))) ∧ Aside0 (w'.heap[gb541]? = some (.cells #[.string a1_0, .string a1_1, .bool a1_2, .bool a1_3, (.slice A1_4 l1_4.length c1_4)] 28 (0, 0))) ∧ Aside0 (w'.heap[gb546]? = some (.cells #[.bool t542, .string t543, .string t544] 23 (0, 0))) ∧ Aside0 (w'.heap[gb553]? = some (.cells #[.bool t549, .string t550, .string t551] 23 (0, 0))) ∧ Aside0 (Below w.heap.size w w'))
        case atStart => exact ⟨(false), (0), (by first | rfl | (simp; done) | (simp [*]; done)), (by first | rfl | (simp; done) | (simp [*]; done)), H', ⟨Nat.le_refl _⟩, ⟨by refine far3_ ?_ NB540_553.out; exact BK540.out⟩, ⟨by refine far3_ ?_ NB541_553.out; exact BK541.out⟩, ⟨by refine far3_ ?_ NB546_553.out; exact BK546.out⟩, ⟨by refine put3_ (cs := #[.bool false, .string (⟨#[]⟩ : ByteArray), .string (⟨#[]⟩ : ByteArray)]) ?_; exact BK553.out⟩, ⟨hb_⟩⟩
        case round =>
         clear H'
         (try clear c15); (try clear c15b0); (try clear c15b1); (try clear c24); (try clear c25); (try clear c25b0); (try clear hcz14_0); (try clear hcz14_1); (try clear hcz14_2); (try clear hcz37_0); (try clear hcz37_1); (try clear hcz37_2); (try clear hcz37_3); (try clear hcz37_4); (try clear hcz39_0); (try clear hcz39_1); (try clear hcz39_2); (try clear hcz45_0); (try clear hcz45_1); (try clear hcz45_2); (try clear hcz8_0); (try clear hcz8_1); (try clear hcz8_2); (try clear hcz8_3); (try clear hcz8_4); (try clear hcz8_5); (try clear hcz8_6); (try clear hcz8_7); (try clear hcz8_8); (try clear hcz9_0); (try clear hcz9_1); (try clear hcz9_2); (try clear hcz9_3); (try clear hcz9_4); (try clear hfz14_0); (try clear hfz14_1); (try clear hfz14_2); (try clear hfz37_0); (try clear hfz37_1); (try clear hfz37_2); (try clear hfz37_3); (try clear hfz37_4); (try clear hfz39_0); (try clear hfz39_1); (try clear hfz39_2); (try clear hfz45_0); (try clear hfz45_1); (try clear hfz45_2); (try clear hfz8_0); (try clear hfz8_1); (try clear hfz8_2); (try clear hfz8_3); (try clear hfz8_4); (try clear hfz8_5); (try clear hfz8_6); (try clear hfz8_7); (try clear hfz8_8); (try clear hfz9_0); (try clear hfz9_1); (try clear hfz9_2); (try clear hfz9_3); (try clear hfz9_4)
         obtain ⟨x11_3, x12_3, rfl, rfl, HA, HK3, BK540, BK541, BK546, BK553, HB⟩ := hrel
         cases gk with
         | zero => exact absurd HA.out (by simp [idiomref04_In.l1])
         | succ k3 =>
          have H := HA.out
          clear HA
          simp only [idiomref04_In.l1] at H
          by_cases c46 : x12_3 < (l1_4.length : Int)
          ·rw [if_pos c46] at H
           have c46b0 : decide (x12_3 < (l1_4.length : Int)) = true := decide_eq_true c46
           clear c46
           by_cases c47 : 0 ≤ x12_3
           ·rw [if_pos c47] at H
            have c47b0 : decide (0 ≤ x12_3) = true := decide_eq_true c47
            clear c47
            replace H := Option.bind_eq_some_iff.mp H
            obtain ⟨⟨t555, t556⟩, A480, H⟩ := H
            try dsimp only at H
            have A48 := Aside0.mk A480
            clear A480
            replace H := Option.bind_eq_some_iff.mp H
            obtain ⟨⟨t558, t559⟩, A490, H⟩ := H
            try dsimp only at H
            have A49 := Aside0.mk A490
            clear A490
            by_cases c50 : x11_3 = true
            ·subst c50
             have H1 : (idiomref04_In.l1 k3 true (wrap64 (x12_3 + 1)) a1_0 a1_1 a1_2 a1_3 l1_4 t542 t543 t544 t549 t550 t551) = some (r1, r2) := by rw [if_pos rfl] at H; exact H
             clear H
             have H := H1
             clear H1
             have H' := Aside0.mk H
             clear H
             have hnb51 := NB541_540.out
             have hnc51 := NB540_541.out
             have hnb52 := NB541_546.out
             have hnc52 := NB546_541.out
             have hnb53 := NB541_553.out
             have hnc53 := NB553_541.out
             obtain ⟨hcz54_0, hcz54_1, hcz54_2, hcz54_3, hcz54_4, hfz54_0, hfz54_1, hfz54_2, hfz54_3, hfz54_4⟩ := BK541.c5
             try go_wp2
             replace BK540 := Aside0.mk (blk_drew BK540.out)
             replace BK541 := Aside0.mk (blk_drew BK541.out)
             replace BK546 := Aside0.mk (blk_drew BK546.out)
             replace BK553 := Aside0.mk (blk_drew BK553.out)
             replace HB := Aside0.mk (below_drew1 HB.out)
             have p554 : 0 ≤ (x12_3 : Int) := of_decide_eq_true (by first | (with_reducible assumption) | assumption)
             have q554 : x12_3 < (l1_4.length : Int) := of_decide_eq_true (by first | (with_reducible assumption) | assumption)
             obtain ⟨ad554, e554, hx554_0, hx554_1⟩ := at_T48 HR1_4.out x12_3 p554 q554
             have hw554_1 := hx554_1
             have hw554_0 := hx554_0
             cases e554
             replace hx554_0 := (HB.out.cell (World.block_lt_of_cell? w _ hx554_0)).trans hx554_0
             replace hx554_1 := (HB.out.cell (World.block_lt_of_cell? w _ hx554_1)).trans hx554_1
             replace p554 := eq_true p554
             replace q554 := eq_true q554
             refine start_ (n := 14) (S := fun w' => w'.cell? ⟨gb541, 0, none⟩ = some (.string a1_0) ∧ w'.cell? ⟨gb541, 1, none⟩ = some (.string a1_1) ∧ w'.cell? ⟨gb541, 2, none⟩ = some (.bool a1_2) ∧ w'.cell? ⟨gb541, 3, none⟩ = some (.bool a1_3) ∧ w'.cell? ⟨gb541, 4, none⟩ = some (.slice (some ad554) l1_4.length c1_4) ∧ w'.cell? ⟨gb546, 0, none⟩ = some (.bool t542) ∧ w'.cell? ⟨gb546, 1, none⟩ = some (.string t543) ∧ w'.cell? ⟨gb546, 2, none⟩ = some (.string t544) ∧ w'.cell? (ad554.add ((x12_3).toNat * 2)) = some (.string ((rd_T48 l1_4 x12_3).f0)) ∧ w'.cell? ⟨(ad554.add ((x12_3).toNat * 2)).block, (ad554.add ((x12_3).toNat * 2)).off + 1, none⟩ = some (.string ((rd_T48 l1_4 x12_3).f1))) (ds := []) #[false, false, false, false, false, false, false, false, false, false, false, false, false, false] (by kernel_rfl) rfl rfl ⟨(blk_cell BK541.out 0).trans rfl, (blk_cell BK541.out 1).trans rfl, (blk_cell BK541.out 2).trans rfl, (blk_cell BK541.out 3).trans rfl, (blk_cell BK541.out 4).trans rfl, (blk_cell BK546.out 0).trans rfl, (blk_cell BK546.out 1).trans rfl, (blk_cell BK546.out 2).trans rfl, ((HB.out.cell (World.block_lt_of_cell? w _ hw554_0)).trans hw554_0), ((HB.out.cell (World.block_lt_of_cell? w _ hw554_1)).trans hw554_1)⟩ (fun hHeld => ?_); refine with_tabW idiomref04_In.tab16 idiomref04_In.bits16 (fun HT_ HW_ => ?_)
             generalize wr.drew = w55 at BK540 BK541 BK546 BK553 HB hx554_0 hx554_1 hHeld ⊢
             refine pr_ 0 (some 66) ?_
             refine pr_ 2 (some 68) ?_
             refine tk_ 1 (some 67) hHeld ?_
             refine pr_ 3 (some 69) ?_
             refine pr_ 4 (some 70) ?_
             refine tk_ 5 (some 71) hHeld ?_
             refine pr_ 6 (some 72) ?_
             refine tk_ 7 (some 73) hHeld ?_
             refine one_ (i := 8) (N := some 74) #[true, true, true, true, true, true, true, true, true, false, false, false, false, false] rfl rfl (one_of HT_.out (by kernel_rfl)) (by decide) (fun K hK => ?_)
             refine goes_ Tryz.func27 (by kernel_rfl) rfl #[.agg #[.bool false, .string ((rd_T48 l1_4 x12_3).f0), .string (⟨#[]⟩ : ByteArray)], .agg #[.bool t542, .string t543, .string t544]] (by rfl) rfl rfl ar_ ?_
             with_reducible refine (idiomref02_Compare.calls k3 false ((rd_T48 l1_4 x12_3).f0) (⟨#[]⟩ : ByteArray) t542 t543 t544 t555 t556 _ A48.out).mono ?_
             rintro e w56 ⟨rfl, hb⟩
             refine ⟨_, rfl, ?_⟩
             replace BK540 := BK540.bl hb
             replace BK541 := BK541.bl hb
             replace BK546 := BK546.bl hb
             replace BK553 := BK553.bl hb
             replace HB := Aside0.mk (below_step hb_ hb)
             (try clear hb)
             (try clear hb2)
             (try clear hk)
             (try clear hi)
             refine hK.out _ _ ⟨(blk_cell BK541.out 0).trans rfl, (blk_cell BK541.out 1).trans rfl, (blk_cell BK541.out 2).trans rfl, (blk_cell BK541.out 3).trans rfl, (blk_cell BK541.out 4).trans rfl, (blk_cell BK546.out 0).trans rfl, (blk_cell BK546.out 1).trans rfl, (blk_cell BK546.out 2).trans rfl, ((HB.out.cell (World.block_lt_of_cell? w _ hw554_0)).trans hw554_0), ((HB.out.cell (World.block_lt_of_cell? w _ hw554_1)).trans hw554_1)⟩ (fun hHeld => ?_)
             clear hK K
             refine norm_ (a' := ?_) ?_ ?_
             rotate_left
             ·show Act.put _ (some 74) _ = _
              simp only [Act.put, List.setIfInBounds_toArray, List.set_cons_zero, List.set_cons_succ, i64_w, i32_w]
              rfl
             refine pr_ 9 (some 65) ?_
             refine pr_ 10 (some 75) ?_
             refine pr_ 11 (some 76) ?_
             refine pr_ 12 (some 13) ?_
             refine pr_ 13 (some 14) ?_
             refine done_ (done_of HT_.out (by kernel_rfl)) ?_
             try go_wp2
             replace BK540 := Aside0.mk (blk_drew BK540.out)
             replace BK541 := Aside0.mk (blk_drew BK541.out)
             replace BK546 := Aside0.mk (blk_drew BK546.out)
             replace BK553 := Aside0.mk (blk_drew BK553.out)
             replace HB := Aside0.mk (below_drew1 HB.out)
             have p557 : 0 ≤ (x12_3 : Int) := of_decide_eq_true (by first | (with_reducible assumption) | assumption)
             have q557 : x12_3 < (l1_4.length : Int) := of_decide_eq_true (by first | (with_reducible assumption) | assumption)
             obtain ⟨ad557, e557, hx557_0, hx557_1⟩ := at_T48 HR1_4.out x12_3 p557 q557
             have hw557_1 := hx557_1
             have hw557_0 := hx557_0
             obtain rfl : ad554 = ad557 := (by injection e557)
             replace hx557_0 := (HB.out.cell (World.block_lt_of_cell? w _ hx557_0)).trans hx557_0
             replace hx557_1 := (HB.out.cell (World.block_lt_of_cell? w _ hx557_1)).trans hx557_1
             replace p557 := eq_true p557
             replace q557 := eq_true q557
             refine start_ (n := 14) (S := fun w' => w'.cell? ⟨gb546, 0, none⟩ = some (.bool t542) ∧ w'.cell? ⟨gb546, 1, none⟩ = some (.string t543) ∧ w'.cell? ⟨gb546, 2, none⟩ = some (.string t544) ∧ w'.cell? ⟨gb541, 0, none⟩ = some (.string a1_0) ∧ w'.cell? ⟨gb541, 1, none⟩ = some (.string a1_1) ∧ w'.cell? ⟨gb541, 2, none⟩ = some (.bool a1_2) ∧ w'.cell? ⟨gb541, 3, none⟩ = some (.bool a1_3) ∧ w'.cell? ⟨gb541, 4, none⟩ = some (.slice (some ad554) l1_4.length c1_4) ∧ w'.cell? (ad554.add ((x12_3).toNat * 2)) = some (.string ((rd_T48 l1_4 x12_3).f0)) ∧ w'.cell? ⟨(ad554.add ((x12_3).toNat * 2)).block, (ad554.add ((x12_3).toNat * 2)).off + 1, none⟩ = some (.string ((rd_T48 l1_4 x12_3).f1))) (ds := []) #[false, false, false, false, false, false, false, false, false, false, false, false, false, false] (by kernel_rfl) rfl rfl ⟨(blk_cell BK546.out 0).trans rfl, (blk_cell BK546.out 1).trans rfl, (blk_cell BK546.out 2).trans rfl, (blk_cell BK541.out 0).trans rfl, (blk_cell BK541.out 1).trans rfl, (blk_cell BK541.out 2).trans rfl, (blk_cell BK541.out 3).trans rfl, (blk_cell BK541.out 4).trans rfl, ((HB.out.cell (World.block_lt_of_cell? w _ hw557_0)).trans hw557_0), ((HB.out.cell (World.block_lt_of_cell? w _ hw557_1)).trans hw557_1)⟩ (fun hHeld => ?_); refine with_tabW idiomref04_In.tab17 idiomref04_In.bits17 (fun HT_ HW_ => ?_)
             generalize w56.drew = w57 at BK540 BK541 BK546 BK553 HB hx557_0 hx557_1 hHeld ⊢
             refine pr_ 1 (some 79) ?_
             refine pr_ 3 (some 81) ?_
             refine tk_ 0 (some 78) hHeld ?_
             refine tk_ 2 (some 80) hHeld ?_
             refine pr_ 4 (some 82) ?_
             refine pr_ 5 (some 83) ?_
             refine tk_ 6 (some 84) hHeld ?_
             refine pr_ 7 (some 85) ?_
             refine one_ (i := 8) (N := some 86) #[true, true, true, true, true, true, true, true, true, false, false, false, false, false] rfl rfl (one_of HT_.out (by kernel_rfl)) (by decide) (fun K hK => ?_)
             refine goes_ Tryz.func27 (by kernel_rfl) rfl #[.agg #[.bool t542, .string t543, .string t544], .agg #[.bool false, .string ((rd_T48 l1_4 x12_3).f1), .string (⟨#[]⟩ : ByteArray)]] (by rfl) rfl rfl ar_ ?_
             with_reducible refine (idiomref02_Compare.calls k3 t542 t543 t544 false ((rd_T48 l1_4 x12_3).f1) (⟨#[]⟩ : ByteArray) t558 t559 _ A49.out).mono ?_
             rintro e w58 ⟨rfl, hb⟩
             refine ⟨_, rfl, ?_⟩
             replace BK540 := BK540.bl hb
             replace BK541 := BK541.bl hb
             replace BK546 := BK546.bl hb
             replace BK553 := BK553.bl hb
             replace HB := Aside0.mk (below_step hb_ hb)
             (try clear hb)
             (try clear hb2)
             (try clear hk)
             (try clear hi)
             refine hK.out _ _ ⟨(blk_cell BK546.out 0).trans rfl, (blk_cell BK546.out 1).trans rfl, (blk_cell BK546.out 2).trans rfl, (blk_cell BK541.out 0).trans rfl, (blk_cell BK541.out 1).trans rfl, (blk_cell BK541.out 2).trans rfl, (blk_cell BK541.out 3).trans rfl, (blk_cell BK541.out 4).trans rfl, ((HB.out.cell (World.block_lt_of_cell? w _ hw557_0)).trans hw557_0), ((HB.out.cell (World.block_lt_of_cell? w _ hw557_1)).trans hw557_1)⟩ (fun hHeld => ?_)
             clear hK K
             refine norm_ (a' := ?_) ?_ ?_
             rotate_left
             ·show Act.put _ (some 86) _ = _
              simp only [Act.put, List.setIfInBounds_toArray, List.set_cons_zero, List.set_cons_succ, i64_w, i32_w]
              rfl
             refine pr_ 9 (some 77) ?_
             refine pr_ 10 (some 87) ?_
             refine pr_ 11 (some 88) ?_
             refine pr_ 12 (some 15) ?_
             refine pr_ 13 (some 16) ?_
             refine done_ (done_of HT_.out (by kernel_rfl)) ?_
             try go_wp2
             go_roundg k3
             case measure => have := HJ15.out; have := HK2.out; have := HK3.out; omega
             case rel => exact ⟨(true), (wrap64 (x12_3 + 1)), (by first | rfl | (simp; done) | (simp [*]; done)), (by first | rfl | (simp; done) | (simp [*]; done)), H', ⟨by have := HJ15.out; have := HK2.out; have := HK3.out; omega⟩, ⟨by exact BK540.out⟩, ⟨by exact BK541.out⟩, ⟨by exact BK546.out⟩, ⟨by exact BK553.out⟩, ⟨hb_⟩⟩
            ·replace c50 := Bool.eq_false_iff.mpr c50
             subst c50
             have H1 : (if t555 ≤ 0 then (if t558 ≤ 0 then (if a1_3 = true then (idiomref04_In.l1 k3 true (wrap64 (x12_3 + 1)) a1_0 a1_1 a1_2 a1_3 l1_4 t542 t543 t544 t549 t550 t551) else (idiomref04_In.l1 k3 (t551.toList == ([] : List UInt8)) (wrap64 (x12_3 + 1)) a1_0 a1_1 a1_2 a1_3 l1_4 t542 t543 t544 t549 t550 t551)) else (idiomref04_In.l1 k3 false (wrap64 (x12_3 + 1)) a1_0 a1_1 a1_2 a1_3 l1_4 t542 t543 t544 t549 t550 t551)) else (idiomref04_In.l1 k3 false (wrap64 (x12_3 + 1)) a1_0 a1_1 a1_2 a1_3 l1_4 t542 t543 t544 t549 t550 t551)) = some (r1, r2) := by rw [if_neg (show ¬ (false = true) by decide)] at H; exact H
             clear H
             have H := H1
             clear H1
             by_cases c59 : t555 ≤ 0
             ·rw [if_pos c59] at H
              have c59b0 : decide (t555 ≤ 0) = true := decide_eq_true c59
              clear c59
              by_cases c60 : t558 ≤ 0
              ·rw [if_pos c60] at H
               have c60b0 : decide (t558 ≤ 0) = true := decide_eq_true c60
               clear c60
               by_cases c61 : a1_3 = true
               ·subst c61
                have H1 : (idiomref04_In.l1 k3 true (wrap64 (x12_3 + 1)) a1_0 a1_1 a1_2 true l1_4 t542 t543 t544 t549 t550 t551) = some (r1, r2) := by rw [if_pos rfl] at H; exact H
                clear H
                have H := H1
                clear H1
                have H' := Aside0.mk H
                clear H
                have hnb62 := NB541_540.out
                have hnc62 := NB540_541.out
                have hnb63 := NB541_546.out
                have hnc63 := NB546_541.out
                have hnb64 := NB541_553.out
                have hnc64 := NB553_541.out
                obtain ⟨hcz65_0, hcz65_1, hcz65_2, hcz65_3, hcz65_4, hfz65_0, hfz65_1, hfz65_2, hfz65_3, hfz65_4⟩ := BK541.c5
                try go_wp2
                replace BK540 := Aside0.mk (blk_drew BK540.out)
                replace BK541 := Aside0.mk (blk_drew BK541.out)
                replace BK546 := Aside0.mk (blk_drew BK546.out)
                replace BK553 := Aside0.mk (blk_drew BK553.out)
                replace HB := Aside0.mk (below_drew1 HB.out)
                have p554 : 0 ≤ (x12_3 : Int) := of_decide_eq_true (by first | (with_reducible assumption) | assumption)
                have q554 : x12_3 < (l1_4.length : Int) := of_decide_eq_true (by first | (with_reducible assumption) | assumption)
                obtain ⟨ad554, e554, hx554_0, hx554_1⟩ := at_T48 HR1_4.out x12_3 p554 q554
                have hw554_1 := hx554_1
                have hw554_0 := hx554_0
                cases e554
                replace hx554_0 := (HB.out.cell (World.block_lt_of_cell? w _ hx554_0)).trans hx554_0
                replace hx554_1 := (HB.out.cell (World.block_lt_of_cell? w _ hx554_1)).trans hx554_1
                replace p554 := eq_true p554
                replace q554 := eq_true q554
                refine start_ (n := 14) (S := fun w' => w'.cell? ⟨gb541, 0, none⟩ = some (.string a1_0) ∧ w'.cell? ⟨gb541, 1, none⟩ = some (.string a1_1) ∧ w'.cell? ⟨gb541, 2, none⟩ = some (.bool a1_2) ∧ w'.cell? ⟨gb541, 3, none⟩ = some (.bool true) ∧ w'.cell? ⟨gb541, 4, none⟩ = some (.slice (some ad554) l1_4.length c1_4) ∧ w'.cell? ⟨gb546, 0, none⟩ = some (.bool t542) ∧ w'.cell? ⟨gb546, 1, none⟩ = some (.string t543) ∧ w'.cell? ⟨gb546, 2, none⟩ = some (.string t544) ∧ w'.cell? (ad554.add ((x12_3).toNat * 2)) = some (.string ((rd_T48 l1_4 x12_3).f0)) ∧ w'.cell? ⟨(ad554.add ((x12_3).toNat * 2)).block, (ad554.add ((x12_3).toNat * 2)).off + 1, none⟩ = some (.string ((rd_T48 l1_4 x12_3).f1))) (ds := []) #[false, false, false, false, false, false, false, false, false, false, false, false, false, false] (by kernel_rfl) rfl rfl ⟨(blk_cell BK541.out 0).trans rfl, (blk_cell BK541.out 1).trans rfl, (blk_cell BK541.out 2).trans rfl, (blk_cell BK541.out 3).trans rfl, (blk_cell BK541.out 4).trans rfl, (blk_cell BK546.out 0).trans rfl, (blk_cell BK546.out 1).trans rfl, (blk_cell BK546.out 2).trans rfl, ((HB.out.cell (World.block_lt_of_cell? w _ hw554_0)).trans hw554_0), ((HB.out.cell (World.block_lt_of_cell? w _ hw554_1)).trans hw554_1)⟩ (fun hHeld => ?_); refine with_tabW idiomref04_In.tab16 idiomref04_In.bits16 (fun HT_ HW_ => ?_)
                generalize wr.drew = w66 at BK540 BK541 BK546 BK553 HB hx554_0 hx554_1 hHeld ⊢
                refine pr_ 0 (some 66) ?_
                refine pr_ 2 (some 68) ?_
                refine tk_ 1 (some 67) hHeld ?_
                refine pr_ 3 (some 69) ?_
                refine pr_ 4 (some 70) ?_
                refine tk_ 5 (some 71) hHeld ?_
                refine pr_ 6 (some 72) ?_
                refine tk_ 7 (some 73) hHeld ?_
                refine one_ (i := 8) (N := some 74) #[true, true, true, true, true, true, true, true, true, false, false, false, false, false] rfl rfl (one_of HT_.out (by kernel_rfl)) (by decide) (fun K hK => ?_)
                refine goes_ Tryz.func27 (by kernel_rfl) rfl #[.agg #[.bool false, .string ((rd_T48 l1_4 x12_3).f0), .string (⟨#[]⟩ : ByteArray)], .agg #[.bool t542, .string t543, .string t544]] (by rfl) rfl rfl ar_ ?_
                with_reducible refine (idiomref02_Compare.calls k3 false ((rd_T48 l1_4 x12_3).f0) (⟨#[]⟩ : ByteArray) t542 t543 t544 t555 t556 _ A48.out).mono ?_
                rintro e w67 ⟨rfl, hb⟩
                refine ⟨_, rfl, ?_⟩
                replace BK540 := BK540.bl hb
                replace BK541 := BK541.bl hb
                replace BK546 := BK546.bl hb
                replace BK553 := BK553.bl hb
                replace HB := Aside0.mk (below_step hb_ hb)
                (try clear hb)
                (try clear hb2)
                (try clear hk)
                (try clear hi)
                refine hK.out _ _ ⟨(blk_cell BK541.out 0).trans rfl, (blk_cell BK541.out 1).trans rfl, (blk_cell BK541.out 2).trans rfl, (blk_cell BK541.out 3).trans rfl, (blk_cell BK541.out 4).trans rfl, (blk_cell BK546.out 0).trans rfl, (blk_cell BK546.out 1).trans rfl, (blk_cell BK546.out 2).trans rfl, ((HB.out.cell (World.block_lt_of_cell? w _ hw554_0)).trans hw554_0), ((HB.out.cell (World.block_lt_of_cell? w _ hw554_1)).trans hw554_1)⟩ (fun hHeld => ?_)
                clear hK K
                refine norm_ (a' := ?_) ?_ ?_
                rotate_left
                ·show Act.put _ (some 74) _ = _
                 simp only [Act.put, List.setIfInBounds_toArray, List.set_cons_zero, List.set_cons_succ, i64_w, i32_w]
                 rfl
                refine pr_ 9 (some 65) ?_
                refine pr_ 10 (some 75) ?_
                refine pr_ 11 (some 76) ?_
                refine pr_ 12 (some 13) ?_
                refine pr_ 13 (some 14) ?_
                refine done_ (done_of HT_.out (by kernel_rfl)) ?_
                try go_wp2
                replace BK540 := Aside0.mk (blk_drew BK540.out)
                replace BK541 := Aside0.mk (blk_drew BK541.out)
                replace BK546 := Aside0.mk (blk_drew BK546.out)
                replace BK553 := Aside0.mk (blk_drew BK553.out)
                replace HB := Aside0.mk (below_drew1 HB.out)
                have p557 : 0 ≤ (x12_3 : Int) := of_decide_eq_true (by first | (with_reducible assumption) | assumption)
                have q557 : x12_3 < (l1_4.length : Int) := of_decide_eq_true (by first | (with_reducible assumption) | assumption)
                obtain ⟨ad557, e557, hx557_0, hx557_1⟩ := at_T48 HR1_4.out x12_3 p557 q557
                have hw557_1 := hx557_1
                have hw557_0 := hx557_0
                obtain rfl : ad554 = ad557 := (by injection e557)
                replace hx557_0 := (HB.out.cell (World.block_lt_of_cell? w _ hx557_0)).trans hx557_0
                replace hx557_1 := (HB.out.cell (World.block_lt_of_cell? w _ hx557_1)).trans hx557_1
                replace p557 := eq_true p557
                replace q557 := eq_true q557
                refine start_ (n := 14) (S := fun w' => w'.cell? ⟨gb546, 0, none⟩ = some (.bool t542) ∧ w'.cell? ⟨gb546, 1, none⟩ = some (.string t543) ∧ w'.cell? ⟨gb546, 2, none⟩ = some (.string t544) ∧ w'.cell? ⟨gb541, 0, none⟩ = some (.string a1_0) ∧ w'.cell? ⟨gb541, 1, none⟩ = some (.string a1_1) ∧ w'.cell? ⟨gb541, 2, none⟩ = some (.bool a1_2) ∧ w'.cell? ⟨gb541, 3, none⟩ = some (.bool true) ∧ w'.cell? ⟨gb541, 4, none⟩ = some (.slice (some ad554) l1_4.length c1_4) ∧ w'.cell? (ad554.add ((x12_3).toNat * 2)) = some (.string ((rd_T48 l1_4 x12_3).f0)) ∧ w'.cell? ⟨(ad554.add ((x12_3).toNat * 2)).block, (ad554.add ((x12_3).toNat * 2)).off + 1, none⟩ = some (.string ((rd_T48 l1_4 x12_3).f1))) (ds := []) #[false, false, false, false, false, false, false, false, false, false, false, false, false, false] (by kernel_rfl) rfl rfl ⟨(blk_cell BK546.out 0).trans rfl, (blk_cell BK546.out 1).trans rfl, (blk_cell BK546.out 2).trans rfl, (blk_cell BK541.out 0).trans rfl, (blk_cell BK541.out 1).trans rfl, (blk_cell BK541.out 2).trans rfl, (blk_cell BK541.out 3).trans rfl, (blk_cell BK541.out 4).trans rfl, ((HB.out.cell (World.block_lt_of_cell? w _ hw557_0)).trans hw557_0), ((HB.out.cell (World.block_lt_of_cell? w _ hw557_1)).trans hw557_1)⟩ (fun hHeld => ?_); refine with_tabW idiomref04_In.tab17 idiomref04_In.bits17 (fun HT_ HW_ => ?_)
                generalize w67.drew = w68 at BK540 BK541 BK546 BK553 HB hx557_0 hx557_1 hHeld ⊢
                refine pr_ 1 (some 79) ?_
                refine pr_ 3 (some 81) ?_
                refine tk_ 0 (some 78) hHeld ?_
                refine tk_ 2 (some 80) hHeld ?_
                refine pr_ 4 (some 82) ?_
                refine pr_ 5 (some 83) ?_
                refine tk_ 6 (some 84) hHeld ?_
                refine pr_ 7 (some 85) ?_
                refine one_ (i := 8) (N := some 86) #[true, true, true, true, true, true, true, true, true, false, false, false, false, false] rfl rfl (one_of HT_.out (by kernel_rfl)) (by decide) (fun K hK => ?_)
                refine goes_ Tryz.func27 (by kernel_rfl) rfl #[.agg #[.bool t542, .string t543, .string t544], .agg #[.bool false, .string ((rd_T48 l1_4 x12_3).f1), .string (⟨#[]⟩ : ByteArray)]] (by rfl) rfl rfl ar_ ?_
                with_reducible refine (idiomref02_Compare.calls k3 t542 t543 t544 false ((rd_T48 l1_4 x12_3).f1) (⟨#[]⟩ : ByteArray) t558 t559 _ A49.out).mono ?_
                rintro e w69 ⟨rfl, hb⟩
                refine ⟨_, rfl, ?_⟩
                replace BK540 := BK540.bl hb
                replace BK541 := BK541.bl hb
                replace BK546 := BK546.bl hb
                replace BK553 := BK553.bl hb
                replace HB := Aside0.mk (below_step hb_ hb)
                (try clear hb)
                (try clear hb2)
                (try clear hk)
                (try clear hi)
                refine hK.out _ _ ⟨(blk_cell BK546.out 0).trans rfl, (blk_cell BK546.out 1).trans rfl, (blk_cell BK546.out 2).trans rfl, (blk_cell BK541.out 0).trans rfl, (blk_cell BK541.out 1).trans rfl, (blk_cell BK541.out 2).trans rfl, (blk_cell BK541.out 3).trans rfl, (blk_cell BK541.out 4).trans rfl, ((HB.out.cell (World.block_lt_of_cell? w _ hw557_0)).trans hw557_0), ((HB.out.cell (World.block_lt_of_cell? w _ hw557_1)).trans hw557_1)⟩ (fun hHeld => ?_)
                clear hK K
                refine norm_ (a' := ?_) ?_ ?_
                rotate_left
                ·show Act.put _ (some 86) _ = _
                 simp only [Act.put, List.setIfInBounds_toArray, List.set_cons_zero, List.set_cons_succ, i64_w, i32_w]
                 rfl
                refine pr_ 9 (some 77) ?_
                refine pr_ 10 (some 87) ?_
                refine pr_ 11 (some 88) ?_
                refine pr_ 12 (some 15) ?_
                refine pr_ 13 (some 16) ?_
                refine done_ (done_of HT_.out (by kernel_rfl)) ?_
                obtain ⟨hcz70_0, hcz70_1, hcz70_2, hcz70_3, hcz70_4, hfz70_0, hfz70_1, hfz70_2, hfz70_3, hfz70_4⟩ := BK541.c5
                try go_wp2
                go_roundg k3
                case measure => have := HJ15.out; have := HK2.out; have := HK3.out; omega
                case rel => exact ⟨(true), (wrap64 (x12_3 + 1)), (by first | rfl | (simp; done) | (simp [*]; done)), (by first | rfl | (simp; done) | (simp [*]; done)), H', ⟨by have := HJ15.out; have := HK2.out; have := HK3.out; omega⟩, ⟨by exact BK540.out⟩, ⟨by exact BK541.out⟩, ⟨by exact BK546.out⟩, ⟨by exact BK553.out⟩, ⟨hb_⟩⟩
               ·replace c61 := Bool.eq_false_iff.mpr c61
                subst c61
                have H1 : (idiomref04_In.l1 k3 (t551.toList == ([] : List UInt8)) (wrap64 (x12_3 + 1)) a1_0 a1_1 a1_2 false l1_4 t542 t543 t544 t549 t550 t551) = some (r1, r2) := by rw [if_neg (show ¬ (false = true) by decide)] at H; exact H
                clear H
                have H := H1
                clear H1
                have H' := Aside0.mk H
                clear H
                have hnb71 := NB541_540.out
                have hnc71 := NB540_541.out
                have hnb72 := NB541_546.out
                have hnc72 := NB546_541.out
                have hnb73 := NB541_553.out
                have hnc73 := NB553_541.out
                obtain ⟨hcz74_0, hcz74_1, hcz74_2, hcz74_3, hcz74_4, hfz74_0, hfz74_1, hfz74_2, hfz74_3, hfz74_4⟩ := BK541.c5
                try go_wp2
                replace BK540 := Aside0.mk (blk_drew BK540.out)
                replace BK541 := Aside0.mk (blk_drew BK541.out)
                replace BK546 := Aside0.mk (blk_drew BK546.out)
                replace BK553 := Aside0.mk (blk_drew BK553.out)
                replace HB := Aside0.mk (below_drew1 HB.out)
                have p554 : 0 ≤ (x12_3 : Int) := of_decide_eq_true (by first | (with_reducible assumption) | assumption)
                have q554 : x12_3 < (l1_4.length : Int) := of_decide_eq_true (by first | (with_reducible assumption) | assumption)
                obtain ⟨ad554, e554, hx554_0, hx554_1⟩ := at_T48 HR1_4.out x12_3 p554 q554
                have hw554_1 := hx554_1
                have hw554_0 := hx554_0
                cases e554
                replace hx554_0 := (HB.out.cell (World.block_lt_of_cell? w _ hx554_0)).trans hx554_0
                replace hx554_1 := (HB.out.cell (World.block_lt_of_cell? w _ hx554_1)).trans hx554_1
                replace p554 := eq_true p554
                replace q554 := eq_true q554
                refine start_ (n := 14) (S := fun w' => w'.cell? ⟨gb541, 0, none⟩ = some (.string a1_0) ∧ w'.cell? ⟨gb541, 1, none⟩ = some (.string a1_1) ∧ w'.cell? ⟨gb541, 2, none⟩ = some (.bool a1_2) ∧ w'.cell? ⟨gb541, 3, none⟩ = some (.bool false) ∧ w'.cell? ⟨gb541, 4, none⟩ = some (.slice (some ad554) l1_4.length c1_4) ∧ w'.cell? ⟨gb546, 0, none⟩ = some (.bool t542) ∧ w'.cell? ⟨gb546, 1, none⟩ = some (.string t543) ∧ w'.cell? ⟨gb546, 2, none⟩ = some (.string t544) ∧ w'.cell? (ad554.add ((x12_3).toNat * 2)) = some (.string ((rd_T48 l1_4 x12_3).f0)) ∧ w'.cell? ⟨(ad554.add ((x12_3).toNat * 2)).block, (ad554.add ((x12_3).toNat * 2)).off + 1, none⟩ = some (.string ((rd_T48 l1_4 x12_3).f1))) (ds := []) #[false, false, false, false, false, false, false, false, false, false, false, false, false, false] (by kernel_rfl) rfl rfl ⟨(blk_cell BK541.out 0).trans rfl, (blk_cell BK541.out 1).trans rfl, (blk_cell BK541.out 2).trans rfl, (blk_cell BK541.out 3).trans rfl, (blk_cell BK541.out 4).trans rfl, (blk_cell BK546.out 0).trans rfl, (blk_cell BK546.out 1).trans rfl, (blk_cell BK546.out 2).trans rfl, ((HB.out.cell (World.block_lt_of_cell? w _ hw554_0)).trans hw554_0), ((HB.out.cell (World.block_lt_of_cell? w _ hw554_1)).trans hw554_1)⟩ (fun hHeld => ?_); refine with_tabW idiomref04_In.tab16 idiomref04_In.bits16 (fun HT_ HW_ => ?_)
                generalize wr.drew = w75 at BK540 BK541 BK546 BK553 HB hx554_0 hx554_1 hHeld ⊢
                refine pr_ 0 (some 66) ?_
                refine pr_ 2 (some 68) ?_
                refine tk_ 1 (some 67) hHeld ?_
                refine pr_ 3 (some 69) ?_
                refine pr_ 4 (some 70) ?_
                refine tk_ 5 (some 71) hHeld ?_
                refine pr_ 6 (some 72) ?_
                refine tk_ 7 (some 73) hHeld ?_
                refine one_ (i := 8) (N := some 74) #[true, true, true, true, true, true, true, true, true, false, false, false, false, false] rfl rfl (one_of HT_.out (by kernel_rfl)) (by decide) (fun K hK => ?_)
                refine goes_ Tryz.func27 (by kernel_rfl) rfl #[.agg #[.bool false, .string ((rd_T48 l1_4 x12_3).f0), .string (⟨#[]⟩ : ByteArray)], .agg #[.bool t542, .string t543, .string t544]] (by rfl) rfl rfl ar_ ?_
                with_reducible refine (idiomref02_Compare.calls k3 false ((rd_T48 l1_4 x12_3).f0) (⟨#[]⟩ : ByteArray) t542 t543 t544 t555 t556 _ A48.out).mono ?_
                rintro e w76 ⟨rfl, hb⟩
                refine ⟨_, rfl, ?_⟩
                replace BK540 := BK540.bl hb
                replace BK541 := BK541.bl hb
                replace BK546 := BK546.bl hb
                replace BK553 := BK553.bl hb
                replace HB := Aside0.mk (below_step hb_ hb)
                (try clear hb)
                (try clear hb2)
                (try clear hk)
                (try clear hi)
                refine hK.out _ _ ⟨(blk_cell BK541.out 0).trans rfl, (blk_cell BK541.out 1).trans rfl, (blk_cell BK541.out 2).trans rfl, (blk_cell BK541.out 3).trans rfl, (blk_cell BK541.out 4).trans rfl, (blk_cell BK546.out 0).trans rfl, (blk_cell BK546.out 1).trans rfl, (blk_cell BK546.out 2).trans rfl, ((HB.out.cell (World.block_lt_of_cell? w _ hw554_0)).trans hw554_0), ((HB.out.cell (World.block_lt_of_cell? w _ hw554_1)).trans hw554_1)⟩ (fun hHeld => ?_)
                clear hK K
                refine norm_ (a' := ?_) ?_ ?_
                rotate_left
                ·show Act.put _ (some 74) _ = _
                 simp only [Act.put, List.setIfInBounds_toArray, List.set_cons_zero, List.set_cons_succ, i64_w, i32_w]
                 rfl
                refine pr_ 9 (some 65) ?_
                refine pr_ 10 (some 75) ?_
                refine pr_ 11 (some 76) ?_
                refine pr_ 12 (some 13) ?_
                refine pr_ 13 (some 14) ?_
                refine done_ (done_of HT_.out (by kernel_rfl)) ?_
                try go_wp2
                replace BK540 := Aside0.mk (blk_drew BK540.out)
                replace BK541 := Aside0.mk (blk_drew BK541.out)
                replace BK546 := Aside0.mk (blk_drew BK546.out)
                replace BK553 := Aside0.mk (blk_drew BK553.out)
                replace HB := Aside0.mk (below_drew1 HB.out)
                have p557 : 0 ≤ (x12_3 : Int) := of_decide_eq_true (by first | (with_reducible assumption) | assumption)
                have q557 : x12_3 < (l1_4.length : Int) := of_decide_eq_true (by first | (with_reducible assumption) | assumption)
                obtain ⟨ad557, e557, hx557_0, hx557_1⟩ := at_T48 HR1_4.out x12_3 p557 q557
                have hw557_1 := hx557_1
                have hw557_0 := hx557_0
                obtain rfl : ad554 = ad557 := (by injection e557)
                replace hx557_0 := (HB.out.cell (World.block_lt_of_cell? w _ hx557_0)).trans hx557_0
                replace hx557_1 := (HB.out.cell (World.block_lt_of_cell? w _ hx557_1)).trans hx557_1
                replace p557 := eq_true p557
                replace q557 := eq_true q557
                refine start_ (n := 14) (S := fun w' => w'.cell? ⟨gb546, 0, none⟩ = some (.bool t542) ∧ w'.cell? ⟨gb546, 1, none⟩ = some (.string t543) ∧ w'.cell? ⟨gb546, 2, none⟩ = some (.string t544) ∧ w'.cell? ⟨gb541, 0, none⟩ = some (.string a1_0) ∧ w'.cell? ⟨gb541, 1, none⟩ = some (.string a1_1) ∧ w'.cell? ⟨gb541, 2, none⟩ = some (.bool a1_2) ∧ w'.cell? ⟨gb541, 3, none⟩ = some (.bool false) ∧ w'.cell? ⟨gb541, 4, none⟩ = some (.slice (some ad554) l1_4.length c1_4) ∧ w'.cell? (ad554.add ((x12_3).toNat * 2)) = some (.string ((rd_T48 l1_4 x12_3).f0)) ∧ w'.cell? ⟨(ad554.add ((x12_3).toNat * 2)).block, (ad554.add ((x12_3).toNat * 2)).off + 1, none⟩ = some (.string ((rd_T48 l1_4 x12_3).f1))) (ds := []) #[false, false, false, false, false, false, false, false, false, false, false, false, false, false] (by kernel_rfl) rfl rfl ⟨(blk_cell BK546.out 0).trans rfl, (blk_cell BK546.out 1).trans rfl, (blk_cell BK546.out 2).trans rfl, (blk_cell BK541.out 0).trans rfl, (blk_cell BK541.out 1).trans rfl, (blk_cell BK541.out 2).trans rfl, (blk_cell BK541.out 3).trans rfl, (blk_cell BK541.out 4).trans rfl, ((HB.out.cell (World.block_lt_of_cell? w _ hw557_0)).trans hw557_0), ((HB.out.cell (World.block_lt_of_cell? w _ hw557_1)).trans hw557_1)⟩ (fun hHeld => ?_); refine with_tabW idiomref04_In.tab17 idiomref04_In.bits17 (fun HT_ HW_ => ?_)
                generalize w76.drew = w77 at BK540 BK541 BK546 BK553 HB hx557_0 hx557_1 hHeld ⊢
                refine pr_ 1 (some 79) ?_
                refine pr_ 3 (some 81) ?_
                refine tk_ 0 (some 78) hHeld ?_
                refine tk_ 2 (some 80) hHeld ?_
                refine pr_ 4 (some 82) ?_
                refine pr_ 5 (some 83) ?_
                refine tk_ 6 (some 84) hHeld ?_
                refine pr_ 7 (some 85) ?_
                refine one_ (i := 8) (N := some 86) #[true, true, true, true, true, true, true, true, true, false, false, false, false, false] rfl rfl (one_of HT_.out (by kernel_rfl)) (by decide) (fun K hK => ?_)
                refine goes_ Tryz.func27 (by kernel_rfl) rfl #[.agg #[.bool t542, .string t543, .string t544], .agg #[.bool false, .string ((rd_T48 l1_4 x12_3).f1), .string (⟨#[]⟩ : ByteArray)]] (by rfl) rfl rfl ar_ ?_
                with_reducible refine (idiomref02_Compare.calls k3 t542 t543 t544 false ((rd_T48 l1_4 x12_3).f1) (⟨#[]⟩ : ByteArray) t558 t559 _ A49.out).mono ?_
                rintro e w78 ⟨rfl, hb⟩
                refine ⟨_, rfl, ?_⟩
                replace BK540 := BK540.bl hb
                replace BK541 := BK541.bl hb
                replace BK546 := BK546.bl hb
                replace BK553 := BK553.bl hb
                replace HB := Aside0.mk (below_step hb_ hb)
                (try clear hb)
                (try clear hb2)
                (try clear hk)
                (try clear hi)
                refine hK.out _ _ ⟨(blk_cell BK546.out 0).trans rfl, (blk_cell BK546.out 1).trans rfl, (blk_cell BK546.out 2).trans rfl, (blk_cell BK541.out 0).trans rfl, (blk_cell BK541.out 1).trans rfl, (blk_cell BK541.out 2).trans rfl, (blk_cell BK541.out 3).trans rfl, (blk_cell BK541.out 4).trans rfl, ((HB.out.cell (World.block_lt_of_cell? w _ hw557_0)).trans hw557_0), ((HB.out.cell (World.block_lt_of_cell? w _ hw557_1)).trans hw557_1)⟩ (fun hHeld => ?_)
                clear hK K
                refine norm_ (a' := ?_) ?_ ?_
                rotate_left
                ·show Act.put _ (some 86) _ = _
                 simp only [Act.put, List.setIfInBounds_toArray, List.set_cons_zero, List.set_cons_succ, i64_w, i32_w]
                 rfl
                refine pr_ 9 (some 77) ?_
                refine pr_ 10 (some 87) ?_
                refine pr_ 11 (some 88) ?_
                refine pr_ 12 (some 15) ?_
                refine pr_ 13 (some 16) ?_
                refine done_ (done_of HT_.out (by kernel_rfl)) ?_
                obtain ⟨hcz79_0, hcz79_1, hcz79_2, hcz79_3, hcz79_4, hfz79_0, hfz79_1, hfz79_2, hfz79_3, hfz79_4⟩ := BK541.c5
                have hnb80 := NB553_540.out
                have hnc80 := NB540_553.out
                have hnb81 := NB553_546.out
                have hnc81 := NB546_553.out
                obtain ⟨hcz82_0, hcz82_1, hcz82_2, hfz82_0, hfz82_1, hfz82_2⟩ := BK553.c3
                try go_wp2
                go_roundg k3
                case measure => have := HJ15.out; have := HK2.out; have := HK3.out; omega
                case rel => exact ⟨((t551.toList == ([] : List UInt8))), (wrap64 (x12_3 + 1)), (by first | rfl | (simp; done) | (simp [*]; done)), (by first | rfl | (simp; done) | (simp [*]; done)), H', ⟨by have := HJ15.out; have := HK2.out; have := HK3.out; omega⟩, ⟨by exact BK540.out⟩, ⟨by exact BK541.out⟩, ⟨by exact BK546.out⟩, ⟨by exact BK553.out⟩, ⟨hb_⟩⟩
              ·rw [if_neg c60] at H
               have c60b0 : decide (t558 ≤ 0) = false := decide_eq_false c60
               clear c60
               have H' := Aside0.mk H
               clear H
               have hnb83 := NB541_540.out
               have hnc83 := NB540_541.out
               have hnb84 := NB541_546.out
               have hnc84 := NB546_541.out
               have hnb85 := NB541_553.out
               have hnc85 := NB553_541.out
               obtain ⟨hcz86_0, hcz86_1, hcz86_2, hcz86_3, hcz86_4, hfz86_0, hfz86_1, hfz86_2, hfz86_3, hfz86_4⟩ := BK541.c5
               try go_wp2
               replace BK540 := Aside0.mk (blk_drew BK540.out)
               replace BK541 := Aside0.mk (blk_drew BK541.out)
               replace BK546 := Aside0.mk (blk_drew BK546.out)
               replace BK553 := Aside0.mk (blk_drew BK553.out)
               replace HB := Aside0.mk (below_drew1 HB.out)
               have p554 : 0 ≤ (x12_3 : Int) := of_decide_eq_true (by first | (with_reducible assumption) | assumption)
               have q554 : x12_3 < (l1_4.length : Int) := of_decide_eq_true (by first | (with_reducible assumption) | assumption)
               obtain ⟨ad554, e554, hx554_0, hx554_1⟩ := at_T48 HR1_4.out x12_3 p554 q554
               have hw554_1 := hx554_1
               have hw554_0 := hx554_0
               cases e554
               replace hx554_0 := (HB.out.cell (World.block_lt_of_cell? w _ hx554_0)).trans hx554_0
               replace hx554_1 := (HB.out.cell (World.block_lt_of_cell? w _ hx554_1)).trans hx554_1
               replace p554 := eq_true p554
               replace q554 := eq_true q554
               refine start_ (n := 14) (S := fun w' => w'.cell? ⟨gb541, 0, none⟩ = some (.string a1_0) ∧ w'.cell? ⟨gb541, 1, none⟩ = some (.string a1_1) ∧ w'.cell? ⟨gb541, 2, none⟩ = some (.bool a1_2) ∧ w'.cell? ⟨gb541, 3, none⟩ = some (.bool a1_3) ∧ w'.cell? ⟨gb541, 4, none⟩ = some (.slice (some ad554) l1_4.length c1_4) ∧ w'.cell? ⟨gb546, 0, none⟩ = some (.bool t542) ∧ w'.cell? ⟨gb546, 1, none⟩ = some (.string t543) ∧ w'.cell? ⟨gb546, 2, none⟩ = some (.string t544) ∧ w'.cell? (ad554.add ((x12_3).toNat * 2)) = some (.string ((rd_T48 l1_4 x12_3).f0)) ∧ w'.cell? ⟨(ad554.add ((x12_3).toNat * 2)).block, (ad554.add ((x12_3).toNat * 2)).off + 1, none⟩ = some (.string ((rd_T48 l1_4 x12_3).f1))) (ds := []) #[false, false, false, false, false, false, false, false, false, false, false, false, false, false] (by kernel_rfl) rfl rfl ⟨(blk_cell BK541.out 0).trans rfl, (blk_cell BK541.out 1).trans rfl, (blk_cell BK541.out 2).trans rfl, (blk_cell BK541.out 3).trans rfl, (blk_cell BK541.out 4).trans rfl, (blk_cell BK546.out 0).trans rfl, (blk_cell BK546.out 1).trans rfl, (blk_cell BK546.out 2).trans rfl, ((HB.out.cell (World.block_lt_of_cell? w _ hw554_0)).trans hw554_0), ((HB.out.cell (World.block_lt_of_cell? w _ hw554_1)).trans hw554_1)⟩ (fun hHeld => ?_); refine with_tabW idiomref04_In.tab16 idiomref04_In.bits16 (fun HT_ HW_ => ?_)
               generalize wr.drew = w87 at BK540 BK541 BK546 BK553 HB hx554_0 hx554_1 hHeld ⊢
               refine pr_ 0 (some 66) ?_
               refine pr_ 2 (some 68) ?_
               refine tk_ 1 (some 67) hHeld ?_
               refine pr_ 3 (some 69) ?_
               refine pr_ 4 (some 70) ?_
               refine tk_ 5 (some 71) hHeld ?_
               refine pr_ 6 (some 72) ?_
               refine tk_ 7 (some 73) hHeld ?_
               refine one_ (i := 8) (N := some 74) #[true, true, true, true, true, true, true, true, true, false, false, false, false, false] rfl rfl (one_of HT_.out (by kernel_rfl)) (by decide) (fun K hK => ?_)
               refine goes_ Tryz.func27 (by kernel_rfl) rfl #[.agg #[.bool false, .string ((rd_T48 l1_4 x12_3).f0), .string (⟨#[]⟩ : ByteArray)], .agg #[.bool t542, .string t543, .string t544]] (by rfl) rfl rfl ar_ ?_
               with_reducible refine (idiomref02_Compare.calls k3 false ((rd_T48 l1_4 x12_3).f0) (⟨#[]⟩ : ByteArray) t542 t543 t544 t555 t556 _ A48.out).mono ?_
               rintro e w88 ⟨rfl, hb⟩
               refine ⟨_, rfl, ?_⟩
               replace BK540 := BK540.bl hb
               replace BK541 := BK541.bl hb
               replace BK546 := BK546.bl hb
               replace BK553 := BK553.bl hb
               replace HB := Aside0.mk (below_step hb_ hb)
               (try clear hb)
               (try clear hb2)
               (try clear hk)
               (try clear hi)
               refine hK.out _ _ ⟨(blk_cell BK541.out 0).trans rfl, (blk_cell BK541.out 1).trans rfl, (blk_cell BK541.out 2).trans rfl, (blk_cell BK541.out 3).trans rfl, (blk_cell BK541.out 4).trans rfl, (blk_cell BK546.out 0).trans rfl, (blk_cell BK546.out 1).trans rfl, (blk_cell BK546.out 2).trans rfl, ((HB.out.cell (World.block_lt_of_cell? w _ hw554_0)).trans hw554_0), ((HB.out.cell (World.block_lt_of_cell? w _ hw554_1)).trans hw554_1)⟩ (fun hHeld => ?_)
               clear hK K
               refine norm_ (a' := ?_) ?_ ?_
               rotate_left
               ·show Act.put _ (some 74) _ = _
                simp only [Act.put, List.setIfInBounds_toArray, List.set_cons_zero, List.set_cons_succ, i64_w, i32_w]
                rfl
               refine pr_ 9 (some 65) ?_
               refine pr_ 10 (some 75) ?_
               refine pr_ 11 (some 76) ?_
               refine pr_ 12 (some 13) ?_
               refine pr_ 13 (some 14) ?_
               refine done_ (done_of HT_.out (by kernel_rfl)) ?_
               try go_wp2
               replace BK540 := Aside0.mk (blk_drew BK540.out)
               replace BK541 := Aside0.mk (blk_drew BK541.out)
               replace BK546 := Aside0.mk (blk_drew BK546.out)
               replace BK553 := Aside0.mk (blk_drew BK553.out)
               replace HB := Aside0.mk (below_drew1 HB.out)
               have p557 : 0 ≤ (x12_3 : Int) := of_decide_eq_true (by first | (with_reducible assumption) | assumption)
               have q557 : x12_3 < (l1_4.length : Int) := of_decide_eq_true (by first | (with_reducible assumption) | assumption)
               obtain ⟨ad557, e557, hx557_0, hx557_1⟩ := at_T48 HR1_4.out x12_3 p557 q557
               have hw557_1 := hx557_1
               have hw557_0 := hx557_0
               obtain rfl : ad554 = ad557 := (by injection e557)
               replace hx557_0 := (HB.out.cell (World.block_lt_of_cell? w _ hx557_0)).trans hx557_0
               replace hx557_1 := (HB.out.cell (World.block_lt_of_cell? w _ hx557_1)).trans hx557_1
               replace p557 := eq_true p557
               replace q557 := eq_true q557
               refine start_ (n := 14) (S := fun w' => w'.cell? ⟨gb546, 0, none⟩ = some (.bool t542) ∧ w'.cell? ⟨gb546, 1, none⟩ = some (.string t543) ∧ w'.cell? ⟨gb546, 2, none⟩ = some (.string t544) ∧ w'.cell? ⟨gb541, 0, none⟩ = some (.string a1_0) ∧ w'.cell? ⟨gb541, 1, none⟩ = some (.string a1_1) ∧ w'.cell? ⟨gb541, 2, none⟩ = some (.bool a1_2) ∧ w'.cell? ⟨gb541, 3, none⟩ = some (.bool a1_3) ∧ w'.cell? ⟨gb541, 4, none⟩ = some (.slice (some ad554) l1_4.length c1_4) ∧ w'.cell? (ad554.add ((x12_3).toNat * 2)) = some (.string ((rd_T48 l1_4 x12_3).f0)) ∧ w'.cell? ⟨(ad554.add ((x12_3).toNat * 2)).block, (ad554.add ((x12_3).toNat * 2)).off + 1, none⟩ = some (.string ((rd_T48 l1_4 x12_3).f1))) (ds := []) #[false, false, false, false, false, false, false, false, false, false, false, false, false, false] (by kernel_rfl) rfl rfl ⟨(blk_cell BK546.out 0).trans rfl, (blk_cell BK546.out 1).trans rfl, (blk_cell BK546.out 2).trans rfl, (blk_cell BK541.out 0).trans rfl, (blk_cell BK541.out 1).trans rfl, (blk_cell BK541.out 2).trans rfl, (blk_cell BK541.out 3).trans rfl, (blk_cell BK541.out 4).trans rfl, ((HB.out.cell (World.block_lt_of_cell? w _ hw557_0)).trans hw557_0), ((HB.out.cell (World.block_lt_of_cell? w _ hw557_1)).trans hw557_1)⟩ (fun hHeld => ?_); refine with_tabW idiomref04_In.tab17 idiomref04_In.bits17 (fun HT_ HW_ => ?_)
               generalize w88.drew = w89 at BK540 BK541 BK546 BK553 HB hx557_0 hx557_1 hHeld ⊢
               refine pr_ 1 (some 79) ?_
               refine pr_ 3 (some 81) ?_
               refine tk_ 0 (some 78) hHeld ?_
               refine tk_ 2 (some 80) hHeld ?_
               refine pr_ 4 (some 82) ?_
               refine pr_ 5 (some 83) ?_
               refine tk_ 6 (some 84) hHeld ?_
               refine pr_ 7 (some 85) ?_
               refine one_ (i := 8) (N := some 86) #[true, true, true, true, true, true, true, true, true, false, false, false, false, false] rfl rfl (one_of HT_.out (by kernel_rfl)) (by decide) (fun K hK => ?_)
               refine goes_ Tryz.func27 (by kernel_rfl) rfl #[.agg #[.bool t542, .string t543, .string t544], .agg #[.bool false, .string ((rd_T48 l1_4 x12_3).f1), .string (⟨#[]⟩ : ByteArray)]] (by rfl) rfl rfl ar_ ?_
               with_reducible refine (idiomref02_Compare.calls k3 t542 t543 t544 false ((rd_T48 l1_4 x12_3).f1) (⟨#[]⟩ : ByteArray) t558 t559 _ A49.out).mono ?_
               rintro e w90 ⟨rfl, hb⟩
               refine ⟨_, rfl, ?_⟩
               replace BK540 := BK540.bl hb
               replace BK541 := BK541.bl hb
               replace BK546 := BK546.bl hb
               replace BK553 := BK553.bl hb
               replace HB := Aside0.mk (below_step hb_ hb)
               (try clear hb)
               (try clear hb2)
               (try clear hk)
               (try clear hi)
               refine hK.out _ _ ⟨(blk_cell BK546.out 0).trans rfl, (blk_cell BK546.out 1).trans rfl, (blk_cell BK546.out 2).trans rfl, (blk_cell BK541.out 0).trans rfl, (blk_cell BK541.out 1).trans rfl, (blk_cell BK541.out 2).trans rfl, (blk_cell BK541.out 3).trans rfl, (blk_cell BK541.out 4).trans rfl, ((HB.out.cell (World.block_lt_of_cell? w _ hw557_0)).trans hw557_0), ((HB.out.cell (World.block_lt_of_cell? w _ hw557_1)).trans hw557_1)⟩ (fun hHeld => ?_)
               clear hK K
               refine norm_ (a' := ?_) ?_ ?_
               rotate_left
               ·show Act.put _ (some 86) _ = _
                simp only [Act.put, List.setIfInBounds_toArray, List.set_cons_zero, List.set_cons_succ, i64_w, i32_w]
                rfl
               refine pr_ 9 (some 77) ?_
               refine pr_ 10 (some 87) ?_
               refine pr_ 11 (some 88) ?_
               refine pr_ 12 (some 15) ?_
               refine pr_ 13 (some 16) ?_
               refine done_ (done_of HT_.out (by kernel_rfl)) ?_
               try go_wp2
               go_roundg k3
               case measure => have := HJ15.out; have := HK2.out; have := HK3.out; omega
               case rel => exact ⟨(false), (wrap64 (x12_3 + 1)), (by first | rfl | (simp; done) | (simp [*]; done)), (by first | rfl | (simp; done) | (simp [*]; done)), H', ⟨by have := HJ15.out; have := HK2.out; have := HK3.out; omega⟩, ⟨by exact BK540.out⟩, ⟨by exact BK541.out⟩, ⟨by exact BK546.out⟩, ⟨by exact BK553.out⟩, ⟨hb_⟩⟩
             ·rw [if_neg c59] at H
              have c59b0 : decide (t555 ≤ 0) = false := decide_eq_false c59
              clear c59
              have H' := Aside0.mk H
              clear H
              have hnb91 := NB541_540.out
              have hnc91 := NB540_541.out
              have hnb92 := NB541_546.out
              have hnc92 := NB546_541.out
              have hnb93 := NB541_553.out
              have hnc93 := NB553_541.out
              obtain ⟨hcz94_0, hcz94_1, hcz94_2, hcz94_3, hcz94_4, hfz94_0, hfz94_1, hfz94_2, hfz94_3, hfz94_4⟩ := BK541.c5
              try go_wp2
              replace BK540 := Aside0.mk (blk_drew BK540.out)
              replace BK541 := Aside0.mk (blk_drew BK541.out)
              replace BK546 := Aside0.mk (blk_drew BK546.out)
              replace BK553 := Aside0.mk (blk_drew BK553.out)
              replace HB := Aside0.mk (below_drew1 HB.out)
              have p554 : 0 ≤ (x12_3 : Int) := of_decide_eq_true (by first | (with_reducible assumption) | assumption)
              have q554 : x12_3 < (l1_4.length : Int) := of_decide_eq_true (by first | (with_reducible assumption) | assumption)
              obtain ⟨ad554, e554, hx554_0, hx554_1⟩ := at_T48 HR1_4.out x12_3 p554 q554
              have hw554_1 := hx554_1
              have hw554_0 := hx554_0
              cases e554
              replace hx554_0 := (HB.out.cell (World.block_lt_of_cell? w _ hx554_0)).trans hx554_0
              replace hx554_1 := (HB.out.cell (World.block_lt_of_cell? w _ hx554_1)).trans hx554_1
              replace p554 := eq_true p554
              replace q554 := eq_true q554
              refine start_ (n := 14) (S := fun w' => w'.cell? ⟨gb541, 0, none⟩ = some (.string a1_0) ∧ w'.cell? ⟨gb541, 1, none⟩ = some (.string a1_1) ∧ w'.cell? ⟨gb541, 2, none⟩ = some (.bool a1_2) ∧ w'.cell? ⟨gb541, 3, none⟩ = some (.bool a1_3) ∧ w'.cell? ⟨gb541, 4, none⟩ = some (.slice (some ad554) l1_4.length c1_4) ∧ w'.cell? ⟨gb546, 0, none⟩ = some (.bool t542) ∧ w'.cell? ⟨gb546, 1, none⟩ = some (.string t543) ∧ w'.cell? ⟨gb546, 2, none⟩ = some (.string t544) ∧ w'.cell? (ad554.add ((x12_3).toNat * 2)) = some (.string ((rd_T48 l1_4 x12_3).f0)) ∧ w'.cell? ⟨(ad554.add ((x12_3).toNat * 2)).block, (ad554.add ((x12_3).toNat * 2)).off + 1, none⟩ = some (.string ((rd_T48 l1_4 x12_3).f1))) (ds := []) #[false, false, false, false, false, false, false, false, false, false, false, false, false, false] (by kernel_rfl) rfl rfl ⟨(blk_cell BK541.out 0).trans rfl, (blk_cell BK541.out 1).trans rfl, (blk_cell BK541.out 2).trans rfl, (blk_cell BK541.out 3).trans rfl, (blk_cell BK541.out 4).trans rfl, (blk_cell BK546.out 0).trans rfl, (blk_cell BK546.out 1).trans rfl, (blk_cell BK546.out 2).trans rfl, ((HB.out.cell (World.block_lt_of_cell? w _ hw554_0)).trans hw554_0), ((HB.out.cell (World.block_lt_of_cell? w _ hw554_1)).trans hw554_1)⟩ (fun hHeld => ?_); refine with_tabW idiomref04_In.tab16 idiomref04_In.bits16 (fun HT_ HW_ => ?_)
              generalize wr.drew = w95 at BK540 BK541 BK546 BK553 HB hx554_0 hx554_1 hHeld ⊢
              refine pr_ 0 (some 66) ?_
              refine pr_ 2 (some 68) ?_
              refine tk_ 1 (some 67) hHeld ?_
              refine pr_ 3 (some 69) ?_
              refine pr_ 4 (some 70) ?_
              refine tk_ 5 (some 71) hHeld ?_
              refine pr_ 6 (some 72) ?_
              refine tk_ 7 (some 73) hHeld ?_
              refine one_ (i := 8) (N := some 74) #[true, true, true, true, true, true, true, true, true, false, false, false, false, false] rfl rfl (one_of HT_.out (by kernel_rfl)) (by decide) (fun K hK => ?_)
              refine goes_ Tryz.func27 (by kernel_rfl) rfl #[.agg #[.bool false, .string ((rd_T48 l1_4 x12_3).f0), .string (⟨#[]⟩ : ByteArray)], .agg #[.bool t542, .string t543, .string t544]] (by rfl) rfl rfl ar_ ?_
              with_reducible refine (idiomref02_Compare.calls k3 false ((rd_T48 l1_4 x12_3).f0) (⟨#[]⟩ : ByteArray) t542 t543 t544 t555 t556 _ A48.out).mono ?_
              rintro e w96 ⟨rfl, hb⟩
              refine ⟨_, rfl, ?_⟩
              replace BK540 := BK540.bl hb
              replace BK541 := BK541.bl hb
              replace BK546 := BK546.bl hb
              replace BK553 := BK553.bl hb
              replace HB := Aside0.mk (below_step hb_ hb)
              (try clear hb)
              (try clear hb2)
              (try clear hk)
              (try clear hi)
              refine hK.out _ _ ⟨(blk_cell BK541.out 0).trans rfl, (blk_cell BK541.out 1).trans rfl, (blk_cell BK541.out 2).trans rfl, (blk_cell BK541.out 3).trans rfl, (blk_cell BK541.out 4).trans rfl, (blk_cell BK546.out 0).trans rfl, (blk_cell BK546.out 1).trans rfl, (blk_cell BK546.out 2).trans rfl, ((HB.out.cell (World.block_lt_of_cell? w _ hw554_0)).trans hw554_0), ((HB.out.cell (World.block_lt_of_cell? w _ hw554_1)).trans hw554_1)⟩ (fun hHeld => ?_)
              clear hK K
              refine norm_ (a' := ?_) ?_ ?_
              rotate_left
              ·show Act.put _ (some 74) _ = _
               simp only [Act.put, List.setIfInBounds_toArray, List.set_cons_zero, List.set_cons_succ, i64_w, i32_w]
               rfl
              refine pr_ 9 (some 65) ?_
              refine pr_ 10 (some 75) ?_
              refine pr_ 11 (some 76) ?_
              refine pr_ 12 (some 13) ?_
              refine pr_ 13 (some 14) ?_
              refine done_ (done_of HT_.out (by kernel_rfl)) ?_
              try go_wp2
              replace BK540 := Aside0.mk (blk_drew BK540.out)
              replace BK541 := Aside0.mk (blk_drew BK541.out)
              replace BK546 := Aside0.mk (blk_drew BK546.out)
              replace BK553 := Aside0.mk (blk_drew BK553.out)
              replace HB := Aside0.mk (below_drew1 HB.out)
              have p557 : 0 ≤ (x12_3 : Int) := of_decide_eq_true (by first | (with_reducible assumption) | assumption)
              have q557 : x12_3 < (l1_4.length : Int) := of_decide_eq_true (by first | (with_reducible assumption) | assumption)
              obtain ⟨ad557, e557, hx557_0, hx557_1⟩ := at_T48 HR1_4.out x12_3 p557 q557
              have hw557_1 := hx557_1
              have hw557_0 := hx557_0
              obtain rfl : ad554 = ad557 := (by injection e557)
              replace hx557_0 := (HB.out.cell (World.block_lt_of_cell? w _ hx557_0)).trans hx557_0
              replace hx557_1 := (HB.out.cell (World.block_lt_of_cell? w _ hx557_1)).trans hx557_1
              replace p557 := eq_true p557
              replace q557 := eq_true q557
              refine start_ (n := 14) (S := fun w' => w'.cell? ⟨gb546, 0, none⟩ = some (.bool t542) ∧ w'.cell? ⟨gb546, 1, none⟩ = some (.string t543) ∧ w'.cell? ⟨gb546, 2, none⟩ = some (.string t544) ∧ w'.cell? ⟨gb541, 0, none⟩ = some (.string a1_0) ∧ w'.cell? ⟨gb541, 1, none⟩ = some (.string a1_1) ∧ w'.cell? ⟨gb541, 2, none⟩ = some (.bool a1_2) ∧ w'.cell? ⟨gb541, 3, none⟩ = some (.bool a1_3) ∧ w'.cell? ⟨gb541, 4, none⟩ = some (.slice (some ad554) l1_4.length c1_4) ∧ w'.cell? (ad554.add ((x12_3).toNat * 2)) = some (.string ((rd_T48 l1_4 x12_3).f0)) ∧ w'.cell? ⟨(ad554.add ((x12_3).toNat * 2)).block, (ad554.add ((x12_3).toNat * 2)).off + 1, none⟩ = some (.string ((rd_T48 l1_4 x12_3).f1))) (ds := []) #[false, false, false, false, false, false, false, false, false, false, false, false, false, false] (by kernel_rfl) rfl rfl ⟨(blk_cell BK546.out 0).trans rfl, (blk_cell BK546.out 1).trans rfl, (blk_cell BK546.out 2).trans rfl, (blk_cell BK541.out 0).trans rfl, (blk_cell BK541.out 1).trans rfl, (blk_cell BK541.out 2).trans rfl, (blk_cell BK541.out 3).trans rfl, (blk_cell BK541.out 4).trans rfl, ((HB.out.cell (World.block_lt_of_cell? w _ hw557_0)).trans hw557_0), ((HB.out.cell (World.block_lt_of_cell? w _ hw557_1)).trans hw557_1)⟩ (fun hHeld => ?_); refine with_tabW idiomref04_In.tab17 idiomref04_In.bits17 (fun HT_ HW_ => ?_)
              generalize w96.drew = w97 at BK540 BK541 BK546 BK553 HB hx557_0 hx557_1 hHeld ⊢
              refine pr_ 1 (some 79) ?_
              refine pr_ 3 (some 81) ?_
              refine tk_ 0 (some 78) hHeld ?_
              refine tk_ 2 (some 80) hHeld ?_
              refine pr_ 4 (some 82) ?_
              refine pr_ 5 (some 83) ?_
              refine tk_ 6 (some 84) hHeld ?_
              refine pr_ 7 (some 85) ?_
              refine one_ (i := 8) (N := some 86) #[true, true, true, true, true, true, true, true, true, false, false, false, false, false] rfl rfl (one_of HT_.out (by kernel_rfl)) (by decide) (fun K hK => ?_)
              refine goes_ Tryz.func27 (by kernel_rfl) rfl #[.agg #[.bool t542, .string t543, .string t544], .agg #[.bool false, .string ((rd_T48 l1_4 x12_3).f1), .string (⟨#[]⟩ : ByteArray)]] (by rfl) rfl rfl ar_ ?_
              with_reducible refine (idiomref02_Compare.calls k3 t542 t543 t544 false ((rd_T48 l1_4 x12_3).f1) (⟨#[]⟩ : ByteArray) t558 t559 _ A49.out).mono ?_
              rintro e w98 ⟨rfl, hb⟩
              refine ⟨_, rfl, ?_⟩
              replace BK540 := BK540.bl hb
              replace BK541 := BK541.bl hb
              replace BK546 := BK546.bl hb
              replace BK553 := BK553.bl hb
              replace HB := Aside0.mk (below_step hb_ hb)
              (try clear hb)
              (try clear hb2)
              (try clear hk)
              (try clear hi)
              refine hK.out _ _ ⟨(blk_cell BK546.out 0).trans rfl, (blk_cell BK546.out 1).trans rfl, (blk_cell BK546.out 2).trans rfl, (blk_cell BK541.out 0).trans rfl, (blk_cell BK541.out 1).trans rfl, (blk_cell BK541.out 2).trans rfl, (blk_cell BK541.out 3).trans rfl, (blk_cell BK541.out 4).trans rfl, ((HB.out.cell (World.block_lt_of_cell? w _ hw557_0)).trans hw557_0), ((HB.out.cell (World.block_lt_of_cell? w _ hw557_1)).trans hw557_1)⟩ (fun hHeld => ?_)
              clear hK K
              refine norm_ (a' := ?_) ?_ ?_
              rotate_left
              ·show Act.put _ (some 86) _ = _
               simp only [Act.put, List.setIfInBounds_toArray, List.set_cons_zero, List.set_cons_succ, i64_w, i32_w]
               rfl
              refine pr_ 9 (some 77) ?_
              refine pr_ 10 (some 87) ?_
              refine pr_ 11 (some 88) ?_
              refine pr_ 12 (some 15) ?_
              refine pr_ 13 (some 16) ?_
              refine done_ (done_of HT_.out (by kernel_rfl)) ?_
              try go_wp2
              go_roundg k3
              case measure => have := HJ15.out; have := HK2.out; have := HK3.out; omega
              case rel => exact ⟨(false), (wrap64 (x12_3 + 1)), (by first | rfl | (simp; done) | (simp [*]; done)), (by first | rfl | (simp; done) | (simp [*]; done)), H', ⟨by have := HJ15.out; have := HK2.out; have := HK3.out; omega⟩, ⟨by exact BK540.out⟩, ⟨by exact BK541.out⟩, ⟨by exact BK546.out⟩, ⟨by exact BK553.out⟩, ⟨hb_⟩⟩
           ·rw [if_neg c47] at H
            exact absurd H (by simp)
          ·rw [if_neg c46] at H
           have c46b0 : decide (x12_3 < (l1_4.length : Int)) = false := decide_eq_false c46
           clear c46
           simp only [Option.some.injEq, Prod.mk.injEq] at H
           obtain ⟨rfl, rfl⟩ := H
           have hnb99 := NB541_540.out
           have hnc99 := NB540_541.out
           have hnb100 := NB541_546.out
           have hnc100 := NB546_541.out
           have hnb101 := NB541_553.out
           have hnc101 := NB553_541.out
           obtain ⟨hcz102_0, hcz102_1, hcz102_2, hcz102_3, hcz102_4, hfz102_0, hfz102_1, hfz102_2, hfz102_3, hfz102_4⟩ := BK541.c5
           go_wp2
           go_ret2
           exact fin_
 ·rw [if_neg c15] at H
  have c15b0 : (t545 == 0) = false := beq_eq_false_iff_ne.mpr c15
  have c15b1 : (t545 != 0) = true := bne_iff_ne.mpr c15
  (first | rw [c15b0] | (simp only [i64_w, i32_w]; rw [c15b0]) | rw [c15b1] | skip)
  simp only [Option.some.injEq, Prod.mk.injEq] at H
  obtain ⟨rfl, rfl⟩ := H
  go_wp2
  go_ret2
  exact fin_
attribute [local go_sem] max2_int max_two
set_option linter.unusedVariables false
set_option linter.unusedSimpArgs false
attribute [local go_sem high] eqA23
mutual
def idiomlaw04_OperandValues.j0 : Nat → ByteArray → ByteArray → Bool → Bool → ByteArray → ByteArray → ByteArray → Int → Int → ByteArray → ByteArray → Int → ByteArray → ByteArray → Bool → Bool → List (S48) → Option (Bool)
  | 0, _, _, _, _, _, _, _, _, _, _, _, _, _, _, _, _, _ => none
  | k + 1, x1, x2, x38, x561000, x561001, x561002, x561003, x561004, x561005, x561006, x561007, x561008, x562000, x562001, x562002, x562003, x562004 => if x38 = true then (some false) else ((operand_Mod.f k x561000 x561001 x561002 x561003 x561004 x561005 x561006 x561007 x561008 x1 x2).bind fun bt573 => ((idiomref04_Mod.f k x561000 x561001 x561002 x561003 x561004 x561005 x561006 x561007 x561008 x1 x2).bind fun bt577 => (if (!(bt573.1 == bt577.1) || (!(bt573.2.1.toList == bt577.2.1.toList) || (!(bt573.2.2.1.toList == bt577.2.2.1.toList)))) = true then (idiomlaw04_OperandValues.j1 k true x561000 x561001 x561002 x561003 x561004 x561005 x561006 x561007 x561008 x562000 x562001 x562002 x562003 x562004) else (idiomlaw04_OperandValues.j1 k (bt573.2.2.2 != bt577.2.2.2) x561000 x561001 x561002 x561003 x561004 x561005 x561006 x561007 x561008 x562000 x562001 x562002 x562003 x562004))))
def idiomlaw04_OperandValues.j1 : Nat → Bool → Bool → ByteArray → ByteArray → ByteArray → Int → Int → ByteArray → ByteArray → Int → ByteArray → ByteArray → Bool → Bool → List (S48) → Option (Bool)
  | 0, _, _, _, _, _, _, _, _, _, _, _, _, _, _, _ => none
  | k + 1, x60, x561000, x561001, x561002, x561003, x561004, x561005, x561006, x561007, x561008, x562000, x562001, x562002, x562003, x562004 => if x60 = true then (some false) else ((idiomlaw04_copied.f x562000 x562001 x562002 x562003 x562004).bind fun bt581 => ((operand_In.f k x561000 x561001 x561002 x561003 x561004 x561005 x561006 x561007 x561008 bt581.1 bt581.2.1 bt581.2.2.1 bt581.2.2.2.1 bt581.2.2.2.2).bind fun bt588 => ((idiomref04_In.f k x561000 x561001 x561002 x561003 x561004 x561005 x561006 x561007 x561008 x562000 x562001 x562002 x562003 x562004).bind fun bt590 => (if (bt588.1 == bt590.1) = true then (some (bt588.2 == bt590.2)) else (some false)))))
end
def idiomlaw04_OperandValues.f (k : Nat) (a0_0 : Bool) (a0_1 : ByteArray) (a0_2 : ByteArray) (a0_3 : ByteArray) (a0_4 : Int) (a0_5 : Int) (a0_6 : ByteArray) (a0_7 : ByteArray) (a0_8 : Int) (a1 : ByteArray) (a2 : ByteArray) (a3_0 : ByteArray) (a3_1 : ByteArray) (a3_2 : Bool) (a3_3 : Bool) (l3_4 : List (S48)) : Option (Bool) := (operand_Get.f k a0_0 a0_1 a0_2 a0_3 a0_4 a0_5 a0_6 a0_7 a0_8 a1).bind fun bt562 => ((idiomref04_Get.f k a0_0 a0_1 a0_2 a0_3 a0_4 a0_5 a0_6 a0_7 a0_8 a1).bind fun bt567 => (if (!(bt562.1 == bt567.1) || (!(bt562.2.1.toList == bt567.2.1.toList) || (!(bt562.2.2.1.toList == bt567.2.2.1.toList)))) = true then (idiomlaw04_OperandValues.j0 k a1 a2 true a0_0 a0_1 a0_2 a0_3 a0_4 a0_5 a0_6 a0_7 a0_8 a3_0 a3_1 a3_2 a3_3 l3_4) else (if bt562.2.2.2 = bt567.2.2.2 then ((idiomlaw04_awake.f k).bind fun t572 => (idiomlaw04_OperandValues.j0 k a1 a2 (!t572) a0_0 a0_1 a0_2 a0_3 a0_4 a0_5 a0_6 a0_7 a0_8 a3_0 a3_1 a3_2 a3_3 l3_4)) else (idiomlaw04_OperandValues.j0 k a1 a2 true a0_0 a0_1 a0_2 a0_3 a0_4 a0_5 a0_6 a0_7 a0_8 a3_0 a3_1 a3_2 a3_3 l3_4))))
def idiomlaw04_OperandValues.T9 : Bool × List (List Nat × List Nat) := (true, [([], []), ([], []), ([1], [1]), ([0, 2, 2], [0, 2]), ([3], [3]), ([4], [4]), ([4], [4]), ([5, 3, 0, 1, 2, 3, 4, 5], [5]), ([6, 7, 0, 1, 2, 3, 4, 5, 6, 7], [6])])
def idiomlaw04_OperandValues.B9 : List Nat := [0, 0, 2, 7, 15, 31, 31, 63, 255]
theorem idiomlaw04_OperandValues.tab9 : rtab .any (opsOf Tryz.f3 9) = idiomlaw04_OperandValues.T9 := by kernel_rfl
theorem idiomlaw04_OperandValues.bits9 : waitsOk idiomlaw04_OperandValues.T9.2 idiomlaw04_OperandValues.B9 = true := by kernel_rfl
set_option maxHeartbeats 8000000 in
set_option maxRecDepth 100000 in
theorem idiomlaw04_OperandValues.calls (k : Nat) (a0_0 : Bool) (a0_1 : ByteArray) (a0_2 : ByteArray) (a0_3 : ByteArray) (a0_4 : Int) (a0_5 : Int) (a0_6 : ByteArray) (a0_7 : ByteArray) (a0_8 : Int) (a1 : ByteArray) (a2 : ByteArray) (a3_0 : ByteArray) (a3_1 : ByteArray) (a3_2 : Bool) (a3_3 : Bool) (A3_4 : Option Addr) (c3_4 : Nat) (l3_4 : List (S48)) (r : Bool) (w : World) (ht : TB w) (hr3_4 : Kd.C k48 w A3_4 l3_4.length l3_4) (hc3_4 : l3_4.length ≤ c3_4) (h : idiomlaw04_OperandValues.f k a0_0 a0_1 a0_2 a0_3 a0_4 a0_5 a0_6 a0_7 a0_8 a1 a2 a3_0 a3_1 a3_2 a3_3 l3_4 = some r) :
    Calls Tryz.prog 3 #[.agg #[.bool a0_0, .string a0_1, .string a0_2, .string a0_3, .int .i64 a0_4, .int .i64 a0_5, .string a0_6, .string a0_7, .int .i64 a0_8], .string a1, .string a2, .agg #[.string a3_0, .string a3_1, .bool a3_2, .bool a3_3, .slice A3_4 l3_4.length c3_4]] w fun e w' => e = .returned (.bool r) ∧ Below w.heap.size w w' := by
 have hu25 := Tryz.underlying25
 have hu28 := Tryz.underlying28
 have hu23 := Tryz.underlying23
 have HR3_4 := Aside0.mk hr3_4
 have HC3_4 := Aside0.mk hc3_4
 clear hr3_4 hc3_4
 have HTB := Aside0.mk ht
 clear ht
 have HB := Aside0.mk (Below.refl w.heap.size w)
 unfold idiomlaw04_OperandValues.f at h
 have H := h
 clear h
 replace H := Option.bind_eq_some_iff.mp H
 obtain ⟨⟨t562, t563, t564, t565⟩, A50, H⟩ := H
 try dsimp only at H
 have A5 := Aside0.mk A50
 clear A50
 replace H := Option.bind_eq_some_iff.mp H
 obtain ⟨⟨t567, t568, t569, t570⟩, A60, H⟩ := H
 try dsimp only at H
 have A6 := Aside0.mk A60
 clear A60
 have HC7 := Aside0.mk H
 clear H
 go_enter Tryz.func3, Tryz.ntmps3
 go_upto_region 3 with (first | ((with_reducible refine gate_dst (N := 4) rfl ?_); refine bx_ #[.bool a0_0, .string a0_1, .string a0_2, .string a0_3, .int .i64 a0_4, .int .i64 a0_5, .string a0_6, .string a0_7, .int .i64 a0_8] 25 ?_; intro gb560 hg w8 hbox hb; have BK560 := Aside0.mk (hbox); have GW560 := ge_ (w := w) hg; have GE560 := ge_ (w := w) hg; replace HB := Aside0.mk (below_step hb_ hb); clear hb hbox hg) | ((with_reducible refine gate_dst (N := 7) rfl ?_); refine bx_ #[.string a3_0, .string a3_1, .bool a3_2, .bool a3_3, .slice A3_4 l3_4.length c3_4] 28 ?_; intro gb561 hg w9 hbox hb; have BK561 := Aside0.mk (hbox); have GW561 := ge_ (w := w) hg; have GE561 := ge_ (w := w) hg; have NB560_561 := BK560.nl hg; have NB561_560 := BK560.ng hg; replace BK560 := BK560.bl hb; replace HB := Aside0.mk (below_step hb_ hb); clear hb hbox hg; have hnb10 := NB560_561.out; have hnc10 := NB561_560.out; obtain ⟨hcz11_0, hcz11_1, hcz11_2, hcz11_3, hcz11_4, hcz11_5, hcz11_6, hcz11_7, hcz11_8, hfz11_0, hfz11_1, hfz11_2, hfz11_3, hfz11_4, hfz11_5, hfz11_6, hfz11_7, hfz11_8⟩ := BK560.c9) | ((with_reducible refine gate_callee (f := 5) rfl ?_); refine gL_ (some 18) Tryz.func5 #[.agg #[.bool a0_0, .string a0_1, .string a0_2, .string a0_3, .int .i64 a0_4, .int .i64 a0_5, .string a0_6, .string a0_7, .int .i64 a0_8], .string a1] ?_; (with_reducible refine (operand_Get.calls k a0_0 a0_1 a0_2 a0_3 a0_4 a0_5 a0_6 a0_7 a0_8 a1 t562 t563 t564 t565 _ (TB.below HTB.out hb_) A5.out).mono ?_); rintro e w12 ⟨rfl, hb⟩; refine ⟨_, rfl, ?_⟩; replace BK560 := BK560.bl hb; replace BK561 := BK561.bl hb; replace HB := Aside0.mk (below_step hb_ hb)) | ((with_reducible refine gate_dst (N := 9) rfl ?_); refine bx_ #[.bool false, .string (⟨#[]⟩ : ByteArray), .string (⟨#[]⟩ : ByteArray)] 23 ?_; intro gb566 hg w13 hbox hb; have BK566 := Aside0.mk (hbox); have GW566 := ge_ (w := w) hg; have GE566 := ge_ (w := w) hg; have NB560_566 := BK560.nl hg; have NB566_560 := BK560.ng hg; have NB561_566 := BK561.nl hg; have NB566_561 := BK561.ng hg; replace BK560 := BK560.bl hb; replace BK561 := BK561.bl hb; replace HB := Aside0.mk (below_step hb_ hb); clear hb hbox hg; have hnb14 := NB566_560.out; have hnc14 := NB560_566.out; have hnb15 := NB566_561.out; have hnc15 := NB561_566.out; obtain ⟨hcz16_0, hcz16_1, hcz16_2, hfz16_0, hfz16_1, hfz16_2⟩ := BK566.c3; obtain ⟨hcz17_0, hcz17_1, hcz17_2, hcz17_3, hcz17_4, hcz17_5, hcz17_6, hcz17_7, hcz17_8, hfz17_0, hfz17_1, hfz17_2, hfz17_3, hfz17_4, hfz17_5, hfz17_6, hfz17_7, hfz17_8⟩ := BK560.c9) | ((with_reducible refine gate_callee (f := 6) rfl ?_); refine gL_ (some 24) Tryz.func6 #[.agg #[.bool a0_0, .string a0_1, .string a0_2, .string a0_3, .int .i64 a0_4, .int .i64 a0_5, .string a0_6, .string a0_7, .int .i64 a0_8], .string a1] ?_; (with_reducible refine (idiomref04_Get.calls k a0_0 a0_1 a0_2 a0_3 a0_4 a0_5 a0_6 a0_7 a0_8 a1 t567 t568 t569 t570 _ (TB.below HTB.out hb_) A6.out).mono ?_); rintro e w18 ⟨rfl, hb⟩; refine ⟨_, rfl, ?_⟩; replace BK560 := Aside0.mk (blk_below (g := gb560) (o := .cells #[.bool a0_0, .string a0_1, .string a0_2, .string a0_3, .int .i64 a0_4, .int .i64 a0_5, .string a0_6, .string a0_7, .int .i64 a0_8] 25 (0, 0)) (by refine far3_ ?_ NB560_566.out; exact BK560.out) hb); replace BK561 := Aside0.mk (blk_below (g := gb561) (o := .cells #[.string a3_0, .string a3_1, .bool a3_2, .bool a3_3, .slice A3_4 l3_4.length c3_4] 28 (0, 0)) (by refine far3_ ?_ NB561_566.out; exact BK561.out) hb); replace BK566 := Aside0.mk (blk_below (g := gb566) (o := .cells #[.bool t562, .string t563, .string t564] 23 (0, 0)) (by refine put3_ (cs := #[.bool false, .string (⟨#[]⟩ : ByteArray), .string (⟨#[]⟩ : ByteArray)]) ?_; exact BK566.out) hb); replace HB := Aside0.mk (below_step hb_ hb)) | ((with_reducible refine gate_dst (N := 11) rfl ?_); refine bx_ #[.bool false, .string (⟨#[]⟩ : ByteArray), .string (⟨#[]⟩ : ByteArray)] 23 ?_; intro gb571 hg w19 hbox hb; have BK571 := Aside0.mk (hbox); have GW571 := ge_ (w := w) hg; have GE571 := ge_ (w := w) hg; have NB560_571 := BK560.nl hg; have NB571_560 := BK560.ng hg; have NB561_571 := BK561.nl hg; have NB571_561 := BK561.ng hg; have NB566_571 := BK566.nl hg; have NB571_566 := BK566.ng hg; replace BK560 := BK560.bl hb; replace BK561 := BK561.bl hb; replace BK566 := BK566.bl hb; replace HB := Aside0.mk (below_step hb_ hb); clear hb hbox hg; have hnb20 := NB571_560.out; have hnc20 := NB560_571.out; have hnb21 := NB571_561.out; have hnc21 := NB561_571.out; have hnb22 := NB571_566.out; have hnc22 := NB566_571.out; obtain ⟨hcz23_0, hcz23_1, hcz23_2, hfz23_0, hfz23_1, hfz23_2⟩ := BK571.c3))
 (try simp only [Act.put, List.setIfInBounds_toArray, List.set_cons_zero, List.set_cons_succ])
 go_cut [38] (fun v38 wc => ∃ (kq : Nat) (x38_6 : Bool), v38 = .bool x38_6 ∧ Aside0 (idiomlaw04_OperandValues.j0 kq a1 a2 x38_6 a0_0 a0_1 a0_2 a0_3 a0_4 a0_5 a0_6 a0_7 a0_8 a3_0 a3_1 a3_2 a3_3 l3_4 = some r) ∧ Aside0 (kq ≤ k) ∧ Aside0 (wc.heap[gb560]? = some (.cells #[.bool a0_0, .string a0_1, .string a0_2, .string a0_3, .int .i64 a0_4, .int .i64 a0_5, .string a0_6, .string a0_7, .int .i64 a0_8] 25 (0, 0))) ∧ Aside0 (wc.heap[gb561]? = some (.cells #[.string a3_0, .string a3_1, .bool a3_2, .bool a3_3, (.slice A3_4 l3_4.length c3_4)] 28 (0, 0))) ∧ Aside0 (wc.heap[gb566]? = some (.cells #[.bool t562, .string t563, .string t564] 23 (0, 0))) ∧ Aside0 (wc.heap[gb571]? = some (.cells #[.bool t567, .string t568, .string t569] 23 (0, 0))) ∧ Aside0 (Below w.heap.size w wc))
 case first =>
  have H := HC7.out
  clear HC7
  by_cases c24 : (!(t562 == t567) || (!(t563.toList == t568.toList) || (!(t564.toList == t569.toList)))) = true
  ·rw [if_pos c24] at H
   have c24b0 : (!(t562 == t567) || (!(t563.toList == t568.toList) || (!(t564.toList == t569.toList)))) = true := c24
   clear c24
   (first | rw [c24b0] | (simp only [i64_w, i32_w]; rw [c24b0]) | skip)
   have H' := Aside0.mk H
   clear H
   have hnb25 := NB566_560.out
   have hnc25 := NB560_566.out
   have hnb26 := NB566_561.out
   have hnc26 := NB561_566.out
   have hnb27 := NB566_571.out
   have hnc27 := NB571_566.out
   obtain ⟨hcz28_0, hcz28_1, hcz28_2, hfz28_0, hfz28_1, hfz28_2⟩ := BK566.c3
   have hnb29 := NB571_560.out
   have hnc29 := NB560_571.out
   have hnb30 := NB571_561.out
   have hnc30 := NB561_571.out
   obtain ⟨hcz31_0, hcz31_1, hcz31_2, hfz31_0, hfz31_1, hfz31_2⟩ := BK571.c3
   go_wp2
   go_meet
   case rel => exact ⟨_, (true), (by first | rfl | (simp; done) | (simp [*]; done)), H', ⟨by first | omega | exact Nat.le_refl _⟩, ⟨by refine far3_ ?_ NB560_571.out; exact BK560.out⟩, ⟨by refine far3_ ?_ NB561_571.out; exact BK561.out⟩, ⟨by refine far3_ ?_ NB566_571.out; exact BK566.out⟩, ⟨by refine put3_ (cs := #[.bool false, .string (⟨#[]⟩ : ByteArray), .string (⟨#[]⟩ : ByteArray)]) ?_; exact BK571.out⟩, ⟨hb_⟩⟩
  ·rw [if_neg c24] at H
   have c24b0 : (!(t562 == t567) || (!(t563.toList == t568.toList) || (!(t564.toList == t569.toList)))) = false := by simpa using c24
   clear c24
   (first | rw [c24b0] | (simp only [i64_w, i32_w]; rw [c24b0]) | skip)
   by_cases c32 : t565 = t570
   ·rw [if_pos c32] at H
    have c32b0 : (t565 == t570) = true := beq_iff_eq.mpr c32
    have c32b1 : (t565 != t570) = false := bne_eq_false_iff_eq.mpr c32
    clear c32
    replace H := Option.bind_eq_some_iff.mp H
    obtain ⟨t572, A330, H⟩ := H
    try dsimp only at H
    have A33 := Aside0.mk A330
    clear A330
    have H' := Aside0.mk H
    clear H
    have hnb34 := NB566_560.out
    have hnc34 := NB560_566.out
    have hnb35 := NB566_561.out
    have hnc35 := NB561_566.out
    have hnb36 := NB566_571.out
    have hnc36 := NB571_566.out
    obtain ⟨hcz37_0, hcz37_1, hcz37_2, hfz37_0, hfz37_1, hfz37_2⟩ := BK566.c3
    have hnb38 := NB571_560.out
    have hnc38 := NB560_571.out
    have hnb39 := NB571_561.out
    have hnc39 := NB561_571.out
    obtain ⟨hcz40_0, hcz40_1, hcz40_2, hfz40_0, hfz40_1, hfz40_2⟩ := BK571.c3
    go_wp2_with (first | (go_at_call 7; (with_reducible refine (idiomlaw04_awake.calls k  t572 _ (TB.below HTB.out hb_) A33.out).mono ?_); rintro e w41 ⟨rfl, hb⟩; replace BK560 := Aside0.mk (blk_below (g := gb560) (o := .cells #[.bool a0_0, .string a0_1, .string a0_2, .string a0_3, .int .i64 a0_4, .int .i64 a0_5, .string a0_6, .string a0_7, .int .i64 a0_8] 25 (0, 0)) (by refine far3_ ?_ NB560_571.out; exact BK560.out) hb); replace BK561 := Aside0.mk (blk_below (g := gb561) (o := .cells #[.string a3_0, .string a3_1, .bool a3_2, .bool a3_3, .slice A3_4 l3_4.length c3_4] 28 (0, 0)) (by refine far3_ ?_ NB561_571.out; exact BK561.out) hb); replace BK566 := Aside0.mk (blk_below (g := gb566) (o := .cells #[.bool t562, .string t563, .string t564] 23 (0, 0)) (by refine far3_ ?_ NB566_571.out; exact BK566.out) hb); replace BK571 := Aside0.mk (blk_below (g := gb571) (o := .cells #[.bool t567, .string t568, .string t569] 23 (0, 0)) (by refine put3_ (cs := #[.bool false, .string (⟨#[]⟩ : ByteArray), .string (⟨#[]⟩ : ByteArray)]) ?_; exact BK571.out) hb); replace HB := Aside0.mk (below_step hb_ hb)))
    go_meet
    case rel => exact ⟨_, (!t572), (by first | rfl | (simp; done) | (simp [*]; done)), H', ⟨by first | omega | exact Nat.le_refl _⟩, ⟨by exact BK560.out⟩, ⟨by exact BK561.out⟩, ⟨by exact BK566.out⟩, ⟨by exact BK571.out⟩, ⟨hb_⟩⟩
   ·rw [if_neg c32] at H
    have c32b0 : (t565 == t570) = false := beq_eq_false_iff_ne.mpr c32
    have c32b1 : (t565 != t570) = true := bne_iff_ne.mpr c32
    have H' := Aside0.mk H
    clear H
    have hnb42 := NB566_560.out
    have hnc42 := NB560_566.out
    have hnb43 := NB566_561.out
    have hnc43 := NB561_566.out
    have hnb44 := NB566_571.out
    have hnc44 := NB571_566.out
    obtain ⟨hcz45_0, hcz45_1, hcz45_2, hfz45_0, hfz45_1, hfz45_2⟩ := BK566.c3
    have hnb46 := NB571_560.out
    have hnc46 := NB560_571.out
    have hnb47 := NB571_561.out
    have hnc47 := NB561_571.out
    obtain ⟨hcz48_0, hcz48_1, hcz48_2, hfz48_0, hfz48_1, hfz48_2⟩ := BK571.c3
    go_wp2
    go_meet
    case rel => exact ⟨_, (true), (by first | rfl | (simp; done) | (simp [*]; done)), H', ⟨by first | omega | exact Nat.le_refl _⟩, ⟨by refine far3_ ?_ NB560_571.out; exact BK560.out⟩, ⟨by refine far3_ ?_ NB561_571.out; exact BK561.out⟩, ⟨by refine far3_ ?_ NB566_571.out; exact BK566.out⟩, ⟨by refine put3_ (cs := #[.bool false, .string (⟨#[]⟩ : ByteArray), .string (⟨#[]⟩ : ByteArray)]) ?_; exact BK571.out⟩, ⟨hb_⟩⟩
 case rest =>
  clear HC7
  (try clear hcz11_0); (try clear hcz11_1); (try clear hcz11_2); (try clear hcz11_3); (try clear hcz11_4); (try clear hcz11_5); (try clear hcz11_6); (try clear hcz11_7); (try clear hcz11_8); (try clear hcz16_0); (try clear hcz16_1); (try clear hcz16_2); (try clear hcz17_0); (try clear hcz17_1); (try clear hcz17_2); (try clear hcz17_3); (try clear hcz17_4); (try clear hcz17_5); (try clear hcz17_6); (try clear hcz17_7); (try clear hcz17_8); (try clear hcz23_0); (try clear hcz23_1); (try clear hcz23_2); (try clear hfz11_0); (try clear hfz11_1); (try clear hfz11_2); (try clear hfz11_3); (try clear hfz11_4); (try clear hfz11_5); (try clear hfz11_6); (try clear hfz11_7); (try clear hfz11_8); (try clear hfz16_0); (try clear hfz16_1); (try clear hfz16_2); (try clear hfz17_0); (try clear hfz17_1); (try clear hfz17_2); (try clear hfz17_3); (try clear hfz17_4); (try clear hfz17_5); (try clear hfz17_6); (try clear hfz17_7); (try clear hfz17_8); (try clear hfz23_0); (try clear hfz23_1); (try clear hfz23_2)
  obtain ⟨kq, x38_6, rfl, HA, HJ6, BK560, BK561, BK566, BK571, HB⟩ := hcut
  cases kq with
  | zero => exact absurd HA.out (by simp [idiomlaw04_OperandValues.j0])
  | succ kj6 =>
   have H := HA.out
   clear HA
   simp only [idiomlaw04_OperandValues.j0] at H
   by_cases c49 : x38_6 = true
   ·subst c49
    have H1 : (some false) = some r := by rw [if_pos rfl] at H; exact H
    clear H
    have H := H1
    clear H1
    obtain rfl := Option.some.inj H
    go_wp2
    go_ret
    exact fin_
   ·replace c49 := Bool.eq_false_iff.mpr c49
    subst c49
    have H1 : ((operand_Mod.f kj6 a0_0 a0_1 a0_2 a0_3 a0_4 a0_5 a0_6 a0_7 a0_8 a1 a2).bind fun bt573 => ((idiomref04_Mod.f kj6 a0_0 a0_1 a0_2 a0_3 a0_4 a0_5 a0_6 a0_7 a0_8 a1 a2).bind fun bt577 => (if (!(bt573.1 == bt577.1) || (!(bt573.2.1.toList == bt577.2.1.toList) || (!(bt573.2.2.1.toList == bt577.2.2.1.toList)))) = true then (idiomlaw04_OperandValues.j1 kj6 true a0_0 a0_1 a0_2 a0_3 a0_4 a0_5 a0_6 a0_7 a0_8 a3_0 a3_1 a3_2 a3_3 l3_4) else (idiomlaw04_OperandValues.j1 kj6 (bt573.2.2.2 != bt577.2.2.2) a0_0 a0_1 a0_2 a0_3 a0_4 a0_5 a0_6 a0_7 a0_8 a3_0 a3_1 a3_2 a3_3 l3_4)))) = some r := by rw [if_neg (show ¬ (false = true) by decide)] at H; exact H
    clear H
    have H := H1
    clear H1
    replace H := Option.bind_eq_some_iff.mp H
    obtain ⟨⟨t573, t574, t575, t576⟩, A500, H⟩ := H
    try dsimp only at H
    have A50 := Aside0.mk A500
    clear A500
    replace H := Option.bind_eq_some_iff.mp H
    obtain ⟨⟨t577, t578, t579, t580⟩, A510, H⟩ := H
    try dsimp only at H
    have A51 := Aside0.mk A510
    clear A510
    have HC52 := Aside0.mk H
    clear H
    have hnb53 := NB560_561.out
    have hnc53 := NB561_560.out
    have hnb54 := NB560_566.out
    have hnc54 := NB566_560.out
    have hnb55 := NB560_571.out
    have hnc55 := NB571_560.out
    obtain ⟨hcz56_0, hcz56_1, hcz56_2, hcz56_3, hcz56_4, hcz56_5, hcz56_6, hcz56_7, hcz56_8, hfz56_0, hfz56_1, hfz56_2, hfz56_3, hfz56_4, hfz56_5, hfz56_6, hfz56_7, hfz56_8⟩ := BK560.c9
    go_upto_region 7 with (first | ((with_reducible refine gate_callee (f := 8) rfl ?_); refine gL_ (some 43) Tryz.func8 #[.agg #[.bool a0_0, .string a0_1, .string a0_2, .string a0_3, .int .i64 a0_4, .int .i64 a0_5, .string a0_6, .string a0_7, .int .i64 a0_8], .string a1, .string a2] ?_; (with_reducible refine (operand_Mod.calls kj6 a0_0 a0_1 a0_2 a0_3 a0_4 a0_5 a0_6 a0_7 a0_8 a1 a2 t573 t574 t575 t576 _ (TB.below HTB.out hb_) A50.out).mono ?_); rintro e w57 ⟨rfl, hb⟩; refine ⟨_, rfl, ?_⟩; replace BK560 := BK560.bl hb; replace BK561 := BK561.bl hb; replace BK566 := BK566.bl hb; replace BK571 := BK571.bl hb; replace HB := Aside0.mk (below_step hb_ hb); have hnb58 := NB566_561.out; have hnc58 := NB561_566.out; have hnb59 := NB566_571.out; have hnc59 := NB571_566.out; obtain ⟨hcz60_0, hcz60_1, hcz60_2, hfz60_0, hfz60_1, hfz60_2⟩ := BK566.c3; obtain ⟨hcz61_0, hcz61_1, hcz61_2, hcz61_3, hcz61_4, hcz61_5, hcz61_6, hcz61_7, hcz61_8, hfz61_0, hfz61_1, hfz61_2, hfz61_3, hfz61_4, hfz61_5, hfz61_6, hfz61_7, hfz61_8⟩ := BK560.c9) | ((with_reducible refine gate_callee (f := 9) rfl ?_); refine gL_ (some 50) Tryz.func9 #[.agg #[.bool a0_0, .string a0_1, .string a0_2, .string a0_3, .int .i64 a0_4, .int .i64 a0_5, .string a0_6, .string a0_7, .int .i64 a0_8], .string a1, .string a2] ?_; (with_reducible refine (idiomref04_Mod.calls kj6 a0_0 a0_1 a0_2 a0_3 a0_4 a0_5 a0_6 a0_7 a0_8 a1 a2 t577 t578 t579 t580 _ (TB.below HTB.out hb_) A51.out).mono ?_); rintro e w62 ⟨rfl, hb⟩; refine ⟨_, rfl, ?_⟩; replace BK560 := Aside0.mk (blk_below (g := gb560) (o := .cells #[.bool a0_0, .string a0_1, .string a0_2, .string a0_3, .int .i64 a0_4, .int .i64 a0_5, .string a0_6, .string a0_7, .int .i64 a0_8] 25 (0, 0)) (by refine far3_ ?_ NB560_566.out; exact BK560.out) hb); replace BK561 := Aside0.mk (blk_below (g := gb561) (o := .cells #[.string a3_0, .string a3_1, .bool a3_2, .bool a3_3, .slice A3_4 l3_4.length c3_4] 28 (0, 0)) (by refine far3_ ?_ NB561_566.out; exact BK561.out) hb); replace BK566 := Aside0.mk (blk_below (g := gb566) (o := .cells #[.bool t573, .string t574, .string t575] 23 (0, 0)) (by refine put3_ (cs := #[.bool t562, .string t563, .string t564]) ?_; exact BK566.out) hb); replace BK571 := Aside0.mk (blk_below (g := gb571) (o := .cells #[.bool t567, .string t568, .string t569] 23 (0, 0)) (by refine far3_ ?_ NB571_566.out; exact BK571.out) hb); replace HB := Aside0.mk (below_step hb_ hb); have hnb63 := NB571_561.out; have hnc63 := NB561_571.out; obtain ⟨hcz64_0, hcz64_1, hcz64_2, hfz64_0, hfz64_1, hfz64_2⟩ := BK571.c3))
    (try simp only [Act.put, List.setIfInBounds_toArray, List.set_cons_zero, List.set_cons_succ])
    go_cut [60] (fun v60 wc => ∃ (kq : Nat) (x60_51 : Bool), v60 = .bool x60_51 ∧ Aside0 (idiomlaw04_OperandValues.j1 kq x60_51 a0_0 a0_1 a0_2 a0_3 a0_4 a0_5 a0_6 a0_7 a0_8 a3_0 a3_1 a3_2 a3_3 l3_4 = some r) ∧ Aside0 (kq ≤ kj6) ∧ Aside0 (wc.heap[gb560]? = some (.cells #[.bool a0_0, .string a0_1, .string a0_2, .string a0_3, .int .i64 a0_4, .int .i64 a0_5, .string a0_6, .string a0_7, .int .i64 a0_8] 25 (0, 0))) ∧ Aside0 (wc.heap[gb561]? = some (.cells #[.string a3_0, .string a3_1, .bool a3_2, .bool a3_3, (.slice A3_4 l3_4.length c3_4)] 28 (0, 0))) ∧ Aside0 (wc.heap[gb566]? = some (.cells #[.bool t573, .string t574, .string t575] 23 (0, 0))) ∧ Aside0 (wc.heap[gb571]? = some (.cells #[.bool t577, .string t578, .string t579] 23 (0, 0))) ∧ Aside0 (Below w.heap.size w wc))
    case first =>
     have H := HC52.out
     clear HC52
     by_cases c65 : (!(t573 == t577) || (!(t574.toList == t578.toList) || (!(t575.toList == t579.toList)))) = true
     ·rw [if_pos c65] at H
      have c65b0 : (!(t573 == t577) || (!(t574.toList == t578.toList) || (!(t575.toList == t579.toList)))) = true := c65
      clear c65
      (first | rw [c65b0] | (simp only [i64_w, i32_w]; rw [c65b0]) | skip)
      have H' := Aside0.mk H
      clear H
      have hnb66 := NB566_560.out
      have hnc66 := NB560_566.out
      have hnb67 := NB566_561.out
      have hnc67 := NB561_566.out
      have hnb68 := NB566_571.out
      have hnc68 := NB571_566.out
      obtain ⟨hcz69_0, hcz69_1, hcz69_2, hfz69_0, hfz69_1, hfz69_2⟩ := BK566.c3
      have hnb70 := NB571_560.out
      have hnc70 := NB560_571.out
      have hnb71 := NB571_561.out
      have hnc71 := NB561_571.out
      obtain ⟨hcz72_0, hcz72_1, hcz72_2, hfz72_0, hfz72_1, hfz72_2⟩ := BK571.c3
      go_wp2
      go_meet
      case rel => exact ⟨_, (true), (by first | rfl | (simp; done) | (simp [*]; done)), H', ⟨by have := HJ6.out; first | omega | exact Nat.le_refl _⟩, ⟨by refine far3_ ?_ NB560_571.out; exact BK560.out⟩, ⟨by refine far3_ ?_ NB561_571.out; exact BK561.out⟩, ⟨by refine far3_ ?_ NB566_571.out; exact BK566.out⟩, ⟨by refine put3_ (cs := #[.bool t567, .string t568, .string t569]) ?_; exact BK571.out⟩, ⟨hb_⟩⟩
     ·rw [if_neg c65] at H
      have c65b0 : (!(t573 == t577) || (!(t574.toList == t578.toList) || (!(t575.toList == t579.toList)))) = false := by simpa using c65
      clear c65
      (first | rw [c65b0] | (simp only [i64_w, i32_w]; rw [c65b0]) | skip)
      have H' := Aside0.mk H
      clear H
      have hnb73 := NB566_560.out
      have hnc73 := NB560_566.out
      have hnb74 := NB566_561.out
      have hnc74 := NB561_566.out
      have hnb75 := NB566_571.out
      have hnc75 := NB571_566.out
      obtain ⟨hcz76_0, hcz76_1, hcz76_2, hfz76_0, hfz76_1, hfz76_2⟩ := BK566.c3
      have hnb77 := NB571_560.out
      have hnc77 := NB560_571.out
      have hnb78 := NB571_561.out
      have hnc78 := NB561_571.out
      obtain ⟨hcz79_0, hcz79_1, hcz79_2, hfz79_0, hfz79_1, hfz79_2⟩ := BK571.c3
      go_wp2
      go_meet
      case rel => exact ⟨_, ((t576 != t580)), (by first | rfl | (simp; done) | (simp [*]; done)), H', ⟨by have := HJ6.out; first | omega | exact Nat.le_refl _⟩, ⟨by refine far3_ ?_ NB560_571.out; exact BK560.out⟩, ⟨by refine far3_ ?_ NB561_571.out; exact BK561.out⟩, ⟨by refine far3_ ?_ NB566_571.out; exact BK566.out⟩, ⟨by refine put3_ (cs := #[.bool t567, .string t568, .string t569]) ?_; exact BK571.out⟩, ⟨hb_⟩⟩
    case rest =>
     clear HC52
     (try clear c49); (try clear hcz11_0); (try clear hcz11_1); (try clear hcz11_2); (try clear hcz11_3); (try clear hcz11_4); (try clear hcz11_5); (try clear hcz11_6); (try clear hcz11_7); (try clear hcz11_8); (try clear hcz16_0); (try clear hcz16_1); (try clear hcz16_2); (try clear hcz17_0); (try clear hcz17_1); (try clear hcz17_2); (try clear hcz17_3); (try clear hcz17_4); (try clear hcz17_5); (try clear hcz17_6); (try clear hcz17_7); (try clear hcz17_8); (try clear hcz23_0); (try clear hcz23_1); (try clear hcz23_2); (try clear hcz56_0); (try clear hcz56_1); (try clear hcz56_2); (try clear hcz56_3); (try clear hcz56_4); (try clear hcz56_5); (try clear hcz56_6); (try clear hcz56_7); (try clear hcz56_8); (try clear hcz60_0); (try clear hcz60_1); (try clear hcz60_2); (try clear hcz61_0); (try clear hcz61_1); (try clear hcz61_2); (try clear hcz61_3); (try clear hcz61_4); (try clear hcz61_5); (try clear hcz61_6); (try clear hcz61_7); (try clear hcz61_8); (try clear hcz64_0); (try clear hcz64_1); (try clear hcz64_2); (try clear hfz11_0); (try clear hfz11_1); (try clear hfz11_2); (try clear hfz11_3); (try clear hfz11_4); (try clear hfz11_5); (try clear hfz11_6); (try clear hfz11_7); (try clear hfz11_8); (try clear hfz16_0); (try clear hfz16_1); (try clear hfz16_2); (try clear hfz17_0); (try clear hfz17_1); (try clear hfz17_2); (try clear hfz17_3); (try clear hfz17_4); (try clear hfz17_5); (try clear hfz17_6); (try clear hfz17_7); (try clear hfz17_8); (try clear hfz23_0); (try clear hfz23_1); (try clear hfz23_2); (try clear hfz56_0); (try clear hfz56_1); (try clear hfz56_2); (try clear hfz56_3); (try clear hfz56_4); (try clear hfz56_5); (try clear hfz56_6); (try clear hfz56_7); (try clear hfz56_8); (try clear hfz60_0); (try clear hfz60_1); (try clear hfz60_2); (try clear hfz61_0); (try clear hfz61_1); (try clear hfz61_2); (try clear hfz61_3); (try clear hfz61_4); (try clear hfz61_5); (try clear hfz61_6); (try clear hfz61_7); (try clear hfz61_8); (try clear hfz64_0); (try clear hfz64_1); (try clear hfz64_2)
     obtain ⟨kq, x60_51, rfl, HA, HJ51, BK560, BK561, BK566, BK571, HB⟩ := hcut
     cases kq with
     | zero => exact absurd HA.out (by simp [idiomlaw04_OperandValues.j1])
     | succ kj51 =>
      have H := HA.out
      clear HA
      simp only [idiomlaw04_OperandValues.j1] at H
      by_cases c80 : x60_51 = true
      ·subst c80
       have H1 : (some false) = some r := by rw [if_pos rfl] at H; exact H
       clear H
       have H := H1
       clear H1
       obtain rfl := Option.some.inj H
       go_wp2
       go_ret
       exact fin_
      ·replace c80 := Bool.eq_false_iff.mpr c80
       subst c80
       have H1 : ((idiomlaw04_copied.f a3_0 a3_1 a3_2 a3_3 l3_4).bind fun bt581 => ((operand_In.f kj51 a0_0 a0_1 a0_2 a0_3 a0_4 a0_5 a0_6 a0_7 a0_8 bt581.1 bt581.2.1 bt581.2.2.1 bt581.2.2.2.1 bt581.2.2.2.2).bind fun bt588 => ((idiomref04_In.f kj51 a0_0 a0_1 a0_2 a0_3 a0_4 a0_5 a0_6 a0_7 a0_8 a3_0 a3_1 a3_2 a3_3 l3_4).bind fun bt590 => (if (bt588.1 == bt590.1) = true then (some (bt588.2 == bt590.2)) else (some false))))) = some r := by rw [if_neg (show ¬ (false = true) by decide)] at H; exact H
       clear H
       have H := H1
       clear H1
       replace H := Option.bind_eq_some_iff.mp H
       obtain ⟨⟨t581, t582, t583, t584, t585⟩, A810, H⟩ := H
       try dsimp only at H
       have A81 := Aside0.mk A810
       clear A810
       replace H := Option.bind_eq_some_iff.mp H
       obtain ⟨⟨t588, t589⟩, A820, H⟩ := H
       try dsimp only at H
       have A82 := Aside0.mk A820
       clear A820
       replace H := Option.bind_eq_some_iff.mp H
       obtain ⟨⟨t590, t591⟩, A830, H⟩ := H
       try dsimp only at H
       have A83 := Aside0.mk A830
       clear A830
       by_cases c84 : (t588 == t590) = true
       ·rw [if_pos c84] at H
        have c84b0 : (t588 == t590) = true := c84
        (try (have c84b1 : decide (t588 = t590) = true := by simpa using c84))
        (try (have c84b2 : (t588 == t590) = true := by simpa using c84))
        clear c84
        obtain rfl := Option.some.inj H
        try go_wp2
        replace BK560 := Aside0.mk (blk_drew BK560.out)
        replace BK561 := Aside0.mk (blk_drew BK561.out)
        replace BK566 := Aside0.mk (blk_drew BK566.out)
        replace BK571 := Aside0.mk (blk_drew BK571.out)
        replace HB := Aside0.mk (below_drew1 HB.out)
        refine start_ (n := 9) (S := fun w' => w'.cell? ⟨gb560, 0, none⟩ = some (.bool a0_0) ∧ w'.cell? ⟨gb560, 1, none⟩ = some (.string a0_1) ∧ w'.cell? ⟨gb560, 2, none⟩ = some (.string a0_2) ∧ w'.cell? ⟨gb560, 3, none⟩ = some (.string a0_3) ∧ w'.cell? ⟨gb560, 4, none⟩ = some (.int .i64 a0_4) ∧ w'.cell? ⟨gb560, 5, none⟩ = some (.int .i64 a0_5) ∧ w'.cell? ⟨gb560, 6, none⟩ = some (.string a0_6) ∧ w'.cell? ⟨gb560, 7, none⟩ = some (.string a0_7) ∧ w'.cell? ⟨gb560, 8, none⟩ = some (.int .i64 a0_8) ∧ w'.cell? ⟨gb561, 0, none⟩ = some (.string a3_0) ∧ w'.cell? ⟨gb561, 1, none⟩ = some (.string a3_1) ∧ w'.cell? ⟨gb561, 2, none⟩ = some (.bool a3_2) ∧ w'.cell? ⟨gb561, 3, none⟩ = some (.bool a3_3) ∧ w'.cell? ⟨gb561, 4, none⟩ = some (.slice A3_4 l3_4.length c3_4)) (ds := []) #[false, false, false, false, false, false, false, false, false] (by kernel_rfl) rfl rfl ⟨(blk_cell BK560.out 0).trans rfl, (blk_cell BK560.out 1).trans rfl, (blk_cell BK560.out 2).trans rfl, (blk_cell BK560.out 3).trans rfl, (blk_cell BK560.out 4).trans rfl, (blk_cell BK560.out 5).trans rfl, (blk_cell BK560.out 6).trans rfl, (blk_cell BK560.out 7).trans rfl, (blk_cell BK560.out 8).trans rfl, (blk_cell BK561.out 0).trans rfl, (blk_cell BK561.out 1).trans rfl, (blk_cell BK561.out 2).trans rfl, (blk_cell BK561.out 3).trans rfl, (blk_cell BK561.out 4).trans rfl⟩ (fun hHeld => ?_); refine with_tabW idiomlaw04_OperandValues.tab9 idiomlaw04_OperandValues.bits9 (fun HT_ HW_ => ?_)
        generalize wc.drew = w85 at BK560 BK561 BK566 BK571 HB hHeld ⊢
        refine tk_ 0 (some 62) hHeld ?_
        refine tk_ 1 (some 63) hHeld ?_
        refine one_ (i := 2) (N := some 64) #[true, true, true, false, false, false, false, false, false] rfl rfl (one_of HT_.out (by kernel_rfl)) (by decide) (fun K hK => ?_)
        refine goes_ Tryz.func11 (by kernel_rfl) rfl #[.agg #[.string a3_0, .string a3_1, .bool a3_2, .bool a3_3, .slice A3_4 l3_4.length c3_4]] (by rfl) rfl rfl ar_ ?_
        with_reducible refine (idiomlaw04_copied.calls a3_0 a3_1 a3_2 a3_3 _ _ l3_4 t581 t582 t583 t584 t585 _ ?side1 ?side2 A81.out).mono ?_
        (case side1 => repeat (first | exact (Kd.C_below HR3_4.out HB.out) | (with_reducible refine Kd.C_alloc ?_ _) | (with_reducible refine Kd.C_drewN ?_ _) | (with_reducible refine Kd.C_drew ?_)))
        (case side2 => exact HC3_4.out)
        rintro e w86 ⟨v586, rfl, ho0, hb⟩
        refine ⟨_, rfl, ?_⟩
        have HO587 := Aside0.mk (Kd.R_lower ho0 (below_size hb_))
        replace BK560 := BK560.bl hb
        replace BK561 := BK561.bl hb
        replace BK566 := BK566.bl hb
        replace BK571 := BK571.bl hb
        replace HB := Aside0.mk (below_step hb_ hb)
        (try clear hb)
        (try clear hb2)
        (try clear hk)
        (try clear hi)
        (try clear ho0)
        obtain ⟨Ao87, co87, eo87⟩ := Kd.R_slice HO587.out
        (first | subst eo87 | (injection eo87 with f1_ f2_ f3_; have f4_ := f1_.symm; have f5_ := f3_.symm; clear f1_ f2_ f3_; subst f4_; subst f5_))
        refine hK.out _ _ ⟨(blk_cell BK560.out 0).trans rfl, (blk_cell BK560.out 1).trans rfl, (blk_cell BK560.out 2).trans rfl, (blk_cell BK560.out 3).trans rfl, (blk_cell BK560.out 4).trans rfl, (blk_cell BK560.out 5).trans rfl, (blk_cell BK560.out 6).trans rfl, (blk_cell BK560.out 7).trans rfl, (blk_cell BK560.out 8).trans rfl, (blk_cell BK561.out 0).trans rfl, (blk_cell BK561.out 1).trans rfl, (blk_cell BK561.out 2).trans rfl, (blk_cell BK561.out 3).trans rfl, (blk_cell BK561.out 4).trans rfl⟩ (fun hHeld => ?_)
        clear hK K
        refine norm_ (a' := ?_) ?_ ?_
        rotate_left
        ·show Act.put _ (some 64) _ = _
         simp only [Act.put, List.setIfInBounds_toArray, List.set_cons_zero, List.set_cons_succ, i64_w, i32_w]
         rfl
        refine one_ (i := 3) (N := some 65) #[true, true, true, true, false, false, false, false, false] rfl rfl (one_of HT_.out (by kernel_rfl)) (by decide) (fun K hK => ?_)
        refine goes_ Tryz.func10 (by kernel_rfl) rfl #[.agg #[.bool a0_0, .string a0_1, .string a0_2, .string a0_3, .int .i64 a0_4, .int .i64 a0_5, .string a0_6, .string a0_7, .int .i64 a0_8], .agg #[.string t581, .string t582, .bool t583, .bool t584, .slice Ao87 t585.length co87]] (by rfl) rfl rfl ar_ ?_
        with_reducible refine (operand_In.calls kj51 a0_0 a0_1 a0_2 a0_3 a0_4 a0_5 a0_6 a0_7 a0_8 t581 t582 t583 t584 _ _ t585 t588 t589 _ (TB.below HTB.out hb_) ?side1 ?side2 A82.out).mono ?_
        (case side1 => repeat (first | exact (Kd.R_reads' HO587.out).2.2 | (with_reducible refine Kd.C_alloc ?_ _) | (with_reducible refine Kd.C_drewN ?_ _) | (with_reducible refine Kd.C_drew ?_)))
        (case side2 => exact (Kd.R_reads' HO587.out).2.1)
        rintro e w88 ⟨rfl, hb⟩
        refine ⟨_, rfl, ?_⟩
        replace HO587 := Aside0.mk (Kd.R_below (by (with_reducible repeat (first | apply Kd.R_alloc | apply Kd.R_drewN | apply Kd.R_drew)); exact HO587.out) hb)
        replace BK560 := BK560.bl hb
        replace BK561 := BK561.bl hb
        replace BK566 := BK566.bl hb
        replace BK571 := BK571.bl hb
        replace HB := Aside0.mk (below_step hb_ hb)
        (try clear hb)
        (try clear hb2)
        (try clear hk)
        (try clear hi)
        refine hK.out _ _ ⟨(blk_cell BK560.out 0).trans rfl, (blk_cell BK560.out 1).trans rfl, (blk_cell BK560.out 2).trans rfl, (blk_cell BK560.out 3).trans rfl, (blk_cell BK560.out 4).trans rfl, (blk_cell BK560.out 5).trans rfl, (blk_cell BK560.out 6).trans rfl, (blk_cell BK560.out 7).trans rfl, (blk_cell BK560.out 8).trans rfl, (blk_cell BK561.out 0).trans rfl, (blk_cell BK561.out 1).trans rfl, (blk_cell BK561.out 2).trans rfl, (blk_cell BK561.out 3).trans rfl, (blk_cell BK561.out 4).trans rfl⟩ (fun hHeld => ?_)
        clear hK K
        refine norm_ (a' := ?_) ?_ ?_
        rotate_left
        ·show Act.put _ (some 65) _ = _
         simp only [Act.put, List.setIfInBounds_toArray, List.set_cons_zero, List.set_cons_succ, i64_w, i32_w]
         rfl
        refine pr_ 4 (some 61) ?_
        refine pr_ 5 (some 66) ?_
        refine pr_ 6 (some 67) ?_
        refine pr_ 7 (some 13) ?_
        refine pr_ 8 (some 10) ?_
        refine done_ (done_of HT_.out (by kernel_rfl)) ?_
        have hnb89 := NB560_561.out
        have hnc89 := NB561_560.out
        have hnb90 := NB560_566.out
        have hnc90 := NB566_560.out
        have hnb91 := NB560_571.out
        have hnc91 := NB571_560.out
        obtain ⟨hcz92_0, hcz92_1, hcz92_2, hcz92_3, hcz92_4, hcz92_5, hcz92_6, hcz92_7, hcz92_8, hfz92_0, hfz92_1, hfz92_2, hfz92_3, hfz92_4, hfz92_5, hfz92_6, hfz92_7, hfz92_8⟩ := BK560.c9
        have hnb93 := NB561_566.out
        have hnc93 := NB566_561.out
        have hnb94 := NB561_571.out
        have hnc94 := NB571_561.out
        obtain ⟨hcz95_0, hcz95_1, hcz95_2, hcz95_3, hcz95_4, hfz95_0, hfz95_1, hfz95_2, hfz95_3, hfz95_4⟩ := BK561.c5
        try go_wp2_with (first | ((with_reducible refine gate_callee (f := 12) rfl ?_); refine gL_ (some 71) Tryz.func12 #[.agg #[.bool a0_0, .string a0_1, .string a0_2, .string a0_3, .int .i64 a0_4, .int .i64 a0_5, .string a0_6, .string a0_7, .int .i64 a0_8], .agg #[.string a3_0, .string a3_1, .bool a3_2, .bool a3_3, .slice A3_4 l3_4.length c3_4]] ?_; (with_reducible refine (idiomref04_In.calls kj51 a0_0 a0_1 a0_2 a0_3 a0_4 a0_5 a0_6 a0_7 a0_8 a3_0 a3_1 a3_2 a3_3 _ _ l3_4 t590 t591 _ (TB.below HTB.out hb_) ?side1 ?side2 A83.out).mono ?_); (case side1 => repeat (first | exact (Kd.C_below HR3_4.out HB.out) | (with_reducible refine Kd.C_alloc ?_ _) | (with_reducible refine Kd.C_drewN ?_ _) | (with_reducible refine Kd.C_drew ?_))); (case side2 => exact HC3_4.out); rintro e w96 ⟨rfl, hb⟩; refine ⟨_, rfl, ?_⟩; replace HO587 := Aside0.mk (Kd.R_below (by (with_reducible repeat (first | apply Kd.R_alloc | apply Kd.R_drewN | apply Kd.R_drew)); exact HO587.out) hb); replace BK560 := BK560.bl hb; replace BK561 := BK561.bl hb; replace BK566 := BK566.bl hb; replace BK571 := BK571.bl hb; replace HB := Aside0.mk (below_step hb_ hb)))
        go_ret
        exact fin_
       ·rw [if_neg c84] at H
        have c84b0 : (t588 == t590) = false := by simpa using c84
        (try (have c84b1 : decide (t588 = t590) = false := by simpa using c84))
        (try (have c84b2 : (t588 == t590) = false := by simpa using c84))
        (try (have c84b3 : ¬ (t588 = t590) := by simpa using c84))
        clear c84
        obtain rfl := Option.some.inj H
        try go_wp2
        replace BK560 := Aside0.mk (blk_drew BK560.out)
        replace BK561 := Aside0.mk (blk_drew BK561.out)
        replace BK566 := Aside0.mk (blk_drew BK566.out)
        replace BK571 := Aside0.mk (blk_drew BK571.out)
        replace HB := Aside0.mk (below_drew1 HB.out)
        refine start_ (n := 9) (S := fun w' => w'.cell? ⟨gb560, 0, none⟩ = some (.bool a0_0) ∧ w'.cell? ⟨gb560, 1, none⟩ = some (.string a0_1) ∧ w'.cell? ⟨gb560, 2, none⟩ = some (.string a0_2) ∧ w'.cell? ⟨gb560, 3, none⟩ = some (.string a0_3) ∧ w'.cell? ⟨gb560, 4, none⟩ = some (.int .i64 a0_4) ∧ w'.cell? ⟨gb560, 5, none⟩ = some (.int .i64 a0_5) ∧ w'.cell? ⟨gb560, 6, none⟩ = some (.string a0_6) ∧ w'.cell? ⟨gb560, 7, none⟩ = some (.string a0_7) ∧ w'.cell? ⟨gb560, 8, none⟩ = some (.int .i64 a0_8) ∧ w'.cell? ⟨gb561, 0, none⟩ = some (.string a3_0) ∧ w'.cell? ⟨gb561, 1, none⟩ = some (.string a3_1) ∧ w'.cell? ⟨gb561, 2, none⟩ = some (.bool a3_2) ∧ w'.cell? ⟨gb561, 3, none⟩ = some (.bool a3_3) ∧ w'.cell? ⟨gb561, 4, none⟩ = some (.slice A3_4 l3_4.length c3_4)) (ds := []) #[false, false, false, false, false, false, false, false, false] (by kernel_rfl) rfl rfl ⟨(blk_cell BK560.out 0).trans rfl, (blk_cell BK560.out 1).trans rfl, (blk_cell BK560.out 2).trans rfl, (blk_cell BK560.out 3).trans rfl, (blk_cell BK560.out 4).trans rfl, (blk_cell BK560.out 5).trans rfl, (blk_cell BK560.out 6).trans rfl, (blk_cell BK560.out 7).trans rfl, (blk_cell BK560.out 8).trans rfl, (blk_cell BK561.out 0).trans rfl, (blk_cell BK561.out 1).trans rfl, (blk_cell BK561.out 2).trans rfl, (blk_cell BK561.out 3).trans rfl, (blk_cell BK561.out 4).trans rfl⟩ (fun hHeld => ?_); refine with_tabW idiomlaw04_OperandValues.tab9 idiomlaw04_OperandValues.bits9 (fun HT_ HW_ => ?_)
        generalize wc.drew = w97 at BK560 BK561 BK566 BK571 HB hHeld ⊢
        refine tk_ 0 (some 62) hHeld ?_
        refine tk_ 1 (some 63) hHeld ?_
        refine one_ (i := 2) (N := some 64) #[true, true, true, false, false, false, false, false, false] rfl rfl (one_of HT_.out (by kernel_rfl)) (by decide) (fun K hK => ?_)
        refine goes_ Tryz.func11 (by kernel_rfl) rfl #[.agg #[.string a3_0, .string a3_1, .bool a3_2, .bool a3_3, .slice A3_4 l3_4.length c3_4]] (by rfl) rfl rfl ar_ ?_
        with_reducible refine (idiomlaw04_copied.calls a3_0 a3_1 a3_2 a3_3 _ _ l3_4 t581 t582 t583 t584 t585 _ ?side1 ?side2 A81.out).mono ?_
        (case side1 => repeat (first | exact (Kd.C_below HR3_4.out HB.out) | (with_reducible refine Kd.C_alloc ?_ _) | (with_reducible refine Kd.C_drewN ?_ _) | (with_reducible refine Kd.C_drew ?_)))
        (case side2 => exact HC3_4.out)
        rintro e w98 ⟨v586, rfl, ho0, hb⟩
        refine ⟨_, rfl, ?_⟩
        have HO587 := Aside0.mk (Kd.R_lower ho0 (below_size hb_))
        replace BK560 := BK560.bl hb
        replace BK561 := BK561.bl hb
        replace BK566 := BK566.bl hb
        replace BK571 := BK571.bl hb
        replace HB := Aside0.mk (below_step hb_ hb)
        (try clear hb)
        (try clear hb2)
        (try clear hk)
        (try clear hi)
        (try clear ho0)
        obtain ⟨Ao99, co99, eo99⟩ := Kd.R_slice HO587.out
        (first | subst eo99 | (injection eo99 with f1_ f2_ f3_; have f4_ := f1_.symm; have f5_ := f3_.symm; clear f1_ f2_ f3_; subst f4_; subst f5_))
        refine hK.out _ _ ⟨(blk_cell BK560.out 0).trans rfl, (blk_cell BK560.out 1).trans rfl, (blk_cell BK560.out 2).trans rfl, (blk_cell BK560.out 3).trans rfl, (blk_cell BK560.out 4).trans rfl, (blk_cell BK560.out 5).trans rfl, (blk_cell BK560.out 6).trans rfl, (blk_cell BK560.out 7).trans rfl, (blk_cell BK560.out 8).trans rfl, (blk_cell BK561.out 0).trans rfl, (blk_cell BK561.out 1).trans rfl, (blk_cell BK561.out 2).trans rfl, (blk_cell BK561.out 3).trans rfl, (blk_cell BK561.out 4).trans rfl⟩ (fun hHeld => ?_)
        clear hK K
        refine norm_ (a' := ?_) ?_ ?_
        rotate_left
        ·show Act.put _ (some 64) _ = _
         simp only [Act.put, List.setIfInBounds_toArray, List.set_cons_zero, List.set_cons_succ, i64_w, i32_w]
         rfl
        refine one_ (i := 3) (N := some 65) #[true, true, true, true, false, false, false, false, false] rfl rfl (one_of HT_.out (by kernel_rfl)) (by decide) (fun K hK => ?_)
        refine goes_ Tryz.func10 (by kernel_rfl) rfl #[.agg #[.bool a0_0, .string a0_1, .string a0_2, .string a0_3, .int .i64 a0_4, .int .i64 a0_5, .string a0_6, .string a0_7, .int .i64 a0_8], .agg #[.string t581, .string t582, .bool t583, .bool t584, .slice Ao99 t585.length co99]] (by rfl) rfl rfl ar_ ?_
        with_reducible refine (operand_In.calls kj51 a0_0 a0_1 a0_2 a0_3 a0_4 a0_5 a0_6 a0_7 a0_8 t581 t582 t583 t584 _ _ t585 t588 t589 _ (TB.below HTB.out hb_) ?side1 ?side2 A82.out).mono ?_
        (case side1 => repeat (first | exact (Kd.R_reads' HO587.out).2.2 | (with_reducible refine Kd.C_alloc ?_ _) | (with_reducible refine Kd.C_drewN ?_ _) | (with_reducible refine Kd.C_drew ?_)))
        (case side2 => exact (Kd.R_reads' HO587.out).2.1)
        rintro e w100 ⟨rfl, hb⟩
        refine ⟨_, rfl, ?_⟩
        replace HO587 := Aside0.mk (Kd.R_below (by (with_reducible repeat (first | apply Kd.R_alloc | apply Kd.R_drewN | apply Kd.R_drew)); exact HO587.out) hb)
        replace BK560 := BK560.bl hb
        replace BK561 := BK561.bl hb
        replace BK566 := BK566.bl hb
        replace BK571 := BK571.bl hb
        replace HB := Aside0.mk (below_step hb_ hb)
        (try clear hb)
        (try clear hb2)
        (try clear hk)
        (try clear hi)
        refine hK.out _ _ ⟨(blk_cell BK560.out 0).trans rfl, (blk_cell BK560.out 1).trans rfl, (blk_cell BK560.out 2).trans rfl, (blk_cell BK560.out 3).trans rfl, (blk_cell BK560.out 4).trans rfl, (blk_cell BK560.out 5).trans rfl, (blk_cell BK560.out 6).trans rfl, (blk_cell BK560.out 7).trans rfl, (blk_cell BK560.out 8).trans rfl, (blk_cell BK561.out 0).trans rfl, (blk_cell BK561.out 1).trans rfl, (blk_cell BK561.out 2).trans rfl, (blk_cell BK561.out 3).trans rfl, (blk_cell BK561.out 4).trans rfl⟩ (fun hHeld => ?_)
        clear hK K
        refine norm_ (a' := ?_) ?_ ?_
        rotate_left
        ·show Act.put _ (some 65) _ = _
         simp only [Act.put, List.setIfInBounds_toArray, List.set_cons_zero, List.set_cons_succ, i64_w, i32_w]
         rfl
        refine pr_ 4 (some 61) ?_
        refine pr_ 5 (some 66) ?_
        refine pr_ 6 (some 67) ?_
        refine pr_ 7 (some 13) ?_
        refine pr_ 8 (some 10) ?_
        refine done_ (done_of HT_.out (by kernel_rfl)) ?_
        have hnb101 := NB560_561.out
        have hnc101 := NB561_560.out
        have hnb102 := NB560_566.out
        have hnc102 := NB566_560.out
        have hnb103 := NB560_571.out
        have hnc103 := NB571_560.out
        obtain ⟨hcz104_0, hcz104_1, hcz104_2, hcz104_3, hcz104_4, hcz104_5, hcz104_6, hcz104_7, hcz104_8, hfz104_0, hfz104_1, hfz104_2, hfz104_3, hfz104_4, hfz104_5, hfz104_6, hfz104_7, hfz104_8⟩ := BK560.c9
        have hnb105 := NB561_566.out
        have hnc105 := NB566_561.out
        have hnb106 := NB561_571.out
        have hnc106 := NB571_561.out
        obtain ⟨hcz107_0, hcz107_1, hcz107_2, hcz107_3, hcz107_4, hfz107_0, hfz107_1, hfz107_2, hfz107_3, hfz107_4⟩ := BK561.c5
        try go_wp2_with (first | ((with_reducible refine gate_callee (f := 12) rfl ?_); refine gL_ (some 71) Tryz.func12 #[.agg #[.bool a0_0, .string a0_1, .string a0_2, .string a0_3, .int .i64 a0_4, .int .i64 a0_5, .string a0_6, .string a0_7, .int .i64 a0_8], .agg #[.string a3_0, .string a3_1, .bool a3_2, .bool a3_3, .slice A3_4 l3_4.length c3_4]] ?_; (with_reducible refine (idiomref04_In.calls kj51 a0_0 a0_1 a0_2 a0_3 a0_4 a0_5 a0_6 a0_7 a0_8 a3_0 a3_1 a3_2 a3_3 _ _ l3_4 t590 t591 _ (TB.below HTB.out hb_) ?side1 ?side2 A83.out).mono ?_); (case side1 => repeat (first | exact (Kd.C_below HR3_4.out HB.out) | (with_reducible refine Kd.C_alloc ?_ _) | (with_reducible refine Kd.C_drewN ?_ _) | (with_reducible refine Kd.C_drew ?_))); (case side2 => exact HC3_4.out); rintro e w108 ⟨rfl, hb⟩; refine ⟨_, rfl, ?_⟩; replace HO587 := Aside0.mk (Kd.R_below (by (with_reducible repeat (first | apply Kd.R_alloc | apply Kd.R_drewN | apply Kd.R_drew)); exact HO587.out) hb); replace BK560 := BK560.bl hb; replace BK561 := BK561.bl hb; replace BK566 := BK566.bl hb; replace BK571 := BK571.bl hb; replace HB := Aside0.mk (below_step hb_ hb)))
        go_ret
        exact fin_
end Go.Proofs.YtihjcaglhjepdaaGreatDoor.P
