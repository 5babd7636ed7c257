/- A part of the proof. Part 4 of 8; its texts were written by programs, some out of the kit's print. -/
import Derived.Test.YtihjcaglhjepdaaDoorZOq2
namespace Go.Proofs.YtihjcaglhjepdaaDoor.P
open Go.RowKit Go.Proofs.YtihjcaglhjepdaaDoorW.PrintWords Go.Proofs.YtihjcaglhjepdaaDoorW.PrintLast Go.Proofs.YtihjcaglhjepdaaDoorW.PrintMore
attribute [local go_sem] max2_int max_two
set_option linter.unusedVariables false
set_option linter.unusedSimpArgs false
mutual
def operand_In.j0 : Nat → Bool → ByteArray → ByteArray → Bool → Bool → List (S60) → Bool → ByteArray → ByteArray → Option (Bool × Int)
  | 0, _, _, _, _, _, _, _, _, _ => none
  | k + 1, x38, x1210000, x1210001, x1210002, x1210003, x1210004, x1215000, x1215001, x1215002 => if x38 = true then (some (false, 40)) else (operand_In.l0 k x1210004 (x1210004.length : Int) 0 x1210000 x1210001 x1210002 x1210003 x1210004 x1215000 x1215001 x1215002)
def operand_In.l0 : Nat → List (S60) → Int → Int → ByteArray → ByteArray → Bool → Bool → List (S60) → Bool → ByteArray → ByteArray → Option (Bool × Int)
  | 0, _, _, _, _, _, _, _, _, _, _, _ => none
  | k + 1, x40, x41, x42, x1210000, x1210001, x1210002, x1210003, x1210004, x1215000, x1215001, x1215002 => if x42 < x41 then (if 0 ≤ x42 then (if x42 < (x40.length : Int) then ((operand_number.f ((rd_T60 x40 x42).f0)).bind fun t1217 => (if t1217 = true then ((operand_number.f ((rd_T60 x40 x42).f1)).bind fun t1218 => (if t1218 = true then (if (((rd_T60 x40 x42).f0).size : Int) > (((rd_T60 x40 x42).f1).size : Int) then (some (false, 40)) else (if (((rd_T60 x40 x42).f0).size : Int) = (((rd_T60 x40 x42).f1).size : Int) then (if (Op.bytesLess (((rd_T60 x40 x42).f1).toList) (((rd_T60 x40 x42).f0).toList)) = true then (some (false, 40)) else (operand_In.l0 k x40 x41 (wrap64 (x42 + 1)) x1210000 x1210001 x1210002 x1210003 x1210004 x1215000 x1215001 x1215002)) else (operand_In.l0 k x40 x41 (wrap64 (x42 + 1)) x1210000 x1210001 x1210002 x1210003 x1210004 x1215000 x1215001 x1215002))) else (some (false, 40)))) else (some (false, 40)))) else (none)) else (none)) else (operand_In.l1 k false x1210004 (x1210004.length : Int) 0 x1210000 x1210001 x1210002 x1210003 x1210004 x1215000 x1215001 x1215002)
def operand_In.l1 : Nat → Bool → List (S60) → Int → Int → ByteArray → ByteArray → Bool → Bool → List (S60) → Bool → ByteArray → ByteArray → Option (Bool × Int)
  | 0, _, _, _, _, _, _, _, _, _, _, _, _ => none
  | k + 1, x10, x83, x84, x85, x1210000, x1210001, x1210002, x1210003, x1210004, x1215000, x1215001, x1215002 => if x85 < x84 then (if 0 ≤ x85 then (if x85 < (x83.length : Int) then ((decimal_Compare.f k false ((rd_T60 x83 x85).f0) (⟨#[]⟩ : ByteArray) x1215000 x1215001 x1215002).bind fun bt1221 => ((decimal_Compare.f k x1215000 x1215001 x1215002 false ((rd_T60 x83 x85).f1) (⟨#[]⟩ : ByteArray)).bind fun bt1223 => (if x10 = true then (operand_In.l1 k true x83 x84 (wrap64 (x85 + 1)) x1210000 x1210001 x1210002 x1210003 x1210004 x1215000 x1215001 x1215002) else (if bt1221.1 ≤ 0 then (operand_In.l1 k (decide (bt1223.1 ≤ 0)) x83 x84 (wrap64 (x85 + 1)) x1210000 x1210001 x1210002 x1210003 x1210004 x1215000 x1215001 x1215002) else (operand_In.l1 k false x83 x84 (wrap64 (x85 + 1)) x1210000 x1210001 x1210002 x1210003 x1210004 x1215000 x1215001 x1215002))))) else (none)) else (none)) else (if x1210003 = true then (some ((x10 != x1210002), 0)) else ((strings_Trim.f x1215002 (⟨#[48]⟩ : ByteArray)).bind fun t1225 => (if t1225.toList = ([] : List UInt8) then (some ((x10 != x1210002), 0)) else (some ((false != x1210002), 0)))))
end
def operand_In.f (k : Nat) (a0_0 : Bool) (a0_1 : ByteArray) (a0_2 : ByteArray) (a0_3 : ByteArray) (a0_4 : Int) (a0_5 : Int) (a0_6 : ByteArray) (a0_7 : ByteArray) (a0_8 : Int) (a1_0 : ByteArray) (a1_1 : ByteArray) (a1_2 : Bool) (a1_3 : Bool) (l1_4 : List (S60)) : Option (Bool × Int) := (operand_Mod.f k a0_0 a0_1 a0_2 a0_3 a0_4 a0_5 a0_6 a0_7 a0_8 a1_0 a1_1).bind fun bt1210 => (if bt1210.2.2.2 = 0 then (if (l1_4.length : Int) < 1 then (operand_In.j0 k true a1_0 a1_1 a1_2 a1_3 l1_4 bt1210.1 bt1210.2.1 bt1210.2.2.1) else (operand_In.j0 k (decide ((l1_4.length : Int) > 64)) a1_0 a1_1 a1_2 a1_3 l1_4 bt1210.1 bt1210.2.1 bt1210.2.2.1)) else (some (false, bt1210.2.2.2)))
set_option maxHeartbeats 8000000 in
set_option maxRecDepth 100000 in
theorem operand_In.calls (k : Nat) (a0_0 : Bool) (a0_1 : ByteArray) (a0_2 : ByteArray) (a0_3 : ByteArray) (a0_4 : Int) (a0_5 : Int) (a0_6 : ByteArray) (a0_7 : ByteArray) (a0_8 : Int) (a1_0 : ByteArray) (a1_1 : ByteArray) (a1_2 : Bool) (a1_3 : Bool) (A1_4 : Option Addr) (c1_4 : Nat) (l1_4 : List (S60)) (r1 : Bool) (r2 : Int) (w : World) (ht : TB w) (hr1_4 : Kd.C k60 w A1_4 l1_4.length l1_4) (hc1_4 : l1_4.length ≤ c1_4) (h : operand_In.f k a0_0 a0_1 a0_2 a0_3 a0_4 a0_5 a0_6 a0_7 a0_8 a1_0 a1_1 a1_2 a1_3 l1_4 = some (r1, r2)) :
    Calls Tryd.prog 52 #[.agg #[.bool a0_0, .string a0_1, .string a0_2, .string a0_3, .int .i64 a0_4, .int .i64 a0_5, .string a0_6, .string a0_7, .int .i64 a0_8], .agg #[.string a1_0, .string a1_1, .bool a1_2, .bool a1_3, .slice A1_4 l1_4.length c1_4]] w fun e w' => e = .returned (.tuple #[.bool r1, .int .i64 r2]) ∧ Below w.heap.size w w' := by
 have hu45 := Tryd.underlying45
 have hu54 := Tryd.underlying54
 have hu23 := Tryd.underlying23
 have hu60 := Tryd.underlying60
 have HR1_4 := Aside0.mk hr1_4
 have HC1_4 := Aside0.mk hc1_4
 clear hr1_4 hc1_4
 have HTB := Aside0.mk ht
 clear ht
 have HB := Aside0.mk (Below.refl w.heap.size w)
 unfold operand_In.f at h
 have H := h
 clear h
 replace H := Option.bind_eq_some_iff.mp H
 obtain ⟨⟨t1210, t1211, t1212, t1213⟩, A30, H⟩ := H
 try dsimp only at H
 have A3 := Aside0.mk A30
 clear A30
 have HF4 := Aside0.mk H
 clear H
 go_enter Tryd.func52, Tryd.ntmps52
 go_upto_if 27 with (first | ((with_reducible refine gate_dst (N := 2) rfl ?_); (try (refine gate_guard (by rfl) ?_; dsimp only)); refine box_event ?hg (N := 2) ?hd (cs := #[.bool a0_0, .string a0_1, .string a0_2, .string a0_3, .int .i64 a0_4, .int .i64 a0_5, .string a0_6, .string a0_7, .int .i64 a0_8]) (t := 45) ?hr ?_; (case hd => rfl); (case hg => rfl); (case hr => first | (go_simp; done) | (go_simp; rfl)); intro gb1208 hg w5 hbox hb; have BK1208 := Aside0.mk (hbox); have GW1208 := ge_ (w := w) hg; have GE1208 := ge_ (w := w) hg; replace HB := Aside0.mk (below_step hb_ hb); clear hb hbox hg) | ((with_reducible refine gate_dst (N := 3) rfl ?_); (try (refine gate_guard (by rfl) ?_; dsimp only)); refine box_event ?hg (N := 3) ?hd (cs := #[.string a1_0, .string a1_1, .bool a1_2, .bool a1_3, .slice A1_4 l1_4.length c1_4]) (t := 54) ?hr ?_; (case hd => rfl); (case hg => rfl); (case hr => first | (go_simp; done) | (go_simp; rfl)); intro gb1209 hg w6 hbox hb; have BK1209 := Aside0.mk (hbox); have GW1209 := ge_ (w := w) hg; have GE1209 := ge_ (w := w) hg; have NB1208_1209 := BK1208.nl hg; have NB1209_1208 := BK1208.ng hg; replace BK1208 := BK1208.bl hb; replace HB := Aside0.mk (below_step hb_ hb); clear hb hbox hg; have hnb7 := NB1208_1209.out; have hnc7 := NB1209_1208.out; obtain ⟨hcz8_0, hcz8_1, hcz8_2, hcz8_3, hcz8_4, hcz8_5, hcz8_6, hcz8_7, hcz8_8, hfz8_0, hfz8_1, hfz8_2, hfz8_3, hfz8_4, hfz8_5, hfz8_6, hfz8_7, hfz8_8⟩ := BK1208.c9; obtain ⟨hcz9_0, hcz9_1, hcz9_2, hcz9_3, hcz9_4, hfz9_0, hfz9_1, hfz9_2, hfz9_3, hfz9_4⟩ := BK1209.c5) | ((with_reducible refine gate_callee (f := 53) rfl ?_); refine gL_ (some 23) Tryd.func53 #[.agg #[.bool a0_0, .string a0_1, .string a0_2, .string a0_3, .int .i64 a0_4, .int .i64 a0_5, .string a0_6, .string a0_7, .int .i64 a0_8], .string a1_0, .string a1_1] ?_; (with_reducible refine (operand_Mod.calls k a0_0 a0_1 a0_2 a0_3 a0_4 a0_5 a0_6 a0_7 a0_8 a1_0 a1_1 t1210 t1211 t1212 t1213 _ (TB.below HTB.out hb_) A3.out).mono ?_); rintro e w10 ⟨rfl, hb⟩; refine ⟨_, rfl, ?_⟩; replace BK1208 := BK1208.bl hb; replace BK1209 := BK1209.bl hb; replace HB := Aside0.mk (below_step hb_ hb)) | ((with_reducible refine gate_dst (N := 6) rfl ?_); (try (refine gate_guard (by rfl) ?_; dsimp only)); refine box_event ?hg (N := 6) ?hd (cs := #[.bool false, .string (⟨#[]⟩ : ByteArray), .string (⟨#[]⟩ : ByteArray)]) (t := 23) ?hr ?_; (case hd => rfl); (case hg => rfl); (case hr => first | (go_simp; done) | (go_simp; rfl)); intro gb1214 hg w11 hbox hb; have BK1214 := Aside0.mk (hbox); have GW1214 := ge_ (w := w) hg; have GE1214 := ge_ (w := w) hg; have NB1208_1214 := BK1208.nl hg; have NB1214_1208 := BK1208.ng hg; have NB1209_1214 := BK1209.nl hg; have NB1214_1209 := BK1209.ng hg; replace BK1208 := BK1208.bl hb; replace BK1209 := BK1209.bl hb; replace HB := Aside0.mk (below_step hb_ hb); clear hb hbox hg; have hnb12 := NB1214_1208.out; have hnc12 := NB1208_1214.out; have hnb13 := NB1214_1209.out; have hnc13 := NB1209_1214.out; obtain ⟨hcz14_0, hcz14_1, hcz14_2, hfz14_0, hfz14_1, hfz14_2⟩ := BK1214.c3))
 (try simp only [Act.put, List.setIfInBounds_toArray, List.set_cons_zero, List.set_cons_succ])
 have H := HF4.out
 clear HF4
 by_cases c15 : t1213 = 0
 ·rw [if_pos c15] at H
  have c15b0 : (t1213 == 0) = true := beq_iff_eq.mpr c15
  have c15b1 : (t1213 != 0) = false := bne_eq_false_iff_eq.mpr c15
  clear c15
  (first | rw [c15b0] | (simp only [i64_w, i32_w]; rw [c15b0]) | rw [c15b1] | skip)
  have HC16 := Aside0.mk H
  clear H
  go_upto_region 4 with (fail)
  go_cut [38] (fun v38 wc => ∃ (kq : Nat) (x38_15 : Bool), v38 = .bool x38_15 ∧ Aside0 (operand_In.j0 kq x38_15 a1_0 a1_1 a1_2 a1_3 l1_4 t1210 t1211 t1212 = some (r1, r2)) ∧ Aside0 (kq ≤ k) ∧ Aside0 (wc.heap[gb1208]? = some (.cells #[.bool a0_0, .string a0_1, .string a0_2, .string a0_3, .int .i64 a0_4, .int .i64 a0_5, .string a0_6, .string a0_7, .int .i64 a0_8] 45 (0, 0))) ∧ Aside0 (wc.heap[gb1209]? = some (.cells #[.string a1_0, .string a1_1, .bool a1_2, .bool a1_3, (.slice A1_4 l1_4.length c1_4)] 54 (0, 0))) ∧ Aside0 (wc.heap[gb1214]? = some (.cells #[.bool t1210, .string t1211, .string t1212] 23 (0, 0))) ∧ Aside0 (Below w.heap.size w wc))
  case first =>
   have H := HC16.out
   clear HC16
   by_cases c17 : (l1_4.length : Int) < 1
   ·rw [if_pos c17] at H
    have c17b0 : decide ((l1_4.length : Int) < 1) = true := decide_eq_true c17
    have c17b1 : decide (l1_4.length < 1) = true := decide_eq_true (by omega)
    clear c17
    (first | rw [c17b0] | (simp only [i64_w, i32_w]; rw [c17b0]) | rw [c17b1] | skip)
    have H' := Aside0.mk H
    clear H
    have hnb18 := NB1209_1208.out
    have hnc18 := NB1208_1209.out
    have hnb19 := NB1209_1214.out
    have hnc19 := NB1214_1209.out
    obtain ⟨hcz20_0, hcz20_1, hcz20_2, hcz20_3, hcz20_4, hfz20_0, hfz20_1, hfz20_2, hfz20_3, hfz20_4⟩ := BK1209.c5
    go_wp2
    go_meet
    case rel => exact ⟨_, (true), (by first | rfl | (simp; done) | (simp [*]; done)), H', ⟨by first | exact Nat.le_refl _ | omega⟩, ⟨by refine far3_ ?_ NB1208_1214.out; exact BK1208.out⟩, ⟨by refine far3_ ?_ NB1209_1214.out; exact BK1209.out⟩, ⟨by refine put3_ (cs := #[.bool false, .string (⟨#[]⟩ : ByteArray), .string (⟨#[]⟩ : ByteArray)]) ?_; exact BK1214.out⟩, ⟨hb_⟩⟩
   ·rw [if_neg c17] at H
    have c17b0 : decide ((l1_4.length : Int) < 1) = false := decide_eq_false c17
    have c17b1 : decide (l1_4.length < 1) = false := decide_eq_false (by omega)
    clear c17
    (first | rw [c17b0] | (simp only [i64_w, i32_w]; rw [c17b0]) | rw [c17b1] | skip)
    have H' := Aside0.mk H
    clear H
    have hnb21 := NB1209_1208.out
    have hnc21 := NB1208_1209.out
    have hnb22 := NB1209_1214.out
    have hnc22 := NB1214_1209.out
    obtain ⟨hcz23_0, hcz23_1, hcz23_2, hcz23_3, hcz23_4, hfz23_0, hfz23_1, hfz23_2, hfz23_3, hfz23_4⟩ := BK1209.c5
    go_wp2
    go_meet
    case rel => exact ⟨_, (decide ((l1_4.length : Int) > 64)), (by first | rfl | (simp; done) | (simp [*]; done)), H', ⟨by first | exact Nat.le_refl _ | omega⟩, ⟨by refine far3_ ?_ NB1208_1214.out; exact BK1208.out⟩, ⟨by refine far3_ ?_ NB1209_1214.out; exact BK1209.out⟩, ⟨by refine put3_ (cs := #[.bool false, .string (⟨#[]⟩ : ByteArray), .string (⟨#[]⟩ : ByteArray)]) ?_; exact BK1214.out⟩, ⟨hb_⟩⟩
  case rest =>
   clear HC16
   (try clear c15); (try clear c15b0); (try clear c15b1); (try clear hcz14_0); (try clear hcz14_1); (try clear hcz14_2); (try clear hcz8_0); (try clear hcz8_1); (try clear hcz8_2); (try clear hcz8_3); (try clear hcz8_4); (try clear hcz8_5); (try clear hcz8_6); (try clear hcz8_7); (try clear hcz8_8); (try clear hcz9_0); (try clear hcz9_1); (try clear hcz9_2); (try clear hcz9_3); (try clear hcz9_4); (try clear hfz14_0); (try clear hfz14_1); (try clear hfz14_2); (try clear hfz8_0); (try clear hfz8_1); (try clear hfz8_2); (try clear hfz8_3); (try clear hfz8_4); (try clear hfz8_5); (try clear hfz8_6); (try clear hfz8_7); (try clear hfz8_8); (try clear hfz9_0); (try clear hfz9_1); (try clear hfz9_2); (try clear hfz9_3); (try clear hfz9_4)
   obtain ⟨kq, x38_15, rfl, HA, HJ15, BK1208, BK1209, BK1214, HB⟩ := hcut
   cases kq with
   | zero => exact absurd HA.out (by simp [operand_In.j0])
   | succ kj15 =>
    have H := HA.out
    clear HA
    simp only [operand_In.j0] at H
    by_cases c24 : x38_15 = true
    ·subst c24
     have H1 : (some (false, 40)) = some (r1, r2) := by rw [if_pos rfl] at H; exact H
     clear H
     have H := H1
     clear H1
     simp only [Option.some.injEq, Prod.mk.injEq] at H
     obtain ⟨rfl, rfl⟩ := H
     go_wp2
     go_ret2
     exact fin_
    ·replace c24 := Bool.eq_false_iff.mpr c24
     subst c24
     have H1 : (operand_In.l0 kj15 l1_4 (l1_4.length : Int) 0 a1_0 a1_1 a1_2 a1_3 l1_4 t1210 t1211 t1212) = some (r1, r2) := by rw [if_neg (show ¬ (false = true) by decide)] at H; exact H
     clear H
     have H := H1
     clear H1
     have H' := Aside0.mk H
     clear H
     have hnb25 := NB1209_1208.out
     have hnc25 := NB1208_1209.out
     have hnb26 := NB1209_1214.out
     have hnc26 := NB1214_1209.out
     obtain ⟨hcz27_0, hcz27_1, hcz27_2, hcz27_3, hcz27_4, hfz27_0, hfz27_1, hfz27_2, hfz27_3, hfz27_4⟩ := BK1209.c5
     go_wp2
     go_loopg [42] kj15 (fun kq v42 w' => ∃ (x42_2 : Int), v42 = .int .i64 x42_2 ∧ Aside0 (operand_In.l0 kq l1_4 (l1_4.length : Int) x42_2 a1_0 a1_1 a1_2 a1_3 l1_4 t1210 t1211 t1212 = some (r1, r2)) ∧ Aside0 (kq ≤ kj15) ∧ Aside0 (w'.heap[gb1208]? = some (.cells #[.bool a0_0, .string a0_1, .string a0_2, .string a0_3, .int .i64 a0_4, .int .i64 a0_5, .string a0_6, .string a0_7, .int .i64 a0_8] 45 (0, 0))) ∧ Aside0 (w'.heap[gb1209]? = some (.cells #[.string a1_0, .string a1_1, .bool a1_2, .bool a1_3, (.slice A1_4 l1_4.length c1_4)] 54 (0, 0))) ∧ Aside0 (w'.heap[gb1214]? = some (.cells #[.bool t1210, .string t1211, .string t1212] 23 (0, 0))) ∧ Aside0 (Below w.heap.size w w'))
     case atStart => exact ⟨(0), (by first | rfl | (simp; done) | (simp [*]; done)), H', ⟨Nat.le_refl _⟩, ⟨by exact BK1208.out⟩, ⟨by exact BK1209.out⟩, ⟨by exact BK1214.out⟩, ⟨hb_⟩⟩
     case round =>
      clear H'
      (try clear c15); (try clear c15b0); (try clear c15b1); (try clear c24); (try clear hcz14_0); (try clear hcz14_1); (try clear hcz14_2); (try clear hcz27_0); (try clear hcz27_1); (try clear hcz27_2); (try clear hcz27_3); (try clear hcz27_4); (try clear hcz8_0); (try clear hcz8_1); (try clear hcz8_2); (try clear hcz8_3); (try clear hcz8_4); (try clear hcz8_5); (try clear hcz8_6); (try clear hcz8_7); (try clear hcz8_8); (try clear hcz9_0); (try clear hcz9_1); (try clear hcz9_2); (try clear hcz9_3); (try clear hcz9_4); (try clear hfz14_0); (try clear hfz14_1); (try clear hfz14_2); (try clear hfz27_0); (try clear hfz27_1); (try clear hfz27_2); (try clear hfz27_3); (try clear hfz27_4); (try clear hfz8_0); (try clear hfz8_1); (try clear hfz8_2); (try clear hfz8_3); (try clear hfz8_4); (try clear hfz8_5); (try clear hfz8_6); (try clear hfz8_7); (try clear hfz8_8); (try clear hfz9_0); (try clear hfz9_1); (try clear hfz9_2); (try clear hfz9_3); (try clear hfz9_4)
      obtain ⟨x42_2, rfl, HA, HK2, BK1208, BK1209, BK1214, HB⟩ := hrel
      cases gk with
      | zero => exact absurd HA.out (by simp [operand_In.l0])
      | succ k2 =>
       have H := HA.out
       clear HA
       simp only [operand_In.l0] at H
       by_cases c28 : x42_2 < (l1_4.length : Int)
       ·rw [if_pos c28] at H
        have c28b0 : decide (x42_2 < (l1_4.length : Int)) = true := decide_eq_true c28
        clear c28
        by_cases c29 : 0 ≤ x42_2
        ·rw [if_pos c29] at H
         have c29b0 : decide (0 ≤ x42_2) = true := decide_eq_true c29
         clear c29
         by_cases c30 : x42_2 < (l1_4.length : Int)
         ·rw [if_pos c30] at H
          have c30b0 : decide (x42_2 < (l1_4.length : Int)) = true := decide_eq_true c30
          clear c30
          replace H := Option.bind_eq_some_iff.mp H
          obtain ⟨t1217, A310, H⟩ := H
          try dsimp only at H
          have A31 := Aside0.mk A310
          clear A310
          by_cases c32 : t1217 = true
          ·subst c32
           have H1 : ((operand_number.f ((rd_T60 l1_4 x42_2).f1)).bind fun t1218 => (if t1218 = true then (if (((rd_T60 l1_4 x42_2).f0).size : Int) > (((rd_T60 l1_4 x42_2).f1).size : Int) then (some (false, 40)) else (if (((rd_T60 l1_4 x42_2).f0).size : Int) = (((rd_T60 l1_4 x42_2).f1).size : Int) then (if (Op.bytesLess (((rd_T60 l1_4 x42_2).f1).toList) (((rd_T60 l1_4 x42_2).f0).toList)) = true then (some (false, 40)) else (operand_In.l0 k2 l1_4 (l1_4.length : Int) (wrap64 (x42_2 + 1)) a1_0 a1_1 a1_2 a1_3 l1_4 t1210 t1211 t1212)) else (operand_In.l0 k2 l1_4 (l1_4.length : Int) (wrap64 (x42_2 + 1)) a1_0 a1_1 a1_2 a1_3 l1_4 t1210 t1211 t1212))) else (some (false, 40)))) = some (r1, r2) := by rw [if_pos rfl] at H; exact H
           clear H
           have H := H1
           clear H1
           replace H := Option.bind_eq_some_iff.mp H
           obtain ⟨t1218, A330, H⟩ := H
           try dsimp only at H
           have A33 := Aside0.mk A330
           clear A330
           by_cases c34 : t1218 = true
           ·subst c34
            have H1 : (if (((rd_T60 l1_4 x42_2).f0).size : Int) > (((rd_T60 l1_4 x42_2).f1).size : Int) then (some (false, 40)) else (if (((rd_T60 l1_4 x42_2).f0).size : Int) = (((rd_T60 l1_4 x42_2).f1).size : Int) then (if (Op.bytesLess (((rd_T60 l1_4 x42_2).f1).toList) (((rd_T60 l1_4 x42_2).f0).toList)) = true then (some (false, 40)) else (operand_In.l0 k2 l1_4 (l1_4.length : Int) (wrap64 (x42_2 + 1)) a1_0 a1_1 a1_2 a1_3 l1_4 t1210 t1211 t1212)) else (operand_In.l0 k2 l1_4 (l1_4.length : Int) (wrap64 (x42_2 + 1)) a1_0 a1_1 a1_2 a1_3 l1_4 t1210 t1211 t1212))) = some (r1, r2) := by rw [if_pos rfl] at H; exact H
            clear H
            have H := H1
            clear H1
            by_cases c35 : (((rd_T60 l1_4 x42_2).f0).size : Int) > (((rd_T60 l1_4 x42_2).f1).size : Int)
            ·rw [if_pos c35] at H
             have c35b0 : decide ((((rd_T60 l1_4 x42_2).f1).size : Int) < (((rd_T60 l1_4 x42_2).f0).size : Int)) = true := decide_eq_true c35
             have c35b1 : decide (((rd_T60 l1_4 x42_2).f1).size < ((rd_T60 l1_4 x42_2).f0).size) = true := decide_eq_true (Int.ofNat_lt.mp c35)
             clear c35
             simp only [Option.some.injEq, Prod.mk.injEq] at H
             obtain ⟨rfl, rfl⟩ := H
             have p1215 : 0 ≤ (x42_2 : Int) := of_decide_eq_true (by first | (with_reducible assumption) | assumption)
             have q1215 : x42_2 < (l1_4.length : Int) := of_decide_eq_true (by first | (with_reducible assumption) | assumption)
             obtain ⟨ad1215, e1215, hx1215_0, hx1215_1⟩ := at_T60 HR1_4.out x42_2 p1215 q1215
             cases e1215
             replace hx1215_0 := (HB.out.cell (World.block_lt_of_cell? w _ hx1215_0)).trans hx1215_0
             replace hx1215_1 := (HB.out.cell (World.block_lt_of_cell? w _ hx1215_1)).trans hx1215_1
             replace p1215 := eq_true p1215
             replace q1215 := eq_true q1215
             go_wp2_with (first | ((with_reducible refine gate_dst (N := 9) rfl ?_); (try (refine gate_guard (by rfl) ?_; dsimp only)); refine box_event ?hg (N := 9) ?hd (cs := #[.string (⟨#[]⟩ : ByteArray), .string (⟨#[]⟩ : ByteArray)]) (t := 60) ?hr ?_; (case hd => rfl); (case hg => rfl); (case hr => first | (go_simp; done) | (go_simp; rfl)); intro gb1216 hg w36 hbox hb; have BK1216 := Aside0.mk (hbox); have GW1216 := ge_ (w := w) hg; have GE1216 := ge_ (w := w) hg; have NB1208_1216 := BK1208.nl hg; have NB1216_1208 := BK1208.ng hg; have NB1209_1216 := BK1209.nl hg; have NB1216_1209 := BK1209.ng hg; have NB1214_1216 := BK1214.nl hg; have NB1216_1214 := BK1214.ng hg; replace BK1208 := BK1208.bl hb; replace BK1209 := BK1209.bl hb; replace BK1214 := BK1214.bl hb; replace HB := Aside0.mk (below_step hb_ hb); clear hb hbox hg; have hnb37 := NB1216_1208.out; have hnc37 := NB1208_1216.out; have hnb38 := NB1216_1209.out; have hnc38 := NB1209_1216.out; have hnb39 := NB1216_1214.out; have hnc39 := NB1214_1216.out; obtain ⟨hcz40_0, hcz40_1, hfz40_0, hfz40_1⟩ := BK1216.c2) | ((with_reducible refine gate_callee (f := 86) rfl ?_); refine gL_ (some 48) Tryd.func86 #[.string ((rd_T60 l1_4 x42_2).f0)] ?_; (with_reducible refine (operand_number.calls ((rd_T60 l1_4 x42_2).f0) true _ A31.out).mono ?_); rintro e w41 ⟨rfl, hb⟩; refine ⟨_, rfl, ?_⟩; replace BK1208 := Aside0.mk (blk_below (g := gb1208) (o := .cells #[.bool a0_0, .string a0_1, .string a0_2, .string a0_3, .int .i64 a0_4, .int .i64 a0_5, .string a0_6, .string a0_7, .int .i64 a0_8] 45 (0, 0)) (by refine blk_far ?_ NB1208_1216.out _; refine blk_far ?_ NB1208_1216.out _; exact BK1208.out) hb); replace BK1209 := Aside0.mk (blk_below (g := gb1209) (o := .cells #[.string a1_0, .string a1_1, .bool a1_2, .bool a1_3, .slice (some ad1215) l1_4.length c1_4] 54 (0, 0)) (by refine blk_far ?_ NB1209_1216.out _; refine blk_far ?_ NB1209_1216.out _; exact BK1209.out) hb); replace BK1214 := Aside0.mk (blk_below (g := gb1214) (o := .cells #[.bool t1210, .string t1211, .string t1212] 23 (0, 0)) (by refine blk_far ?_ NB1214_1216.out _; refine blk_far ?_ NB1214_1216.out _; exact BK1214.out) hb); replace BK1216 := Aside0.mk (blk_below (g := gb1216) (o := .cells #[.string ((rd_T60 l1_4 x42_2).f0), .string ((rd_T60 l1_4 x42_2).f1)] 60 (0, 0)) (by refine blk_put (cs := #[.string ((rd_T60 l1_4 x42_2).f0), .string (⟨#[]⟩ : ByteArray)]) ?_ 1 _ rfl; refine blk_put (cs := #[.string (⟨#[]⟩ : ByteArray), .string (⟨#[]⟩ : ByteArray)]) ?_ 0 _ rfl; exact BK1216.out) hb); replace HB := Aside0.mk (below_step hb_ hb); obtain ⟨hcz42_0, hcz42_1, hfz42_0, hfz42_1⟩ := BK1216.c2) | (go_at_call 86; (with_reducible refine (operand_number.calls ((rd_T60 l1_4 x42_2).f1) true _ A33.out).mono ?_); rintro e w43 ⟨rfl, hb⟩; replace BK1208 := BK1208.bl hb; replace BK1209 := BK1209.bl hb; replace BK1214 := BK1214.bl hb; replace BK1216 := BK1216.bl hb; replace HB := Aside0.mk (below_step hb_ hb); obtain ⟨hcz44_0, hcz44_1, hfz44_0, hfz44_1⟩ := BK1216.c2))
             go_ret2
             exact fin_
            ·rw [if_neg c35] at H
             have c35b0 : decide ((((rd_T60 l1_4 x42_2).f1).size : Int) < (((rd_T60 l1_4 x42_2).f0).size : Int)) = false := decide_eq_false c35
             have c35b1 : decide (((rd_T60 l1_4 x42_2).f1).size < ((rd_T60 l1_4 x42_2).f0).size) = false := decide_eq_false (fun h => c35 (Int.ofNat_lt.mpr h))
             clear c35
             by_cases c45 : (((rd_T60 l1_4 x42_2).f0).size : Int) = (((rd_T60 l1_4 x42_2).f1).size : Int)
             ·rw [if_pos c45] at H
              have c45b0 : ((((rd_T60 l1_4 x42_2).f0).size : Int) == (((rd_T60 l1_4 x42_2).f1).size : Int)) = true := beq_iff_eq.mpr c45
              have c45b1 : ((((rd_T60 l1_4 x42_2).f0).size : Int) != (((rd_T60 l1_4 x42_2).f1).size : Int)) = false := bne_eq_false_iff_eq.mpr c45
              have c45b2 : (((rd_T60 l1_4 x42_2).f0).size == ((rd_T60 l1_4 x42_2).f1).size) = true := by first | simpa using c45 | (simp at c45 ⊢; omega)
              clear c45
              have HF46 := Aside0.mk H
              clear H
              have p1215 : 0 ≤ (x42_2 : Int) := of_decide_eq_true (by first | (with_reducible assumption) | assumption)
              have q1215 : x42_2 < (l1_4.length : Int) := of_decide_eq_true (by first | (with_reducible assumption) | assumption)
              obtain ⟨ad1215, e1215, hx1215_0, hx1215_1⟩ := at_T60 HR1_4.out x42_2 p1215 q1215
              cases e1215
              replace hx1215_0 := (HB.out.cell (World.block_lt_of_cell? w _ hx1215_0)).trans hx1215_0
              replace hx1215_1 := (HB.out.cell (World.block_lt_of_cell? w _ hx1215_1)).trans hx1215_1
              replace p1215 := eq_true p1215
              replace q1215 := eq_true q1215
              go_upto_if 80 with (first | ((with_reducible refine gate_dst (N := 9) rfl ?_); (try (refine gate_guard (by rfl) ?_; dsimp only)); refine box_event ?hg (N := 9) ?hd (cs := #[.string (⟨#[]⟩ : ByteArray), .string (⟨#[]⟩ : ByteArray)]) (t := 60) ?hr ?_; (case hd => rfl); (case hg => rfl); (case hr => first | (go_simp; done) | (go_simp; rfl)); intro gb1216 hg w47 hbox hb; have BK1216 := Aside0.mk (hbox); have GW1216 := ge_ (w := w) hg; have GE1216 := ge_ (w := w) hg; have NB1208_1216 := BK1208.nl hg; have NB1216_1208 := BK1208.ng hg; have NB1209_1216 := BK1209.nl hg; have NB1216_1209 := BK1209.ng hg; have NB1214_1216 := BK1214.nl hg; have NB1216_1214 := BK1214.ng hg; replace BK1208 := BK1208.bl hb; replace BK1209 := BK1209.bl hb; replace BK1214 := BK1214.bl hb; replace HB := Aside0.mk (below_step hb_ hb); clear hb hbox hg; have hnb48 := NB1216_1208.out; have hnc48 := NB1208_1216.out; have hnb49 := NB1216_1209.out; have hnc49 := NB1209_1216.out; have hnb50 := NB1216_1214.out; have hnc50 := NB1214_1216.out; obtain ⟨hcz51_0, hcz51_1, hfz51_0, hfz51_1⟩ := BK1216.c2) | ((with_reducible refine gate_callee (f := 86) rfl ?_); refine gL_ (some 48) Tryd.func86 #[.string ((rd_T60 l1_4 x42_2).f0)] ?_; (with_reducible refine (operand_number.calls ((rd_T60 l1_4 x42_2).f0) true _ A31.out).mono ?_); rintro e w52 ⟨rfl, hb⟩; refine ⟨_, rfl, ?_⟩; replace BK1208 := Aside0.mk (blk_below (g := gb1208) (o := .cells #[.bool a0_0, .string a0_1, .string a0_2, .string a0_3, .int .i64 a0_4, .int .i64 a0_5, .string a0_6, .string a0_7, .int .i64 a0_8] 45 (0, 0)) (by refine blk_far ?_ NB1208_1216.out _; refine blk_far ?_ NB1208_1216.out _; exact BK1208.out) hb); replace BK1209 := Aside0.mk (blk_below (g := gb1209) (o := .cells #[.string a1_0, .string a1_1, .bool a1_2, .bool a1_3, .slice (some ad1215) l1_4.length c1_4] 54 (0, 0)) (by refine blk_far ?_ NB1209_1216.out _; refine blk_far ?_ NB1209_1216.out _; exact BK1209.out) hb); replace BK1214 := Aside0.mk (blk_below (g := gb1214) (o := .cells #[.bool t1210, .string t1211, .string t1212] 23 (0, 0)) (by refine blk_far ?_ NB1214_1216.out _; refine blk_far ?_ NB1214_1216.out _; exact BK1214.out) hb); replace BK1216 := Aside0.mk (blk_below (g := gb1216) (o := .cells #[.string ((rd_T60 l1_4 x42_2).f0), .string ((rd_T60 l1_4 x42_2).f1)] 60 (0, 0)) (by refine blk_put (cs := #[.string ((rd_T60 l1_4 x42_2).f0), .string (⟨#[]⟩ : ByteArray)]) ?_ 1 _ rfl; refine blk_put (cs := #[.string (⟨#[]⟩ : ByteArray), .string (⟨#[]⟩ : ByteArray)]) ?_ 0 _ rfl; exact BK1216.out) hb); replace HB := Aside0.mk (below_step hb_ hb); obtain ⟨hcz53_0, hcz53_1, hfz53_0, hfz53_1⟩ := BK1216.c2) | (go_at_call 86; (with_reducible refine (operand_number.calls ((rd_T60 l1_4 x42_2).f1) true _ A33.out).mono ?_); rintro e w54 ⟨rfl, hb⟩; replace BK1208 := BK1208.bl hb; replace BK1209 := BK1209.bl hb; replace BK1214 := BK1214.bl hb; replace BK1216 := BK1216.bl hb; replace HB := Aside0.mk (below_step hb_ hb); obtain ⟨hcz55_0, hcz55_1, hfz55_0, hfz55_1⟩ := BK1216.c2))
              (try simp only [Act.put, List.setIfInBounds_toArray, List.set_cons_zero, List.set_cons_succ])
              have H := HF46.out
              clear HF46
              by_cases c56 : (Op.bytesLess (((rd_T60 l1_4 x42_2).f1).toList) (((rd_T60 l1_4 x42_2).f0).toList)) = true
              ·rw [if_pos c56] at H
               have c56b0 : (Op.bytesLess (((rd_T60 l1_4 x42_2).f1).toList) (((rd_T60 l1_4 x42_2).f0).toList)) = true := c56
               clear c56
               (first | rw [c56b0] | (simp only [i64_w, i32_w]; rw [c56b0]) | skip)
               simp only [Option.some.injEq, Prod.mk.injEq] at H
               obtain ⟨rfl, rfl⟩ := H
               go_wp2
               go_ret2
               exact fin_
              ·rw [if_neg c56] at H
               have c56b0 : (Op.bytesLess (((rd_T60 l1_4 x42_2).f1).toList) (((rd_T60 l1_4 x42_2).f0).toList)) = false := by simpa using c56
               clear c56
               (first | rw [c56b0] | (simp only [i64_w, i32_w]; rw [c56b0]) | skip)
               have H' := Aside0.mk H
               clear H
               go_wp2
               go_roundg k2
               case measure => have := HJ15.out; have := HK2.out; omega
               case rel => exact ⟨(wrap64 (x42_2 + 1)), (by first | rfl | (simp; done) | (simp [*]; done)), H', ⟨by have := HJ15.out; have := HK2.out; omega⟩, ⟨by exact BK1208.out⟩, ⟨by exact BK1209.out⟩, ⟨by exact BK1214.out⟩, ⟨hb_⟩⟩
             ·rw [if_neg c45] at H
              have c45b0 : ((((rd_T60 l1_4 x42_2).f0).size : Int) == (((rd_T60 l1_4 x42_2).f1).size : Int)) = false := beq_eq_false_iff_ne.mpr c45
              have c45b1 : ((((rd_T60 l1_4 x42_2).f0).size : Int) != (((rd_T60 l1_4 x42_2).f1).size : Int)) = true := bne_iff_ne.mpr c45
              have c45b2 : (((rd_T60 l1_4 x42_2).f0).size == ((rd_T60 l1_4 x42_2).f1).size) = false := by first | simpa using c45 | (simp at c45 ⊢; omega)
              have H' := Aside0.mk H
              clear H
              have p1215 : 0 ≤ (x42_2 : Int) := of_decide_eq_true (by first | (with_reducible assumption) | assumption)
              have q1215 : x42_2 < (l1_4.length : Int) := of_decide_eq_true (by first | (with_reducible assumption) | assumption)
              obtain ⟨ad1215, e1215, hx1215_0, hx1215_1⟩ := at_T60 HR1_4.out x42_2 p1215 q1215
              cases e1215
              replace hx1215_0 := (HB.out.cell (World.block_lt_of_cell? w _ hx1215_0)).trans hx1215_0
              replace hx1215_1 := (HB.out.cell (World.block_lt_of_cell? w _ hx1215_1)).trans hx1215_1
              replace p1215 := eq_true p1215
              replace q1215 := eq_true q1215
              go_wp2_with (first | ((with_reducible refine gate_dst (N := 9) rfl ?_); (try (refine gate_guard (by rfl) ?_; dsimp only)); refine box_event ?hg (N := 9) ?hd (cs := #[.string (⟨#[]⟩ : ByteArray), .string (⟨#[]⟩ : ByteArray)]) (t := 60) ?hr ?_; (case hd => rfl); (case hg => rfl); (case hr => first | (go_simp; done) | (go_simp; rfl)); intro gb1216 hg w57 hbox hb; have BK1216 := Aside0.mk (hbox); have GW1216 := ge_ (w := w) hg; have GE1216 := ge_ (w := w) hg; have NB1208_1216 := BK1208.nl hg; have NB1216_1208 := BK1208.ng hg; have NB1209_1216 := BK1209.nl hg; have NB1216_1209 := BK1209.ng hg; have NB1214_1216 := BK1214.nl hg; have NB1216_1214 := BK1214.ng hg; replace BK1208 := BK1208.bl hb; replace BK1209 := BK1209.bl hb; replace BK1214 := BK1214.bl hb; replace HB := Aside0.mk (below_step hb_ hb); clear hb hbox hg; have hnb58 := NB1216_1208.out; have hnc58 := NB1208_1216.out; have hnb59 := NB1216_1209.out; have hnc59 := NB1209_1216.out; have hnb60 := NB1216_1214.out; have hnc60 := NB1214_1216.out; obtain ⟨hcz61_0, hcz61_1, hfz61_0, hfz61_1⟩ := BK1216.c2) | ((with_reducible refine gate_callee (f := 86) rfl ?_); refine gL_ (some 48) Tryd.func86 #[.string ((rd_T60 l1_4 x42_2).f0)] ?_; (with_reducible refine (operand_number.calls ((rd_T60 l1_4 x42_2).f0) true _ A31.out).mono ?_); rintro e w62 ⟨rfl, hb⟩; refine ⟨_, rfl, ?_⟩; replace BK1208 := Aside0.mk (blk_below (g := gb1208) (o := .cells #[.bool a0_0, .string a0_1, .string a0_2, .string a0_3, .int .i64 a0_4, .int .i64 a0_5, .string a0_6, .string a0_7, .int .i64 a0_8] 45 (0, 0)) (by refine blk_far ?_ NB1208_1216.out _; refine blk_far ?_ NB1208_1216.out _; exact BK1208.out) hb); replace BK1209 := Aside0.mk (blk_below (g := gb1209) (o := .cells #[.string a1_0, .string a1_1, .bool a1_2, .bool a1_3, .slice (some ad1215) l1_4.length c1_4] 54 (0, 0)) (by refine blk_far ?_ NB1209_1216.out _; refine blk_far ?_ NB1209_1216.out _; exact BK1209.out) hb); replace BK1214 := Aside0.mk (blk_below (g := gb1214) (o := .cells #[.bool t1210, .string t1211, .string t1212] 23 (0, 0)) (by refine blk_far ?_ NB1214_1216.out _; refine blk_far ?_ NB1214_1216.out _; exact BK1214.out) hb); replace BK1216 := Aside0.mk (blk_below (g := gb1216) (o := .cells #[.string ((rd_T60 l1_4 x42_2).f0), .string ((rd_T60 l1_4 x42_2).f1)] 60 (0, 0)) (by refine blk_put (cs := #[.string ((rd_T60 l1_4 x42_2).f0), .string (⟨#[]⟩ : ByteArray)]) ?_ 1 _ rfl; refine blk_put (cs := #[.string (⟨#[]⟩ : ByteArray), .string (⟨#[]⟩ : ByteArray)]) ?_ 0 _ rfl; exact BK1216.out) hb); replace HB := Aside0.mk (below_step hb_ hb); obtain ⟨hcz63_0, hcz63_1, hfz63_0, hfz63_1⟩ := BK1216.c2) | (go_at_call 86; (with_reducible refine (operand_number.calls ((rd_T60 l1_4 x42_2).f1) true _ A33.out).mono ?_); rintro e w64 ⟨rfl, hb⟩; replace BK1208 := BK1208.bl hb; replace BK1209 := BK1209.bl hb; replace BK1214 := BK1214.bl hb; replace BK1216 := BK1216.bl hb; replace HB := Aside0.mk (below_step hb_ hb); obtain ⟨hcz65_0, hcz65_1, hfz65_0, hfz65_1⟩ := BK1216.c2))
              go_roundg k2
              case measure => have := HJ15.out; have := HK2.out; omega
              case rel => exact ⟨(wrap64 (x42_2 + 1)), (by first | rfl | (simp; done) | (simp [*]; done)), H', ⟨by have := HJ15.out; have := HK2.out; omega⟩, ⟨by exact BK1208.out⟩, ⟨by exact BK1209.out⟩, ⟨by exact BK1214.out⟩, ⟨hb_⟩⟩
           ·replace c34 := Bool.eq_false_iff.mpr c34
            subst c34
            have H1 : (some (false, 40)) = some (r1, r2) := by rw [if_neg (show ¬ (false = true) by decide)] at H; exact H
            clear H
            have H := H1
            clear H1
            simp only [Option.some.injEq, Prod.mk.injEq] at H
            obtain ⟨rfl, rfl⟩ := H
            have p1215 : 0 ≤ (x42_2 : Int) := of_decide_eq_true (by first | (with_reducible assumption) | assumption)
            have q1215 : x42_2 < (l1_4.length : Int) := of_decide_eq_true (by first | (with_reducible assumption) | assumption)
            obtain ⟨ad1215, e1215, hx1215_0, hx1215_1⟩ := at_T60 HR1_4.out x42_2 p1215 q1215
            cases e1215
            replace hx1215_0 := (HB.out.cell (World.block_lt_of_cell? w _ hx1215_0)).trans hx1215_0
            replace hx1215_1 := (HB.out.cell (World.block_lt_of_cell? w _ hx1215_1)).trans hx1215_1
            replace p1215 := eq_true p1215
            replace q1215 := eq_true q1215
            go_wp2_with (first | ((with_reducible refine gate_dst (N := 9) rfl ?_); (try (refine gate_guard (by rfl) ?_; dsimp only)); refine box_event ?hg (N := 9) ?hd (cs := #[.string (⟨#[]⟩ : ByteArray), .string (⟨#[]⟩ : ByteArray)]) (t := 60) ?hr ?_; (case hd => rfl); (case hg => rfl); (case hr => first | (go_simp; done) | (go_simp; rfl)); intro gb1216 hg w66 hbox hb; have BK1216 := Aside0.mk (hbox); have GW1216 := ge_ (w := w) hg; have GE1216 := ge_ (w := w) hg; have NB1208_1216 := BK1208.nl hg; have NB1216_1208 := BK1208.ng hg; have NB1209_1216 := BK1209.nl hg; have NB1216_1209 := BK1209.ng hg; have NB1214_1216 := BK1214.nl hg; have NB1216_1214 := BK1214.ng hg; replace BK1208 := BK1208.bl hb; replace BK1209 := BK1209.bl hb; replace BK1214 := BK1214.bl hb; replace HB := Aside0.mk (below_step hb_ hb); clear hb hbox hg; have hnb67 := NB1216_1208.out; have hnc67 := NB1208_1216.out; have hnb68 := NB1216_1209.out; have hnc68 := NB1209_1216.out; have hnb69 := NB1216_1214.out; have hnc69 := NB1214_1216.out; obtain ⟨hcz70_0, hcz70_1, hfz70_0, hfz70_1⟩ := BK1216.c2) | ((with_reducible refine gate_callee (f := 86) rfl ?_); refine gL_ (some 48) Tryd.func86 #[.string ((rd_T60 l1_4 x42_2).f0)] ?_; (with_reducible refine (operand_number.calls ((rd_T60 l1_4 x42_2).f0) true _ A31.out).mono ?_); rintro e w71 ⟨rfl, hb⟩; refine ⟨_, rfl, ?_⟩; replace BK1208 := Aside0.mk (blk_below (g := gb1208) (o := .cells #[.bool a0_0, .string a0_1, .string a0_2, .string a0_3, .int .i64 a0_4, .int .i64 a0_5, .string a0_6, .string a0_7, .int .i64 a0_8] 45 (0, 0)) (by refine blk_far ?_ NB1208_1216.out _; refine blk_far ?_ NB1208_1216.out _; exact BK1208.out) hb); replace BK1209 := Aside0.mk (blk_below (g := gb1209) (o := .cells #[.string a1_0, .string a1_1, .bool a1_2, .bool a1_3, .slice (some ad1215) l1_4.length c1_4] 54 (0, 0)) (by refine blk_far ?_ NB1209_1216.out _; refine blk_far ?_ NB1209_1216.out _; exact BK1209.out) hb); replace BK1214 := Aside0.mk (blk_below (g := gb1214) (o := .cells #[.bool t1210, .string t1211, .string t1212] 23 (0, 0)) (by refine blk_far ?_ NB1214_1216.out _; refine blk_far ?_ NB1214_1216.out _; exact BK1214.out) hb); replace BK1216 := Aside0.mk (blk_below (g := gb1216) (o := .cells #[.string ((rd_T60 l1_4 x42_2).f0), .string ((rd_T60 l1_4 x42_2).f1)] 60 (0, 0)) (by refine blk_put (cs := #[.string ((rd_T60 l1_4 x42_2).f0), .string (⟨#[]⟩ : ByteArray)]) ?_ 1 _ rfl; refine blk_put (cs := #[.string (⟨#[]⟩ : ByteArray), .string (⟨#[]⟩ : ByteArray)]) ?_ 0 _ rfl; exact BK1216.out) hb); replace HB := Aside0.mk (below_step hb_ hb); obtain ⟨hcz72_0, hcz72_1, hfz72_0, hfz72_1⟩ := BK1216.c2) | (go_at_call 86; (with_reducible refine (operand_number.calls ((rd_T60 l1_4 x42_2).f1) false _ A33.out).mono ?_); rintro e w73 ⟨rfl, hb⟩; replace BK1208 := BK1208.bl hb; replace BK1209 := BK1209.bl hb; replace BK1214 := BK1214.bl hb; replace BK1216 := BK1216.bl hb; replace HB := Aside0.mk (below_step hb_ hb)))
            go_ret2
            exact fin_
          ·replace c32 := Bool.eq_false_iff.mpr c32
           subst c32
           have H1 : (some (false, 40)) = some (r1, r2) := by rw [if_neg (show ¬ (false = true) by decide)] at H; exact H
           clear H
           have H := H1
           clear H1
           simp only [Option.some.injEq, Prod.mk.injEq] at H
           obtain ⟨rfl, rfl⟩ := H
           have p1215 : 0 ≤ (x42_2 : Int) := of_decide_eq_true (by first | (with_reducible assumption) | assumption)
           have q1215 : x42_2 < (l1_4.length : Int) := of_decide_eq_true (by first | (with_reducible assumption) | assumption)
           obtain ⟨ad1215, e1215, hx1215_0, hx1215_1⟩ := at_T60 HR1_4.out x42_2 p1215 q1215
           cases e1215
           replace hx1215_0 := (HB.out.cell (World.block_lt_of_cell? w _ hx1215_0)).trans hx1215_0
           replace hx1215_1 := (HB.out.cell (World.block_lt_of_cell? w _ hx1215_1)).trans hx1215_1
           replace p1215 := eq_true p1215
           replace q1215 := eq_true q1215
           go_wp2_with (first | ((with_reducible refine gate_dst (N := 9) rfl ?_); (try (refine gate_guard (by rfl) ?_; dsimp only)); refine box_event ?hg (N := 9) ?hd (cs := #[.string (⟨#[]⟩ : ByteArray), .string (⟨#[]⟩ : ByteArray)]) (t := 60) ?hr ?_; (case hd => rfl); (case hg => rfl); (case hr => first | (go_simp; done) | (go_simp; rfl)); intro gb1216 hg w74 hbox hb; have BK1216 := Aside0.mk (hbox); have GW1216 := ge_ (w := w) hg; have GE1216 := ge_ (w := w) hg; have NB1208_1216 := BK1208.nl hg; have NB1216_1208 := BK1208.ng hg; have NB1209_1216 := BK1209.nl hg; have NB1216_1209 := BK1209.ng hg; have NB1214_1216 := BK1214.nl hg; have NB1216_1214 := BK1214.ng hg; replace BK1208 := BK1208.bl hb; replace BK1209 := BK1209.bl hb; replace BK1214 := BK1214.bl hb; replace HB := Aside0.mk (below_step hb_ hb); clear hb hbox hg; have hnb75 := NB1216_1208.out; have hnc75 := NB1208_1216.out; have hnb76 := NB1216_1209.out; have hnc76 := NB1209_1216.out; have hnb77 := NB1216_1214.out; have hnc77 := NB1214_1216.out; obtain ⟨hcz78_0, hcz78_1, hfz78_0, hfz78_1⟩ := BK1216.c2) | ((with_reducible refine gate_callee (f := 86) rfl ?_); refine gL_ (some 48) Tryd.func86 #[.string ((rd_T60 l1_4 x42_2).f0)] ?_; (with_reducible refine (operand_number.calls ((rd_T60 l1_4 x42_2).f0) false _ A31.out).mono ?_); rintro e w79 ⟨rfl, hb⟩; refine ⟨_, rfl, ?_⟩; replace BK1208 := Aside0.mk (blk_below (g := gb1208) (o := .cells #[.bool a0_0, .string a0_1, .string a0_2, .string a0_3, .int .i64 a0_4, .int .i64 a0_5, .string a0_6, .string a0_7, .int .i64 a0_8] 45 (0, 0)) (by refine blk_far ?_ NB1208_1216.out _; refine blk_far ?_ NB1208_1216.out _; exact BK1208.out) hb); replace BK1209 := Aside0.mk (blk_below (g := gb1209) (o := .cells #[.string a1_0, .string a1_1, .bool a1_2, .bool a1_3, .slice (some ad1215) l1_4.length c1_4] 54 (0, 0)) (by refine blk_far ?_ NB1209_1216.out _; refine blk_far ?_ NB1209_1216.out _; exact BK1209.out) hb); replace BK1214 := Aside0.mk (blk_below (g := gb1214) (o := .cells #[.bool t1210, .string t1211, .string t1212] 23 (0, 0)) (by refine blk_far ?_ NB1214_1216.out _; refine blk_far ?_ NB1214_1216.out _; exact BK1214.out) hb); replace BK1216 := Aside0.mk (blk_below (g := gb1216) (o := .cells #[.string ((rd_T60 l1_4 x42_2).f0), .string ((rd_T60 l1_4 x42_2).f1)] 60 (0, 0)) (by refine blk_put (cs := #[.string ((rd_T60 l1_4 x42_2).f0), .string (⟨#[]⟩ : ByteArray)]) ?_ 1 _ rfl; refine blk_put (cs := #[.string (⟨#[]⟩ : ByteArray), .string (⟨#[]⟩ : ByteArray)]) ?_ 0 _ rfl; exact BK1216.out) hb); replace HB := Aside0.mk (below_step hb_ hb)))
           go_ret2
           exact fin_
         ·rw [if_neg c30] at H
          exact absurd H (by simp)
        ·rw [if_neg c29] at H
         exact absurd H (by simp)
       ·rw [if_neg c28] at H
        have c28b0 : decide (x42_2 < (l1_4.length : Int)) = false := decide_eq_false c28
        clear c28
        have H' := Aside0.mk H
        clear H
        have hnb80 := NB1209_1208.out
        have hnc80 := NB1208_1209.out
        have hnb81 := NB1209_1214.out
        have hnc81 := NB1214_1209.out
        obtain ⟨hcz82_0, hcz82_1, hcz82_2, hcz82_3, hcz82_4, hfz82_0, hfz82_1, hfz82_2, hfz82_3, hfz82_4⟩ := BK1209.c5
        go_wp2
        go_loopg [10, 85] k2 (fun kq v10 v85 w' => ∃ (x10_3 : Bool) (x85_3 : Int), v10 = .bool x10_3 ∧ v85 = .int .i64 x85_3 ∧ Aside0 (operand_In.l1 kq x10_3 l1_4 (l1_4.length : Int) x85_3 a1_0 a1_1 a1_2 a1_3 l1_4 t1210 t1211 t1212 = some (r1, r2)) ∧ Aside0 (kq ≤ k2) ∧ Aside0 (w'.heap[gb1208]? = some (.cells #[.bool a0_0, .string a0_1, .string a0_2, .string a0_3, .int .i64 a0_4, .int .i64 a0_5, .string a0_6, .string a0_7, .int .i64 a0_8] 45 (0, 0))) ∧ Aside0 (w'.heap[gb1209]? = some (.cells #[.string a1_0, .string a1_1, .bool a1_2, .bool a1_3, (.slice A1_4 l1_4.length c1_4)] 54 (0, 0))) ∧ Aside0 (w'.heap[gb1214]? = some (.cells #[.bool t1210, .string t1211, .string t1212] 23 (0, 0))) ∧ Aside0 (Below w.heap.size w w'))
        case atStart => exact ⟨(false), (0), (by first | rfl | (simp; done) | (simp [*]; done)), (by first | rfl | (simp; done) | (simp [*]; done)), H', ⟨Nat.le_refl _⟩, ⟨by exact BK1208.out⟩, ⟨by exact BK1209.out⟩, ⟨by exact BK1214.out⟩, ⟨hb_⟩⟩
        case round =>
         clear H'
         (try clear c15); (try clear c15b0); (try clear c15b1); (try clear c24); (try clear c28); (try clear c28b0); (try clear hcz14_0); (try clear hcz14_1); (try clear hcz14_2); (try clear hcz27_0); (try clear hcz27_1); (try clear hcz27_2); (try clear hcz27_3); (try clear hcz27_4); (try clear hcz82_0); (try clear hcz82_1); (try clear hcz82_2); (try clear hcz82_3); (try clear hcz82_4); (try clear hcz8_0); (try clear hcz8_1); (try clear hcz8_2); (try clear hcz8_3); (try clear hcz8_4); (try clear hcz8_5); (try clear hcz8_6); (try clear hcz8_7); (try clear hcz8_8); (try clear hcz9_0); (try clear hcz9_1); (try clear hcz9_2); (try clear hcz9_3); (try clear hcz9_4); (try clear hfz14_0); (try clear hfz14_1); (try clear hfz14_2); (try clear hfz27_0); (try clear hfz27_1); (try clear hfz27_2); (try clear hfz27_3); (try clear hfz27_4); (try clear hfz82_0); (try clear hfz82_1); (try clear hfz82_2); (try clear hfz82_3); (try clear hfz82_4); (try clear hfz8_0); (try clear hfz8_1); (try clear hfz8_2); (try clear hfz8_3); (try clear hfz8_4); (try clear hfz8_5); (try clear hfz8_6); (try clear hfz8_7); (try clear hfz8_8); (try clear hfz9_0); (try clear hfz9_1); (try clear hfz9_2); (try clear hfz9_3); (try clear hfz9_4)
         obtain ⟨x10_3, x85_3, rfl, rfl, HA, HK3, BK1208, BK1209, BK1214, HB⟩ := hrel
         cases gk with
         | zero => exact absurd HA.out (by simp [operand_In.l1])
         | succ k3 =>
          have H := HA.out
          clear HA
          simp only [operand_In.l1] at H
          by_cases c83 : x85_3 < (l1_4.length : Int)
          ·rw [if_pos c83] at H
           have c83b0 : decide (x85_3 < (l1_4.length : Int)) = true := decide_eq_true c83
           clear c83
           by_cases c84 : 0 ≤ x85_3
           ·rw [if_pos c84] at H
            have c84b0 : decide (0 ≤ x85_3) = true := decide_eq_true c84
            clear c84
            by_cases c85 : x85_3 < (l1_4.length : Int)
            ·rw [if_pos c85] at H
             have c85b0 : decide (x85_3 < (l1_4.length : Int)) = true := decide_eq_true c85
             clear c85
             replace H := Option.bind_eq_some_iff.mp H
             obtain ⟨⟨t1221, t1222⟩, A860, H⟩ := H
             try dsimp only at H
             have A86 := Aside0.mk A860
             clear A860
             replace H := Option.bind_eq_some_iff.mp H
             obtain ⟨⟨t1223, t1224⟩, A870, H⟩ := H
             try dsimp only at H
             have A87 := Aside0.mk A870
             clear A870
             by_cases c88 : x10_3 = true
             ·subst c88
              have H1 : (operand_In.l1 k3 true l1_4 (l1_4.length : Int) (wrap64 (x85_3 + 1)) a1_0 a1_1 a1_2 a1_3 l1_4 t1210 t1211 t1212) = some (r1, r2) := by rw [if_pos rfl] at H; exact H
              clear H
              have H := H1
              clear H1
              have H' := Aside0.mk H
              clear H
              have p1219 : 0 ≤ (x85_3 : Int) := of_decide_eq_true (by first | (with_reducible assumption) | assumption)
              have q1219 : x85_3 < (l1_4.length : Int) := of_decide_eq_true (by first | (with_reducible assumption) | assumption)
              obtain ⟨ad1219, e1219, hx1219_0, hx1219_1⟩ := at_T60 HR1_4.out x85_3 p1219 q1219
              cases e1219
              replace hx1219_0 := (HB.out.cell (World.block_lt_of_cell? w _ hx1219_0)).trans hx1219_0
              replace hx1219_1 := (HB.out.cell (World.block_lt_of_cell? w _ hx1219_1)).trans hx1219_1
              replace p1219 := eq_true p1219
              replace q1219 := eq_true q1219
              go_wp2_with (first | ((with_reducible refine gate_dst (N := 12) rfl ?_); (try (refine gate_guard (by rfl) ?_; dsimp only)); refine box_event ?hg (N := 12) ?hd (cs := #[.string (⟨#[]⟩ : ByteArray), .string (⟨#[]⟩ : ByteArray)]) (t := 60) ?hr ?_; (case hd => rfl); (case hg => rfl); (case hr => first | (go_simp; done) | (go_simp; rfl)); intro gb1220 hg w89 hbox hb; have BK1220 := Aside0.mk (hbox); have GW1220 := ge_ (w := w) hg; have GE1220 := ge_ (w := w) hg; have NB1208_1220 := BK1208.nl hg; have NB1220_1208 := BK1208.ng hg; have NB1209_1220 := BK1209.nl hg; have NB1220_1209 := BK1209.ng hg; have NB1214_1220 := BK1214.nl hg; have NB1220_1214 := BK1214.ng hg; replace BK1208 := BK1208.bl hb; replace BK1209 := BK1209.bl hb; replace BK1214 := BK1214.bl hb; replace HB := Aside0.mk (below_step hb_ hb); clear hb hbox hg; have hnb90 := NB1220_1208.out; have hnc90 := NB1208_1220.out; have hnb91 := NB1220_1209.out; have hnc91 := NB1209_1220.out; have hnb92 := NB1220_1214.out; have hnc92 := NB1214_1220.out; obtain ⟨hcz93_0, hcz93_1, hfz93_0, hfz93_1⟩ := BK1220.c2; have hnb94 := NB1214_1208.out; have hnc94 := NB1208_1214.out; have hnb95 := NB1214_1209.out; have hnc95 := NB1209_1214.out; obtain ⟨hcz96_0, hcz96_1, hcz96_2, hfz96_0, hfz96_1, hfz96_2⟩ := BK1214.c3) | ((with_reducible refine gate_callee (f := 29) rfl ?_); refine gL_ (some 94) Tryd.func29 #[.agg #[.bool false, .string ((rd_T60 l1_4 x85_3).f0), .string (⟨#[]⟩ : ByteArray)], .agg #[.bool t1210, .string t1211, .string t1212]] ?_; (with_reducible refine (decimal_Compare.calls k3 false ((rd_T60 l1_4 x85_3).f0) (⟨#[]⟩ : ByteArray) t1210 t1211 t1212 t1221 t1222 _ A86.out).mono ?_); rintro e w97 ⟨rfl, hb⟩; refine ⟨_, rfl, ?_⟩; replace BK1208 := Aside0.mk (blk_below (g := gb1208) (o := .cells #[.bool a0_0, .string a0_1, .string a0_2, .string a0_3, .int .i64 a0_4, .int .i64 a0_5, .string a0_6, .string a0_7, .int .i64 a0_8] 45 (0, 0)) (by refine blk_far ?_ NB1208_1220.out _; refine blk_far ?_ NB1208_1220.out _; exact BK1208.out) hb); replace BK1209 := Aside0.mk (blk_below (g := gb1209) (o := .cells #[.string a1_0, .string a1_1, .bool a1_2, .bool a1_3, .slice (some ad1219) l1_4.length c1_4] 54 (0, 0)) (by refine blk_far ?_ NB1209_1220.out _; refine blk_far ?_ NB1209_1220.out _; exact BK1209.out) hb); replace BK1214 := Aside0.mk (blk_below (g := gb1214) (o := .cells #[.bool t1210, .string t1211, .string t1212] 23 (0, 0)) (by refine blk_far ?_ NB1214_1220.out _; refine blk_far ?_ NB1214_1220.out _; exact BK1214.out) hb); replace BK1220 := Aside0.mk (blk_below (g := gb1220) (o := .cells #[.string ((rd_T60 l1_4 x85_3).f0), .string ((rd_T60 l1_4 x85_3).f1)] 60 (0, 0)) (by refine blk_put (cs := #[.string ((rd_T60 l1_4 x85_3).f0), .string (⟨#[]⟩ : ByteArray)]) ?_ 1 _ rfl; refine blk_put (cs := #[.string (⟨#[]⟩ : ByteArray), .string (⟨#[]⟩ : ByteArray)]) ?_ 0 _ rfl; exact BK1220.out) hb); replace HB := Aside0.mk (below_step hb_ hb); obtain ⟨hcz98_0, hcz98_1, hcz98_2, hfz98_0, hfz98_1, hfz98_2⟩ := BK1214.c3; obtain ⟨hcz99_0, hcz99_1, hfz99_0, hfz99_1⟩ := BK1220.c2) | ((with_reducible refine gate_callee (f := 29) rfl ?_); refine gL_ (some 102) Tryd.func29 #[.agg #[.bool t1210, .string t1211, .string t1212], .agg #[.bool false, .string ((rd_T60 l1_4 x85_3).f1), .string (⟨#[]⟩ : ByteArray)]] ?_; (with_reducible refine (decimal_Compare.calls k3 t1210 t1211 t1212 false ((rd_T60 l1_4 x85_3).f1) (⟨#[]⟩ : ByteArray) t1223 t1224 _ A87.out).mono ?_); rintro e w100 ⟨rfl, hb⟩; refine ⟨_, rfl, ?_⟩; replace BK1208 := BK1208.bl hb; replace BK1209 := BK1209.bl hb; replace BK1214 := BK1214.bl hb; replace BK1220 := BK1220.bl hb; replace HB := Aside0.mk (below_step hb_ hb)))
              go_roundg k3
              case measure => have := HJ15.out; have := HK2.out; have := HK3.out; omega
              case rel => exact ⟨(true), (wrap64 (x85_3 + 1)), (by first | rfl | (simp; done) | (simp [*]; done)), (by first | rfl | (simp; done) | (simp [*]; done)), H', ⟨by have := HJ15.out; have := HK2.out; have := HK3.out; omega⟩, ⟨by exact BK1208.out⟩, ⟨by exact BK1209.out⟩, ⟨by exact BK1214.out⟩, ⟨hb_⟩⟩
             ·replace c88 := Bool.eq_false_iff.mpr c88
              subst c88
              have H1 : (if t1221 ≤ 0 then (operand_In.l1 k3 (decide (t1223 ≤ 0)) l1_4 (l1_4.length : Int) (wrap64 (x85_3 + 1)) a1_0 a1_1 a1_2 a1_3 l1_4 t1210 t1211 t1212) else (operand_In.l1 k3 false l1_4 (l1_4.length : Int) (wrap64 (x85_3 + 1)) a1_0 a1_1 a1_2 a1_3 l1_4 t1210 t1211 t1212)) = some (r1, r2) := by rw [if_neg (show ¬ (false = true) by decide)] at H; exact H
              clear H
              have H := H1
              clear H1
              by_cases c101 : t1221 ≤ 0
              ·rw [if_pos c101] at H
               have c101b0 : decide (t1221 ≤ 0) = true := decide_eq_true c101
               clear c101
               have H' := Aside0.mk H
               clear H
               have p1219 : 0 ≤ (x85_3 : Int) := of_decide_eq_true (by first | (with_reducible assumption) | assumption)
               have q1219 : x85_3 < (l1_4.length : Int) := of_decide_eq_true (by first | (with_reducible assumption) | assumption)
               obtain ⟨ad1219, e1219, hx1219_0, hx1219_1⟩ := at_T60 HR1_4.out x85_3 p1219 q1219
               cases e1219
               replace hx1219_0 := (HB.out.cell (World.block_lt_of_cell? w _ hx1219_0)).trans hx1219_0
               replace hx1219_1 := (HB.out.cell (World.block_lt_of_cell? w _ hx1219_1)).trans hx1219_1
               replace p1219 := eq_true p1219
               replace q1219 := eq_true q1219
               go_wp2_with (first | ((with_reducible refine gate_dst (N := 12) rfl ?_); (try (refine gate_guard (by rfl) ?_; dsimp only)); refine box_event ?hg (N := 12) ?hd (cs := #[.string (⟨#[]⟩ : ByteArray), .string (⟨#[]⟩ : ByteArray)]) (t := 60) ?hr ?_; (case hd => rfl); (case hg => rfl); (case hr => first | (go_simp; done) | (go_simp; rfl)); intro gb1220 hg w102 hbox hb; have BK1220 := Aside0.mk (hbox); have GW1220 := ge_ (w := w) hg; have GE1220 := ge_ (w := w) hg; have NB1208_1220 := BK1208.nl hg; have NB1220_1208 := BK1208.ng hg; have NB1209_1220 := BK1209.nl hg; have NB1220_1209 := BK1209.ng hg; have NB1214_1220 := BK1214.nl hg; have NB1220_1214 := BK1214.ng hg; replace BK1208 := BK1208.bl hb; replace BK1209 := BK1209.bl hb; replace BK1214 := BK1214.bl hb; replace HB := Aside0.mk (below_step hb_ hb); clear hb hbox hg; have hnb103 := NB1220_1208.out; have hnc103 := NB1208_1220.out; have hnb104 := NB1220_1209.out; have hnc104 := NB1209_1220.out; have hnb105 := NB1220_1214.out; have hnc105 := NB1214_1220.out; obtain ⟨hcz106_0, hcz106_1, hfz106_0, hfz106_1⟩ := BK1220.c2; have hnb107 := NB1214_1208.out; have hnc107 := NB1208_1214.out; have hnb108 := NB1214_1209.out; have hnc108 := NB1209_1214.out; obtain ⟨hcz109_0, hcz109_1, hcz109_2, hfz109_0, hfz109_1, hfz109_2⟩ := BK1214.c3) | ((with_reducible refine gate_callee (f := 29) rfl ?_); refine gL_ (some 94) Tryd.func29 #[.agg #[.bool false, .string ((rd_T60 l1_4 x85_3).f0), .string (⟨#[]⟩ : ByteArray)], .agg #[.bool t1210, .string t1211, .string t1212]] ?_; (with_reducible refine (decimal_Compare.calls k3 false ((rd_T60 l1_4 x85_3).f0) (⟨#[]⟩ : ByteArray) t1210 t1211 t1212 t1221 t1222 _ A86.out).mono ?_); rintro e w110 ⟨rfl, hb⟩; refine ⟨_, rfl, ?_⟩; replace BK1208 := Aside0.mk (blk_below (g := gb1208) (o := .cells #[.bool a0_0, .string a0_1, .string a0_2, .string a0_3, .int .i64 a0_4, .int .i64 a0_5, .string a0_6, .string a0_7, .int .i64 a0_8] 45 (0, 0)) (by refine blk_far ?_ NB1208_1220.out _; refine blk_far ?_ NB1208_1220.out _; exact BK1208.out) hb); replace BK1209 := Aside0.mk (blk_below (g := gb1209) (o := .cells #[.string a1_0, .string a1_1, .bool a1_2, .bool a1_3, .slice (some ad1219) l1_4.length c1_4] 54 (0, 0)) (by refine blk_far ?_ NB1209_1220.out _; refine blk_far ?_ NB1209_1220.out _; exact BK1209.out) hb); replace BK1214 := Aside0.mk (blk_below (g := gb1214) (o := .cells #[.bool t1210, .string t1211, .string t1212] 23 (0, 0)) (by refine blk_far ?_ NB1214_1220.out _; refine blk_far ?_ NB1214_1220.out _; exact BK1214.out) hb); replace BK1220 := Aside0.mk (blk_below (g := gb1220) (o := .cells #[.string ((rd_T60 l1_4 x85_3).f0), .string ((rd_T60 l1_4 x85_3).f1)] 60 (0, 0)) (by refine blk_put (cs := #[.string ((rd_T60 l1_4 x85_3).f0), .string (⟨#[]⟩ : ByteArray)]) ?_ 1 _ rfl; refine blk_put (cs := #[.string (⟨#[]⟩ : ByteArray), .string (⟨#[]⟩ : ByteArray)]) ?_ 0 _ rfl; exact BK1220.out) hb); replace HB := Aside0.mk (below_step hb_ hb); obtain ⟨hcz111_0, hcz111_1, hcz111_2, hfz111_0, hfz111_1, hfz111_2⟩ := BK1214.c3; obtain ⟨hcz112_0, hcz112_1, hfz112_0, hfz112_1⟩ := BK1220.c2) | ((with_reducible refine gate_callee (f := 29) rfl ?_); refine gL_ (some 102) Tryd.func29 #[.agg #[.bool t1210, .string t1211, .string t1212], .agg #[.bool false, .string ((rd_T60 l1_4 x85_3).f1), .string (⟨#[]⟩ : ByteArray)]] ?_; (with_reducible refine (decimal_Compare.calls k3 t1210 t1211 t1212 false ((rd_T60 l1_4 x85_3).f1) (⟨#[]⟩ : ByteArray) t1223 t1224 _ A87.out).mono ?_); rintro e w113 ⟨rfl, hb⟩; refine ⟨_, rfl, ?_⟩; replace BK1208 := BK1208.bl hb; replace BK1209 := BK1209.bl hb; replace BK1214 := BK1214.bl hb; replace BK1220 := BK1220.bl hb; replace HB := Aside0.mk (below_step hb_ hb)))
               go_roundg k3
               case measure => have := HJ15.out; have := HK2.out; have := HK3.out; omega
               case rel => exact ⟨(decide (t1223 ≤ 0)), (wrap64 (x85_3 + 1)), (by first | rfl | (simp; done) | (simp [*]; done)), (by first | rfl | (simp; done) | (simp [*]; done)), H', ⟨by have := HJ15.out; have := HK2.out; have := HK3.out; omega⟩, ⟨by exact BK1208.out⟩, ⟨by exact BK1209.out⟩, ⟨by exact BK1214.out⟩, ⟨hb_⟩⟩
              ·rw [if_neg c101] at H
               have c101b0 : decide (t1221 ≤ 0) = false := decide_eq_false c101
               clear c101
               have H' := Aside0.mk H
               clear H
               have p1219 : 0 ≤ (x85_3 : Int) := of_decide_eq_true (by first | (with_reducible assumption) | assumption)
               have q1219 : x85_3 < (l1_4.length : Int) := of_decide_eq_true (by first | (with_reducible assumption) | assumption)
               obtain ⟨ad1219, e1219, hx1219_0, hx1219_1⟩ := at_T60 HR1_4.out x85_3 p1219 q1219
               cases e1219
               replace hx1219_0 := (HB.out.cell (World.block_lt_of_cell? w _ hx1219_0)).trans hx1219_0
               replace hx1219_1 := (HB.out.cell (World.block_lt_of_cell? w _ hx1219_1)).trans hx1219_1
               replace p1219 := eq_true p1219
               replace q1219 := eq_true q1219
               go_wp2_with (first | ((with_reducible refine gate_dst (N := 12) rfl ?_); (try (refine gate_guard (by rfl) ?_; dsimp only)); refine box_event ?hg (N := 12) ?hd (cs := #[.string (⟨#[]⟩ : ByteArray), .string (⟨#[]⟩ : ByteArray)]) (t := 60) ?hr ?_; (case hd => rfl); (case hg => rfl); (case hr => first | (go_simp; done) | (go_simp; rfl)); intro gb1220 hg w114 hbox hb; have BK1220 := Aside0.mk (hbox); have GW1220 := ge_ (w := w) hg; have GE1220 := ge_ (w := w) hg; have NB1208_1220 := BK1208.nl hg; have NB1220_1208 := BK1208.ng hg; have NB1209_1220 := BK1209.nl hg; have NB1220_1209 := BK1209.ng hg; have NB1214_1220 := BK1214.nl hg; have NB1220_1214 := BK1214.ng hg; replace BK1208 := BK1208.bl hb; replace BK1209 := BK1209.bl hb; replace BK1214 := BK1214.bl hb; replace HB := Aside0.mk (below_step hb_ hb); clear hb hbox hg; have hnb115 := NB1220_1208.out; have hnc115 := NB1208_1220.out; have hnb116 := NB1220_1209.out; have hnc116 := NB1209_1220.out; have hnb117 := NB1220_1214.out; have hnc117 := NB1214_1220.out; obtain ⟨hcz118_0, hcz118_1, hfz118_0, hfz118_1⟩ := BK1220.c2; have hnb119 := NB1214_1208.out; have hnc119 := NB1208_1214.out; have hnb120 := NB1214_1209.out; have hnc120 := NB1209_1214.out; obtain ⟨hcz121_0, hcz121_1, hcz121_2, hfz121_0, hfz121_1, hfz121_2⟩ := BK1214.c3) | ((with_reducible refine gate_callee (f := 29) rfl ?_); refine gL_ (some 94) Tryd.func29 #[.agg #[.bool false, .string ((rd_T60 l1_4 x85_3).f0), .string (⟨#[]⟩ : ByteArray)], .agg #[.bool t1210, .string t1211, .string t1212]] ?_; (with_reducible refine (decimal_Compare.calls k3 false ((rd_T60 l1_4 x85_3).f0) (⟨#[]⟩ : ByteArray) t1210 t1211 t1212 t1221 t1222 _ A86.out).mono ?_); rintro e w122 ⟨rfl, hb⟩; refine ⟨_, rfl, ?_⟩; replace BK1208 := Aside0.mk (blk_below (g := gb1208) (o := .cells #[.bool a0_0, .string a0_1, .string a0_2, .string a0_3, .int .i64 a0_4, .int .i64 a0_5, .string a0_6, .string a0_7, .int .i64 a0_8] 45 (0, 0)) (by refine blk_far ?_ NB1208_1220.out _; refine blk_far ?_ NB1208_1220.out _; exact BK1208.out) hb); replace BK1209 := Aside0.mk (blk_below (g := gb1209) (o := .cells #[.string a1_0, .string a1_1, .bool a1_2, .bool a1_3, .slice (some ad1219) l1_4.length c1_4] 54 (0, 0)) (by refine blk_far ?_ NB1209_1220.out _; refine blk_far ?_ NB1209_1220.out _; exact BK1209.out) hb); replace BK1214 := Aside0.mk (blk_below (g := gb1214) (o := .cells #[.bool t1210, .string t1211, .string t1212] 23 (0, 0)) (by refine blk_far ?_ NB1214_1220.out _; refine blk_far ?_ NB1214_1220.out _; exact BK1214.out) hb); replace BK1220 := Aside0.mk (blk_below (g := gb1220) (o := .cells #[.string ((rd_T60 l1_4 x85_3).f0), .string ((rd_T60 l1_4 x85_3).f1)] 60 (0, 0)) (by refine blk_put (cs := #[.string ((rd_T60 l1_4 x85_3).f0), .string (⟨#[]⟩ : ByteArray)]) ?_ 1 _ rfl; refine blk_put (cs := #[.string (⟨#[]⟩ : ByteArray), .string (⟨#[]⟩ : ByteArray)]) ?_ 0 _ rfl; exact BK1220.out) hb); replace HB := Aside0.mk (below_step hb_ hb); obtain ⟨hcz123_0, hcz123_1, hcz123_2, hfz123_0, hfz123_1, hfz123_2⟩ := BK1214.c3; obtain ⟨hcz124_0, hcz124_1, hfz124_0, hfz124_1⟩ := BK1220.c2) | ((with_reducible refine gate_callee (f := 29) rfl ?_); refine gL_ (some 102) Tryd.func29 #[.agg #[.bool t1210, .string t1211, .string t1212], .agg #[.bool false, .string ((rd_T60 l1_4 x85_3).f1), .string (⟨#[]⟩ : ByteArray)]] ?_; (with_reducible refine (decimal_Compare.calls k3 t1210 t1211 t1212 false ((rd_T60 l1_4 x85_3).f1) (⟨#[]⟩ : ByteArray) t1223 t1224 _ A87.out).mono ?_); rintro e w125 ⟨rfl, hb⟩; refine ⟨_, rfl, ?_⟩; replace BK1208 := BK1208.bl hb; replace BK1209 := BK1209.bl hb; replace BK1214 := BK1214.bl hb; replace BK1220 := BK1220.bl hb; replace HB := Aside0.mk (below_step hb_ hb)))
               go_roundg k3
               case measure => have := HJ15.out; have := HK2.out; have := HK3.out; omega
               case rel => exact ⟨(false), (wrap64 (x85_3 + 1)), (by first | rfl | (simp; done) | (simp [*]; done)), (by first | rfl | (simp; done) | (simp [*]; done)), H', ⟨by have := HJ15.out; have := HK2.out; have := HK3.out; omega⟩, ⟨by exact BK1208.out⟩, ⟨by exact BK1209.out⟩, ⟨by exact BK1214.out⟩, ⟨hb_⟩⟩
            ·rw [if_neg c85] at H
             exact absurd H (by simp)
           ·rw [if_neg c84] at H
            exact absurd H (by simp)
          ·rw [if_neg c83] at H
           have c83b0 : decide (x85_3 < (l1_4.length : Int)) = false := decide_eq_false c83
           clear c83
           by_cases c126 : a1_3 = true
           ·subst c126
            have H1 : (some ((x10_3 != a1_2), 0)) = some (r1, r2) := by rw [if_pos rfl] at H; exact H
            clear H
            have H := H1
            clear H1
            simp only [Option.some.injEq, Prod.mk.injEq] at H
            obtain ⟨rfl, rfl⟩ := H
            have hnb127 := NB1209_1208.out
            have hnc127 := NB1208_1209.out
            have hnb128 := NB1209_1214.out
            have hnc128 := NB1214_1209.out
            obtain ⟨hcz129_0, hcz129_1, hcz129_2, hcz129_3, hcz129_4, hfz129_0, hfz129_1, hfz129_2, hfz129_3, hfz129_4⟩ := BK1209.c5
            go_wp2
            go_ret2
            exact fin_
           ·replace c126 := Bool.eq_false_iff.mpr c126
            subst c126
            have H1 : ((strings_Trim.f t1212 (⟨#[48]⟩ : ByteArray)).bind fun t1225 => (if t1225.toList = ([] : List UInt8) then (some ((x10_3 != a1_2), 0)) else (some ((false != a1_2), 0)))) = some (r1, r2) := by rw [if_neg (show ¬ (false = true) by decide)] at H; exact H
            clear H
            have H := H1
            clear H1
            replace H := Option.bind_eq_some_iff.mp H
            obtain ⟨t1225, A1300, H⟩ := H
            try dsimp only at H
            have A130 := Aside0.mk A1300
            clear A1300
            have HF131 := Aside0.mk H
            clear H
            have hnb132 := NB1209_1208.out
            have hnc132 := NB1208_1209.out
            have hnb133 := NB1209_1214.out
            have hnc133 := NB1214_1209.out
            obtain ⟨hcz134_0, hcz134_1, hcz134_2, hcz134_3, hcz134_4, hfz134_0, hfz134_1, hfz134_2, hfz134_3, hfz134_4⟩ := BK1209.c5
            have hnb135 := NB1214_1208.out
            have hnc135 := NB1208_1214.out
            obtain ⟨hcz136_0, hcz136_1, hcz136_2, hfz136_0, hfz136_1, hfz136_2⟩ := BK1214.c3
            go_upto_if 123 with (first | (go_at_call 87; (with_reducible refine (strings_Trim.calls t1212 (⟨#[48]⟩ : ByteArray) t1225 _ A130.out).mono ?_); rintro e w137 ⟨rfl, hb⟩; replace BK1208 := BK1208.bl hb; replace BK1209 := BK1209.bl hb; replace BK1214 := BK1214.bl hb; replace HB := Aside0.mk (below_step hb_ hb)))
            (try simp only [Act.put, List.setIfInBounds_toArray, List.set_cons_zero, List.set_cons_succ])
            have H := HF131.out
            clear HF131
            by_cases c138 : t1225.toList = ([] : List UInt8)
            ·rw [if_pos c138] at H
             have c138b0 : (t1225.toList == ([] : List UInt8)) = true := beq_iff_eq.mpr c138
             have c138b1 : (t1225.toList != ([] : List UInt8)) = false := bne_eq_false_iff_eq.mpr c138
             clear c138
             (first | rw [c138b0] | (simp only [i64_w, i32_w]; rw [c138b0]) | rw [c138b1] | rw [(by rw [← c138b0]; cases t1225.toList <;> rfl : t1225.toList.isEmpty = true)] | skip)
             simp only [Option.some.injEq, Prod.mk.injEq] at H
             obtain ⟨rfl, rfl⟩ := H
             have hnb139 := NB1209_1208.out
             have hnc139 := NB1208_1209.out
             have hnb140 := NB1209_1214.out
             have hnc140 := NB1214_1209.out
             obtain ⟨hcz141_0, hcz141_1, hcz141_2, hcz141_3, hcz141_4, hfz141_0, hfz141_1, hfz141_2, hfz141_3, hfz141_4⟩ := BK1209.c5
             go_wp2
             go_ret2
             exact fin_
            ·rw [if_neg c138] at H
             have c138b0 : (t1225.toList == ([] : List UInt8)) = false := beq_eq_false_iff_ne.mpr c138
             have c138b1 : (t1225.toList != ([] : List UInt8)) = true := bne_iff_ne.mpr c138
             (first | rw [c138b0] | (simp only [i64_w, i32_w]; rw [c138b0]) | rw [c138b1] | rw [(by rw [← c138b0]; cases t1225.toList <;> rfl : t1225.toList.isEmpty = false)] | skip)
             simp only [Option.some.injEq, Prod.mk.injEq] at H
             obtain ⟨rfl, rfl⟩ := H
             have hnb142 := NB1209_1208.out
             have hnc142 := NB1208_1209.out
             have hnb143 := NB1209_1214.out
             have hnc143 := NB1214_1209.out
             obtain ⟨hcz144_0, hcz144_1, hcz144_2, hcz144_3, hcz144_4, hfz144_0, hfz144_1, hfz144_2, hfz144_3, hfz144_4⟩ := BK1209.c5
             go_wp2
             go_ret2
             exact fin_
 ·rw [if_neg c15] at H
  have c15b0 : (t1213 == 0) = false := beq_eq_false_iff_ne.mpr c15
  have c15b1 : (t1213 != 0) = true := bne_iff_ne.mpr c15
  (first | rw [c15b0] | (simp only [i64_w, i32_w]; rw [c15b0]) | rw [c15b1] | skip)
  simp only [Option.some.injEq, Prod.mk.injEq] at H
  obtain ⟨rfl, rfl⟩ := H
  go_wp2
  go_ret2
  exact fin_
attribute [local go_sem] max2_int max_two
set_option linter.unusedVariables false
set_option linter.unusedSimpArgs false
mutual
def idiomlaw04_OperandLists.j0 : Nat → Bool → Int → Bool → Bool → Bool → Bool → ByteArray → ByteArray → ByteArray → Int → Int → ByteArray → ByteArray → Int → ByteArray → ByteArray → Bool → Bool → List (S60) → ByteArray → ByteArray → Bool → Bool → List (S60) → Option (Bool)
  | 0, _, _, _, _, _, _, _, _, _, _, _, _, _, _, _, _, _, _, _, _, _, _, _, _ => none
  | k + 1, x8, x9, x10, x12, x65, x1227000, x1227001, x1227002, x1227003, x1227004, x1227005, x1227006, x1227007, x1227008, x1228000, x1228001, x1228002, x1228003, x1228004, x1251000, x1251001, x1251002, x1251003, x1251004 => if x65 = true then (some false) else (if x9 = 0 then (if (x8 == x10) = true then (idiomlaw04_OperandLists.j1 k x8 x12 true x1227000 x1227001 x1227002 x1227003 x1227004 x1227005 x1227006 x1227007 x1227008 x1228000 x1228001 x1228002 x1228003 x1228004 x1251000 x1251001 x1251002 x1251003 x1251004) else (if x8 = true then (idiomlaw04_OperandLists.j1 k x8 x12 (!x12) x1227000 x1227001 x1227002 x1227003 x1227004 x1227005 x1227006 x1227007 x1227008 x1228000 x1228001 x1228002 x1228003 x1228004 x1251000 x1251001 x1251002 x1251003 x1251004) else (idiomlaw04_OperandLists.j1 k x8 x12 false x1227000 x1227001 x1227002 x1227003 x1227004 x1227005 x1227006 x1227007 x1227008 x1228000 x1228001 x1228002 x1228003 x1228004 x1251000 x1251001 x1251002 x1251003 x1251004))) else (if x8 = true then (some false) else (if x10 = true then (some false) else (some (!x12)))))
def idiomlaw04_OperandLists.j1 : Nat → Bool → Bool → Bool → Bool → ByteArray → ByteArray → ByteArray → Int → Int → ByteArray → ByteArray → Int → ByteArray → ByteArray → Bool → Bool → List (S60) → ByteArray → ByteArray → Bool → Bool → List (S60) → Option (Bool)
  | 0, _, _, _, _, _, _, _, _, _, _, _, _, _, _, _, _, _, _, _, _, _, _ => none
  | k + 1, x8, x12, x87, x1227000, x1227001, x1227002, x1227003, x1227004, x1227005, x1227006, x1227007, x1227008, x1228000, x1228001, x1228002, x1228003, x1228004, x1251000, x1251001, x1251002, x1251003, x1251004 => if x87 = true then (some false) else ((operand_Mod.f k x1227000 x1227001 x1227002 x1227003 x1227004 x1227005 x1227006 x1227007 x1227008 x1228000 x1228001).bind fun bt1266 => ((decimal_Trim.f k bt1266.1 bt1266.2.1 bt1266.2.2.1).bind fun bt1271 => (if bt1266.2.2.2 = 0 then (if bt1271.2.2.2 = 0 then (if x12 = true then (idiomlaw04_OperandLists.j2 k x8 (x8 != (bt1271.2.2.1.toList == ([] : List UInt8))) x1227000 x1227001 x1227002 x1227003 x1227004 x1227005 x1227006 x1227007 x1227008 x1228000 x1228001 x1228002 x1228003 x1228004 x1251000 x1251001 x1251002 x1251003 x1251004) else (idiomlaw04_OperandLists.j2 k x8 false x1227000 x1227001 x1227002 x1227003 x1227004 x1227005 x1227006 x1227007 x1227008 x1228000 x1228001 x1228002 x1228003 x1228004 x1251000 x1251001 x1251002 x1251003 x1251004)) else (idiomlaw04_OperandLists.j2 k x8 true x1227000 x1227001 x1227002 x1227003 x1227004 x1227005 x1227006 x1227007 x1227008 x1228000 x1228001 x1228002 x1228003 x1228004 x1251000 x1251001 x1251002 x1251003 x1251004)) else (idiomlaw04_OperandLists.j2 k x8 true x1227000 x1227001 x1227002 x1227003 x1227004 x1227005 x1227006 x1227007 x1227008 x1228000 x1228001 x1228002 x1228003 x1228004 x1251000 x1251001 x1251002 x1251003 x1251004))))
def idiomlaw04_OperandLists.j2 : Nat → Bool → Bool → Bool → ByteArray → ByteArray → ByteArray → Int → Int → ByteArray → ByteArray → Int → ByteArray → ByteArray → Bool → Bool → List (S60) → ByteArray → ByteArray → Bool → Bool → List (S60) → Option (Bool)
  | 0, _, _, _, _, _, _, _, _, _, _, _, _, _, _, _, _, _, _, _, _, _ => none
  | k + 1, x8, x117, x1227000, x1227001, x1227002, x1227003, x1227004, x1227005, x1227006, x1227007, x1227008, x1228000, x1228001, x1228002, x1228003, x1228004, x1251000, x1251001, x1251002, x1251003, x1251004 => if x117 = true then (some false) else ((idiomlaw04_copied.f x1251000 x1251001 x1251002 x1251003 x1251004).bind fun bt1276 => (idiomlaw04_OperandLists.l0 k x8 false 0 x1227000 x1227001 x1227002 x1227003 x1227004 x1227005 x1227006 x1227007 x1227008 x1228000 x1228001 x1228002 x1228003 x1228004 x1251000 x1251001 x1251002 x1251003 x1251004 bt1276.1 bt1276.2.1 bt1276.2.2.1 bt1276.2.2.2.1 bt1276.2.2.2.2))
def idiomlaw04_OperandLists.l0 : Nat → Bool → Bool → Int → Bool → ByteArray → ByteArray → ByteArray → Int → Int → ByteArray → ByteArray → Int → ByteArray → ByteArray → Bool → Bool → List (S60) → ByteArray → ByteArray → Bool → Bool → List (S60) → ByteArray → ByteArray → Bool → Bool → List (S60) → Option (Bool)
  | 0, _, _, _, _, _, _, _, _, _, _, _, _, _, _, _, _, _, _, _, _, _, _, _, _, _, _, _ => none
  | k + 1, x8, x18, x20, x1227000, x1227001, x1227002, x1227003, x1227004, x1227005, x1227006, x1227007, x1227008, x1228000, x1228001, x1228002, x1228003, x1228004, x1251000, x1251001, x1251002, x1251003, x1251004, x1284000, x1284001, x1284002, x1284003, x1284004 => if x20 < (x1228004.length : Int) then ((idiomlaw04_copied.f x1251000 x1251001 x1251002 x1251003 x1251004).bind fun bt1286 => (if 0 ≤ x20 then ((operand_In.f k x1227000 x1227001 x1227002 x1227003 x1227004 x1227005 x1227006 x1227007 x1227008 bt1286.1 bt1286.2.1 bt1286.2.2.1 bt1286.2.2.2.1 (([(⟨(rd_T60 x1228004 x20).f0, (rd_T60 x1228004 x20).f1⟩ : S60)] : List (S60)))).bind fun bt1298 => (if bt1298.2 = 0 then (if x18 = true then (if 0 ≤ (wrap64 ((wrap64 ((x1228004.length : Int) - 1)) - x20)) then (if (wrap64 ((wrap64 ((x1228004.length : Int) - 1)) - x20)) < (x1284004.length : Int) then (idiomlaw04_OperandLists.l0 k x8 true (wrap64 (x20 + 1)) x1227000 x1227001 x1227002 x1227003 x1227004 x1227005 x1227006 x1227007 x1227008 x1228000 x1228001 x1228002 x1228003 x1228004 x1251000 x1251001 x1251002 x1251003 x1251004 x1284000 x1284001 x1284002 x1284003 (x1284004.set ((wrap64 ((wrap64 ((x1228004.length : Int) - 1)) - x20)) : Int).toNat (⟨(rd_T60 x1228004 x20).f0, (rd_T60 x1228004 x20).f1⟩ : S60))) else (none)) else (none)) else (if 0 ≤ (wrap64 ((wrap64 ((x1228004.length : Int) - 1)) - x20)) then (if (wrap64 ((wrap64 ((x1228004.length : Int) - 1)) - x20)) < (x1284004.length : Int) then (idiomlaw04_OperandLists.l0 k x8 bt1298.1 (wrap64 (x20 + 1)) x1227000 x1227001 x1227002 x1227003 x1227004 x1227005 x1227006 x1227007 x1227008 x1228000 x1228001 x1228002 x1228003 x1228004 x1251000 x1251001 x1251002 x1251003 x1251004 x1284000 x1284001 x1284002 x1284003 (x1284004.set ((wrap64 ((wrap64 ((x1228004.length : Int) - 1)) - x20)) : Int).toNat (⟨(rd_T60 x1228004 x20).f0, (rd_T60 x1228004 x20).f1⟩ : S60))) else (none)) else (none))) else (some false))) else (none))) else ((operand_In.f k x1227000 x1227001 x1227002 x1227003 x1227004 x1227005 x1227006 x1227007 x1227008 x1284000 x1284001 x1284002 x1284003 x1284004).bind fun bt1284 => (if (x18 == x8) = true then (if bt1284.2 = 0 then (some (bt1284.1 == x8)) else (some false)) else (some false)))
end
def idiomlaw04_OperandLists.f (k : Nat) (a0_0 : Bool) (a0_1 : ByteArray) (a0_2 : ByteArray) (a0_3 : ByteArray) (a0_4 : Int) (a0_5 : Int) (a0_6 : ByteArray) (a0_7 : ByteArray) (a0_8 : Int) (a1_0 : ByteArray) (a1_1 : ByteArray) (a1_2 : Bool) (a1_3 : Bool) (l1_4 : List (S60)) : Option (Bool) := (idiomlaw04_awake.f k).bind fun t1228 => (if t1228 = true then ((idiomlaw04_copied.f a1_0 a1_1 a1_2 a1_3 l1_4).bind fun bt1229 => ((idiomlaw04_copied.f a1_0 a1_1 a1_2 a1_3 l1_4).bind fun bt1236 => ((idiomlaw04_copied.f a1_0 a1_1 a1_2 a1_3 l1_4).bind fun bt1243 => ((idiomlaw04_copied.f bt1229.1 bt1229.2.1 false false bt1229.2.2.2.2).bind fun bt1253 => ((operand_In.f k a0_0 a0_1 a0_2 a0_3 a0_4 a0_5 a0_6 a0_7 a0_8 bt1253.1 bt1253.2.1 bt1253.2.2.1 bt1253.2.2.2.1 bt1253.2.2.2.2).bind fun bt1260 => ((operand_In.f k a0_0 a0_1 a0_2 a0_3 a0_4 a0_5 a0_6 a0_7 a0_8 bt1236.1 bt1236.2.1 true false bt1236.2.2.2.2).bind fun bt1262 => ((operand_In.f k a0_0 a0_1 a0_2 a0_3 a0_4 a0_5 a0_6 a0_7 a0_8 bt1243.1 bt1243.2.1 false true bt1243.2.2.2.2).bind fun bt1264 => (if bt1260.2 = bt1262.2 then (idiomlaw04_OperandLists.j0 k bt1260.1 bt1260.2 bt1262.1 bt1264.1 (bt1260.2 != bt1264.2) a0_0 a0_1 a0_2 a0_3 a0_4 a0_5 a0_6 a0_7 a0_8 a1_0 a1_1 a1_2 a1_3 l1_4 bt1229.1 bt1229.2.1 false false bt1229.2.2.2.2) else (idiomlaw04_OperandLists.j0 k bt1260.1 bt1260.2 bt1262.1 bt1264.1 true a0_0 a0_1 a0_2 a0_3 a0_4 a0_5 a0_6 a0_7 a0_8 a1_0 a1_1 a1_2 a1_3 l1_4 bt1229.1 bt1229.2.1 false false bt1229.2.2.2.2))))))))) else (some false))
def idiomlaw04_OperandLists.T3 : Bool × List (List Nat × List Nat) := (true, [([], []), ([0], [0]), ([], []), ([2, 1], [2]), ([], []), ([4, 3], [4]), ([], []), ([], []), ([], []), ([6, 1, 5, 0, 1, 6, 7, 8], [1, 6]), ([7, 3, 9, 0, 1, 2, 3, 6, 7, 8, 9], [3, 7]), ([8, 5, 10, 0, 1, 2, 3, 4, 5, 6, 7, 8, 9, 10], [5, 8])])
def idiomlaw04_OperandLists.B3 : List Nat := [0, 1, 0, 7, 0, 31, 0, 0, 0, 511, 1023, 2047]
theorem idiomlaw04_OperandLists.tab3 : rtab .any (opsOf Tryd.f15 3) = idiomlaw04_OperandLists.T3 := by kernel_rfl
theorem idiomlaw04_OperandLists.bits3 : waitsOk idiomlaw04_OperandLists.T3.2 idiomlaw04_OperandLists.B3 = true := by kernel_rfl
def idiomlaw04_OperandLists.T7 : Bool × List (List Nat × List Nat) := (true, [([], []), ([], []), ([1], [1]), ([0, 2, 2], [0, 2]), ([3], [3]), ([4], [4]), ([4], [4]), ([5, 3, 0, 1, 2, 3, 4, 5], [5]), ([6, 7, 0, 1, 2, 3, 4, 5, 6, 7], [6])])
def idiomlaw04_OperandLists.B7 : List Nat := [0, 0, 2, 7, 15, 31, 31, 63, 255]
theorem idiomlaw04_OperandLists.tab7 : rtab .any (opsOf Tryd.f15 7) = idiomlaw04_OperandLists.T7 := by kernel_rfl
theorem idiomlaw04_OperandLists.bits7 : waitsOk idiomlaw04_OperandLists.T7.2 idiomlaw04_OperandLists.B7 = true := by kernel_rfl
def idiomlaw04_OperandLists.T31 : Bool × List (List Nat × List Nat) := (true, [([], []), ([0], [0]), ([], []), ([2], [2]), ([3], [3]), ([4], [4]), ([], []), ([5, 6], [5, 6]), ([], []), ([8], [8]), ([], []), ([9, 10], [9, 10]), ([11], [11]), ([1, 7, 0, 1, 2, 3, 4, 5, 6, 7, 8, 9, 10, 11, 12], [1, 7]), ([13, 12, 0, 1, 2, 3, 4, 5, 6, 7, 8, 9, 10, 11, 12], [12, 13])])
def idiomlaw04_OperandLists.B31 : List Nat := [0, 1, 0, 4, 12, 28, 0, 124, 0, 256, 0, 1792, 3840, 8191, 16383]
theorem idiomlaw04_OperandLists.tab31 : rtab .any (opsOf Tryd.f15 31) = idiomlaw04_OperandLists.T31 := by kernel_rfl
theorem idiomlaw04_OperandLists.bits31 : waitsOk idiomlaw04_OperandLists.T31.2 idiomlaw04_OperandLists.B31 = true := by kernel_rfl
theorem nm_ {a b : Act} (h : a = b := by first | (simp only [putAll, Act.put, List.setIfInBounds_toArray, List.set_cons_zero, List.set_cons_succ]; done) | (simp only [putAll, Act.put, List.setIfInBounds_toArray, List.set_cons_zero, List.set_cons_succ]; rfl)) : a = b := h
theorem bw_ {α : Type} {d : Kd α} {e : Nat} {w w1 : World} {base : Nat} {ok : Nat → Prop} {v : Value} {xs : List α} (h : Aside0 (Kd.R d e w base ok v xs)) (hb : Below w.heap.size w w1) : Aside0 (Kd.R d e w1 base ok v xs) := ⟨Kd.R_below h.out hb⟩
theorem bs_ {P : Program} {ops : Array Oper} {Q : Exit → Act → World → Prop} {Kc : Act → World → Prop} {o : Oper} {a : Act} {W : World} (N : Tmp) (cs : Array Value) {t : TypeId}
    (h : ∀ g, g = W.heap.size → ∀ w1, w1.heap[g]? = some (.cells cs t (0, 0)) → Below W.heap.size W w1 → Kc (a.put o.dst (.pointer (some ⟨g, 0, none⟩))) w1)
    (hw : Region.wanted o (yielded ops a.tmps) = true := by rfl) (hd : o.dst = some N := by rfl)
    (hrun : (execOp a.eval o).run P W = .ok (.value (.pointer (some ⟨W.heap.size, 0, none⟩))) (W.alloc (.cells cs t (0, 0))) := by first | (go_simp; done) | (go_simp; rfl)) :
    if Region.wanted o (yielded ops a.tmps) = true then Oper.wp P o a W Kc Q else Kc (a.put o.dst undef) W := box_step hw hd hrun h
theorem ne_ {a b : Nat} (h : Aside0 (a < b)) : Aside0 (a ≠ b) := ⟨Nat.ne_of_lt h.out⟩
theorem h5_ {w : World} {g : Nat} {a b c d e : Value} {t : TypeId} (h : Aside0 (w.heap[g]? = some (.cells #[a, b, c, d, e] t (0, 0)))) : w.cell? ⟨g, 0, none⟩ = some a ∧ w.cell? ⟨g, 1, none⟩ = some b ∧ w.cell? ⟨g, 2, none⟩ = some c ∧ w.cell? ⟨g, 3, none⟩ = some d ∧ w.cell? ⟨g, 4, none⟩ = some e := ⟨(blk_cell h.out 0).trans rfl, (blk_cell h.out 1).trans rfl, (blk_cell h.out 2).trans rfl, (blk_cell h.out 3).trans rfl, (blk_cell h.out 4).trans rfl⟩
theorem lt_ {w : World} {g g' : Nat} {o : Obj} (h : Aside0 (w.heap[g]? = some o)) (hg : g' = w.heap.size) : Aside0 (g < g') := ⟨by rw [hg]; exact blk_lt h.out⟩
structure idiomlaw04_OperandLists.Kept (p : Prop) : Prop where
  out : p
set_option maxHeartbeats 8000000 in
set_option maxRecDepth 100000 in
def idiomlaw04_OperandLists.calls_all_s : PSigma fun T0 : Prop => PSigma fun T3 : Prop => idiomlaw04_OperandLists.Kept T0 → idiomlaw04_OperandLists.Kept T3 → (∀ (k : Nat) (a0_0 : Bool) (a0_1 : ByteArray) (a0_2 : ByteArray) (a0_3 : ByteArray) (a0_4 : Int) (a0_5 : Int) (a0_6 : ByteArray) (a0_7 : ByteArray) (a0_8 : Int) (a1_0 : ByteArray) (a1_1 : ByteArray) (a1_2 : Bool) (a1_3 : Bool) (A1_4 : Option Addr) (c1_4 : Nat) (l1_4 : List (S60)) (r : Bool) (w : World) (ht : TB w) (hr1_4 : Kd.C k60 w A1_4 l1_4.length l1_4) (hc1_4 : l1_4.length ≤ c1_4) (h : idiomlaw04_OperandLists.f k a0_0 a0_1 a0_2 a0_3 a0_4 a0_5 a0_6 a0_7 a0_8 a1_0 a1_1 a1_2 a1_3 l1_4 = some r), Calls Tryd.prog 15 #[.agg #[.bool a0_0, .string a0_1, .string a0_2, .string a0_3, .int .i64 a0_4, .int .i64 a0_5, .string a0_6, .string a0_7, .int .i64 a0_8], .agg #[.string a1_0, .string a1_1, .bool a1_2, .bool a1_3, .slice A1_4 l1_4.length c1_4]] w fun e w' => e = .returned (.bool r) ∧ Below w.heap.size w w') := by
  apply PSigma.mk
  case snd =>
   apply PSigma.mk
   case snd =>
    intro hrest0 hrest3
    intro k a0_0 a0_1 a0_2 a0_3 a0_4 a0_5 a0_6 a0_7 a0_8 a1_0 a1_1 a1_2 a1_3 A1_4 c1_4 l1_4 r w ht hr1_4 hc1_4 h
    have hu45 := Tryd.underlying45
    have hu54 := Tryd.underlying54
    have hu23 := Tryd.underlying23
    have hu60 := Tryd.underlying60
    have HR1_4 := Aside0.mk hr1_4
    have HC1_4 := Aside0.mk hc1_4
    clear hr1_4 hc1_4
    have HTB := Aside0.mk ht
    clear ht
    have HB := Aside0.mk (Below.refl w.heap.size w)
    unfold idiomlaw04_OperandLists.f at h
    have H := h
    clear h
    replace H := Option.bind_eq_some_iff.mp H
    obtain ⟨t1228, A30, H⟩ := H
    try dsimp only at H
    have A3 := Aside0.mk A30
    clear A30
    have HF4 := Aside0.mk H
    clear H
    go_enter Tryd.func15, Tryd.ntmps15
    go_upto_if 26 with (first | ((with_reducible refine gate_dst (N := 2) rfl ?_); refine bx_ #[.bool a0_0, .string a0_1, .string a0_2, .string a0_3, .int .i64 a0_4, .int .i64 a0_5, .string a0_6, .string a0_7, .int .i64 a0_8] 45 ?_; intro gb1226 hg w5 hbox hb; have BK1226 := Aside0.mk (hbox); have GW1226 := ge_ (w := w) hg; have GE1226 := ge_ (w := w) hg; replace HB := Aside0.mk (below_step hb_ hb); clear hb hbox hg) | ((with_reducible refine gate_dst (N := 3) rfl ?_); refine bx_ #[.string a1_0, .string a1_1, .bool a1_2, .bool a1_3, .slice A1_4 l1_4.length c1_4] 54 ?_; intro gb1227 hg w6 hbox hb; have BK1227 := Aside0.mk (hbox); have GW1227 := ge_ (w := w) hg; have GE1227 := ge_ (w := w) hg; have NB1226_1227 := BK1226.nl hg; have LB1226_1227 := lt_ BK1226 hg; have NB1227_1226 := BK1226.ng hg; replace BK1226 := BK1226.bl hb; replace HB := Aside0.mk (below_step hb_ hb); clear hb hbox hg) | ((with_reducible refine gate_callee (f := 49) rfl ?_); refine gL_ (some 25) Tryd.func49 #[] ?_; (with_reducible refine (idiomlaw04_awake.calls k  t1228 _ (TB.below HTB.out hb_) A3.out).mono ?_); rintro e w7 ⟨rfl, hb⟩; refine ⟨_, rfl, ?_⟩; replace BK1226 := BK1226.bl hb; replace BK1227 := BK1227.bl hb; replace HB := Aside0.mk (below_step hb_ hb)))
    (try simp only [Act.put, List.setIfInBounds_toArray, List.set_cons_zero, List.set_cons_succ])
    have H := HF4.out
    clear HF4
    by_cases c8 : t1228 = true
    ·subst c8
     have H1 : ((idiomlaw04_copied.f a1_0 a1_1 a1_2 a1_3 l1_4).bind fun bt1229 => ((idiomlaw04_copied.f a1_0 a1_1 a1_2 a1_3 l1_4).bind fun bt1236 => ((idiomlaw04_copied.f a1_0 a1_1 a1_2 a1_3 l1_4).bind fun bt1243 => ((idiomlaw04_copied.f bt1229.1 bt1229.2.1 false false bt1229.2.2.2.2).bind fun bt1253 => ((operand_In.f k a0_0 a0_1 a0_2 a0_3 a0_4 a0_5 a0_6 a0_7 a0_8 bt1253.1 bt1253.2.1 bt1253.2.2.1 bt1253.2.2.2.1 bt1253.2.2.2.2).bind fun bt1260 => ((operand_In.f k a0_0 a0_1 a0_2 a0_3 a0_4 a0_5 a0_6 a0_7 a0_8 bt1236.1 bt1236.2.1 true false bt1236.2.2.2.2).bind fun bt1262 => ((operand_In.f k a0_0 a0_1 a0_2 a0_3 a0_4 a0_5 a0_6 a0_7 a0_8 bt1243.1 bt1243.2.1 false true bt1243.2.2.2.2).bind fun bt1264 => (if bt1260.2 = bt1262.2 then (idiomlaw04_OperandLists.j0 k bt1260.1 bt1260.2 bt1262.1 bt1264.1 (bt1260.2 != bt1264.2) a0_0 a0_1 a0_2 a0_3 a0_4 a0_5 a0_6 a0_7 a0_8 a1_0 a1_1 a1_2 a1_3 l1_4 bt1229.1 bt1229.2.1 false false bt1229.2.2.2.2) else (idiomlaw04_OperandLists.j0 k bt1260.1 bt1260.2 bt1262.1 bt1264.1 true a0_0 a0_1 a0_2 a0_3 a0_4 a0_5 a0_6 a0_7 a0_8 a1_0 a1_1 a1_2 a1_3 l1_4 bt1229.1 bt1229.2.1 false false bt1229.2.2.2.2))))))))) = some r := by rw [if_pos rfl] at H; exact H
     clear H
     have H := H1
     clear H1
     replace H := Option.bind_eq_some_iff.mp H
     obtain ⟨⟨t1229, t1230, t1231, t1232, t1233⟩, A90, H⟩ := H
     try dsimp only at H
     have A9 := Aside0.mk A90
     clear A90
     replace H := Option.bind_eq_some_iff.mp H
     obtain ⟨⟨t1236, t1237, t1238, t1239, t1240⟩, A100, H⟩ := H
     try dsimp only at H
     have A10 := Aside0.mk A100
     clear A100
     replace H := Option.bind_eq_some_iff.mp H
     obtain ⟨⟨t1243, t1244, t1245, t1246, t1247⟩, A110, H⟩ := H
     try dsimp only at H
     have A11 := Aside0.mk A110
     clear A110
     replace H := Option.bind_eq_some_iff.mp H
     obtain ⟨⟨t1253, t1254, t1255, t1256, t1257⟩, A120, H⟩ := H
     try dsimp only at H
     have A12 := Aside0.mk A120
     clear A120
     replace H := Option.bind_eq_some_iff.mp H
     obtain ⟨⟨t1260, t1261⟩, A130, H⟩ := H
     try dsimp only at H
     have A13 := Aside0.mk A130
     clear A130
     replace H := Option.bind_eq_some_iff.mp H
     obtain ⟨⟨t1262, t1263⟩, A140, H⟩ := H
     try dsimp only at H
     have A14 := Aside0.mk A140
     clear A140
     replace H := Option.bind_eq_some_iff.mp H
     obtain ⟨⟨t1264, t1265⟩, A150, H⟩ := H
     try dsimp only at H
     have A15 := Aside0.mk A150
     clear A150
     have HC16 := Aside0.mk H
     clear H
     try go_wp2
     replace BK1226 := Aside0.mk (blk_drew BK1226.out)
     replace BK1227 := Aside0.mk (blk_drew BK1227.out)
     replace HB := Aside0.mk (below_drew1 HB.out)
     refine start_ (n := 12) (S := fun w' => w'.cell? ⟨gb1227, 0, none⟩ = some (.string a1_0) ∧ w'.cell? ⟨gb1227, 1, none⟩ = some (.string a1_1) ∧ w'.cell? ⟨gb1227, 2, none⟩ = some (.bool a1_2) ∧ w'.cell? ⟨gb1227, 3, none⟩ = some (.bool a1_3) ∧ w'.cell? ⟨gb1227, 4, none⟩ = some (.slice A1_4 l1_4.length c1_4)) (ds := []) #[false, false, false, false, false, false, false, false, false, false, false, false] (by kernel_rfl) rfl rfl (h5_ BK1227) (fun hHeld => ?_); refine with_tabW idiomlaw04_OperandLists.tab3 idiomlaw04_OperandLists.bits3 (fun HT_ HW_ => ?_)
     generalize w7.drew = w17 at BK1226 BK1227 HB hHeld ⊢
     refine tk_ 0 (some 27) hHeld ?_
     refine tk_ 2 (some 29) hHeld ?_
     refine tk_ 4 (some 31) hHeld ?_
     refine join_ (σ := Value × Value × Value × Nat × Nat × Nat) 3 #[true, true, true, true, true, true, true, true, true, false, false, false] (fun s_ => [(28, .agg #[.string t1229, .string t1230, .bool t1231, .bool t1232, s_.1]), (30, .agg #[.string t1236, .string t1237, .bool t1238, .bool t1239, s_.2.1]), (32, .agg #[.string t1243, .string t1244, .bool t1245, .bool t1246, s_.2.2.1]), (5, .pointer (some ⟨s_.2.2.2.1, 0, none⟩)), (6, .pointer (some ⟨s_.2.2.2.2.1, 0, none⟩)), (7, .pointer (some ⟨s_.2.2.2.2.2, 0, none⟩))]) (fun s_ w' => (w'.cell? ⟨gb1227, 0, none⟩ = some (.string a1_0) ∧ w'.cell? ⟨gb1227, 1, none⟩ = some (.string a1_1) ∧ w'.cell? ⟨gb1227, 2, none⟩ = some (.bool a1_2) ∧ w'.cell? ⟨gb1227, 3, none⟩ = some (.bool a1_3) ∧ w'.cell? ⟨gb1227, 4, none⟩ = some (.slice A1_4 l1_4.length c1_4)) ∧ Aside0 (Kd.R k60 60 w' w.heap.size (fun k_ => some k_ ≠ (s_.2.1 : Value).ownBlock ∧ some k_ ≠ (s_.2.2.1 : Value).ownBlock) s_.1 t1233) ∧ Aside0 (Kd.R k60 60 w' w.heap.size (fun k_ => some k_ ≠ (s_.1 : Value).ownBlock ∧ some k_ ≠ (s_.2.2.1 : Value).ownBlock) s_.2.1 t1240) ∧ Aside0 (Kd.R k60 60 w' w.heap.size (fun k_ => some k_ ≠ (s_.1 : Value).ownBlock ∧ some k_ ≠ (s_.2.1 : Value).ownBlock) s_.2.2.1 t1247) ∧ Aside0 (w'.heap[gb1226]? = some (.cells #[.bool a0_0, .string a0_1, .string a0_2, .string a0_3, .int .i64 a0_4, .int .i64 a0_5, .string a0_6, .string a0_7, .int .i64 a0_8] 45 (0, 0))) ∧ Aside0 (w'.heap[gb1227]? = some (.cells #[.string a1_0, .string a1_1, .bool a1_2, .bool a1_3, .slice A1_4 l1_4.length c1_4] 54 (0, 0))) ∧ Aside0 (w'.heap[s_.2.2.2.1]? = some (.cells #[.string (⟨#[]⟩ : ByteArray), .string (⟨#[]⟩ : ByteArray), .bool false, .bool false, .slice none 0 0] 54 (0, 0))) ∧ Aside0 (w'.heap[s_.2.2.2.2.1]? = some (.cells #[.string (⟨#[]⟩ : ByteArray), .string (⟨#[]⟩ : ByteArray), .bool false, .bool false, .slice none 0 0] 54 (0, 0))) ∧ Aside0 (w'.heap[s_.2.2.2.2.2]? = some (.cells #[.string (⟨#[]⟩ : ByteArray), .string (⟨#[]⟩ : ByteArray), .bool false, .bool false, .slice none 0 0] 54 (0, 0))) ∧ Aside0 (w.heap.size ≤ s_.2.2.2.1) ∧ Aside0 (w.heap.size ≤ s_.2.2.2.1) ∧ Aside0 (gb1226 < s_.2.2.2.1) ∧ Aside0 (s_.2.2.2.1 ≠ gb1226) ∧ Aside0 (gb1227 < s_.2.2.2.1) ∧ Aside0 (s_.2.2.2.1 ≠ gb1227) ∧ Aside0 (s_.2.2.2.2.1 ≠ s_.2.2.2.1) ∧ Aside0 (s_.2.2.2.1 ≠ s_.2.2.2.2.1) ∧ Aside0 (s_.2.2.2.2.2 ≠ s_.2.2.2.1) ∧ Aside0 (s_.2.2.2.1 ≠ s_.2.2.2.2.2) ∧ Aside0 (w.heap.size ≤ s_.2.2.2.2.1) ∧ Aside0 (w.heap.size ≤ s_.2.2.2.2.1) ∧ Aside0 (gb1226 < s_.2.2.2.2.1) ∧ Aside0 (s_.2.2.2.2.1 ≠ gb1226) ∧ Aside0 (gb1227 < s_.2.2.2.2.1) ∧ Aside0 (s_.2.2.2.2.1 ≠ gb1227) ∧ Aside0 (s_.2.2.2.2.2 ≠ s_.2.2.2.2.1) ∧ Aside0 (s_.2.2.2.2.1 ≠ s_.2.2.2.2.2) ∧ Aside0 (w.heap.size ≤ s_.2.2.2.2.2) ∧ Aside0 (w.heap.size ≤ s_.2.2.2.2.2) ∧ Aside0 (gb1226 < s_.2.2.2.2.2) ∧ Aside0 (s_.2.2.2.2.2 ≠ gb1226) ∧ Aside0 (gb1227 < s_.2.2.2.2.2) ∧ Aside0 (s_.2.2.2.2.2 ≠ gb1227) ∧ Aside0 (Below w.heap.size w w')) ?_ ?_
     rotate_left
     ·intro hJ1_3_5_6_7_8
      refine join_ (σ := Value × Value × Value × Nat × Nat) 4 #[true, true, true, true, true, true, true, true, false, false, false, false] (fun s_ => [(28, .agg #[.string t1229, .string t1230, .bool t1231, .bool t1232, s_.1]), (30, .agg #[.string t1236, .string t1237, .bool t1238, .bool t1239, s_.2.1]), (32, .agg #[.string t1243, .string t1244, .bool t1245, .bool t1246, s_.2.2.1]), (5, .pointer (some ⟨s_.2.2.2.1, 0, none⟩)), (6, .pointer (some ⟨s_.2.2.2.2, 0, none⟩))]) (fun s_ w' => (w'.cell? ⟨gb1227, 0, none⟩ = some (.string a1_0) ∧ w'.cell? ⟨gb1227, 1, none⟩ = some (.string a1_1) ∧ w'.cell? ⟨gb1227, 2, none⟩ = some (.bool a1_2) ∧ w'.cell? ⟨gb1227, 3, none⟩ = some (.bool a1_3) ∧ w'.cell? ⟨gb1227, 4, none⟩ = some (.slice A1_4 l1_4.length c1_4)) ∧ Aside0 (Kd.R k60 60 w' w.heap.size (fun k_ => some k_ ≠ (s_.2.1 : Value).ownBlock ∧ some k_ ≠ (s_.2.2.1 : Value).ownBlock) s_.1 t1233) ∧ Aside0 (Kd.R k60 60 w' w.heap.size (fun k_ => some k_ ≠ (s_.1 : Value).ownBlock ∧ some k_ ≠ (s_.2.2.1 : Value).ownBlock) s_.2.1 t1240) ∧ Aside0 (Kd.R k60 60 w' w.heap.size (fun k_ => some k_ ≠ (s_.1 : Value).ownBlock ∧ some k_ ≠ (s_.2.1 : Value).ownBlock) s_.2.2.1 t1247) ∧ Aside0 (w'.heap[gb1226]? = some (.cells #[.bool a0_0, .string a0_1, .string a0_2, .string a0_3, .int .i64 a0_4, .int .i64 a0_5, .string a0_6, .string a0_7, .int .i64 a0_8] 45 (0, 0))) ∧ Aside0 (w'.heap[gb1227]? = some (.cells #[.string a1_0, .string a1_1, .bool a1_2, .bool a1_3, .slice A1_4 l1_4.length c1_4] 54 (0, 0))) ∧ Aside0 (w'.heap[s_.2.2.2.1]? = some (.cells #[.string (⟨#[]⟩ : ByteArray), .string (⟨#[]⟩ : ByteArray), .bool false, .bool false, .slice none 0 0] 54 (0, 0))) ∧ Aside0 (w'.heap[s_.2.2.2.2]? = some (.cells #[.string (⟨#[]⟩ : ByteArray), .string (⟨#[]⟩ : ByteArray), .bool false, .bool false, .slice none 0 0] 54 (0, 0))) ∧ Aside0 (w.heap.size ≤ s_.2.2.2.1) ∧ Aside0 (w.heap.size ≤ s_.2.2.2.1) ∧ Aside0 (gb1226 < s_.2.2.2.1) ∧ Aside0 (s_.2.2.2.1 ≠ gb1226) ∧ Aside0 (gb1227 < s_.2.2.2.1) ∧ Aside0 (s_.2.2.2.1 ≠ gb1227) ∧ Aside0 (s_.2.2.2.2 ≠ s_.2.2.2.1) ∧ Aside0 (s_.2.2.2.1 ≠ s_.2.2.2.2) ∧ Aside0 (w.heap.size ≤ s_.2.2.2.2) ∧ Aside0 (w.heap.size ≤ s_.2.2.2.2) ∧ Aside0 (gb1226 < s_.2.2.2.2) ∧ Aside0 (s_.2.2.2.2 ≠ gb1226) ∧ Aside0 (gb1227 < s_.2.2.2.2) ∧ Aside0 (s_.2.2.2.2 ≠ gb1227) ∧ Aside0 (Below w.heap.size w w')) ?_ ?_
      rotate_left
      ·intro hJ1_3_5_6_7
       refine join_ (σ := Value × Value × Value × Nat × Nat) 4 #[true, true, true, true, true, true, true, false, true, false, false, false] (fun s_ => [(28, .agg #[.string t1229, .string t1230, .bool t1231, .bool t1232, s_.1]), (30, .agg #[.string t1236, .string t1237, .bool t1238, .bool t1239, s_.2.1]), (32, .agg #[.string t1243, .string t1244, .bool t1245, .bool t1246, s_.2.2.1]), (5, .pointer (some ⟨s_.2.2.2.1, 0, none⟩)), (7, .pointer (some ⟨s_.2.2.2.2, 0, none⟩))]) (fun s_ w' => (w'.cell? ⟨gb1227, 0, none⟩ = some (.string a1_0) ∧ w'.cell? ⟨gb1227, 1, none⟩ = some (.string a1_1) ∧ w'.cell? ⟨gb1227, 2, none⟩ = some (.bool a1_2) ∧ w'.cell? ⟨gb1227, 3, none⟩ = some (.bool a1_3) ∧ w'.cell? ⟨gb1227, 4, none⟩ = some (.slice A1_4 l1_4.length c1_4)) ∧ Aside0 (Kd.R k60 60 w' w.heap.size (fun k_ => some k_ ≠ (s_.2.1 : Value).ownBlock ∧ some k_ ≠ (s_.2.2.1 : Value).ownBlock) s_.1 t1233) ∧ Aside0 (Kd.R k60 60 w' w.heap.size (fun k_ => some k_ ≠ (s_.1 : Value).ownBlock ∧ some k_ ≠ (s_.2.2.1 : Value).ownBlock) s_.2.1 t1240) ∧ Aside0 (Kd.R k60 60 w' w.heap.size (fun k_ => some k_ ≠ (s_.1 : Value).ownBlock ∧ some k_ ≠ (s_.2.1 : Value).ownBlock) s_.2.2.1 t1247) ∧ Aside0 (w'.heap[gb1226]? = some (.cells #[.bool a0_0, .string a0_1, .string a0_2, .string a0_3, .int .i64 a0_4, .int .i64 a0_5, .string a0_6, .string a0_7, .int .i64 a0_8] 45 (0, 0))) ∧ Aside0 (w'.heap[gb1227]? = some (.cells #[.string a1_0, .string a1_1, .bool a1_2, .bool a1_3, .slice A1_4 l1_4.length c1_4] 54 (0, 0))) ∧ Aside0 (w'.heap[s_.2.2.2.1]? = some (.cells #[.string (⟨#[]⟩ : ByteArray), .string (⟨#[]⟩ : ByteArray), .bool false, .bool false, .slice none 0 0] 54 (0, 0))) ∧ Aside0 (w'.heap[s_.2.2.2.2]? = some (.cells #[.string (⟨#[]⟩ : ByteArray), .string (⟨#[]⟩ : ByteArray), .bool false, .bool false, .slice none 0 0] 54 (0, 0))) ∧ Aside0 (w.heap.size ≤ s_.2.2.2.1) ∧ Aside0 (w.heap.size ≤ s_.2.2.2.1) ∧ Aside0 (gb1226 < s_.2.2.2.1) ∧ Aside0 (s_.2.2.2.1 ≠ gb1226) ∧ Aside0 (gb1227 < s_.2.2.2.1) ∧ Aside0 (s_.2.2.2.1 ≠ gb1227) ∧ Aside0 (s_.2.2.2.2 ≠ s_.2.2.2.1) ∧ Aside0 (s_.2.2.2.1 ≠ s_.2.2.2.2) ∧ Aside0 (w.heap.size ≤ s_.2.2.2.2) ∧ Aside0 (w.heap.size ≤ s_.2.2.2.2) ∧ Aside0 (gb1226 < s_.2.2.2.2) ∧ Aside0 (s_.2.2.2.2 ≠ gb1226) ∧ Aside0 (gb1227 < s_.2.2.2.2) ∧ Aside0 (s_.2.2.2.2 ≠ gb1227) ∧ Aside0 (Below w.heap.size w w')) ?_ ?_
       rotate_left
       ·intro hJ1_3_5_6_8
        refine join_ (σ := Value × Value × Value × Nat × Nat) 4 #[true, true, true, true, true, true, false, true, true, false, false, false] (fun s_ => [(28, .agg #[.string t1229, .string t1230, .bool t1231, .bool t1232, s_.1]), (30, .agg #[.string t1236, .string t1237, .bool t1238, .bool t1239, s_.2.1]), (32, .agg #[.string t1243, .string t1244, .bool t1245, .bool t1246, s_.2.2.1]), (6, .pointer (some ⟨s_.2.2.2.1, 0, none⟩)), (7, .pointer (some ⟨s_.2.2.2.2, 0, none⟩))]) (fun s_ w' => (w'.cell? ⟨gb1227, 0, none⟩ = some (.string a1_0) ∧ w'.cell? ⟨gb1227, 1, none⟩ = some (.string a1_1) ∧ w'.cell? ⟨gb1227, 2, none⟩ = some (.bool a1_2) ∧ w'.cell? ⟨gb1227, 3, none⟩ = some (.bool a1_3) ∧ w'.cell? ⟨gb1227, 4, none⟩ = some (.slice A1_4 l1_4.length c1_4)) ∧ Aside0 (Kd.R k60 60 w' w.heap.size (fun k_ => some k_ ≠ (s_.2.1 : Value).ownBlock ∧ some k_ ≠ (s_.2.2.1 : Value).ownBlock) s_.1 t1233) ∧ Aside0 (Kd.R k60 60 w' w.heap.size (fun k_ => some k_ ≠ (s_.1 : Value).ownBlock ∧ some k_ ≠ (s_.2.2.1 : Value).ownBlock) s_.2.1 t1240) ∧ Aside0 (Kd.R k60 60 w' w.heap.size (fun k_ => some k_ ≠ (s_.1 : Value).ownBlock ∧ some k_ ≠ (s_.2.1 : Value).ownBlock) s_.2.2.1 t1247) ∧ Aside0 (w'.heap[gb1226]? = some (.cells #[.bool a0_0, .string a0_1, .string a0_2, .string a0_3, .int .i64 a0_4, .int .i64 a0_5, .string a0_6, .string a0_7, .int .i64 a0_8] 45 (0, 0))) ∧ Aside0 (w'.heap[gb1227]? = some (.cells #[.string a1_0, .string a1_1, .bool a1_2, .bool a1_3, .slice A1_4 l1_4.length c1_4] 54 (0, 0))) ∧ Aside0 (w'.heap[s_.2.2.2.1]? = some (.cells #[.string (⟨#[]⟩ : ByteArray), .string (⟨#[]⟩ : ByteArray), .bool false, .bool false, .slice none 0 0] 54 (0, 0))) ∧ Aside0 (w'.heap[s_.2.2.2.2]? = some (.cells #[.string (⟨#[]⟩ : ByteArray), .string (⟨#[]⟩ : ByteArray), .bool false, .bool false, .slice none 0 0] 54 (0, 0))) ∧ Aside0 (w.heap.size ≤ s_.2.2.2.1) ∧ Aside0 (w.heap.size ≤ s_.2.2.2.1) ∧ Aside0 (gb1226 < s_.2.2.2.1) ∧ Aside0 (s_.2.2.2.1 ≠ gb1226) ∧ Aside0 (gb1227 < s_.2.2.2.1) ∧ Aside0 (s_.2.2.2.1 ≠ gb1227) ∧ Aside0 (s_.2.2.2.2 ≠ s_.2.2.2.1) ∧ Aside0 (s_.2.2.2.1 ≠ s_.2.2.2.2) ∧ Aside0 (w.heap.size ≤ s_.2.2.2.2) ∧ Aside0 (w.heap.size ≤ s_.2.2.2.2) ∧ Aside0 (gb1226 < s_.2.2.2.2) ∧ Aside0 (s_.2.2.2.2 ≠ gb1226) ∧ Aside0 (gb1227 < s_.2.2.2.2) ∧ Aside0 (s_.2.2.2.2 ≠ gb1227) ∧ Aside0 (Below w.heap.size w w')) ?_ ?_
        rotate_left
        ·intro hJ1_3_5_7_8
         refine join_ (σ := Value × Value × Nat × Nat × Nat) 4 #[true, true, true, true, true, false, true, true, true, false, false, false] (fun s_ => [(28, .agg #[.string t1229, .string t1230, .bool t1231, .bool t1232, s_.1]), (30, .agg #[.string t1236, .string t1237, .bool t1238, .bool t1239, s_.2.1]), (5, .pointer (some ⟨s_.2.2.1, 0, none⟩)), (6, .pointer (some ⟨s_.2.2.2.1, 0, none⟩)), (7, .pointer (some ⟨s_.2.2.2.2, 0, none⟩))]) (fun s_ w' => (w'.cell? ⟨gb1227, 0, none⟩ = some (.string a1_0) ∧ w'.cell? ⟨gb1227, 1, none⟩ = some (.string a1_1) ∧ w'.cell? ⟨gb1227, 2, none⟩ = some (.bool a1_2) ∧ w'.cell? ⟨gb1227, 3, none⟩ = some (.bool a1_3) ∧ w'.cell? ⟨gb1227, 4, none⟩ = some (.slice A1_4 l1_4.length c1_4)) ∧ Aside0 (Kd.R k60 60 w' w.heap.size (fun k_ => some k_ ≠ (s_.2.1 : Value).ownBlock) s_.1 t1233) ∧ Aside0 (Kd.R k60 60 w' w.heap.size (fun k_ => some k_ ≠ (s_.1 : Value).ownBlock) s_.2.1 t1240) ∧ Aside0 (w'.heap[gb1226]? = some (.cells #[.bool a0_0, .string a0_1, .string a0_2, .string a0_3, .int .i64 a0_4, .int .i64 a0_5, .string a0_6, .string a0_7, .int .i64 a0_8] 45 (0, 0))) ∧ Aside0 (w'.heap[gb1227]? = some (.cells #[.string a1_0, .string a1_1, .bool a1_2, .bool a1_3, .slice A1_4 l1_4.length c1_4] 54 (0, 0))) ∧ Aside0 (w'.heap[s_.2.2.1]? = some (.cells #[.string (⟨#[]⟩ : ByteArray), .string (⟨#[]⟩ : ByteArray), .bool false, .bool false, .slice none 0 0] 54 (0, 0))) ∧ Aside0 (w'.heap[s_.2.2.2.1]? = some (.cells #[.string (⟨#[]⟩ : ByteArray), .string (⟨#[]⟩ : ByteArray), .bool false, .bool false, .slice none 0 0] 54 (0, 0))) ∧ Aside0 (w'.heap[s_.2.2.2.2]? = some (.cells #[.string (⟨#[]⟩ : ByteArray), .string (⟨#[]⟩ : ByteArray), .bool false, .bool false, .slice none 0 0] 54 (0, 0))) ∧ Aside0 (w.heap.size ≤ s_.2.2.1) ∧ Aside0 (w.heap.size ≤ s_.2.2.1) ∧ Aside0 (gb1226 < s_.2.2.1) ∧ Aside0 (s_.2.2.1 ≠ gb1226) ∧ Aside0 (gb1227 < s_.2.2.1) ∧ Aside0 (s_.2.2.1 ≠ gb1227) ∧ Aside0 (s_.2.2.2.1 ≠ s_.2.2.1) ∧ Aside0 (s_.2.2.1 ≠ s_.2.2.2.1) ∧ Aside0 (s_.2.2.2.2 ≠ s_.2.2.1) ∧ Aside0 (s_.2.2.1 ≠ s_.2.2.2.2) ∧ Aside0 (w.heap.size ≤ s_.2.2.2.1) ∧ Aside0 (w.heap.size ≤ s_.2.2.2.1) ∧ Aside0 (gb1226 < s_.2.2.2.1) ∧ Aside0 (s_.2.2.2.1 ≠ gb1226) ∧ Aside0 (gb1227 < s_.2.2.2.1) ∧ Aside0 (s_.2.2.2.1 ≠ gb1227) ∧ Aside0 (s_.2.2.2.2 ≠ s_.2.2.2.1) ∧ Aside0 (s_.2.2.2.1 ≠ s_.2.2.2.2) ∧ Aside0 (w.heap.size ≤ s_.2.2.2.2) ∧ Aside0 (w.heap.size ≤ s_.2.2.2.2) ∧ Aside0 (gb1226 < s_.2.2.2.2) ∧ Aside0 (s_.2.2.2.2 ≠ gb1226) ∧ Aside0 (gb1227 < s_.2.2.2.2) ∧ Aside0 (s_.2.2.2.2 ≠ gb1227) ∧ Aside0 (Below w.heap.size w w')) ?_ ?_
         rotate_left
         ·intro hJ1_3_6_7_8
          refine join_ (σ := Value × Value × Value × Nat) 5 #[true, true, true, true, true, true, true, false, false, false, false, false] (fun s_ => [(28, .agg #[.string t1229, .string t1230, .bool t1231, .bool t1232, s_.1]), (30, .agg #[.string t1236, .string t1237, .bool t1238, .bool t1239, s_.2.1]), (32, .agg #[.string t1243, .string t1244, .bool t1245, .bool t1246, s_.2.2.1]), (5, .pointer (some ⟨s_.2.2.2, 0, none⟩))]) (fun s_ w' => (w'.cell? ⟨gb1227, 0, none⟩ = some (.string a1_0) ∧ w'.cell? ⟨gb1227, 1, none⟩ = some (.string a1_1) ∧ w'.cell? ⟨gb1227, 2, none⟩ = some (.bool a1_2) ∧ w'.cell? ⟨gb1227, 3, none⟩ = some (.bool a1_3) ∧ w'.cell? ⟨gb1227, 4, none⟩ = some (.slice A1_4 l1_4.length c1_4)) ∧ Aside0 (Kd.R k60 60 w' w.heap.size (fun k_ => some k_ ≠ (s_.2.1 : Value).ownBlock ∧ some k_ ≠ (s_.2.2.1 : Value).ownBlock) s_.1 t1233) ∧ Aside0 (Kd.R k60 60 w' w.heap.size (fun k_ => some k_ ≠ (s_.1 : Value).ownBlock ∧ some k_ ≠ (s_.2.2.1 : Value).ownBlock) s_.2.1 t1240) ∧ Aside0 (Kd.R k60 60 w' w.heap.size (fun k_ => some k_ ≠ (s_.1 : Value).ownBlock ∧ some k_ ≠ (s_.2.1 : Value).ownBlock) s_.2.2.1 t1247) ∧ Aside0 (w'.heap[gb1226]? = some (.cells #[.bool a0_0, .string a0_1, .string a0_2, .string a0_3, .int .i64 a0_4, .int .i64 a0_5, .string a0_6, .string a0_7, .int .i64 a0_8] 45 (0, 0))) ∧ Aside0 (w'.heap[gb1227]? = some (.cells #[.string a1_0, .string a1_1, .bool a1_2, .bool a1_3, .slice A1_4 l1_4.length c1_4] 54 (0, 0))) ∧ Aside0 (w'.heap[s_.2.2.2]? = some (.cells #[.string (⟨#[]⟩ : ByteArray), .string (⟨#[]⟩ : ByteArray), .bool false, .bool false, .slice none 0 0] 54 (0, 0))) ∧ Aside0 (w.heap.size ≤ s_.2.2.2) ∧ Aside0 (w.heap.size ≤ s_.2.2.2) ∧ Aside0 (gb1226 < s_.2.2.2) ∧ Aside0 (s_.2.2.2 ≠ gb1226) ∧ Aside0 (gb1227 < s_.2.2.2) ∧ Aside0 (s_.2.2.2 ≠ gb1227) ∧ Aside0 (Below w.heap.size w w')) ?_ ?_
          rotate_left
          ·intro hJ1_3_5_6
           refine join_ (σ := Value × Value × Value × Nat) 5 #[true, true, true, true, true, true, false, true, false, false, false, false] (fun s_ => [(28, .agg #[.string t1229, .string t1230, .bool t1231, .bool t1232, s_.1]), (30, .agg #[.string t1236, .string t1237, .bool t1238, .bool t1239, s_.2.1]), (32, .agg #[.string t1243, .string t1244, .bool t1245, .bool t1246, s_.2.2.1]), (6, .pointer (some ⟨s_.2.2.2, 0, none⟩))]) (fun s_ w' => (w'.cell? ⟨gb1227, 0, none⟩ = some (.string a1_0) ∧ w'.cell? ⟨gb1227, 1, none⟩ = some (.string a1_1) ∧ w'.cell? ⟨gb1227, 2, none⟩ = some (.bool a1_2) ∧ w'.cell? ⟨gb1227, 3, none⟩ = some (.bool a1_3) ∧ w'.cell? ⟨gb1227, 4, none⟩ = some (.slice A1_4 l1_4.length c1_4)) ∧ Aside0 (Kd.R k60 60 w' w.heap.size (fun k_ => some k_ ≠ (s_.2.1 : Value).ownBlock ∧ some k_ ≠ (s_.2.2.1 : Value).ownBlock) s_.1 t1233) ∧ Aside0 (Kd.R k60 60 w' w.heap.size (fun k_ => some k_ ≠ (s_.1 : Value).ownBlock ∧ some k_ ≠ (s_.2.2.1 : Value).ownBlock) s_.2.1 t1240) ∧ Aside0 (Kd.R k60 60 w' w.heap.size (fun k_ => some k_ ≠ (s_.1 : Value).ownBlock ∧ some k_ ≠ (s_.2.1 : Value).ownBlock) s_.2.2.1 t1247) ∧ Aside0 (w'.heap[gb1226]? = some (.cells #[.bool a0_0, .string a0_1, .string a0_2, .string a0_3, .int .i64 a0_4, .int .i64 a0_5, .string a0_6, .string a0_7, .int .i64 a0_8] 45 (0, 0))) ∧ Aside0 (w'.heap[gb1227]? = some (.cells #[.string a1_0, .string a1_1, .bool a1_2, .bool a1_3, .slice A1_4 l1_4.length c1_4] 54 (0, 0))) ∧ Aside0 (w'.heap[s_.2.2.2]? = some (.cells #[.string (⟨#[]⟩ : ByteArray), .string (⟨#[]⟩ : ByteArray), .bool false, .bool false, .slice none 0 0] 54 (0, 0))) ∧ Aside0 (w.heap.size ≤ s_.2.2.2) ∧ Aside0 (w.heap.size ≤ s_.2.2.2) ∧ Aside0 (gb1226 < s_.2.2.2) ∧ Aside0 (s_.2.2.2 ≠ gb1226) ∧ Aside0 (gb1227 < s_.2.2.2) ∧ Aside0 (s_.2.2.2 ≠ gb1227) ∧ Aside0 (Below w.heap.size w w')) ?_ ?_
           rotate_left
           ·intro hJ1_3_5_7
            refine join_ (σ := Value × Value × Value × Nat) 5 #[true, true, true, true, true, true, false, false, true, false, false, false] (fun s_ => [(28, .agg #[.string t1229, .string t1230, .bool t1231, .bool t1232, s_.1]), (30, .agg #[.string t1236, .string t1237, .bool t1238, .bool t1239, s_.2.1]), (32, .agg #[.string t1243, .string t1244, .bool t1245, .bool t1246, s_.2.2.1]), (7, .pointer (some ⟨s_.2.2.2, 0, none⟩))]) (fun s_ w' => (w'.cell? ⟨gb1227, 0, none⟩ = some (.string a1_0) ∧ w'.cell? ⟨gb1227, 1, none⟩ = some (.string a1_1) ∧ w'.cell? ⟨gb1227, 2, none⟩ = some (.bool a1_2) ∧ w'.cell? ⟨gb1227, 3, none⟩ = some (.bool a1_3) ∧ w'.cell? ⟨gb1227, 4, none⟩ = some (.slice A1_4 l1_4.length c1_4)) ∧ Aside0 (Kd.R k60 60 w' w.heap.size (fun k_ => some k_ ≠ (s_.2.1 : Value).ownBlock ∧ some k_ ≠ (s_.2.2.1 : Value).ownBlock) s_.1 t1233) ∧ Aside0 (Kd.R k60 60 w' w.heap.size (fun k_ => some k_ ≠ (s_.1 : Value).ownBlock ∧ some k_ ≠ (s_.2.2.1 : Value).ownBlock) s_.2.1 t1240) ∧ Aside0 (Kd.R k60 60 w' w.heap.size (fun k_ => some k_ ≠ (s_.1 : Value).ownBlock ∧ some k_ ≠ (s_.2.1 : Value).ownBlock) s_.2.2.1 t1247) ∧ Aside0 (w'.heap[gb1226]? = some (.cells #[.bool a0_0, .string a0_1, .string a0_2, .string a0_3, .int .i64 a0_4, .int .i64 a0_5, .string a0_6, .string a0_7, .int .i64 a0_8] 45 (0, 0))) ∧ Aside0 (w'.heap[gb1227]? = some (.cells #[.string a1_0, .string a1_1, .bool a1_2, .bool a1_3, .slice A1_4 l1_4.length c1_4] 54 (0, 0))) ∧ Aside0 (w'.heap[s_.2.2.2]? = some (.cells #[.string (⟨#[]⟩ : ByteArray), .string (⟨#[]⟩ : ByteArray), .bool false, .bool false, .slice none 0 0] 54 (0, 0))) ∧ Aside0 (w.heap.size ≤ s_.2.2.2) ∧ Aside0 (w.heap.size ≤ s_.2.2.2) ∧ Aside0 (gb1226 < s_.2.2.2) ∧ Aside0 (s_.2.2.2 ≠ gb1226) ∧ Aside0 (gb1227 < s_.2.2.2) ∧ Aside0 (s_.2.2.2 ≠ gb1227) ∧ Aside0 (Below w.heap.size w w')) ?_ ?_
            rotate_left
            ·intro hJ1_3_5_8
             refine ?rest
             case rest =>
              rename_i z0_1 z0_2 z0_3 z0_4
              revert k a0_0 a0_1 a0_2 a0_3 a0_4 a0_5 a0_6 a0_7 a0_8 a1_0 a1_1 a1_2 a1_3 A1_4 c1_4 l1_4 r w hu45 hu54 hu23 hu60 HR1_4 HC1_4 HTB z0_1 gb1226 w5 GW1226 GE1226 gb1227 w6 GW1227 GE1227 NB1226_1227 LB1226_1227 NB1227_1226 w7 hb A3 t1229 t1230 t1231 t1232 t1233 A9 t1236 t1237 t1238 t1239 t1240 A10 t1243 t1244 t1245 t1246 t1247 A11 t1253 t1254 t1255 t1256 t1257 A12 t1260 t1261 A13 t1262 t1263 A14 t1264 t1265 A15 HC16 z0_2 z0_3 z0_4 HT_ HW_ w17 BK1226 BK1227 HB hHeld hJ1_3_5_6_7_8 hJ1_3_5_6_7 hJ1_3_5_6_8 hJ1_3_5_7_8 hJ1_3_6_7_8 hJ1_3_5_6 hJ1_3_5_7 hJ1_3_5_8
              exact hrest0.out
            ·skip
             clear BK1226 BK1227 HB
             rintro ⟨v1234, v1241, v1248, gb1252⟩ w22 h
             try dsimp only at h
             obtain ⟨hHeld, HO1235, HO1242, HO1249, BK1226, BK1227, BK1252, GW1252, GE1252, LB1226_1252, NB1252_1226, LB1227_1252, NB1252_1227, HB⟩ := h
             have NB1226_1252 := ne_ LB1226_1252
             have NB1227_1252 := ne_ LB1227_1252
             refine norm_ (a' := ?_) ?_ ?_
             rotate_left
             ·simp only [putAll, Act.put, List.setIfInBounds_toArray, List.set_cons_zero, List.set_cons_succ]
              rfl
             refine two_ (i := 6) (j := 7) (Ni := some 5) (Nj := some 6) #[true, true, true, true, true, true, true, false, true, false, false, false] #[true, true, true, true, true, true, false, true, true, false, false, false] rfl rfl rfl rfl (two_of HT_.out (by kernel_rfl)) (by decide) (by decide) (fun K hK => ?_) (fun K hK => ?_)
             ·skip
              refine bs_ 5 #[.string (⟨#[]⟩ : ByteArray), .string (⟨#[]⟩ : ByteArray), .bool false, .bool false, .slice none 0 0] (t := 54) ?_
              intro gb1250 hg w23 hbox hb
              have BK1250 := Aside0.mk (hbox)
              have GW1250 := ge_ (w := w) hg
              have GE1250 := ge_ (w := w) hg
              have NB1226_1250 := BK1226.nl hg; have LB1226_1250 := lt_ BK1226 hg
              have NB1250_1226 := BK1226.ng hg
              have NB1227_1250 := BK1227.nl hg; have LB1227_1250 := lt_ BK1227 hg
              have NB1250_1227 := BK1227.ng hg
              have NB1252_1250 := BK1252.nl hg; have LB1252_1250 := lt_ BK1252 hg
              have NB1250_1252 := BK1252.ng hg
              replace HO1235 := bw_ HO1235 hb
              replace HO1242 := bw_ HO1242 hb
              replace HO1249 := bw_ HO1249 hb
              replace BK1226 := BK1226.bl hb
              replace BK1227 := BK1227.bl hb
              replace BK1252 := BK1252.bl hb
              replace HB := Aside0.mk (below_step hb_ hb)
              clear hb hbox hg
              refine hK.out _ _ (h5_ BK1227) (fun hHeld => ?_)
              clear hK K
              refine norm_ (a' := ?_) ?_ ?_
              rotate_left
              ·show Act.put _ (some 5) _ = _
               simp only [Act.put, List.setIfInBounds_toArray, List.set_cons_zero, List.set_cons_succ, i64_w, i32_w]
               rfl
              exact norm_ nm_ (hJ1_3_5_6_8 (v1234, v1241, v1248, gb1250, gb1252) _ ⟨hHeld, HO1235, HO1242, HO1249, BK1226, BK1227, BK1250, BK1252, GW1250, GE1250, LB1226_1250, NB1250_1226, LB1227_1250, NB1250_1227, NB1252_1250, NB1250_1252, GW1252, GE1252, LB1226_1252, NB1252_1226, LB1227_1252, NB1252_1227, ⟨hb_⟩⟩)
             ·skip
              refine bs_ 6 #[.string (⟨#[]⟩ : ByteArray), .string (⟨#[]⟩ : ByteArray), .bool false, .bool false, .slice none 0 0] (t := 54) ?_
              intro gb1251 hg w23 hbox hb
              have BK1251 := Aside0.mk (hbox)
              have GW1251 := ge_ (w := w) hg
              have GE1251 := ge_ (w := w) hg
              have NB1226_1251 := BK1226.nl hg; have LB1226_1251 := lt_ BK1226 hg
              have NB1251_1226 := BK1226.ng hg
              have NB1227_1251 := BK1227.nl hg; have LB1227_1251 := lt_ BK1227 hg
              have NB1251_1227 := BK1227.ng hg
              have NB1252_1251 := BK1252.nl hg; have LB1252_1251 := lt_ BK1252 hg
              have NB1251_1252 := BK1252.ng hg
              replace HO1235 := bw_ HO1235 hb
              replace HO1242 := bw_ HO1242 hb
              replace HO1249 := bw_ HO1249 hb
              replace BK1226 := BK1226.bl hb
              replace BK1227 := BK1227.bl hb
              replace BK1252 := BK1252.bl hb
              replace HB := Aside0.mk (below_step hb_ hb)
              clear hb hbox hg
              refine hK.out _ _ (h5_ BK1227) (fun hHeld => ?_)
              clear hK K
              refine norm_ (a' := ?_) ?_ ?_
              rotate_left
              ·show Act.put _ (some 6) _ = _
               simp only [Act.put, List.setIfInBounds_toArray, List.set_cons_zero, List.set_cons_succ, i64_w, i32_w]
               rfl
              exact norm_ nm_ (hJ1_3_5_7_8 (v1234, v1241, v1248, gb1251, gb1252) _ ⟨hHeld, HO1235, HO1242, HO1249, BK1226, BK1227, BK1251, BK1252, GW1251, GE1251, LB1226_1251, NB1251_1226, LB1227_1251, NB1251_1227, NB1252_1251, NB1251_1252, GW1252, GE1252, LB1226_1252, NB1252_1226, LB1227_1252, NB1252_1227, ⟨hb_⟩⟩)
           ·skip
            clear BK1226 BK1227 HB
            rintro ⟨v1234, v1241, v1248, gb1251⟩ w22 h
            try dsimp only at h
            obtain ⟨hHeld, HO1235, HO1242, HO1249, BK1226, BK1227, BK1251, GW1251, GE1251, LB1226_1251, NB1251_1226, LB1227_1251, NB1251_1227, HB⟩ := h
            have NB1226_1251 := ne_ LB1226_1251
            have NB1227_1251 := ne_ LB1227_1251
            refine norm_ (a' := ?_) ?_ ?_
            rotate_left
            ·simp only [putAll, Act.put, List.setIfInBounds_toArray, List.set_cons_zero, List.set_cons_succ]
             rfl
            refine two_ (i := 6) (j := 8) (Ni := some 5) (Nj := some 7) #[true, true, true, true, true, true, true, true, false, false, false, false] #[true, true, true, true, true, true, false, true, true, false, false, false] rfl rfl rfl rfl (two_of HT_.out (by kernel_rfl)) (by decide) (by decide) (fun K hK => ?_) (fun K hK => ?_)
            ·skip
             refine bs_ 5 #[.string (⟨#[]⟩ : ByteArray), .string (⟨#[]⟩ : ByteArray), .bool false, .bool false, .slice none 0 0] (t := 54) ?_
             intro gb1250 hg w23 hbox hb
             have BK1250 := Aside0.mk (hbox)
             have GW1250 := ge_ (w := w) hg
             have GE1250 := ge_ (w := w) hg
             have NB1226_1250 := BK1226.nl hg; have LB1226_1250 := lt_ BK1226 hg
             have NB1250_1226 := BK1226.ng hg
             have NB1227_1250 := BK1227.nl hg; have LB1227_1250 := lt_ BK1227 hg
             have NB1250_1227 := BK1227.ng hg
             have NB1251_1250 := BK1251.nl hg; have LB1251_1250 := lt_ BK1251 hg
             have NB1250_1251 := BK1251.ng hg
             replace HO1235 := bw_ HO1235 hb
             replace HO1242 := bw_ HO1242 hb
             replace HO1249 := bw_ HO1249 hb
             replace BK1226 := BK1226.bl hb
             replace BK1227 := BK1227.bl hb
             replace BK1251 := BK1251.bl hb
             replace HB := Aside0.mk (below_step hb_ hb)
             clear hb hbox hg
             refine hK.out _ _ (h5_ BK1227) (fun hHeld => ?_)
             clear hK K
             refine norm_ (a' := ?_) ?_ ?_
             rotate_left
             ·show Act.put _ (some 5) _ = _
              simp only [Act.put, List.setIfInBounds_toArray, List.set_cons_zero, List.set_cons_succ, i64_w, i32_w]
              rfl
             exact norm_ nm_ (hJ1_3_5_6_7 (v1234, v1241, v1248, gb1250, gb1251) _ ⟨hHeld, HO1235, HO1242, HO1249, BK1226, BK1227, BK1250, BK1251, GW1250, GE1250, LB1226_1250, NB1250_1226, LB1227_1250, NB1250_1227, NB1251_1250, NB1250_1251, GW1251, GE1251, LB1226_1251, NB1251_1226, LB1227_1251, NB1251_1227, ⟨hb_⟩⟩)
            ·skip
             refine bs_ 7 #[.string (⟨#[]⟩ : ByteArray), .string (⟨#[]⟩ : ByteArray), .bool false, .bool false, .slice none 0 0] (t := 54) ?_
             intro gb1252 hg w23 hbox hb
             have BK1252 := Aside0.mk (hbox)
             have GW1252 := ge_ (w := w) hg
             have GE1252 := ge_ (w := w) hg
             have NB1226_1252 := BK1226.nl hg; have LB1226_1252 := lt_ BK1226 hg
             have NB1252_1226 := BK1226.ng hg
             have NB1227_1252 := BK1227.nl hg; have LB1227_1252 := lt_ BK1227 hg
             have NB1252_1227 := BK1227.ng hg
             have NB1251_1252 := BK1251.nl hg; have LB1251_1252 := lt_ BK1251 hg
             have NB1252_1251 := BK1251.ng hg
             replace HO1235 := bw_ HO1235 hb
             replace HO1242 := bw_ HO1242 hb
             replace HO1249 := bw_ HO1249 hb
             replace BK1226 := BK1226.bl hb
             replace BK1227 := BK1227.bl hb
             replace BK1251 := BK1251.bl hb
             replace HB := Aside0.mk (below_step hb_ hb)
             clear hb hbox hg
             refine hK.out _ _ (h5_ BK1227) (fun hHeld => ?_)
             clear hK K
             refine norm_ (a' := ?_) ?_ ?_
             rotate_left
             ·show Act.put _ (some 7) _ = _
              simp only [Act.put, List.setIfInBounds_toArray, List.set_cons_zero, List.set_cons_succ, i64_w, i32_w]
              rfl
             exact norm_ nm_ (hJ1_3_5_7_8 (v1234, v1241, v1248, gb1251, gb1252) _ ⟨hHeld, HO1235, HO1242, HO1249, BK1226, BK1227, BK1251, BK1252, GW1251, GE1251, LB1226_1251, NB1251_1226, LB1227_1251, NB1251_1227, NB1252_1251, NB1251_1252, GW1252, GE1252, LB1226_1252, NB1252_1226, LB1227_1252, NB1252_1227, ⟨hb_⟩⟩)
          ·skip
           clear BK1226 BK1227 HB
           rintro ⟨v1234, v1241, v1248, gb1250⟩ w22 h
           try dsimp only at h
           obtain ⟨hHeld, HO1235, HO1242, HO1249, BK1226, BK1227, BK1250, GW1250, GE1250, LB1226_1250, NB1250_1226, LB1227_1250, NB1250_1227, HB⟩ := h
           have NB1226_1250 := ne_ LB1226_1250
           have NB1227_1250 := ne_ LB1227_1250
           refine norm_ (a' := ?_) ?_ ?_
           rotate_left
           ·simp only [putAll, Act.put, List.setIfInBounds_toArray, List.set_cons_zero, List.set_cons_succ]
            rfl
           refine two_ (i := 7) (j := 8) (Ni := some 6) (Nj := some 7) #[true, true, true, true, true, true, true, true, false, false, false, false] #[true, true, true, true, true, true, true, false, true, false, false, false] rfl rfl rfl rfl (two_of HT_.out (by kernel_rfl)) (by decide) (by decide) (fun K hK => ?_) (fun K hK => ?_)
           ·skip
            refine bs_ 6 #[.string (⟨#[]⟩ : ByteArray), .string (⟨#[]⟩ : ByteArray), .bool false, .bool false, .slice none 0 0] (t := 54) ?_
            intro gb1251 hg w23 hbox hb
            have BK1251 := Aside0.mk (hbox)
            have GW1251 := ge_ (w := w) hg
            have GE1251 := ge_ (w := w) hg
            have NB1226_1251 := BK1226.nl hg; have LB1226_1251 := lt_ BK1226 hg
            have NB1251_1226 := BK1226.ng hg
            have NB1227_1251 := BK1227.nl hg; have LB1227_1251 := lt_ BK1227 hg
            have NB1251_1227 := BK1227.ng hg
            have NB1250_1251 := BK1250.nl hg; have LB1250_1251 := lt_ BK1250 hg
            have NB1251_1250 := BK1250.ng hg
            replace HO1235 := bw_ HO1235 hb
            replace HO1242 := bw_ HO1242 hb
            replace HO1249 := bw_ HO1249 hb
            replace BK1226 := BK1226.bl hb
            replace BK1227 := BK1227.bl hb
            replace BK1250 := BK1250.bl hb
            replace HB := Aside0.mk (below_step hb_ hb)
            clear hb hbox hg
            refine hK.out _ _ (h5_ BK1227) (fun hHeld => ?_)
            clear hK K
            refine norm_ (a' := ?_) ?_ ?_
            rotate_left
            ·show Act.put _ (some 6) _ = _
             simp only [Act.put, List.setIfInBounds_toArray, List.set_cons_zero, List.set_cons_succ, i64_w, i32_w]
             rfl
            exact norm_ nm_ (hJ1_3_5_6_7 (v1234, v1241, v1248, gb1250, gb1251) _ ⟨hHeld, HO1235, HO1242, HO1249, BK1226, BK1227, BK1250, BK1251, GW1250, GE1250, LB1226_1250, NB1250_1226, LB1227_1250, NB1250_1227, NB1251_1250, NB1250_1251, GW1251, GE1251, LB1226_1251, NB1251_1226, LB1227_1251, NB1251_1227, ⟨hb_⟩⟩)
           ·skip
            refine bs_ 7 #[.string (⟨#[]⟩ : ByteArray), .string (⟨#[]⟩ : ByteArray), .bool false, .bool false, .slice none 0 0] (t := 54) ?_
            intro gb1252 hg w23 hbox hb
            have BK1252 := Aside0.mk (hbox)
            have GW1252 := ge_ (w := w) hg
            have GE1252 := ge_ (w := w) hg
            have NB1226_1252 := BK1226.nl hg; have LB1226_1252 := lt_ BK1226 hg
            have NB1252_1226 := BK1226.ng hg
            have NB1227_1252 := BK1227.nl hg; have LB1227_1252 := lt_ BK1227 hg
            have NB1252_1227 := BK1227.ng hg
            have NB1250_1252 := BK1250.nl hg; have LB1250_1252 := lt_ BK1250 hg
            have NB1252_1250 := BK1250.ng hg
            replace HO1235 := bw_ HO1235 hb
            replace HO1242 := bw_ HO1242 hb
            replace HO1249 := bw_ HO1249 hb
            replace BK1226 := BK1226.bl hb
            replace BK1227 := BK1227.bl hb
            replace BK1250 := BK1250.bl hb
            replace HB := Aside0.mk (below_step hb_ hb)
            clear hb hbox hg
            refine hK.out _ _ (h5_ BK1227) (fun hHeld => ?_)
            clear hK K
            refine norm_ (a' := ?_) ?_ ?_
            rotate_left
            ·show Act.put _ (some 7) _ = _
             simp only [Act.put, List.setIfInBounds_toArray, List.set_cons_zero, List.set_cons_succ, i64_w, i32_w]
             rfl
            exact norm_ nm_ (hJ1_3_5_6_8 (v1234, v1241, v1248, gb1250, gb1252) _ ⟨hHeld, HO1235, HO1242, HO1249, BK1226, BK1227, BK1250, BK1252, GW1250, GE1250, LB1226_1250, NB1250_1226, LB1227_1250, NB1250_1227, NB1252_1250, NB1250_1252, GW1252, GE1252, LB1226_1252, NB1252_1226, LB1227_1252, NB1252_1227, ⟨hb_⟩⟩)
         ·skip
          clear BK1226 BK1227 HB
          rintro ⟨v1234, v1241, gb1250, gb1251, gb1252⟩ w23 h
          try dsimp only at h
          obtain ⟨hHeld, HO1235, HO1242, BK1226, BK1227, BK1250, BK1251, BK1252, GW1250, GE1250, LB1226_1250, NB1250_1226, LB1227_1250, NB1250_1227, NB1251_1250, NB1250_1251, NB1252_1250, NB1250_1252, GW1251, GE1251, LB1226_1251, NB1251_1226, LB1227_1251, NB1251_1227, NB1252_1251, NB1251_1252, GW1252, GE1252, LB1226_1252, NB1252_1226, LB1227_1252, NB1252_1227, HB⟩ := h
          have NB1226_1250 := ne_ LB1226_1250
          have NB1227_1250 := ne_ LB1227_1250
          have NB1226_1251 := ne_ LB1226_1251
          have NB1227_1251 := ne_ LB1227_1251
          have NB1226_1252 := ne_ LB1226_1252
          have NB1227_1252 := ne_ LB1227_1252
          refine norm_ (a' := ?_) ?_ ?_
          rotate_left
          ·simp only [putAll, Act.put, List.setIfInBounds_toArray, List.set_cons_zero, List.set_cons_succ]
           rfl
          refine one_ (i := 5) (N := some 32) #[true, true, true, true, true, true, true, true, true, false, false, false] rfl rfl (one_of HT_.out (by kernel_rfl)) (by decide) (fun K hK => ?_)
          refine goes_ Tryd.func51 (by kernel_rfl) rfl #[.agg #[.string a1_0, .string a1_1, .bool a1_2, .bool a1_3, .slice A1_4 l1_4.length c1_4]] (by rfl) rfl rfl ar_ ?_
          with_reducible refine (idiomlaw04_copied.calls a1_0 a1_1 a1_2 a1_3 _ _ l1_4 t1243 t1244 t1245 t1246 t1247 _ ?side1 ?side2 A11.out).mono ?_
          (case side1 => repeat (first | exact (Kd.C_below HR1_4.out HB.out) | (with_reducible refine Kd.C_alloc ?_ _) | (with_reducible refine Kd.C_drewN ?_ _) | (with_reducible refine Kd.C_drew ?_)))
          (case side2 => exact HC1_4.out)
          rintro e w24 ⟨v1248, rfl, ho0, hb⟩
          refine ⟨_, rfl, ?_⟩
          have HO1249 := Aside0.mk (Kd.R_lower (Kd.R_new' (Kd.R_new' ho0 (Kd.R_lt HO1235.out)) (Kd.R_lt HO1242.out)) (below_size hb_))
          replace HO1235 := Aside0.mk (Kd.R_elder' HO1235.out (Kd.R_base ho0) hb)
          replace HO1242 := Aside0.mk (Kd.R_elder' HO1242.out (Kd.R_base ho0) hb)
          replace BK1226 := BK1226.bl hb
          replace BK1227 := BK1227.bl hb
          replace BK1250 := BK1250.bl hb
          replace BK1251 := BK1251.bl hb
          replace BK1252 := BK1252.bl hb
          replace HB := Aside0.mk (below_step hb_ hb)
          (try clear hb)
          (try clear hb2)
          (try clear hk)
          (try clear hi)
          (try clear ho0)
          refine hK.out _ _ (h5_ BK1227) (fun hHeld => ?_)
          clear hK K
          refine norm_ (a' := ?_) ?_ ?_
          rotate_left
          ·show Act.put _ (some 32) _ = _
           simp only [Act.put, List.setIfInBounds_toArray, List.set_cons_zero, List.set_cons_succ, i64_w, i32_w]
           rfl
          exact norm_ nm_ (hJ1_3_5_6_7_8 (v1234, v1241, v1248, gb1250, gb1251, gb1252) _ ⟨hHeld, HO1235, HO1242, ⟨by (with_reducible repeat (first | apply Kd.R_alloc | apply Kd.R_drewN | apply Kd.R_drew)); exact Kd.R_mono HO1249.out (fun _ hk => ⟨hk.1.2, hk.2⟩)⟩, BK1226, BK1227, BK1250, BK1251, BK1252, GW1250, GE1250, LB1226_1250, NB1250_1226, LB1227_1250, NB1250_1227, NB1251_1250, NB1250_1251, NB1252_1250, NB1250_1252, GW1251, GE1251, LB1226_1251, NB1251_1226, LB1227_1251, NB1251_1227, NB1252_1251, NB1251_1252, GW1252, GE1252, LB1226_1252, NB1252_1226, LB1227_1252, NB1252_1227, ⟨hb_⟩⟩)
        ·skip
         clear BK1226 BK1227 HB
         rintro ⟨v1234, v1241, v1248, gb1251, gb1252⟩ w23 h
         try dsimp only at h
         obtain ⟨hHeld, HO1235, HO1242, HO1249, BK1226, BK1227, BK1251, BK1252, GW1251, GE1251, LB1226_1251, NB1251_1226, LB1227_1251, NB1251_1227, NB1252_1251, NB1251_1252, GW1252, GE1252, LB1226_1252, NB1252_1226, LB1227_1252, NB1252_1227, HB⟩ := h
         have NB1226_1251 := ne_ LB1226_1251
         have NB1227_1251 := ne_ LB1227_1251
         have NB1226_1252 := ne_ LB1226_1252
         have NB1227_1252 := ne_ LB1227_1252
         refine norm_ (a' := ?_) ?_ ?_
         rotate_left
         ·simp only [putAll, Act.put, List.setIfInBounds_toArray, List.set_cons_zero, List.set_cons_succ]
          rfl
         refine one_ (i := 6) (N := some 5) #[true, true, true, true, true, true, true, true, true, false, false, false] rfl rfl (one_of HT_.out (by kernel_rfl)) (by decide) (fun K hK => ?_)
         refine bs_ 5 #[.string (⟨#[]⟩ : ByteArray), .string (⟨#[]⟩ : ByteArray), .bool false, .bool false, .slice none 0 0] (t := 54) ?_
         intro gb1250 hg w24 hbox hb
         have BK1250 := Aside0.mk (hbox)
         have GW1250 := ge_ (w := w) hg
         have GE1250 := ge_ (w := w) hg
         have NB1226_1250 := BK1226.nl hg; have LB1226_1250 := lt_ BK1226 hg
         have NB1250_1226 := BK1226.ng hg
         have NB1227_1250 := BK1227.nl hg; have LB1227_1250 := lt_ BK1227 hg
         have NB1250_1227 := BK1227.ng hg
         have NB1251_1250 := BK1251.nl hg; have LB1251_1250 := lt_ BK1251 hg
         have NB1250_1251 := BK1251.ng hg
         have NB1252_1250 := BK1252.nl hg; have LB1252_1250 := lt_ BK1252 hg
         have NB1250_1252 := BK1252.ng hg
         replace HO1235 := bw_ HO1235 hb
         replace HO1242 := bw_ HO1242 hb
         replace HO1249 := bw_ HO1249 hb
         replace BK1226 := BK1226.bl hb
         replace BK1227 := BK1227.bl hb
         replace BK1251 := BK1251.bl hb
         replace BK1252 := BK1252.bl hb
         replace HB := Aside0.mk (below_step hb_ hb)
         clear hb hbox hg
         refine hK.out _ _ (h5_ BK1227) (fun hHeld => ?_)
         clear hK K
         refine norm_ (a' := ?_) ?_ ?_
         rotate_left
         ·show Act.put _ (some 5) _ = _
          simp only [Act.put, List.setIfInBounds_toArray, List.set_cons_zero, List.set_cons_succ, i64_w, i32_w]
          rfl
         exact norm_ nm_ (hJ1_3_5_6_7_8 (v1234, v1241, v1248, gb1250, gb1251, gb1252) _ ⟨hHeld, HO1235, HO1242, HO1249, BK1226, BK1227, BK1250, BK1251, BK1252, GW1250, GE1250, LB1226_1250, NB1250_1226, LB1227_1250, NB1250_1227, NB1251_1250, NB1250_1251, NB1252_1250, NB1250_1252, GW1251, GE1251, LB1226_1251, NB1251_1226, LB1227_1251, NB1251_1227, NB1252_1251, NB1251_1252, GW1252, GE1252, LB1226_1252, NB1252_1226, LB1227_1252, NB1252_1227, ⟨hb_⟩⟩)
       ·skip
        clear BK1226 BK1227 HB
        rintro ⟨v1234, v1241, v1248, gb1250, gb1252⟩ w23 h
        try dsimp only at h
        obtain ⟨hHeld, HO1235, HO1242, HO1249, BK1226, BK1227, BK1250, BK1252, GW1250, GE1250, LB1226_1250, NB1250_1226, LB1227_1250, NB1250_1227, NB1252_1250, NB1250_1252, GW1252, GE1252, LB1226_1252, NB1252_1226, LB1227_1252, NB1252_1227, HB⟩ := h
        have NB1226_1250 := ne_ LB1226_1250
        have NB1227_1250 := ne_ LB1227_1250
        have NB1226_1252 := ne_ LB1226_1252
        have NB1227_1252 := ne_ LB1227_1252
        refine norm_ (a' := ?_) ?_ ?_
        rotate_left
        ·simp only [putAll, Act.put, List.setIfInBounds_toArray, List.set_cons_zero, List.set_cons_succ]
         rfl
        refine one_ (i := 7) (N := some 6) #[true, true, true, true, true, true, true, true, true, false, false, false] rfl rfl (one_of HT_.out (by kernel_rfl)) (by decide) (fun K hK => ?_)
        refine bs_ 6 #[.string (⟨#[]⟩ : ByteArray), .string (⟨#[]⟩ : ByteArray), .bool false, .bool false, .slice none 0 0] (t := 54) ?_
        intro gb1251 hg w24 hbox hb
        have BK1251 := Aside0.mk (hbox)
        have GW1251 := ge_ (w := w) hg
        have GE1251 := ge_ (w := w) hg
        have NB1226_1251 := BK1226.nl hg; have LB1226_1251 := lt_ BK1226 hg
        have NB1251_1226 := BK1226.ng hg
        have NB1227_1251 := BK1227.nl hg; have LB1227_1251 := lt_ BK1227 hg
        have NB1251_1227 := BK1227.ng hg
        have NB1250_1251 := BK1250.nl hg; have LB1250_1251 := lt_ BK1250 hg
        have NB1251_1250 := BK1250.ng hg
        have NB1252_1251 := BK1252.nl hg; have LB1252_1251 := lt_ BK1252 hg
        have NB1251_1252 := BK1252.ng hg
        replace HO1235 := bw_ HO1235 hb
        replace HO1242 := bw_ HO1242 hb
        replace HO1249 := bw_ HO1249 hb
        replace BK1226 := BK1226.bl hb
        replace BK1227 := BK1227.bl hb
        replace BK1250 := BK1250.bl hb
        replace BK1252 := BK1252.bl hb
        replace HB := Aside0.mk (below_step hb_ hb)
        clear hb hbox hg
        refine hK.out _ _ (h5_ BK1227) (fun hHeld => ?_)
        clear hK K
        refine norm_ (a' := ?_) ?_ ?_
        rotate_left
        ·show Act.put _ (some 6) _ = _
         simp only [Act.put, List.setIfInBounds_toArray, List.set_cons_zero, List.set_cons_succ, i64_w, i32_w]
         rfl
        exact norm_ nm_ (hJ1_3_5_6_7_8 (v1234, v1241, v1248, gb1250, gb1251, gb1252) _ ⟨hHeld, HO1235, HO1242, HO1249, BK1226, BK1227, BK1250, BK1251, BK1252, GW1250, GE1250, LB1226_1250, NB1250_1226, LB1227_1250, NB1250_1227, NB1251_1250, NB1250_1251, NB1252_1250, NB1250_1252, GW1251, GE1251, LB1226_1251, NB1251_1226, LB1227_1251, NB1251_1227, NB1252_1251, NB1251_1252, GW1252, GE1252, LB1226_1252, NB1252_1226, LB1227_1252, NB1252_1227, ⟨hb_⟩⟩)
      ·skip
       clear BK1226 BK1227 HB
       rintro ⟨v1234, v1241, v1248, gb1250, gb1251⟩ w23 h
       try dsimp only at h
       obtain ⟨hHeld, HO1235, HO1242, HO1249, BK1226, BK1227, BK1250, BK1251, GW1250, GE1250, LB1226_1250, NB1250_1226, LB1227_1250, NB1250_1227, NB1251_1250, NB1250_1251, GW1251, GE1251, LB1226_1251, NB1251_1226, LB1227_1251, NB1251_1227, HB⟩ := h
       have NB1226_1250 := ne_ LB1226_1250
       have NB1227_1250 := ne_ LB1227_1250
       have NB1226_1251 := ne_ LB1226_1251
       have NB1227_1251 := ne_ LB1227_1251
       refine norm_ (a' := ?_) ?_ ?_
       rotate_left
       ·simp only [putAll, Act.put, List.setIfInBounds_toArray, List.set_cons_zero, List.set_cons_succ]
        rfl
       refine one_ (i := 8) (N := some 7) #[true, true, true, true, true, true, true, true, true, false, false, false] rfl rfl (one_of HT_.out (by kernel_rfl)) (by decide) (fun K hK => ?_)
       refine bs_ 7 #[.string (⟨#[]⟩ : ByteArray), .string (⟨#[]⟩ : ByteArray), .bool false, .bool false, .slice none 0 0] (t := 54) ?_
       intro gb1252 hg w24 hbox hb
       have BK1252 := Aside0.mk (hbox)
       have GW1252 := ge_ (w := w) hg
       have GE1252 := ge_ (w := w) hg
       have NB1226_1252 := BK1226.nl hg; have LB1226_1252 := lt_ BK1226 hg
       have NB1252_1226 := BK1226.ng hg
       have NB1227_1252 := BK1227.nl hg; have LB1227_1252 := lt_ BK1227 hg
       have NB1252_1227 := BK1227.ng hg
       have NB1250_1252 := BK1250.nl hg; have LB1250_1252 := lt_ BK1250 hg
       have NB1252_1250 := BK1250.ng hg
       have NB1251_1252 := BK1251.nl hg; have LB1251_1252 := lt_ BK1251 hg
       have NB1252_1251 := BK1251.ng hg
       replace HO1235 := bw_ HO1235 hb
       replace HO1242 := bw_ HO1242 hb
       replace HO1249 := bw_ HO1249 hb
       replace BK1226 := BK1226.bl hb
       replace BK1227 := BK1227.bl hb
       replace BK1250 := BK1250.bl hb
       replace BK1251 := BK1251.bl hb
       replace HB := Aside0.mk (below_step hb_ hb)
       clear hb hbox hg
       refine hK.out _ _ (h5_ BK1227) (fun hHeld => ?_)
       clear hK K
       refine norm_ (a' := ?_) ?_ ?_
       rotate_left
       ·show Act.put _ (some 7) _ = _
        simp only [Act.put, List.setIfInBounds_toArray, List.set_cons_zero, List.set_cons_succ, i64_w, i32_w]
        rfl
       exact norm_ nm_ (hJ1_3_5_6_7_8 (v1234, v1241, v1248, gb1250, gb1251, gb1252) _ ⟨hHeld, HO1235, HO1242, HO1249, BK1226, BK1227, BK1250, BK1251, BK1252, GW1250, GE1250, LB1226_1250, NB1250_1226, LB1227_1250, NB1250_1227, NB1251_1250, NB1250_1251, NB1252_1250, NB1250_1252, GW1251, GE1251, LB1226_1251, NB1251_1226, LB1227_1251, NB1251_1227, NB1252_1251, NB1251_1252, GW1252, GE1252, LB1226_1252, NB1252_1226, LB1227_1252, NB1252_1227, ⟨hb_⟩⟩)
     clear BK1226 BK1227 HB
     rintro ⟨v1234, v1241, v1248, gb1250, gb1251, gb1252⟩ w24 h
     try dsimp only at h
     obtain ⟨hHeld, HO1235, HO1242, HO1249, BK1226, BK1227, BK1250, BK1251, BK1252, GW1250, GE1250, LB1226_1250, NB1250_1226, LB1227_1250, NB1250_1227, NB1251_1250, NB1250_1251, NB1252_1250, NB1250_1252, GW1251, GE1251, LB1226_1251, NB1251_1226, LB1227_1251, NB1251_1227, NB1252_1251, NB1251_1252, GW1252, GE1252, LB1226_1252, NB1252_1226, LB1227_1252, NB1252_1227, HB⟩ := h
     have NB1226_1250 := ne_ LB1226_1250
     have NB1227_1250 := ne_ LB1227_1250
     have NB1226_1251 := ne_ LB1226_1251
     have NB1227_1251 := ne_ LB1227_1251
     have NB1226_1252 := ne_ LB1226_1252
     have NB1227_1252 := ne_ LB1227_1252
     obtain ⟨Ao29, co29, eo29⟩ := Kd.R_slice HO1235.out
     (first | subst eo29 | (injection eo29 with f1_ f2_ f3_; have f4_ := f1_.symm; have f5_ := f3_.symm; clear f1_ f2_ f3_; subst f4_; subst f5_))
     obtain ⟨Ao35, co35, eo35⟩ := Kd.R_slice HO1242.out
     (first | subst eo35 | (injection eo35 with f1_ f2_ f3_; have f4_ := f1_.symm; have f5_ := f3_.symm; clear f1_ f2_ f3_; subst f4_; subst f5_))
     obtain ⟨Ao41, co41, eo41⟩ := Kd.R_slice HO1249.out
     (first | subst eo41 | (injection eo41 with f1_ f2_ f3_; have f4_ := f1_.symm; have f5_ := f3_.symm; clear f1_ f2_ f3_; subst f4_; subst f5_))
     refine norm_ (a' := ?_) ?_ ?_
     rotate_left
     ·simp only [putAll, Act.put, List.setIfInBounds_toArray, List.set_cons_zero, List.set_cons_succ]
      rfl
     refine one_ (i := 9) (N := none) #[true, true, true, true, true, true, true, true, true, true, false, false] rfl rfl (one_of HT_.out (by kernel_rfl)) (by decide) (fun K hK => ?_)
     have hs25 : w24.cell? ⟨gb1250, 0, none⟩ = some (.string (⟨#[]⟩ : ByteArray)) := (blk_cell BK1250.out 0).trans rfl
     have hfs25 := blk_frozen BK1250.out 0
     have hns25_0 := NB1226_1250.out
     have hns25_1 := NB1227_1250.out
     have hns25_3 := NB1251_1250.out
     have hns25_4 := NB1252_1250.out
     have hms25_0 := NB1250_1226.out
     have hms25_1 := NB1250_1227.out
     have hms25_3 := NB1250_1251.out
     have hms25_4 := NB1250_1252.out
     have hs26 : w24.cell? ⟨gb1250, 1, none⟩ = some (.string (⟨#[]⟩ : ByteArray)) := (blk_cell BK1250.out 1).trans rfl
     have hfs26 := blk_frozen BK1250.out 1
     have hns26_0 := NB1226_1250.out
     have hns26_1 := NB1227_1250.out
     have hns26_3 := NB1251_1250.out
     have hns26_4 := NB1252_1250.out
     have hms26_0 := NB1250_1226.out
     have hms26_1 := NB1250_1227.out
     have hms26_3 := NB1250_1251.out
     have hms26_4 := NB1250_1252.out
     have hs27 : w24.cell? ⟨gb1250, 2, none⟩ = some (.bool false) := (blk_cell BK1250.out 2).trans rfl
     have hfs27 := blk_frozen BK1250.out 2
     have hns27_0 := NB1226_1250.out
     have hns27_1 := NB1227_1250.out
     have hns27_3 := NB1251_1250.out
     have hns27_4 := NB1252_1250.out
     have hms27_0 := NB1250_1226.out
     have hms27_1 := NB1250_1227.out
     have hms27_3 := NB1250_1251.out
     have hms27_4 := NB1250_1252.out
     have hs28 : w24.cell? ⟨gb1250, 3, none⟩ = some (.bool false) := (blk_cell BK1250.out 3).trans rfl
     have hfs28 := blk_frozen BK1250.out 3
     have hns28_0 := NB1226_1250.out
     have hns28_1 := NB1227_1250.out
     have hns28_3 := NB1251_1250.out
     have hns28_4 := NB1252_1250.out
     have hms28_0 := NB1250_1226.out
     have hms28_1 := NB1250_1227.out
     have hms28_3 := NB1250_1251.out
     have hms28_4 := NB1250_1252.out
     have hs30 : w24.cell? ⟨gb1250, 4, none⟩ = some (.slice none 0 0) := (blk_cell BK1250.out 4).trans rfl
     have hfs30 := blk_frozen BK1250.out 4
     have hns30_0 := NB1226_1250.out
     have hns30_1 := NB1227_1250.out
     have hns30_3 := NB1251_1250.out
     have hns30_4 := NB1252_1250.out
     have hms30_0 := NB1250_1226.out
     have hms30_1 := NB1250_1227.out
     have hms30_3 := NB1250_1251.out
     have hms30_4 := NB1250_1252.out
     refine skip_ (w1 := ?w1_1) ?hw_1 ?hN_1 ?hrun_1 ?h_1
     case hw_1 => rfl
     case hN_1 => rfl
     rotate_left
     ·go_simp
      rfl
     refine hK.out _ _ ⟨((cell_far (p := ⟨gb1250, _, none⟩) NB1227_1250.out _).trans (((cell_far (p := ⟨gb1250, _, none⟩) NB1227_1250.out _).trans (((cell_far (p := ⟨gb1250, _, none⟩) NB1227_1250.out _).trans (((cell_far (p := ⟨gb1250, _, none⟩) NB1227_1250.out _).trans (((cell_far (p := ⟨gb1250, _, none⟩) NB1227_1250.out _).trans (hHeld.1)))))))))), ((cell_far (p := ⟨gb1250, _, none⟩) NB1227_1250.out _).trans (((cell_far (p := ⟨gb1250, _, none⟩) NB1227_1250.out _).trans (((cell_far (p := ⟨gb1250, _, none⟩) NB1227_1250.out _).trans (((cell_far (p := ⟨gb1250, _, none⟩) NB1227_1250.out _).trans (((cell_far (p := ⟨gb1250, _, none⟩) NB1227_1250.out _).trans (hHeld.2.1)))))))))), ((cell_far (p := ⟨gb1250, _, none⟩) NB1227_1250.out _).trans (((cell_far (p := ⟨gb1250, _, none⟩) NB1227_1250.out _).trans (((cell_far (p := ⟨gb1250, _, none⟩) NB1227_1250.out _).trans (((cell_far (p := ⟨gb1250, _, none⟩) NB1227_1250.out _).trans (((cell_far (p := ⟨gb1250, _, none⟩) NB1227_1250.out _).trans (hHeld.2.2.1)))))))))), ((cell_far (p := ⟨gb1250, _, none⟩) NB1227_1250.out _).trans (((cell_far (p := ⟨gb1250, _, none⟩) NB1227_1250.out _).trans (((cell_far (p := ⟨gb1250, _, none⟩) NB1227_1250.out _).trans (((cell_far (p := ⟨gb1250, _, none⟩) NB1227_1250.out _).trans (((cell_far (p := ⟨gb1250, _, none⟩) NB1227_1250.out _).trans (hHeld.2.2.2.1)))))))))), ((cell_far (p := ⟨gb1250, _, none⟩) NB1227_1250.out _).trans (((cell_far (p := ⟨gb1250, _, none⟩) NB1227_1250.out _).trans (((cell_far (p := ⟨gb1250, _, none⟩) NB1227_1250.out _).trans (((cell_far (p := ⟨gb1250, _, none⟩) NB1227_1250.out _).trans (((cell_far (p := ⟨gb1250, _, none⟩) NB1227_1250.out _).trans (hHeld.2.2.2.2))))))))))⟩ (fun hHeld => ?_)
     clear hK K
     refine one_ (i := 10) (N := none) #[true, true, true, true, true, true, true, true, true, true, true, false] rfl rfl (one_of HT_.out (by kernel_rfl)) (by decide) (fun K hK => ?_)
     have hs31 : w24.cell? ⟨gb1251, 0, none⟩ = some (.string (⟨#[]⟩ : ByteArray)) := (blk_cell BK1251.out 0).trans rfl
     have hfs31 := blk_frozen BK1251.out 0
     have hns31_0 := NB1226_1251.out
     have hns31_1 := NB1227_1251.out
     have hns31_2 := NB1250_1251.out
     have hns31_4 := NB1252_1251.out
     have hms31_0 := NB1251_1226.out
     have hms31_1 := NB1251_1227.out
     have hms31_2 := NB1251_1250.out
     have hms31_4 := NB1251_1252.out
     have hs32 : w24.cell? ⟨gb1251, 1, none⟩ = some (.string (⟨#[]⟩ : ByteArray)) := (blk_cell BK1251.out 1).trans rfl
     have hfs32 := blk_frozen BK1251.out 1
     have hns32_0 := NB1226_1251.out
     have hns32_1 := NB1227_1251.out
     have hns32_2 := NB1250_1251.out
     have hns32_4 := NB1252_1251.out
     have hms32_0 := NB1251_1226.out
     have hms32_1 := NB1251_1227.out
     have hms32_2 := NB1251_1250.out
     have hms32_4 := NB1251_1252.out
     have hs33 : w24.cell? ⟨gb1251, 2, none⟩ = some (.bool false) := (blk_cell BK1251.out 2).trans rfl
     have hfs33 := blk_frozen BK1251.out 2
     have hns33_0 := NB1226_1251.out
     have hns33_1 := NB1227_1251.out
     have hns33_2 := NB1250_1251.out
     have hns33_4 := NB1252_1251.out
     have hms33_0 := NB1251_1226.out
     have hms33_1 := NB1251_1227.out
     have hms33_2 := NB1251_1250.out
     have hms33_4 := NB1251_1252.out
     have hs34 : w24.cell? ⟨gb1251, 3, none⟩ = some (.bool false) := (blk_cell BK1251.out 3).trans rfl
     have hfs34 := blk_frozen BK1251.out 3
     have hns34_0 := NB1226_1251.out
     have hns34_1 := NB1227_1251.out
     have hns34_2 := NB1250_1251.out
     have hns34_4 := NB1252_1251.out
     have hms34_0 := NB1251_1226.out
     have hms34_1 := NB1251_1227.out
     have hms34_2 := NB1251_1250.out
     have hms34_4 := NB1251_1252.out
     have hs36 : w24.cell? ⟨gb1251, 4, none⟩ = some (.slice none 0 0) := (blk_cell BK1251.out 4).trans rfl
     have hfs36 := blk_frozen BK1251.out 4
     have hns36_0 := NB1226_1251.out
     have hns36_1 := NB1227_1251.out
     have hns36_2 := NB1250_1251.out
     have hns36_4 := NB1252_1251.out
     have hms36_0 := NB1251_1226.out
     have hms36_1 := NB1251_1227.out
     have hms36_2 := NB1251_1250.out
     have hms36_4 := NB1251_1252.out
     refine skip_ (w1 := ?w1_2) ?hw_2 ?hN_2 ?hrun_2 ?h_2
     case hw_2 => rfl
     case hN_2 => rfl
     rotate_left
     ·go_simp
      rfl
     refine hK.out _ _ ⟨((cell_far (p := ⟨gb1251, _, none⟩) NB1227_1251.out _).trans (((cell_far (p := ⟨gb1251, _, none⟩) NB1227_1251.out _).trans (((cell_far (p := ⟨gb1251, _, none⟩) NB1227_1251.out _).trans (((cell_far (p := ⟨gb1251, _, none⟩) NB1227_1251.out _).trans (((cell_far (p := ⟨gb1251, _, none⟩) NB1227_1251.out _).trans (hHeld.1)))))))))), ((cell_far (p := ⟨gb1251, _, none⟩) NB1227_1251.out _).trans (((cell_far (p := ⟨gb1251, _, none⟩) NB1227_1251.out _).trans (((cell_far (p := ⟨gb1251, _, none⟩) NB1227_1251.out _).trans (((cell_far (p := ⟨gb1251, _, none⟩) NB1227_1251.out _).trans (((cell_far (p := ⟨gb1251, _, none⟩) NB1227_1251.out _).trans (hHeld.2.1)))))))))), ((cell_far (p := ⟨gb1251, _, none⟩) NB1227_1251.out _).trans (((cell_far (p := ⟨gb1251, _, none⟩) NB1227_1251.out _).trans (((cell_far (p := ⟨gb1251, _, none⟩) NB1227_1251.out _).trans (((cell_far (p := ⟨gb1251, _, none⟩) NB1227_1251.out _).trans (((cell_far (p := ⟨gb1251, _, none⟩) NB1227_1251.out _).trans (hHeld.2.2.1)))))))))), ((cell_far (p := ⟨gb1251, _, none⟩) NB1227_1251.out _).trans (((cell_far (p := ⟨gb1251, _, none⟩) NB1227_1251.out _).trans (((cell_far (p := ⟨gb1251, _, none⟩) NB1227_1251.out _).trans (((cell_far (p := ⟨gb1251, _, none⟩) NB1227_1251.out _).trans (((cell_far (p := ⟨gb1251, _, none⟩) NB1227_1251.out _).trans (hHeld.2.2.2.1)))))))))), ((cell_far (p := ⟨gb1251, _, none⟩) NB1227_1251.out _).trans (((cell_far (p := ⟨gb1251, _, none⟩) NB1227_1251.out _).trans (((cell_far (p := ⟨gb1251, _, none⟩) NB1227_1251.out _).trans (((cell_far (p := ⟨gb1251, _, none⟩) NB1227_1251.out _).trans (((cell_far (p := ⟨gb1251, _, none⟩) NB1227_1251.out _).trans (hHeld.2.2.2.2))))))))))⟩ (fun hHeld => ?_)
     clear hK K
     refine one_ (i := 11) (N := none) #[true, true, true, true, true, true, true, true, true, true, true, true] rfl rfl (one_of HT_.out (by kernel_rfl)) (by decide) (fun K hK => ?_)
     have hs37 : w24.cell? ⟨gb1252, 0, none⟩ = some (.string (⟨#[]⟩ : ByteArray)) := (blk_cell BK1252.out 0).trans rfl
     have hfs37 := blk_frozen BK1252.out 0
     have hns37_0 := NB1226_1252.out
     have hns37_1 := NB1227_1252.out
     have hns37_2 := NB1250_1252.out
     have hns37_3 := NB1251_1252.out
     have hms37_0 := NB1252_1226.out
     have hms37_1 := NB1252_1227.out
     have hms37_2 := NB1252_1250.out
     have hms37_3 := NB1252_1251.out
     have hs38 : w24.cell? ⟨gb1252, 1, none⟩ = some (.string (⟨#[]⟩ : ByteArray)) := (blk_cell BK1252.out 1).trans rfl
     have hfs38 := blk_frozen BK1252.out 1
     have hns38_0 := NB1226_1252.out
     have hns38_1 := NB1227_1252.out
     have hns38_2 := NB1250_1252.out
     have hns38_3 := NB1251_1252.out
     have hms38_0 := NB1252_1226.out
     have hms38_1 := NB1252_1227.out
     have hms38_2 := NB1252_1250.out
     have hms38_3 := NB1252_1251.out
     have hs39 : w24.cell? ⟨gb1252, 2, none⟩ = some (.bool false) := (blk_cell BK1252.out 2).trans rfl
     have hfs39 := blk_frozen BK1252.out 2
     have hns39_0 := NB1226_1252.out
     have hns39_1 := NB1227_1252.out
     have hns39_2 := NB1250_1252.out
     have hns39_3 := NB1251_1252.out
     have hms39_0 := NB1252_1226.out
     have hms39_1 := NB1252_1227.out
     have hms39_2 := NB1252_1250.out
     have hms39_3 := NB1252_1251.out
     have hs40 : w24.cell? ⟨gb1252, 3, none⟩ = some (.bool false) := (blk_cell BK1252.out 3).trans rfl
     have hfs40 := blk_frozen BK1252.out 3
     have hns40_0 := NB1226_1252.out
     have hns40_1 := NB1227_1252.out
     have hns40_2 := NB1250_1252.out
     have hns40_3 := NB1251_1252.out
     have hms40_0 := NB1252_1226.out
     have hms40_1 := NB1252_1227.out
     have hms40_2 := NB1252_1250.out
     have hms40_3 := NB1252_1251.out
     have hs42 : w24.cell? ⟨gb1252, 4, none⟩ = some (.slice none 0 0) := (blk_cell BK1252.out 4).trans rfl
     have hfs42 := blk_frozen BK1252.out 4
     have hns42_0 := NB1226_1252.out
     have hns42_1 := NB1227_1252.out
     have hns42_2 := NB1250_1252.out
     have hns42_3 := NB1251_1252.out
     have hms42_0 := NB1252_1226.out
     have hms42_1 := NB1252_1227.out
     have hms42_2 := NB1252_1250.out
     have hms42_3 := NB1252_1251.out
     refine skip_ (w1 := ?w1_3) ?hw_3 ?hN_3 ?hrun_3 ?h_3
     case hw_3 => rfl
     case hN_3 => rfl
     rotate_left
     ·go_simp
      rfl
     refine hK.out _ _ ⟨((cell_far (p := ⟨gb1252, _, none⟩) NB1227_1252.out _).trans (((cell_far (p := ⟨gb1252, _, none⟩) NB1227_1252.out _).trans (((cell_far (p := ⟨gb1252, _, none⟩) NB1227_1252.out _).trans (((cell_far (p := ⟨gb1252, _, none⟩) NB1227_1252.out _).trans (((cell_far (p := ⟨gb1252, _, none⟩) NB1227_1252.out _).trans (hHeld.1)))))))))), ((cell_far (p := ⟨gb1252, _, none⟩) NB1227_1252.out _).trans (((cell_far (p := ⟨gb1252, _, none⟩) NB1227_1252.out _).trans (((cell_far (p := ⟨gb1252, _, none⟩) NB1227_1252.out _).trans (((cell_far (p := ⟨gb1252, _, none⟩) NB1227_1252.out _).trans (((cell_far (p := ⟨gb1252, _, none⟩) NB1227_1252.out _).trans (hHeld.2.1)))))))))), ((cell_far (p := ⟨gb1252, _, none⟩) NB1227_1252.out _).trans (((cell_far (p := ⟨gb1252, _, none⟩) NB1227_1252.out _).trans (((cell_far (p := ⟨gb1252, _, none⟩) NB1227_1252.out _).trans (((cell_far (p := ⟨gb1252, _, none⟩) NB1227_1252.out _).trans (((cell_far (p := ⟨gb1252, _, none⟩) NB1227_1252.out _).trans (hHeld.2.2.1)))))))))), ((cell_far (p := ⟨gb1252, _, none⟩) NB1227_1252.out _).trans (((cell_far (p := ⟨gb1252, _, none⟩) NB1227_1252.out _).trans (((cell_far (p := ⟨gb1252, _, none⟩) NB1227_1252.out _).trans (((cell_far (p := ⟨gb1252, _, none⟩) NB1227_1252.out _).trans (((cell_far (p := ⟨gb1252, _, none⟩) NB1227_1252.out _).trans (hHeld.2.2.2.1)))))))))), ((cell_far (p := ⟨gb1252, _, none⟩) NB1227_1252.out _).trans (((cell_far (p := ⟨gb1252, _, none⟩) NB1227_1252.out _).trans (((cell_far (p := ⟨gb1252, _, none⟩) NB1227_1252.out _).trans (((cell_far (p := ⟨gb1252, _, none⟩) NB1227_1252.out _).trans (((cell_far (p := ⟨gb1252, _, none⟩) NB1227_1252.out _).trans (hHeld.2.2.2.2))))))))))⟩ (fun hHeld => ?_)
     clear hK K
     refine done_ (done_of HT_.out (by kernel_rfl)) ?_
     (try clear hms42_3 hms42_2 hms42_1 hms42_0 hns42_3 hns42_2 hns42_1 hns42_0 hfs42 hs42 hms40_3 hms40_2 hms40_1 hms40_0 hns40_3 hns40_2 hns40_1 hns40_0 hfs40 hs40 hms39_3 hms39_2 hms39_1 hms39_0 hns39_3 hns39_2 hns39_1 hns39_0 hfs39 hs39 hms38_3 hms38_2 hms38_1 hms38_0 hns38_3 hns38_2 hns38_1 hns38_0 hfs38 hs38 hms37_3 hms37_2 hms37_1 hms37_0 hns37_3 hns37_2 hns37_1 hns37_0 hfs37 hs37 hms36_4 hms36_2 hms36_1 hms36_0 hns36_4 hns36_2 hns36_1 hns36_0 hfs36 hs36 hms34_4 hms34_2 hms34_1 hms34_0 hns34_4 hns34_2 hns34_1 hns34_0 hfs34 hs34 hms33_4 hms33_2 hms33_1 hms33_0 hns33_4 hns33_2 hns33_1 hns33_0 hfs33 hs33 hms32_4 hms32_2 hms32_1 hms32_0 hns32_4 hns32_2 hns32_1 hns32_0 hfs32 hs32 hms31_4 hms31_2 hms31_1 hms31_0 hns31_4 hns31_2 hns31_1 hns31_0 hfs31 hs31 hms30_4 hms30_3 hms30_1 hms30_0 hns30_4 hns30_3 hns30_1 hns30_0 hfs30 hs30 hms28_4 hms28_3 hms28_1 hms28_0 hns28_4 hns28_3 hns28_1 hns28_0 hfs28 hs28 hms27_4 hms27_3 hms27_1 hms27_0 hns27_4 hns27_3 hns27_1 hns27_0 hfs27 hs27 hms26_4 hms26_3 hms26_1 hms26_0 hns26_4 hns26_3 hns26_1 hns26_0 hfs26 hs26 hms25_4 hms25_3 hms25_1 hms25_0 hns25_4 hns25_3 hns25_1 hns25_0 hfs25 hs25)
     have n0_ : Aside0 (Kd.R k60 60 (((((((((((((((w24.setCell ⟨gb1250, 0, none⟩ (.string t1229)).setCell ⟨gb1250, 1, none⟩ (.string t1230)).setCell ⟨gb1250, 2, none⟩ (.bool t1231)).setCell ⟨gb1250, 3, none⟩ (.bool t1232)).setCell ⟨gb1250, 4, none⟩ (.slice Ao29 t1233.length co29)).setCell ⟨gb1251, 0, none⟩ (.string t1236)).setCell ⟨gb1251, 1, none⟩ (.string t1237)).setCell ⟨gb1251, 2, none⟩ (.bool t1238)).setCell ⟨gb1251, 3, none⟩ (.bool t1239)).setCell ⟨gb1251, 4, none⟩ (.slice Ao35 t1240.length co35)).setCell ⟨gb1252, 0, none⟩ (.string t1243)).setCell ⟨gb1252, 1, none⟩ (.string t1244)).setCell ⟨gb1252, 2, none⟩ (.bool t1245)).setCell ⟨gb1252, 3, none⟩ (.bool t1246)).setCell ⟨gb1252, 4, none⟩ (.slice Ao41 t1247.length co41)) w.heap.size (fun k_ => some k_ ≠ (.slice Ao35 t1240.length co35 : Value).ownBlock ∧ some k_ ≠ (.slice Ao41 t1247.length co41 : Value).ownBlock) (.slice Ao29 t1233.length co29) t1233) := ⟨by (with_reducible repeat (first | apply Kd.R_alloc | apply Kd.R_drewN | apply Kd.R_drew)); exact Kd.R_mono (Kd.R_far (p := ⟨gb1252, 4, none⟩) (Kd.R_far (p := ⟨gb1252, 3, none⟩) (Kd.R_far (p := ⟨gb1252, 2, none⟩) (Kd.R_far (p := ⟨gb1252, 1, none⟩) (Kd.R_far (p := ⟨gb1252, 0, none⟩) (Kd.R_far (p := ⟨gb1251, 4, none⟩) (Kd.R_far (p := ⟨gb1251, 3, none⟩) (Kd.R_far (p := ⟨gb1251, 2, none⟩) (Kd.R_far (p := ⟨gb1251, 1, none⟩) (Kd.R_far (p := ⟨gb1251, 0, none⟩) (Kd.R_far (p := ⟨gb1250, 4, none⟩) (Kd.R_far (p := ⟨gb1250, 3, none⟩) (Kd.R_far (p := ⟨gb1250, 2, none⟩) (Kd.R_far (p := ⟨gb1250, 1, none⟩) (Kd.R_far (p := ⟨gb1250, 0, none⟩) (Kd.R_types (Kd.R_types (Kd.R_types HO1235.out BK1250.out (by decide)) BK1251.out (by decide)) BK1252.out (by decide)) (fun _ hk => hk.1.1.2) (.string t1229)) (fun _ hk => hk.1.1.2) (.string t1230)) (fun _ hk => hk.1.1.2) (.bool t1231)) (fun _ hk => hk.1.1.2) (.bool t1232)) (fun _ hk => hk.1.1.2) (.slice Ao29 t1233.length co29)) (fun _ hk => hk.1.2) (.string t1236)) (fun _ hk => hk.1.2) (.string t1237)) (fun _ hk => hk.1.2) (.bool t1238)) (fun _ hk => hk.1.2) (.bool t1239)) (fun _ hk => hk.1.2) (.slice Ao35 t1240.length co35)) (fun _ hk => hk.2) (.string t1243)) (fun _ hk => hk.2) (.string t1244)) (fun _ hk => hk.2) (.bool t1245)) (fun _ hk => hk.2) (.bool t1246)) (fun _ hk => hk.2) (.slice Ao41 t1247.length co41)) (fun _ hk => ⟨hk.1.1.1.1, hk.1.1.1.2⟩)⟩
     have n1_ : Aside0 (Kd.R k60 60 (((((((((((((((w24.setCell ⟨gb1250, 0, none⟩ (.string t1229)).setCell ⟨gb1250, 1, none⟩ (.string t1230)).setCell ⟨gb1250, 2, none⟩ (.bool t1231)).setCell ⟨gb1250, 3, none⟩ (.bool t1232)).setCell ⟨gb1250, 4, none⟩ (.slice Ao29 t1233.length co29)).setCell ⟨gb1251, 0, none⟩ (.string t1236)).setCell ⟨gb1251, 1, none⟩ (.string t1237)).setCell ⟨gb1251, 2, none⟩ (.bool t1238)).setCell ⟨gb1251, 3, none⟩ (.bool t1239)).setCell ⟨gb1251, 4, none⟩ (.slice Ao35 t1240.length co35)).setCell ⟨gb1252, 0, none⟩ (.string t1243)).setCell ⟨gb1252, 1, none⟩ (.string t1244)).setCell ⟨gb1252, 2, none⟩ (.bool t1245)).setCell ⟨gb1252, 3, none⟩ (.bool t1246)).setCell ⟨gb1252, 4, none⟩ (.slice Ao41 t1247.length co41)) w.heap.size (fun k_ => some k_ ≠ (.slice Ao29 t1233.length co29 : Value).ownBlock ∧ some k_ ≠ (.slice Ao41 t1247.length co41 : Value).ownBlock) (.slice Ao35 t1240.length co35) t1240) := ⟨by (with_reducible repeat (first | apply Kd.R_alloc | apply Kd.R_drewN | apply Kd.R_drew)); exact Kd.R_mono (Kd.R_far (p := ⟨gb1252, 4, none⟩) (Kd.R_far (p := ⟨gb1252, 3, none⟩) (Kd.R_far (p := ⟨gb1252, 2, none⟩) (Kd.R_far (p := ⟨gb1252, 1, none⟩) (Kd.R_far (p := ⟨gb1252, 0, none⟩) (Kd.R_far (p := ⟨gb1251, 4, none⟩) (Kd.R_far (p := ⟨gb1251, 3, none⟩) (Kd.R_far (p := ⟨gb1251, 2, none⟩) (Kd.R_far (p := ⟨gb1251, 1, none⟩) (Kd.R_far (p := ⟨gb1251, 0, none⟩) (Kd.R_far (p := ⟨gb1250, 4, none⟩) (Kd.R_far (p := ⟨gb1250, 3, none⟩) (Kd.R_far (p := ⟨gb1250, 2, none⟩) (Kd.R_far (p := ⟨gb1250, 1, none⟩) (Kd.R_far (p := ⟨gb1250, 0, none⟩) (Kd.R_types (Kd.R_types (Kd.R_types HO1242.out BK1250.out (by decide)) BK1251.out (by decide)) BK1252.out (by decide)) (fun _ hk => hk.1.1.2) (.string t1229)) (fun _ hk => hk.1.1.2) (.string t1230)) (fun _ hk => hk.1.1.2) (.bool t1231)) (fun _ hk => hk.1.1.2) (.bool t1232)) (fun _ hk => hk.1.1.2) (.slice Ao29 t1233.length co29)) (fun _ hk => hk.1.2) (.string t1236)) (fun _ hk => hk.1.2) (.string t1237)) (fun _ hk => hk.1.2) (.bool t1238)) (fun _ hk => hk.1.2) (.bool t1239)) (fun _ hk => hk.1.2) (.slice Ao35 t1240.length co35)) (fun _ hk => hk.2) (.string t1243)) (fun _ hk => hk.2) (.string t1244)) (fun _ hk => hk.2) (.bool t1245)) (fun _ hk => hk.2) (.bool t1246)) (fun _ hk => hk.2) (.slice Ao41 t1247.length co41)) (fun _ hk => ⟨hk.1.1.1.1, hk.1.1.1.2⟩)⟩
     have n2_ : Aside0 (Kd.R k60 60 (((((((((((((((w24.setCell ⟨gb1250, 0, none⟩ (.string t1229)).setCell ⟨gb1250, 1, none⟩ (.string t1230)).setCell ⟨gb1250, 2, none⟩ (.bool t1231)).setCell ⟨gb1250, 3, none⟩ (.bool t1232)).setCell ⟨gb1250, 4, none⟩ (.slice Ao29 t1233.length co29)).setCell ⟨gb1251, 0, none⟩ (.string t1236)).setCell ⟨gb1251, 1, none⟩ (.string t1237)).setCell ⟨gb1251, 2, none⟩ (.bool t1238)).setCell ⟨gb1251, 3, none⟩ (.bool t1239)).setCell ⟨gb1251, 4, none⟩ (.slice Ao35 t1240.length co35)).setCell ⟨gb1252, 0, none⟩ (.string t1243)).setCell ⟨gb1252, 1, none⟩ (.string t1244)).setCell ⟨gb1252, 2, none⟩ (.bool t1245)).setCell ⟨gb1252, 3, none⟩ (.bool t1246)).setCell ⟨gb1252, 4, none⟩ (.slice Ao41 t1247.length co41)) w.heap.size (fun k_ => some k_ ≠ (.slice Ao29 t1233.length co29 : Value).ownBlock ∧ some k_ ≠ (.slice Ao35 t1240.length co35 : Value).ownBlock) (.slice Ao41 t1247.length co41) t1247) := ⟨by (with_reducible repeat (first | apply Kd.R_alloc | apply Kd.R_drewN | apply Kd.R_drew)); exact Kd.R_mono (Kd.R_far (p := ⟨gb1252, 4, none⟩) (Kd.R_far (p := ⟨gb1252, 3, none⟩) (Kd.R_far (p := ⟨gb1252, 2, none⟩) (Kd.R_far (p := ⟨gb1252, 1, none⟩) (Kd.R_far (p := ⟨gb1252, 0, none⟩) (Kd.R_far (p := ⟨gb1251, 4, none⟩) (Kd.R_far (p := ⟨gb1251, 3, none⟩) (Kd.R_far (p := ⟨gb1251, 2, none⟩) (Kd.R_far (p := ⟨gb1251, 1, none⟩) (Kd.R_far (p := ⟨gb1251, 0, none⟩) (Kd.R_far (p := ⟨gb1250, 4, none⟩) (Kd.R_far (p := ⟨gb1250, 3, none⟩) (Kd.R_far (p := ⟨gb1250, 2, none⟩) (Kd.R_far (p := ⟨gb1250, 1, none⟩) (Kd.R_far (p := ⟨gb1250, 0, none⟩) (Kd.R_types (Kd.R_types (Kd.R_types HO1249.out BK1250.out (by decide)) BK1251.out (by decide)) BK1252.out (by decide)) (fun _ hk => hk.1.1.2) (.string t1229)) (fun _ hk => hk.1.1.2) (.string t1230)) (fun _ hk => hk.1.1.2) (.bool t1231)) (fun _ hk => hk.1.1.2) (.bool t1232)) (fun _ hk => hk.1.1.2) (.slice Ao29 t1233.length co29)) (fun _ hk => hk.1.2) (.string t1236)) (fun _ hk => hk.1.2) (.string t1237)) (fun _ hk => hk.1.2) (.bool t1238)) (fun _ hk => hk.1.2) (.bool t1239)) (fun _ hk => hk.1.2) (.slice Ao35 t1240.length co35)) (fun _ hk => hk.2) (.string t1243)) (fun _ hk => hk.2) (.string t1244)) (fun _ hk => hk.2) (.bool t1245)) (fun _ hk => hk.2) (.bool t1246)) (fun _ hk => hk.2) (.slice Ao41 t1247.length co41)) (fun _ hk => ⟨hk.1.1.1.1, hk.1.1.1.2⟩)⟩
     have n3_ : Aside0 ((((((((((((((((w24.setCell ⟨gb1250, 0, none⟩ (.string t1229)).setCell ⟨gb1250, 1, none⟩ (.string t1230)).setCell ⟨gb1250, 2, none⟩ (.bool t1231)).setCell ⟨gb1250, 3, none⟩ (.bool t1232)).setCell ⟨gb1250, 4, none⟩ (.slice Ao29 t1233.length co29)).setCell ⟨gb1251, 0, none⟩ (.string t1236)).setCell ⟨gb1251, 1, none⟩ (.string t1237)).setCell ⟨gb1251, 2, none⟩ (.bool t1238)).setCell ⟨gb1251, 3, none⟩ (.bool t1239)).setCell ⟨gb1251, 4, none⟩ (.slice Ao35 t1240.length co35)).setCell ⟨gb1252, 0, none⟩ (.string t1243)).setCell ⟨gb1252, 1, none⟩ (.string t1244)).setCell ⟨gb1252, 2, none⟩ (.bool t1245)).setCell ⟨gb1252, 3, none⟩ (.bool t1246)).setCell ⟨gb1252, 4, none⟩ (.slice Ao41 t1247.length co41)).heap[gb1226]? = some (.cells #[.bool a0_0, .string a0_1, .string a0_2, .string a0_3, .int .i64 a0_4, .int .i64 a0_5, .string a0_6, .string a0_7, .int .i64 a0_8] 45 (0, 0))) := ⟨by refine far3_ ?_ NB1226_1252.out; refine blk_far ?_ NB1226_1252.out _; refine blk_far ?_ NB1226_1252.out _; refine far3_ ?_ NB1226_1251.out; refine blk_far ?_ NB1226_1251.out _; refine blk_far ?_ NB1226_1251.out _; refine far3_ ?_ NB1226_1250.out; refine blk_far ?_ NB1226_1250.out _; refine blk_far ?_ NB1226_1250.out _; exact BK1226.out⟩
     have n4_ : Aside0 ((((((((((((((((w24.setCell ⟨gb1250, 0, none⟩ (.string t1229)).setCell ⟨gb1250, 1, none⟩ (.string t1230)).setCell ⟨gb1250, 2, none⟩ (.bool t1231)).setCell ⟨gb1250, 3, none⟩ (.bool t1232)).setCell ⟨gb1250, 4, none⟩ (.slice Ao29 t1233.length co29)).setCell ⟨gb1251, 0, none⟩ (.string t1236)).setCell ⟨gb1251, 1, none⟩ (.string t1237)).setCell ⟨gb1251, 2, none⟩ (.bool t1238)).setCell ⟨gb1251, 3, none⟩ (.bool t1239)).setCell ⟨gb1251, 4, none⟩ (.slice Ao35 t1240.length co35)).setCell ⟨gb1252, 0, none⟩ (.string t1243)).setCell ⟨gb1252, 1, none⟩ (.string t1244)).setCell ⟨gb1252, 2, none⟩ (.bool t1245)).setCell ⟨gb1252, 3, none⟩ (.bool t1246)).setCell ⟨gb1252, 4, none⟩ (.slice Ao41 t1247.length co41)).heap[gb1227]? = some (.cells #[.string a1_0, .string a1_1, .bool a1_2, .bool a1_3, .slice A1_4 l1_4.length c1_4] 54 (0, 0))) := ⟨by refine far3_ ?_ NB1227_1252.out; refine blk_far ?_ NB1227_1252.out _; refine blk_far ?_ NB1227_1252.out _; refine far3_ ?_ NB1227_1251.out; refine blk_far ?_ NB1227_1251.out _; refine blk_far ?_ NB1227_1251.out _; refine far3_ ?_ NB1227_1250.out; refine blk_far ?_ NB1227_1250.out _; refine blk_far ?_ NB1227_1250.out _; exact BK1227.out⟩
     have n5_ : Aside0 ((((((((((((((((w24.setCell ⟨gb1250, 0, none⟩ (.string t1229)).setCell ⟨gb1250, 1, none⟩ (.string t1230)).setCell ⟨gb1250, 2, none⟩ (.bool t1231)).setCell ⟨gb1250, 3, none⟩ (.bool t1232)).setCell ⟨gb1250, 4, none⟩ (.slice Ao29 t1233.length co29)).setCell ⟨gb1251, 0, none⟩ (.string t1236)).setCell ⟨gb1251, 1, none⟩ (.string t1237)).setCell ⟨gb1251, 2, none⟩ (.bool t1238)).setCell ⟨gb1251, 3, none⟩ (.bool t1239)).setCell ⟨gb1251, 4, none⟩ (.slice Ao35 t1240.length co35)).setCell ⟨gb1252, 0, none⟩ (.string t1243)).setCell ⟨gb1252, 1, none⟩ (.string t1244)).setCell ⟨gb1252, 2, none⟩ (.bool t1245)).setCell ⟨gb1252, 3, none⟩ (.bool t1246)).setCell ⟨gb1252, 4, none⟩ (.slice Ao41 t1247.length co41)).heap[gb1250]? = some (.cells #[.string t1229, .string t1230, .bool t1231, .bool t1232, .slice Ao29 t1233.length co29] 54 (0, 0))) := ⟨by refine far3_ ?_ NB1250_1252.out; refine blk_far ?_ NB1250_1252.out _; refine blk_far ?_ NB1250_1252.out _; refine far3_ ?_ NB1250_1251.out; refine blk_far ?_ NB1250_1251.out _; refine blk_far ?_ NB1250_1251.out _; refine blk_put (cs := #[.string t1229, .string t1230, .bool t1231, .bool t1232, .slice none 0 0]) ?_ 4 _ rfl; refine blk_put (cs := #[.string t1229, .string t1230, .bool t1231, .bool false, .slice none 0 0]) ?_ 3 _ rfl; refine blk_put (cs := #[.string t1229, .string t1230, .bool false, .bool false, .slice none 0 0]) ?_ 2 _ rfl; refine blk_put (cs := #[.string t1229, .string (⟨#[]⟩ : ByteArray), .bool false, .bool false, .slice none 0 0]) ?_ 1 _ rfl; refine blk_put (cs := #[.string (⟨#[]⟩ : ByteArray), .string (⟨#[]⟩ : ByteArray), .bool false, .bool false, .slice none 0 0]) ?_ 0 _ rfl; exact BK1250.out⟩
     have n6_ : Aside0 ((((((((((((((((w24.setCell ⟨gb1250, 0, none⟩ (.string t1229)).setCell ⟨gb1250, 1, none⟩ (.string t1230)).setCell ⟨gb1250, 2, none⟩ (.bool t1231)).setCell ⟨gb1250, 3, none⟩ (.bool t1232)).setCell ⟨gb1250, 4, none⟩ (.slice Ao29 t1233.length co29)).setCell ⟨gb1251, 0, none⟩ (.string t1236)).setCell ⟨gb1251, 1, none⟩ (.string t1237)).setCell ⟨gb1251, 2, none⟩ (.bool t1238)).setCell ⟨gb1251, 3, none⟩ (.bool t1239)).setCell ⟨gb1251, 4, none⟩ (.slice Ao35 t1240.length co35)).setCell ⟨gb1252, 0, none⟩ (.string t1243)).setCell ⟨gb1252, 1, none⟩ (.string t1244)).setCell ⟨gb1252, 2, none⟩ (.bool t1245)).setCell ⟨gb1252, 3, none⟩ (.bool t1246)).setCell ⟨gb1252, 4, none⟩ (.slice Ao41 t1247.length co41)).heap[gb1251]? = some (.cells #[.string t1236, .string t1237, .bool t1238, .bool t1239, .slice Ao35 t1240.length co35] 54 (0, 0))) := ⟨by refine far3_ ?_ NB1251_1252.out; refine blk_far ?_ NB1251_1252.out _; refine blk_far ?_ NB1251_1252.out _; refine blk_put (cs := #[.string t1236, .string t1237, .bool t1238, .bool t1239, .slice none 0 0]) ?_ 4 _ rfl; refine blk_put (cs := #[.string t1236, .string t1237, .bool t1238, .bool false, .slice none 0 0]) ?_ 3 _ rfl; refine blk_put (cs := #[.string t1236, .string t1237, .bool false, .bool false, .slice none 0 0]) ?_ 2 _ rfl; refine blk_put (cs := #[.string t1236, .string (⟨#[]⟩ : ByteArray), .bool false, .bool false, .slice none 0 0]) ?_ 1 _ rfl; refine blk_put (cs := #[.string (⟨#[]⟩ : ByteArray), .string (⟨#[]⟩ : ByteArray), .bool false, .bool false, .slice none 0 0]) ?_ 0 _ rfl; refine far3_ ?_ NB1251_1250.out; refine blk_far ?_ NB1251_1250.out _; refine blk_far ?_ NB1251_1250.out _; exact BK1251.out⟩
     have n7_ : Aside0 ((((((((((((((((w24.setCell ⟨gb1250, 0, none⟩ (.string t1229)).setCell ⟨gb1250, 1, none⟩ (.string t1230)).setCell ⟨gb1250, 2, none⟩ (.bool t1231)).setCell ⟨gb1250, 3, none⟩ (.bool t1232)).setCell ⟨gb1250, 4, none⟩ (.slice Ao29 t1233.length co29)).setCell ⟨gb1251, 0, none⟩ (.string t1236)).setCell ⟨gb1251, 1, none⟩ (.string t1237)).setCell ⟨gb1251, 2, none⟩ (.bool t1238)).setCell ⟨gb1251, 3, none⟩ (.bool t1239)).setCell ⟨gb1251, 4, none⟩ (.slice Ao35 t1240.length co35)).setCell ⟨gb1252, 0, none⟩ (.string t1243)).setCell ⟨gb1252, 1, none⟩ (.string t1244)).setCell ⟨gb1252, 2, none⟩ (.bool t1245)).setCell ⟨gb1252, 3, none⟩ (.bool t1246)).setCell ⟨gb1252, 4, none⟩ (.slice Ao41 t1247.length co41)).heap[gb1252]? = some (.cells #[.string t1243, .string t1244, .bool t1245, .bool t1246, .slice Ao41 t1247.length co41] 54 (0, 0))) := ⟨by refine blk_put (cs := #[.string t1243, .string t1244, .bool t1245, .bool t1246, .slice none 0 0]) ?_ 4 _ rfl; refine blk_put (cs := #[.string t1243, .string t1244, .bool t1245, .bool false, .slice none 0 0]) ?_ 3 _ rfl; refine blk_put (cs := #[.string t1243, .string t1244, .bool false, .bool false, .slice none 0 0]) ?_ 2 _ rfl; refine blk_put (cs := #[.string t1243, .string (⟨#[]⟩ : ByteArray), .bool false, .bool false, .slice none 0 0]) ?_ 1 _ rfl; refine blk_put (cs := #[.string (⟨#[]⟩ : ByteArray), .string (⟨#[]⟩ : ByteArray), .bool false, .bool false, .slice none 0 0]) ?_ 0 _ rfl; refine far3_ ?_ NB1252_1251.out; refine blk_far ?_ NB1252_1251.out _; refine blk_far ?_ NB1252_1251.out _; refine far3_ ?_ NB1252_1250.out; refine blk_far ?_ NB1252_1250.out _; refine blk_far ?_ NB1252_1250.out _; exact BK1252.out⟩
     have n8_ : Aside0 (Below w.heap.size w (((((((((((((((w24.setCell ⟨gb1250, 0, none⟩ (.string t1229)).setCell ⟨gb1250, 1, none⟩ (.string t1230)).setCell ⟨gb1250, 2, none⟩ (.bool t1231)).setCell ⟨gb1250, 3, none⟩ (.bool t1232)).setCell ⟨gb1250, 4, none⟩ (.slice Ao29 t1233.length co29)).setCell ⟨gb1251, 0, none⟩ (.string t1236)).setCell ⟨gb1251, 1, none⟩ (.string t1237)).setCell ⟨gb1251, 2, none⟩ (.bool t1238)).setCell ⟨gb1251, 3, none⟩ (.bool t1239)).setCell ⟨gb1251, 4, none⟩ (.slice Ao35 t1240.length co35)).setCell ⟨gb1252, 0, none⟩ (.string t1243)).setCell ⟨gb1252, 1, none⟩ (.string t1244)).setCell ⟨gb1252, 2, none⟩ (.bool t1245)).setCell ⟨gb1252, 3, none⟩ (.bool t1246)).setCell ⟨gb1252, 4, none⟩ (.slice Ao41 t1247.length co41))) := ⟨hb_⟩
     (try clear HO1235)
     (try clear HO1242)
     (try clear HO1249)
     (try clear BK1226)
     (try clear BK1227)
     (try clear BK1250)
     (try clear BK1251)
     (try clear BK1252)
     (try clear HB)
     generalize (((((((((((((((w24.setCell ⟨gb1250, 0, none⟩ (.string t1229)).setCell ⟨gb1250, 1, none⟩ (.string t1230)).setCell ⟨gb1250, 2, none⟩ (.bool t1231)).setCell ⟨gb1250, 3, none⟩ (.bool t1232)).setCell ⟨gb1250, 4, none⟩ (.slice Ao29 t1233.length co29)).setCell ⟨gb1251, 0, none⟩ (.string t1236)).setCell ⟨gb1251, 1, none⟩ (.string t1237)).setCell ⟨gb1251, 2, none⟩ (.bool t1238)).setCell ⟨gb1251, 3, none⟩ (.bool t1239)).setCell ⟨gb1251, 4, none⟩ (.slice Ao35 t1240.length co35)).setCell ⟨gb1252, 0, none⟩ (.string t1243)).setCell ⟨gb1252, 1, none⟩ (.string t1244)).setCell ⟨gb1252, 2, none⟩ (.bool t1245)).setCell ⟨gb1252, 3, none⟩ (.bool t1246)).setCell ⟨gb1252, 4, none⟩ (.slice Ao41 t1247.length co41)) = w43 at n0_ n1_ n2_ n3_ n4_ n5_ n6_ n7_ n8_ ⊢
     have HO1235 := n0_
     have HO1242 := n1_
     have HO1249 := n2_
     have BK1226 := n3_
     have BK1227 := n4_
     have BK1250 := n5_
     have BK1251 := n6_
     have BK1252 := n7_
     have HB := n8_
     clear n0_ n1_ n2_ n3_ n4_ n5_ n6_ n7_ n8_
     have hnb44 := LB1226_1250.out
     have hnc44 := LB1226_1250.out
     have hnb45 := LB1227_1250.out
     have hnc45 := LB1227_1250.out
     have hnb46 := NB1250_1251.out
     have hnc46 := NB1251_1250.out
     have hnb47 := NB1250_1252.out
     have hnc47 := NB1252_1250.out
     obtain ⟨hcz48_0, hcz48_1, hcz48_2, hcz48_3, hcz48_4, hfz48_0, hfz48_1, hfz48_2, hfz48_3, hfz48_4⟩ := BK1250.c5
     have hnb49 := LB1226_1251.out
     have hnc49 := LB1226_1251.out
     have hnb50 := LB1227_1251.out
     have hnc50 := LB1227_1251.out
     have hnb51 := NB1251_1252.out
     have hnc51 := NB1252_1251.out
     obtain ⟨hcz52_0, hcz52_1, hcz52_2, hcz52_3, hcz52_4, hfz52_0, hfz52_1, hfz52_2, hfz52_3, hfz52_4⟩ := BK1251.c5
     have hnb53 := LB1226_1252.out
     have hnc53 := LB1226_1252.out
     have hnb54 := LB1227_1252.out
     have hnc54 := LB1227_1252.out
     obtain ⟨hcz55_0, hcz55_1, hcz55_2, hcz55_3, hcz55_4, hfz55_0, hfz55_1, hfz55_2, hfz55_3, hfz55_4⟩ := BK1252.c5
     try go_wp2
     have n0_ : Aside0 (Kd.R k60 60 ((((((w43.setCell ⟨gb1250, 2, none⟩ (.bool false)).setCell ⟨gb1250, 3, none⟩ (.bool false)).setCell ⟨gb1251, 2, none⟩ (.bool true)).setCell ⟨gb1251, 3, none⟩ (.bool false)).setCell ⟨gb1252, 2, none⟩ (.bool false)).setCell ⟨gb1252, 3, none⟩ (.bool true)) w.heap.size (fun k_ => some k_ ≠ (.slice Ao35 t1240.length co35 : Value).ownBlock ∧ some k_ ≠ (.slice Ao41 t1247.length co41 : Value).ownBlock) (.slice Ao29 t1233.length co29) t1233) := ⟨by (with_reducible repeat (first | apply Kd.R_alloc | apply Kd.R_drewN | apply Kd.R_drew)); exact Kd.R_mono (Kd.R_far (p := ⟨gb1252, 3, none⟩) (Kd.R_far (p := ⟨gb1252, 2, none⟩) (Kd.R_far (p := ⟨gb1251, 3, none⟩) (Kd.R_far (p := ⟨gb1251, 2, none⟩) (Kd.R_far (p := ⟨gb1250, 3, none⟩) (Kd.R_far (p := ⟨gb1250, 2, none⟩) (Kd.R_types (Kd.R_types (Kd.R_types HO1235.out BK1250.out (by decide)) BK1251.out (by decide)) BK1252.out (by decide)) (fun _ hk => hk.1.1.2) (.bool false)) (fun _ hk => hk.1.1.2) (.bool false)) (fun _ hk => hk.1.2) (.bool true)) (fun _ hk => hk.1.2) (.bool false)) (fun _ hk => hk.2) (.bool false)) (fun _ hk => hk.2) (.bool true)) (fun _ hk => ⟨hk.1.1.1.1, hk.1.1.1.2⟩)⟩
     have n1_ : Aside0 (Kd.R k60 60 ((((((w43.setCell ⟨gb1250, 2, none⟩ (.bool false)).setCell ⟨gb1250, 3, none⟩ (.bool false)).setCell ⟨gb1251, 2, none⟩ (.bool true)).setCell ⟨gb1251, 3, none⟩ (.bool false)).setCell ⟨gb1252, 2, none⟩ (.bool false)).setCell ⟨gb1252, 3, none⟩ (.bool true)) w.heap.size (fun k_ => some k_ ≠ (.slice Ao29 t1233.length co29 : Value).ownBlock ∧ some k_ ≠ (.slice Ao41 t1247.length co41 : Value).ownBlock) (.slice Ao35 t1240.length co35) t1240) := ⟨by (with_reducible repeat (first | apply Kd.R_alloc | apply Kd.R_drewN | apply Kd.R_drew)); exact Kd.R_mono (Kd.R_far (p := ⟨gb1252, 3, none⟩) (Kd.R_far (p := ⟨gb1252, 2, none⟩) (Kd.R_far (p := ⟨gb1251, 3, none⟩) (Kd.R_far (p := ⟨gb1251, 2, none⟩) (Kd.R_far (p := ⟨gb1250, 3, none⟩) (Kd.R_far (p := ⟨gb1250, 2, none⟩) (Kd.R_types (Kd.R_types (Kd.R_types HO1242.out BK1250.out (by decide)) BK1251.out (by decide)) BK1252.out (by decide)) (fun _ hk => hk.1.1.2) (.bool false)) (fun _ hk => hk.1.1.2) (.bool false)) (fun _ hk => hk.1.2) (.bool true)) (fun _ hk => hk.1.2) (.bool false)) (fun _ hk => hk.2) (.bool false)) (fun _ hk => hk.2) (.bool true)) (fun _ hk => ⟨hk.1.1.1.1, hk.1.1.1.2⟩)⟩
     have n2_ : Aside0 (Kd.R k60 60 ((((((w43.setCell ⟨gb1250, 2, none⟩ (.bool false)).setCell ⟨gb1250, 3, none⟩ (.bool false)).setCell ⟨gb1251, 2, none⟩ (.bool true)).setCell ⟨gb1251, 3, none⟩ (.bool false)).setCell ⟨gb1252, 2, none⟩ (.bool false)).setCell ⟨gb1252, 3, none⟩ (.bool true)) w.heap.size (fun k_ => some k_ ≠ (.slice Ao29 t1233.length co29 : Value).ownBlock ∧ some k_ ≠ (.slice Ao35 t1240.length co35 : Value).ownBlock) (.slice Ao41 t1247.length co41) t1247) := ⟨by (with_reducible repeat (first | apply Kd.R_alloc | apply Kd.R_drewN | apply Kd.R_drew)); exact Kd.R_mono (Kd.R_far (p := ⟨gb1252, 3, none⟩) (Kd.R_far (p := ⟨gb1252, 2, none⟩) (Kd.R_far (p := ⟨gb1251, 3, none⟩) (Kd.R_far (p := ⟨gb1251, 2, none⟩) (Kd.R_far (p := ⟨gb1250, 3, none⟩) (Kd.R_far (p := ⟨gb1250, 2, none⟩) (Kd.R_types (Kd.R_types (Kd.R_types HO1249.out BK1250.out (by decide)) BK1251.out (by decide)) BK1252.out (by decide)) (fun _ hk => hk.1.1.2) (.bool false)) (fun _ hk => hk.1.1.2) (.bool false)) (fun _ hk => hk.1.2) (.bool true)) (fun _ hk => hk.1.2) (.bool false)) (fun _ hk => hk.2) (.bool false)) (fun _ hk => hk.2) (.bool true)) (fun _ hk => ⟨hk.1.1.1.1, hk.1.1.1.2⟩)⟩
     have n3_ : Aside0 (((((((w43.setCell ⟨gb1250, 2, none⟩ (.bool false)).setCell ⟨gb1250, 3, none⟩ (.bool false)).setCell ⟨gb1251, 2, none⟩ (.bool true)).setCell ⟨gb1251, 3, none⟩ (.bool false)).setCell ⟨gb1252, 2, none⟩ (.bool false)).setCell ⟨gb1252, 3, none⟩ (.bool true)).heap[gb1226]? = some (.cells #[.bool a0_0, .string a0_1, .string a0_2, .string a0_3, .int .i64 a0_4, .int .i64 a0_5, .string a0_6, .string a0_7, .int .i64 a0_8] 45 (0, 0))) := ⟨by refine blk_far ?_ NB1226_1252.out _; refine blk_far ?_ NB1226_1252.out _; refine blk_far ?_ NB1226_1251.out _; refine blk_far ?_ NB1226_1251.out _; refine blk_far ?_ NB1226_1250.out _; refine blk_far ?_ NB1226_1250.out _; exact BK1226.out⟩
     have n4_ : Aside0 (((((((w43.setCell ⟨gb1250, 2, none⟩ (.bool false)).setCell ⟨gb1250, 3, none⟩ (.bool false)).setCell ⟨gb1251, 2, none⟩ (.bool true)).setCell ⟨gb1251, 3, none⟩ (.bool false)).setCell ⟨gb1252, 2, none⟩ (.bool false)).setCell ⟨gb1252, 3, none⟩ (.bool true)).heap[gb1227]? = some (.cells #[.string a1_0, .string a1_1, .bool a1_2, .bool a1_3, .slice A1_4 l1_4.length c1_4] 54 (0, 0))) := ⟨by refine blk_far ?_ NB1227_1252.out _; refine blk_far ?_ NB1227_1252.out _; refine blk_far ?_ NB1227_1251.out _; refine blk_far ?_ NB1227_1251.out _; refine blk_far ?_ NB1227_1250.out _; refine blk_far ?_ NB1227_1250.out _; exact BK1227.out⟩
     have n5_ : Aside0 (((((((w43.setCell ⟨gb1250, 2, none⟩ (.bool false)).setCell ⟨gb1250, 3, none⟩ (.bool false)).setCell ⟨gb1251, 2, none⟩ (.bool true)).setCell ⟨gb1251, 3, none⟩ (.bool false)).setCell ⟨gb1252, 2, none⟩ (.bool false)).setCell ⟨gb1252, 3, none⟩ (.bool true)).heap[gb1250]? = some (.cells #[.string t1229, .string t1230, .bool false, .bool false, .slice Ao29 t1233.length co29] 54 (0, 0))) := ⟨by refine blk_far ?_ NB1250_1252.out _; refine blk_far ?_ NB1250_1252.out _; refine blk_far ?_ NB1250_1251.out _; refine blk_far ?_ NB1250_1251.out _; refine blk_put (cs := #[.string t1229, .string t1230, .bool false, .bool t1232, .slice Ao29 t1233.length co29]) ?_ 3 _ rfl; refine blk_put (cs := #[.string t1229, .string t1230, .bool t1231, .bool t1232, .slice Ao29 t1233.length co29]) ?_ 2 _ rfl; exact BK1250.out⟩
     have n6_ : Aside0 (((((((w43.setCell ⟨gb1250, 2, none⟩ (.bool false)).setCell ⟨gb1250, 3, none⟩ (.bool false)).setCell ⟨gb1251, 2, none⟩ (.bool true)).setCell ⟨gb1251, 3, none⟩ (.bool false)).setCell ⟨gb1252, 2, none⟩ (.bool false)).setCell ⟨gb1252, 3, none⟩ (.bool true)).heap[gb1251]? = some (.cells #[.string t1236, .string t1237, .bool true, .bool false, .slice Ao35 t1240.length co35] 54 (0, 0))) := ⟨by refine blk_far ?_ NB1251_1252.out _; refine blk_far ?_ NB1251_1252.out _; refine blk_put (cs := #[.string t1236, .string t1237, .bool true, .bool t1239, .slice Ao35 t1240.length co35]) ?_ 3 _ rfl; refine blk_put (cs := #[.string t1236, .string t1237, .bool t1238, .bool t1239, .slice Ao35 t1240.length co35]) ?_ 2 _ rfl; refine blk_far ?_ NB1251_1250.out _; refine blk_far ?_ NB1251_1250.out _; exact BK1251.out⟩
     have n7_ : Aside0 (((((((w43.setCell ⟨gb1250, 2, none⟩ (.bool false)).setCell ⟨gb1250, 3, none⟩ (.bool false)).setCell ⟨gb1251, 2, none⟩ (.bool true)).setCell ⟨gb1251, 3, none⟩ (.bool false)).setCell ⟨gb1252, 2, none⟩ (.bool false)).setCell ⟨gb1252, 3, none⟩ (.bool true)).heap[gb1252]? = some (.cells #[.string t1243, .string t1244, .bool false, .bool true, .slice Ao41 t1247.length co41] 54 (0, 0))) := ⟨by refine blk_put (cs := #[.string t1243, .string t1244, .bool false, .bool t1246, .slice Ao41 t1247.length co41]) ?_ 3 _ rfl; refine blk_put (cs := #[.string t1243, .string t1244, .bool t1245, .bool t1246, .slice Ao41 t1247.length co41]) ?_ 2 _ rfl; refine blk_far ?_ NB1252_1251.out _; refine blk_far ?_ NB1252_1251.out _; refine blk_far ?_ NB1252_1250.out _; refine blk_far ?_ NB1252_1250.out _; exact BK1252.out⟩
     have n8_ : Aside0 (Below w.heap.size w ((((((w43.setCell ⟨gb1250, 2, none⟩ (.bool false)).setCell ⟨gb1250, 3, none⟩ (.bool false)).setCell ⟨gb1251, 2, none⟩ (.bool true)).setCell ⟨gb1251, 3, none⟩ (.bool false)).setCell ⟨gb1252, 2, none⟩ (.bool false)).setCell ⟨gb1252, 3, none⟩ (.bool true))) := ⟨hb_⟩
     (try clear HO1235)
     (try clear HO1242)
     (try clear HO1249)
     (try clear BK1226)
     (try clear BK1227)
     (try clear BK1250)
     (try clear BK1251)
     (try clear BK1252)
     (try clear HB)
     generalize ((((((w43.setCell ⟨gb1250, 2, none⟩ (.bool false)).setCell ⟨gb1250, 3, none⟩ (.bool false)).setCell ⟨gb1251, 2, none⟩ (.bool true)).setCell ⟨gb1251, 3, none⟩ (.bool false)).setCell ⟨gb1252, 2, none⟩ (.bool false)).setCell ⟨gb1252, 3, none⟩ (.bool true)) = w56 at n0_ n1_ n2_ n3_ n4_ n5_ n6_ n7_ n8_ ⊢
     have HO1235 := n0_
     have HO1242 := n1_
     have HO1249 := n2_
     have BK1226 := n3_
     have BK1227 := n4_
     have BK1250 := n5_
     have BK1251 := n6_
     have BK1252 := n7_
     have HB := n8_
     clear n0_ n1_ n2_ n3_ n4_ n5_ n6_ n7_ n8_
     replace HO1235 := Aside0.mk (Kd.R_drew HO1235.out)
     replace HO1242 := Aside0.mk (Kd.R_drew HO1242.out)
     replace HO1249 := Aside0.mk (Kd.R_drew HO1249.out)
     replace BK1226 := Aside0.mk (blk_drew BK1226.out)
     replace BK1227 := Aside0.mk (blk_drew BK1227.out)
     replace BK1250 := Aside0.mk (blk_drew BK1250.out)
     replace BK1251 := Aside0.mk (blk_drew BK1251.out)
     replace BK1252 := Aside0.mk (blk_drew BK1252.out)
     replace HB := Aside0.mk (below_drew1 HB.out)
     refine start_ (n := 9) (S := fun w' => w'.cell? ⟨gb1226, 0, none⟩ = some (.bool a0_0) ∧ w'.cell? ⟨gb1226, 1, none⟩ = some (.string a0_1) ∧ w'.cell? ⟨gb1226, 2, none⟩ = some (.string a0_2) ∧ w'.cell? ⟨gb1226, 3, none⟩ = some (.string a0_3) ∧ w'.cell? ⟨gb1226, 4, none⟩ = some (.int .i64 a0_4) ∧ w'.cell? ⟨gb1226, 5, none⟩ = some (.int .i64 a0_5) ∧ w'.cell? ⟨gb1226, 6, none⟩ = some (.string a0_6) ∧ w'.cell? ⟨gb1226, 7, none⟩ = some (.string a0_7) ∧ w'.cell? ⟨gb1226, 8, none⟩ = some (.int .i64 a0_8) ∧ w'.cell? ⟨gb1250, 0, none⟩ = some (.string t1229) ∧ w'.cell? ⟨gb1250, 1, none⟩ = some (.string t1230) ∧ w'.cell? ⟨gb1250, 2, none⟩ = some (.bool false) ∧ w'.cell? ⟨gb1250, 3, none⟩ = some (.bool false) ∧ w'.cell? ⟨gb1250, 4, none⟩ = some (.slice Ao29 t1233.length co29)) (ds := []) #[false, false, false, false, false, false, false, false, false] (by kernel_rfl) rfl rfl ⟨(blk_cell BK1226.out 0).trans rfl, (blk_cell BK1226.out 1).trans rfl, (blk_cell BK1226.out 2).trans rfl, (blk_cell BK1226.out 3).trans rfl, (blk_cell BK1226.out 4).trans rfl, (blk_cell BK1226.out 5).trans rfl, (blk_cell BK1226.out 6).trans rfl, (blk_cell BK1226.out 7).trans rfl, (blk_cell BK1226.out 8).trans rfl, (blk_cell BK1250.out 0).trans rfl, (blk_cell BK1250.out 1).trans rfl, (blk_cell BK1250.out 2).trans rfl, (blk_cell BK1250.out 3).trans rfl, (blk_cell BK1250.out 4).trans rfl⟩ (fun hHeld => ?_); refine with_tabW idiomlaw04_OperandLists.tab7 idiomlaw04_OperandLists.bits7 (fun HT_ HW_ => ?_)
     generalize w56.drew = w57 at HO1235 HO1242 HO1249 BK1226 BK1227 BK1250 BK1251 BK1252 HB hHeld ⊢
     refine tk_ 0 (some 40) hHeld ?_
     refine tk_ 1 (some 41) hHeld ?_
     refine one_ (i := 2) (N := some 42) #[true, true, true, false, false, false, false, false, false] rfl rfl (one_of HT_.out (by kernel_rfl)) (by decide) (fun K hK => ?_)
     refine goes_ Tryd.func51 (by kernel_rfl) rfl #[.agg #[.string t1229, .string t1230, .bool false, .bool false, .slice Ao29 t1233.length co29]] (by rfl) rfl rfl ar_ ?_
     with_reducible refine (idiomlaw04_copied.calls t1229 t1230 false false _ _ t1233 t1253 t1254 t1255 t1256 t1257 _ ?side1 ?side2 A12.out).mono ?_
     (case side1 => repeat (first | exact (Kd.R_reads' HO1235.out).2.2 | (with_reducible refine Kd.C_alloc ?_ _) | (with_reducible refine Kd.C_drewN ?_ _) | (with_reducible refine Kd.C_drew ?_)))
     (case side2 => exact (Kd.R_reads' HO1235.out).2.1)
     rintro e w58 ⟨v1258, rfl, ho0, hb⟩
     refine ⟨_, rfl, ?_⟩
     have HO1259 := Aside0.mk (Kd.R_lower (Kd.R_new' (Kd.R_new' (Kd.R_new' ho0 (Kd.R_lt HO1235.out)) (Kd.R_lt HO1242.out)) (Kd.R_lt HO1249.out)) (below_size hb_))
     replace HO1235 := Aside0.mk (Kd.R_elder' HO1235.out (Kd.R_base ho0) hb)
     replace HO1242 := Aside0.mk (Kd.R_elder' HO1242.out (Kd.R_base ho0) hb)
     replace HO1249 := Aside0.mk (Kd.R_elder' HO1249.out (Kd.R_base ho0) hb)
     replace BK1226 := BK1226.bl hb
     replace BK1227 := BK1227.bl hb
     replace BK1250 := BK1250.bl hb
     replace BK1251 := BK1251.bl hb
     replace BK1252 := BK1252.bl hb
     replace HB := Aside0.mk (below_step hb_ hb)
     (try clear hb)
     (try clear hb2)
     (try clear hk)
     (try clear hi)
     (try clear ho0)
     obtain ⟨Ao59, co59, eo59⟩ := Kd.R_slice HO1259.out
     (first | subst eo59 | (injection eo59 with f1_ f2_ f3_; have f4_ := f1_.symm; have f5_ := f3_.symm; clear f1_ f2_ f3_; subst f4_; subst f5_))
     refine hK.out _ _ ⟨(blk_cell BK1226.out 0).trans rfl, (blk_cell BK1226.out 1).trans rfl, (blk_cell BK1226.out 2).trans rfl, (blk_cell BK1226.out 3).trans rfl, (blk_cell BK1226.out 4).trans rfl, (blk_cell BK1226.out 5).trans rfl, (blk_cell BK1226.out 6).trans rfl, (blk_cell BK1226.out 7).trans rfl, (blk_cell BK1226.out 8).trans rfl, (blk_cell BK1250.out 0).trans rfl, (blk_cell BK1250.out 1).trans rfl, (blk_cell BK1250.out 2).trans rfl, (blk_cell BK1250.out 3).trans rfl, (blk_cell BK1250.out 4).trans rfl⟩ (fun hHeld => ?_)
     clear hK K
     refine norm_ (a' := ?_) ?_ ?_
     rotate_left
     ·show Act.put _ (some 42) _ = _
      simp only [Act.put, List.setIfInBounds_toArray, List.set_cons_zero, List.set_cons_succ, i64_w, i32_w]
      rfl
     refine one_ (i := 3) (N := some 43) #[true, true, true, true, false, false, false, false, false] rfl rfl (one_of HT_.out (by kernel_rfl)) (by decide) (fun K hK => ?_)
     refine goes_ Tryd.func52 (by kernel_rfl) rfl #[.agg #[.bool a0_0, .string a0_1, .string a0_2, .string a0_3, .int .i64 a0_4, .int .i64 a0_5, .string a0_6, .string a0_7, .int .i64 a0_8], .agg #[.string t1253, .string t1254, .bool t1255, .bool t1256, .slice Ao59 t1257.length co59]] (by rfl) rfl rfl ar_ ?_
     with_reducible refine (operand_In.calls k a0_0 a0_1 a0_2 a0_3 a0_4 a0_5 a0_6 a0_7 a0_8 t1253 t1254 t1255 t1256 _ _ t1257 t1260 t1261 _ (TB.below HTB.out hb_) ?side1 ?side2 A13.out).mono ?_
     (case side1 => repeat (first | exact (Kd.R_reads' HO1259.out).2.2 | (with_reducible refine Kd.C_alloc ?_ _) | (with_reducible refine Kd.C_drewN ?_ _) | (with_reducible refine Kd.C_drew ?_)))
     (case side2 => exact (Kd.R_reads' HO1259.out).2.1)
     rintro e w60 ⟨rfl, hb⟩
     refine ⟨_, rfl, ?_⟩
     replace HO1235 := bw_ HO1235 hb
     replace HO1242 := bw_ HO1242 hb
     replace HO1249 := bw_ HO1249 hb
     replace HO1259 := bw_ HO1259 hb
     replace BK1226 := BK1226.bl hb
     replace BK1227 := BK1227.bl hb
     replace BK1250 := BK1250.bl hb
     replace BK1251 := BK1251.bl hb
     replace BK1252 := BK1252.bl hb
     replace HB := Aside0.mk (below_step hb_ hb)
     (try clear hb)
     (try clear hb2)
     (try clear hk)
     (try clear hi)
     refine hK.out _ _ ⟨(blk_cell BK1226.out 0).trans rfl, (blk_cell BK1226.out 1).trans rfl, (blk_cell BK1226.out 2).trans rfl, (blk_cell BK1226.out 3).trans rfl, (blk_cell BK1226.out 4).trans rfl, (blk_cell BK1226.out 5).trans rfl, (blk_cell BK1226.out 6).trans rfl, (blk_cell BK1226.out 7).trans rfl, (blk_cell BK1226.out 8).trans rfl, (blk_cell BK1250.out 0).trans rfl, (blk_cell BK1250.out 1).trans rfl, (blk_cell BK1250.out 2).trans rfl, (blk_cell BK1250.out 3).trans rfl, (blk_cell BK1250.out 4).trans rfl⟩ (fun hHeld => ?_)
     clear hK K
     refine norm_ (a' := ?_) ?_ ?_
     rotate_left
     ·show Act.put _ (some 43) _ = _
      simp only [Act.put, List.setIfInBounds_toArray, List.set_cons_zero, List.set_cons_succ, i64_w, i32_w]
      rfl
     refine pr_ 4 (some 39) ?_
     refine pr_ 5 (some 44) ?_
     refine pr_ 6 (some 45) ?_
     refine pr_ 7 (some 8) ?_
     refine pr_ 8 (some 9) ?_
     refine done_ (done_of HT_.out (by kernel_rfl)) ?_
     have hnb61 := LB1226_1227.out
     have hnc61 := LB1226_1227.out
     obtain ⟨hcz62_0, hcz62_1, hcz62_2, hcz62_3, hcz62_4, hcz62_5, hcz62_6, hcz62_7, hcz62_8, hfz62_0, hfz62_1, hfz62_2, hfz62_3, hfz62_4, hfz62_5, hfz62_6, hfz62_7, hfz62_8⟩ := BK1226.c9
     obtain ⟨hcz63_0, hcz63_1, hcz63_2, hcz63_3, hcz63_4, hfz63_0, hfz63_1, hfz63_2, hfz63_3, hfz63_4⟩ := BK1251.c5
     go_upto_region 10 with (first | ((with_reducible refine gate_callee (f := 52) rfl ?_); refine gL_ (some 49) Tryd.func52 #[.agg #[.bool a0_0, .string a0_1, .string a0_2, .string a0_3, .int .i64 a0_4, .int .i64 a0_5, .string a0_6, .string a0_7, .int .i64 a0_8], .agg #[.string t1236, .string t1237, .bool true, .bool false, .slice Ao35 t1240.length co35]] ?_; (with_reducible refine (operand_In.calls k a0_0 a0_1 a0_2 a0_3 a0_4 a0_5 a0_6 a0_7 a0_8 t1236 t1237 true false _ _ t1240 t1262 t1263 _ (TB.below HTB.out hb_) ?side1 ?side2 A14.out).mono ?_); (case side1 => repeat (first | exact (Kd.R_reads' HO1242.out).2.2 | (with_reducible refine Kd.C_alloc ?_ _) | (with_reducible refine Kd.C_drewN ?_ _) | (with_reducible refine Kd.C_drew ?_))); (case side2 => exact (Kd.R_reads' HO1242.out).2.1); rintro e w64 ⟨rfl, hb⟩; refine ⟨_, rfl, ?_⟩; replace HO1235 := bw_ HO1235 hb; replace HO1242 := bw_ HO1242 hb; replace HO1249 := bw_ HO1249 hb; replace HO1259 := bw_ HO1259 hb; replace BK1226 := BK1226.bl hb; replace BK1227 := BK1227.bl hb; replace BK1250 := BK1250.bl hb; replace BK1251 := BK1251.bl hb; replace BK1252 := BK1252.bl hb; replace HB := Aside0.mk (below_step hb_ hb); obtain ⟨hcz65_0, hcz65_1, hcz65_2, hcz65_3, hcz65_4, hcz65_5, hcz65_6, hcz65_7, hcz65_8, hfz65_0, hfz65_1, hfz65_2, hfz65_3, hfz65_4, hfz65_5, hfz65_6, hfz65_7, hfz65_8⟩ := BK1226.c9; obtain ⟨hcz66_0, hcz66_1, hcz66_2, hcz66_3, hcz66_4, hfz66_0, hfz66_1, hfz66_2, hfz66_3, hfz66_4⟩ := BK1252.c5) | ((with_reducible refine gate_callee (f := 52) rfl ?_); refine gL_ (some 55) Tryd.func52 #[.agg #[.bool a0_0, .string a0_1, .string a0_2, .string a0_3, .int .i64 a0_4, .int .i64 a0_5, .string a0_6, .string a0_7, .int .i64 a0_8], .agg #[.string t1243, .string t1244, .bool false, .bool true, .slice Ao41 t1247.length co41]] ?_; (with_reducible refine (operand_In.calls k a0_0 a0_1 a0_2 a0_3 a0_4 a0_5 a0_6 a0_7 a0_8 t1243 t1244 false true _ _ t1247 t1264 t1265 _ (TB.below HTB.out hb_) ?side1 ?side2 A15.out).mono ?_); (case side1 => repeat (first | exact (Kd.R_reads' HO1249.out).2.2 | (with_reducible refine Kd.C_alloc ?_ _) | (with_reducible refine Kd.C_drewN ?_ _) | (with_reducible refine Kd.C_drew ?_))); (case side2 => exact (Kd.R_reads' HO1249.out).2.1); rintro e w67 ⟨rfl, hb⟩; refine ⟨_, rfl, ?_⟩; replace HO1235 := bw_ HO1235 hb; replace HO1242 := bw_ HO1242 hb; replace HO1249 := bw_ HO1249 hb; replace HO1259 := bw_ HO1259 hb; replace BK1226 := BK1226.bl hb; replace BK1227 := BK1227.bl hb; replace BK1250 := BK1250.bl hb; replace BK1251 := BK1251.bl hb; replace BK1252 := BK1252.bl hb; replace HB := Aside0.mk (below_step hb_ hb)))
     (try simp only [Act.put, List.setIfInBounds_toArray, List.set_cons_zero, List.set_cons_succ])
     go_cut [65] (fun v65 wc => ∃ (kq : Nat) (x65_15 : Bool), v65 = .bool x65_15 ∧ Aside0 (idiomlaw04_OperandLists.j0 kq t1260 t1261 t1262 t1264 x65_15 a0_0 a0_1 a0_2 a0_3 a0_4 a0_5 a0_6 a0_7 a0_8 a1_0 a1_1 a1_2 a1_3 l1_4 t1229 t1230 false false t1233 = some r) ∧ Aside0 (kq ≤ k) ∧ Aside0 (Kd.R k60 60 wc w.heap.size (fun k_ => some k_ ≠ ((.slice Ao35 t1240.length co35) : Value).ownBlock ∧ some k_ ≠ ((.slice Ao41 t1247.length co41) : Value).ownBlock) (.slice Ao29 t1233.length co29) t1233) ∧ Aside0 (Kd.R k60 60 wc w.heap.size (fun k_ => some k_ ≠ ((.slice Ao29 t1233.length co29) : Value).ownBlock ∧ some k_ ≠ ((.slice Ao41 t1247.length co41) : Value).ownBlock) (.slice Ao35 t1240.length co35) t1240) ∧ Aside0 (Kd.R k60 60 wc w.heap.size (fun k_ => some k_ ≠ ((.slice Ao29 t1233.length co29) : Value).ownBlock ∧ some k_ ≠ ((.slice Ao35 t1240.length co35) : Value).ownBlock) (.slice Ao41 t1247.length co41) t1247) ∧ Aside0 (wc.heap[gb1226]? = some (.cells #[.bool a0_0, .string a0_1, .string a0_2, .string a0_3, .int .i64 a0_4, .int .i64 a0_5, .string a0_6, .string a0_7, .int .i64 a0_8] 45 (0, 0))) ∧ Aside0 (wc.heap[gb1227]? = some (.cells #[.string a1_0, .string a1_1, .bool a1_2, .bool a1_3, (.slice A1_4 l1_4.length c1_4)] 54 (0, 0))) ∧ Aside0 (wc.heap[gb1250]? = some (.cells #[.string t1229, .string t1230, .bool false, .bool false, (.slice Ao29 t1233.length co29)] 54 (0, 0))) ∧ Aside0 (wc.heap[gb1251]? = some (.cells #[.string t1236, .string t1237, .bool true, .bool false, (.slice Ao35 t1240.length co35)] 54 (0, 0))) ∧ Aside0 (wc.heap[gb1252]? = some (.cells #[.string t1243, .string t1244, .bool false, .bool true, (.slice Ao41 t1247.length co41)] 54 (0, 0))) ∧ Aside0 (Below w.heap.size w wc))
     case first =>
      have H := HC16.out
      clear HC16
      by_cases c68 : t1261 = t1263
      ·rw [if_pos c68] at H
       have c68b0 : (t1261 == t1263) = true := beq_iff_eq.mpr c68
       have c68b1 : (t1261 != t1263) = false := bne_eq_false_iff_eq.mpr c68
       clear c68
       (first | rw [c68b0] | (simp only [i64_w, i32_w]; rw [c68b0]) | rw [c68b1] | skip)
       have H' := Aside0.mk H
       clear H
       go_wp2
       go_meet
       case rel => exact ⟨_, ((t1261 != t1265)), (by first | rfl | (simp; done) | (simp [*]; done)), H', ⟨by first | exact Nat.le_refl _ | omega⟩, ⟨by (with_reducible repeat (first | apply Kd.R_alloc | apply Kd.R_drewN | apply Kd.R_drew)); exact Kd.R_mono HO1235.out (fun _ hk => ⟨hk.1.1, hk.1.2⟩)⟩, ⟨by (with_reducible repeat (first | apply Kd.R_alloc | apply Kd.R_drewN | apply Kd.R_drew)); exact Kd.R_mono HO1242.out (fun _ hk => ⟨hk.1.1, hk.1.2⟩)⟩, ⟨by (with_reducible repeat (first | apply Kd.R_alloc | apply Kd.R_drewN | apply Kd.R_drew)); exact Kd.R_mono HO1249.out (fun _ hk => ⟨hk.1.1, hk.1.2⟩)⟩, ⟨by exact BK1226.out⟩, ⟨by exact BK1227.out⟩, ⟨by exact BK1250.out⟩, ⟨by exact BK1251.out⟩, ⟨by exact BK1252.out⟩, ⟨hb_⟩⟩
      ·rw [if_neg c68] at H
       have c68b0 : (t1261 == t1263) = false := beq_eq_false_iff_ne.mpr c68
       have c68b1 : (t1261 != t1263) = true := bne_iff_ne.mpr c68
       (first | rw [c68b0] | (simp only [i64_w, i32_w]; rw [c68b0]) | rw [c68b1] | skip)
       have H' := Aside0.mk H
       clear H
       go_wp2
       go_meet
       case rel => exact ⟨_, (true), (by first | rfl | (simp; done) | (simp [*]; done)), H', ⟨by first | exact Nat.le_refl _ | omega⟩, ⟨by (with_reducible repeat (first | apply Kd.R_alloc | apply Kd.R_drewN | apply Kd.R_drew)); exact Kd.R_mono HO1235.out (fun _ hk => ⟨hk.1.1, hk.1.2⟩)⟩, ⟨by (with_reducible repeat (first | apply Kd.R_alloc | apply Kd.R_drewN | apply Kd.R_drew)); exact Kd.R_mono HO1242.out (fun _ hk => ⟨hk.1.1, hk.1.2⟩)⟩, ⟨by (with_reducible repeat (first | apply Kd.R_alloc | apply Kd.R_drewN | apply Kd.R_drew)); exact Kd.R_mono HO1249.out (fun _ hk => ⟨hk.1.1, hk.1.2⟩)⟩, ⟨by exact BK1226.out⟩, ⟨by exact BK1227.out⟩, ⟨by exact BK1250.out⟩, ⟨by exact BK1251.out⟩, ⟨by exact BK1252.out⟩, ⟨hb_⟩⟩
     case rest =>
      clear HC16
      (try clear hcz48_0); (try clear hcz48_1); (try clear hcz48_2); (try clear hcz48_3); (try clear hcz48_4); (try clear hcz52_0); (try clear hcz52_1); (try clear hcz52_2); (try clear hcz52_3); (try clear hcz52_4); (try clear hcz55_0); (try clear hcz55_1); (try clear hcz55_2); (try clear hcz55_3); (try clear hcz55_4); (try clear hcz62_0); (try clear hcz62_1); (try clear hcz62_2); (try clear hcz62_3); (try clear hcz62_4); (try clear hcz62_5); (try clear hcz62_6); (try clear hcz62_7); (try clear hcz62_8); (try clear hcz63_0); (try clear hcz63_1); (try clear hcz63_2); (try clear hcz63_3); (try clear hcz63_4); (try clear hcz65_0); (try clear hcz65_1); (try clear hcz65_2); (try clear hcz65_3); (try clear hcz65_4); (try clear hcz65_5); (try clear hcz65_6); (try clear hcz65_7); (try clear hcz65_8); (try clear hcz66_0); (try clear hcz66_1); (try clear hcz66_2); (try clear hcz66_3); (try clear hcz66_4); (try clear hfz48_0); (try clear hfz48_1); (try clear hfz48_2); (try clear hfz48_3); (try clear hfz48_4); (try clear hfz52_0); (try clear hfz52_1); (try clear hfz52_2); (try clear hfz52_3); (try clear hfz52_4); (try clear hfz55_0); (try clear hfz55_1); (try clear hfz55_2); (try clear hfz55_3); (try clear hfz55_4); (try clear hfz62_0); (try clear hfz62_1); (try clear hfz62_2); (try clear hfz62_3); (try clear hfz62_4); (try clear hfz62_5); (try clear hfz62_6); (try clear hfz62_7); (try clear hfz62_8); (try clear hfz63_0); (try clear hfz63_1); (try clear hfz63_2); (try clear hfz63_3); (try clear hfz63_4); (try clear hfz65_0); (try clear hfz65_1); (try clear hfz65_2); (try clear hfz65_3); (try clear hfz65_4); (try clear hfz65_5); (try clear hfz65_6); (try clear hfz65_7); (try clear hfz65_8); (try clear hfz66_0); (try clear hfz66_1); (try clear hfz66_2); (try clear hfz66_3); (try clear hfz66_4)
      rename_i z3_1 z3_2 z3_3 z3_4 z3_5 z3_6 z3_7 z3_8 z3_9 z3_10 z3_11 z3_12 z3_13 z3_14 z3_15 z3_16 z3_17
      revert k a0_0 a0_1 a0_2 a0_3 a0_4 a0_5 a0_6 a0_7 a0_8 a1_0 a1_1 a1_2 a1_3 A1_4 c1_4 l1_4 r w hu45 hu54 hu23 hu60 HR1_4 HC1_4 HTB z3_1 gb1226 w5 GW1226 GE1226 gb1227 w6 GW1227 GE1227 NB1226_1227 LB1226_1227 NB1227_1226 w7 z3_2 A3 t1229 t1230 t1231 t1232 t1233 A9 t1236 t1237 t1238 t1239 t1240 A10 t1243 t1244 t1245 t1246 t1247 A11 t1253 t1254 t1255 t1256 t1257 A12 t1260 t1261 A13 t1262 t1263 A14 t1264 t1265 A15 z3_3 z3_4 z3_5 w17 z3_6 gb1250 gb1251 gb1252 w24 z3_7 GW1250 GE1250 LB1226_1250 NB1250_1226 LB1227_1250 NB1250_1227 NB1251_1250 NB1250_1251 NB1252_1250 NB1250_1252 GW1251 GE1251 LB1226_1251 NB1251_1226 LB1227_1251 NB1251_1227 NB1252_1251 NB1251_1252 GW1252 GE1252 LB1226_1252 NB1252_1226 LB1227_1252 NB1252_1227 NB1226_1250 NB1227_1250 NB1226_1251 NB1227_1251 NB1226_1252 NB1227_1252 Ao29 co29 Ao35 co35 Ao41 co41 z3_8 z3_9 z3_10 w43 hnb44 hnc44 hnb45 hnc45 hnb46 hnc46 hnb47 hnc47 hnb49 hnc49 hnb50 hnc50 hnb51 hnc51 hnb53 hnc53 hnb54 hnc54 w56 HT_ HW_ w57 z3_11 w58 Ao59 co59 z3_12 w60 hHeld hnb61 hnc61 w64 z3_13 w67 hb HO1235 HO1242 HO1249 HO1259 BK1226 BK1227 BK1250 BK1251 BK1252 HB z3_14 z3_15 z3_16 z3_17 wc u25 u26 u27 u28 u29 u30 u31 u32 u33 u34 u35 u36 u37 u38 u39 u40 u41 u42 u43 u44 u45 u46 u47 u48 u49 u50 u51 u52 u53 u54 u55 u56 u57 u58 u59 u60 u61 u62 u63 u64 u65 u66 u67 u68 u69 u70 u71 u72 u73 u74 u75 u76 u77 u78 u79 u80 u81 u82 u83 u84 u85 u86 u87 u88 u89 u90 u91 u92 u93 u94 u95 u96 u97 u98 u99 u100 u101 u102 u103 u104 u105 u106 u107 u108 u109 u110 u111 u112 u113 u114 u115 u116 u117 u118 u119 u120 u121 u122 u123 u124 u125 u126 u127 u128 u129 u130 u131 u132 u133 u134 u135 u136 u137 u138 u139 u140 u141 u142 u143 u144 u145 u146 u147 u148 u149 u150 u151 u152 u153 u154 u155 u156 u157 u158 u159 u160 u161 u162 u163 u164 u165 u166 u167 u168 u169 u170 u171 u172 u173 u174 u175 u176 u177 u178 u179 hcut
      exact hrest3.out
    ·replace c8 := Bool.eq_false_iff.mpr c8
     subst c8
     have H1 : (some false) = some r := by rw [if_neg (show ¬ (false = true) by decide)] at H; exact H
     clear H
     have H := H1
     clear H1
     obtain rfl := Option.some.inj H
     go_wp2
     go_ret
     exact fin_
set_option maxHeartbeats 8000000 in
set_option maxRecDepth 100000 in
def idiomlaw04_OperandLists.calls_r0_s : PSigma fun T1 : Prop => idiomlaw04_OperandLists.Kept T1 → (idiomlaw04_OperandLists.calls_all_s.1) := by
  apply PSigma.mk
  case snd =>
   intro hrest1
   intro k a0_0 a0_1 a0_2 a0_3 a0_4 a0_5 a0_6 a0_7 a0_8 a1_0 a1_1 a1_2 a1_3 A1_4 c1_4 l1_4 r w hu45 hu54 hu23 hu60 HR1_4 HC1_4 HTB z0_1 gb1226 w5 GW1226 GE1226 gb1227 w6 GW1227 GE1227 NB1226_1227 LB1226_1227 NB1227_1226 w7 hb A3 t1229 t1230 t1231 t1232 t1233 A9 t1236 t1237 t1238 t1239 t1240 A10 t1243 t1244 t1245 t1246 t1247 A11 t1253 t1254 t1255 t1256 t1257 A12 t1260 t1261 A13 t1262 t1263 A14 t1264 t1265 A15 HC16 z0_2 z0_3 z0_4 HT_ HW_ w17 BK1226 BK1227 HB hHeld hJ1_3_5_6_7_8 hJ1_3_5_6_7 hJ1_3_5_6_8 hJ1_3_5_7_8 hJ1_3_6_7_8 hJ1_3_5_6 hJ1_3_5_7 hJ1_3_5_8
   refine join_ (σ := Value × Value × Nat × Nat) 5 #[true, true, true, true, true, false, true, true, false, false, false, false] (fun s_ => [(28, .agg #[.string t1229, .string t1230, .bool t1231, .bool t1232, s_.1]), (30, .agg #[.string t1236, .string t1237, .bool t1238, .bool t1239, s_.2.1]), (5, .pointer (some ⟨s_.2.2.1, 0, none⟩)), (6, .pointer (some ⟨s_.2.2.2, 0, none⟩))]) (fun s_ w' => (w'.cell? ⟨gb1227, 0, none⟩ = some (.string a1_0) ∧ w'.cell? ⟨gb1227, 1, none⟩ = some (.string a1_1) ∧ w'.cell? ⟨gb1227, 2, none⟩ = some (.bool a1_2) ∧ w'.cell? ⟨gb1227, 3, none⟩ = some (.bool a1_3) ∧ w'.cell? ⟨gb1227, 4, none⟩ = some (.slice A1_4 l1_4.length c1_4)) ∧ Aside0 (Kd.R k60 60 w' w.heap.size (fun k_ => some k_ ≠ (s_.2.1 : Value).ownBlock) s_.1 t1233) ∧ Aside0 (Kd.R k60 60 w' w.heap.size (fun k_ => some k_ ≠ (s_.1 : Value).ownBlock) s_.2.1 t1240) ∧ Aside0 (w'.heap[gb1226]? = some (.cells #[.bool a0_0, .string a0_1, .string a0_2, .string a0_3, .int .i64 a0_4, .int .i64 a0_5, .string a0_6, .string a0_7, .int .i64 a0_8] 45 (0, 0))) ∧ Aside0 (w'.heap[gb1227]? = some (.cells #[.string a1_0, .string a1_1, .bool a1_2, .bool a1_3, .slice A1_4 l1_4.length c1_4] 54 (0, 0))) ∧ Aside0 (w'.heap[s_.2.2.1]? = some (.cells #[.string (⟨#[]⟩ : ByteArray), .string (⟨#[]⟩ : ByteArray), .bool false, .bool false, .slice none 0 0] 54 (0, 0))) ∧ Aside0 (w'.heap[s_.2.2.2]? = some (.cells #[.string (⟨#[]⟩ : ByteArray), .string (⟨#[]⟩ : ByteArray), .bool false, .bool false, .slice none 0 0] 54 (0, 0))) ∧ Aside0 (w.heap.size ≤ s_.2.2.1) ∧ Aside0 (w.heap.size ≤ s_.2.2.1) ∧ Aside0 (gb1226 < s_.2.2.1) ∧ Aside0 (s_.2.2.1 ≠ gb1226) ∧ Aside0 (gb1227 < s_.2.2.1) ∧ Aside0 (s_.2.2.1 ≠ gb1227) ∧ Aside0 (s_.2.2.2 ≠ s_.2.2.1) ∧ Aside0 (s_.2.2.1 ≠ s_.2.2.2) ∧ Aside0 (w.heap.size ≤ s_.2.2.2) ∧ Aside0 (w.heap.size ≤ s_.2.2.2) ∧ Aside0 (gb1226 < s_.2.2.2) ∧ Aside0 (s_.2.2.2 ≠ gb1226) ∧ Aside0 (gb1227 < s_.2.2.2) ∧ Aside0 (s_.2.2.2 ≠ gb1227) ∧ Aside0 (Below w.heap.size w w')) ?_ ?_
   rotate_left
   ·intro hJ1_3_6_7
    refine join_ (σ := Value × Value × Nat × Nat) 5 #[true, true, true, true, true, false, true, false, true, false, false, false] (fun s_ => [(28, .agg #[.string t1229, .string t1230, .bool t1231, .bool t1232, s_.1]), (30, .agg #[.string t1236, .string t1237, .bool t1238, .bool t1239, s_.2.1]), (5, .pointer (some ⟨s_.2.2.1, 0, none⟩)), (7, .pointer (some ⟨s_.2.2.2, 0, none⟩))]) (fun s_ w' => (w'.cell? ⟨gb1227, 0, none⟩ = some (.string a1_0) ∧ w'.cell? ⟨gb1227, 1, none⟩ = some (.string a1_1) ∧ w'.cell? ⟨gb1227, 2, none⟩ = some (.bool a1_2) ∧ w'.cell? ⟨gb1227, 3, none⟩ = some (.bool a1_3) ∧ w'.cell? ⟨gb1227, 4, none⟩ = some (.slice A1_4 l1_4.length c1_4)) ∧ Aside0 (Kd.R k60 60 w' w.heap.size (fun k_ => some k_ ≠ (s_.2.1 : Value).ownBlock) s_.1 t1233) ∧ Aside0 (Kd.R k60 60 w' w.heap.size (fun k_ => some k_ ≠ (s_.1 : Value).ownBlock) s_.2.1 t1240) ∧ Aside0 (w'.heap[gb1226]? = some (.cells #[.bool a0_0, .string a0_1, .string a0_2, .string a0_3, .int .i64 a0_4, .int .i64 a0_5, .string a0_6, .string a0_7, .int .i64 a0_8] 45 (0, 0))) ∧ Aside0 (w'.heap[gb1227]? = some (.cells #[.string a1_0, .string a1_1, .bool a1_2, .bool a1_3, .slice A1_4 l1_4.length c1_4] 54 (0, 0))) ∧ Aside0 (w'.heap[s_.2.2.1]? = some (.cells #[.string (⟨#[]⟩ : ByteArray), .string (⟨#[]⟩ : ByteArray), .bool false, .bool false, .slice none 0 0] 54 (0, 0))) ∧ Aside0 (w'.heap[s_.2.2.2]? = some (.cells #[.string (⟨#[]⟩ : ByteArray), .string (⟨#[]⟩ : ByteArray), .bool false, .bool false, .slice none 0 0] 54 (0, 0))) ∧ Aside0 (w.heap.size ≤ s_.2.2.1) ∧ Aside0 (w.heap.size ≤ s_.2.2.1) ∧ Aside0 (gb1226 < s_.2.2.1) ∧ Aside0 (s_.2.2.1 ≠ gb1226) ∧ Aside0 (gb1227 < s_.2.2.1) ∧ Aside0 (s_.2.2.1 ≠ gb1227) ∧ Aside0 (s_.2.2.2 ≠ s_.2.2.1) ∧ Aside0 (s_.2.2.1 ≠ s_.2.2.2) ∧ Aside0 (w.heap.size ≤ s_.2.2.2) ∧ Aside0 (w.heap.size ≤ s_.2.2.2) ∧ Aside0 (gb1226 < s_.2.2.2) ∧ Aside0 (s_.2.2.2 ≠ gb1226) ∧ Aside0 (gb1227 < s_.2.2.2) ∧ Aside0 (s_.2.2.2 ≠ gb1227) ∧ Aside0 (Below w.heap.size w w')) ?_ ?_
    rotate_left
    ·intro hJ1_3_6_8
     refine join_ (σ := Value × Value × Nat × Nat) 5 #[true, true, true, true, true, false, false, true, true, false, false, false] (fun s_ => [(28, .agg #[.string t1229, .string t1230, .bool t1231, .bool t1232, s_.1]), (30, .agg #[.string t1236, .string t1237, .bool t1238, .bool t1239, s_.2.1]), (6, .pointer (some ⟨s_.2.2.1, 0, none⟩)), (7, .pointer (some ⟨s_.2.2.2, 0, none⟩))]) (fun s_ w' => (w'.cell? ⟨gb1227, 0, none⟩ = some (.string a1_0) ∧ w'.cell? ⟨gb1227, 1, none⟩ = some (.string a1_1) ∧ w'.cell? ⟨gb1227, 2, none⟩ = some (.bool a1_2) ∧ w'.cell? ⟨gb1227, 3, none⟩ = some (.bool a1_3) ∧ w'.cell? ⟨gb1227, 4, none⟩ = some (.slice A1_4 l1_4.length c1_4)) ∧ Aside0 (Kd.R k60 60 w' w.heap.size (fun k_ => some k_ ≠ (s_.2.1 : Value).ownBlock) s_.1 t1233) ∧ Aside0 (Kd.R k60 60 w' w.heap.size (fun k_ => some k_ ≠ (s_.1 : Value).ownBlock) s_.2.1 t1240) ∧ Aside0 (w'.heap[gb1226]? = some (.cells #[.bool a0_0, .string a0_1, .string a0_2, .string a0_3, .int .i64 a0_4, .int .i64 a0_5, .string a0_6, .string a0_7, .int .i64 a0_8] 45 (0, 0))) ∧ Aside0 (w'.heap[gb1227]? = some (.cells #[.string a1_0, .string a1_1, .bool a1_2, .bool a1_3, .slice A1_4 l1_4.length c1_4] 54 (0, 0))) ∧ Aside0 (w'.heap[s_.2.2.1]? = some (.cells #[.string (⟨#[]⟩ : ByteArray), .string (⟨#[]⟩ : ByteArray), .bool false, .bool false, .slice none 0 0] 54 (0, 0))) ∧ Aside0 (w'.heap[s_.2.2.2]? = some (.cells #[.string (⟨#[]⟩ : ByteArray), .string (⟨#[]⟩ : ByteArray), .bool false, .bool false, .slice none 0 0] 54 (0, 0))) ∧ Aside0 (w.heap.size ≤ s_.2.2.1) ∧ Aside0 (w.heap.size ≤ s_.2.2.1) ∧ Aside0 (gb1226 < s_.2.2.1) ∧ Aside0 (s_.2.2.1 ≠ gb1226) ∧ Aside0 (gb1227 < s_.2.2.1) ∧ Aside0 (s_.2.2.1 ≠ gb1227) ∧ Aside0 (s_.2.2.2 ≠ s_.2.2.1) ∧ Aside0 (s_.2.2.1 ≠ s_.2.2.2) ∧ Aside0 (w.heap.size ≤ s_.2.2.2) ∧ Aside0 (w.heap.size ≤ s_.2.2.2) ∧ Aside0 (gb1226 < s_.2.2.2) ∧ Aside0 (s_.2.2.2 ≠ gb1226) ∧ Aside0 (gb1227 < s_.2.2.2) ∧ Aside0 (s_.2.2.2 ≠ gb1227) ∧ Aside0 (Below w.heap.size w w')) ?_ ?_
     rotate_left
     ·intro hJ1_3_7_8
      refine join_ (σ := Value × Nat × Nat × Nat) 5 #[true, true, true, false, true, false, true, true, true, false, false, false] (fun s_ => [(28, .agg #[.string t1229, .string t1230, .bool t1231, .bool t1232, s_.1]), (5, .pointer (some ⟨s_.2.1, 0, none⟩)), (6, .pointer (some ⟨s_.2.2.1, 0, none⟩)), (7, .pointer (some ⟨s_.2.2.2, 0, none⟩))]) (fun s_ w' => (w'.cell? ⟨gb1227, 0, none⟩ = some (.string a1_0) ∧ w'.cell? ⟨gb1227, 1, none⟩ = some (.string a1_1) ∧ w'.cell? ⟨gb1227, 2, none⟩ = some (.bool a1_2) ∧ w'.cell? ⟨gb1227, 3, none⟩ = some (.bool a1_3) ∧ w'.cell? ⟨gb1227, 4, none⟩ = some (.slice A1_4 l1_4.length c1_4)) ∧ Aside0 (Kd.R k60 60 w' w.heap.size (fun _ => True) s_.1 t1233) ∧ Aside0 (w'.heap[gb1226]? = some (.cells #[.bool a0_0, .string a0_1, .string a0_2, .string a0_3, .int .i64 a0_4, .int .i64 a0_5, .string a0_6, .string a0_7, .int .i64 a0_8] 45 (0, 0))) ∧ Aside0 (w'.heap[gb1227]? = some (.cells #[.string a1_0, .string a1_1, .bool a1_2, .bool a1_3, .slice A1_4 l1_4.length c1_4] 54 (0, 0))) ∧ Aside0 (w'.heap[s_.2.1]? = some (.cells #[.string (⟨#[]⟩ : ByteArray), .string (⟨#[]⟩ : ByteArray), .bool false, .bool false, .slice none 0 0] 54 (0, 0))) ∧ Aside0 (w'.heap[s_.2.2.1]? = some (.cells #[.string (⟨#[]⟩ : ByteArray), .string (⟨#[]⟩ : ByteArray), .bool false, .bool false, .slice none 0 0] 54 (0, 0))) ∧ Aside0 (w'.heap[s_.2.2.2]? = some (.cells #[.string (⟨#[]⟩ : ByteArray), .string (⟨#[]⟩ : ByteArray), .bool false, .bool false, .slice none 0 0] 54 (0, 0))) ∧ Aside0 (w.heap.size ≤ s_.2.1) ∧ Aside0 (w.heap.size ≤ s_.2.1) ∧ Aside0 (gb1226 < s_.2.1) ∧ Aside0 (s_.2.1 ≠ gb1226) ∧ Aside0 (gb1227 < s_.2.1) ∧ Aside0 (s_.2.1 ≠ gb1227) ∧ Aside0 (s_.2.2.1 ≠ s_.2.1) ∧ Aside0 (s_.2.1 ≠ s_.2.2.1) ∧ Aside0 (s_.2.2.2 ≠ s_.2.1) ∧ Aside0 (s_.2.1 ≠ s_.2.2.2) ∧ Aside0 (w.heap.size ≤ s_.2.2.1) ∧ Aside0 (w.heap.size ≤ s_.2.2.1) ∧ Aside0 (gb1226 < s_.2.2.1) ∧ Aside0 (s_.2.2.1 ≠ gb1226) ∧ Aside0 (gb1227 < s_.2.2.1) ∧ Aside0 (s_.2.2.1 ≠ gb1227) ∧ Aside0 (s_.2.2.2 ≠ s_.2.2.1) ∧ Aside0 (s_.2.2.1 ≠ s_.2.2.2) ∧ Aside0 (w.heap.size ≤ s_.2.2.2) ∧ Aside0 (w.heap.size ≤ s_.2.2.2) ∧ Aside0 (gb1226 < s_.2.2.2) ∧ Aside0 (s_.2.2.2 ≠ gb1226) ∧ Aside0 (gb1227 < s_.2.2.2) ∧ Aside0 (s_.2.2.2 ≠ gb1227) ∧ Aside0 (Below w.heap.size w w')) ?_ ?_
      rotate_left
      ·intro hJ1_6_7_8
       refine join_ (σ := Value × Value × Value) 6 #[true, true, true, true, true, true, false, false, false, false, false, false] (fun s_ => [(28, .agg #[.string t1229, .string t1230, .bool t1231, .bool t1232, s_.1]), (30, .agg #[.string t1236, .string t1237, .bool t1238, .bool t1239, s_.2.1]), (32, .agg #[.string t1243, .string t1244, .bool t1245, .bool t1246, s_.2.2])]) (fun s_ w' => (w'.cell? ⟨gb1227, 0, none⟩ = some (.string a1_0) ∧ w'.cell? ⟨gb1227, 1, none⟩ = some (.string a1_1) ∧ w'.cell? ⟨gb1227, 2, none⟩ = some (.bool a1_2) ∧ w'.cell? ⟨gb1227, 3, none⟩ = some (.bool a1_3) ∧ w'.cell? ⟨gb1227, 4, none⟩ = some (.slice A1_4 l1_4.length c1_4)) ∧ Aside0 (Kd.R k60 60 w' w.heap.size (fun k_ => some k_ ≠ (s_.2.1 : Value).ownBlock ∧ some k_ ≠ (s_.2.2 : Value).ownBlock) s_.1 t1233) ∧ Aside0 (Kd.R k60 60 w' w.heap.size (fun k_ => some k_ ≠ (s_.1 : Value).ownBlock ∧ some k_ ≠ (s_.2.2 : Value).ownBlock) s_.2.1 t1240) ∧ Aside0 (Kd.R k60 60 w' w.heap.size (fun k_ => some k_ ≠ (s_.1 : Value).ownBlock ∧ some k_ ≠ (s_.2.1 : Value).ownBlock) s_.2.2 t1247) ∧ Aside0 (w'.heap[gb1226]? = some (.cells #[.bool a0_0, .string a0_1, .string a0_2, .string a0_3, .int .i64 a0_4, .int .i64 a0_5, .string a0_6, .string a0_7, .int .i64 a0_8] 45 (0, 0))) ∧ Aside0 (w'.heap[gb1227]? = some (.cells #[.string a1_0, .string a1_1, .bool a1_2, .bool a1_3, .slice A1_4 l1_4.length c1_4] 54 (0, 0))) ∧ Aside0 (Below w.heap.size w w')) ?_ ?_
       rotate_left
       ·intro hJ1_3_5
        refine join_ (σ := Value × Value × Nat) 6 #[true, true, true, true, true, false, true, false, false, false, false, false] (fun s_ => [(28, .agg #[.string t1229, .string t1230, .bool t1231, .bool t1232, s_.1]), (30, .agg #[.string t1236, .string t1237, .bool t1238, .bool t1239, s_.2.1]), (5, .pointer (some ⟨s_.2.2, 0, none⟩))]) (fun s_ w' => (w'.cell? ⟨gb1227, 0, none⟩ = some (.string a1_0) ∧ w'.cell? ⟨gb1227, 1, none⟩ = some (.string a1_1) ∧ w'.cell? ⟨gb1227, 2, none⟩ = some (.bool a1_2) ∧ w'.cell? ⟨gb1227, 3, none⟩ = some (.bool a1_3) ∧ w'.cell? ⟨gb1227, 4, none⟩ = some (.slice A1_4 l1_4.length c1_4)) ∧ Aside0 (Kd.R k60 60 w' w.heap.size (fun k_ => some k_ ≠ (s_.2.1 : Value).ownBlock) s_.1 t1233) ∧ Aside0 (Kd.R k60 60 w' w.heap.size (fun k_ => some k_ ≠ (s_.1 : Value).ownBlock) s_.2.1 t1240) ∧ Aside0 (w'.heap[gb1226]? = some (.cells #[.bool a0_0, .string a0_1, .string a0_2, .string a0_3, .int .i64 a0_4, .int .i64 a0_5, .string a0_6, .string a0_7, .int .i64 a0_8] 45 (0, 0))) ∧ Aside0 (w'.heap[gb1227]? = some (.cells #[.string a1_0, .string a1_1, .bool a1_2, .bool a1_3, .slice A1_4 l1_4.length c1_4] 54 (0, 0))) ∧ Aside0 (w'.heap[s_.2.2]? = some (.cells #[.string (⟨#[]⟩ : ByteArray), .string (⟨#[]⟩ : ByteArray), .bool false, .bool false, .slice none 0 0] 54 (0, 0))) ∧ Aside0 (w.heap.size ≤ s_.2.2) ∧ Aside0 (w.heap.size ≤ s_.2.2) ∧ Aside0 (gb1226 < s_.2.2) ∧ Aside0 (s_.2.2 ≠ gb1226) ∧ Aside0 (gb1227 < s_.2.2) ∧ Aside0 (s_.2.2 ≠ gb1227) ∧ Aside0 (Below w.heap.size w w')) ?_ ?_
        rotate_left
        ·intro hJ1_3_6
         refine join_ (σ := Value × Value × Nat) 6 #[true, true, true, true, true, false, false, true, false, false, false, false] (fun s_ => [(28, .agg #[.string t1229, .string t1230, .bool t1231, .bool t1232, s_.1]), (30, .agg #[.string t1236, .string t1237, .bool t1238, .bool t1239, s_.2.1]), (6, .pointer (some ⟨s_.2.2, 0, none⟩))]) (fun s_ w' => (w'.cell? ⟨gb1227, 0, none⟩ = some (.string a1_0) ∧ w'.cell? ⟨gb1227, 1, none⟩ = some (.string a1_1) ∧ w'.cell? ⟨gb1227, 2, none⟩ = some (.bool a1_2) ∧ w'.cell? ⟨gb1227, 3, none⟩ = some (.bool a1_3) ∧ w'.cell? ⟨gb1227, 4, none⟩ = some (.slice A1_4 l1_4.length c1_4)) ∧ Aside0 (Kd.R k60 60 w' w.heap.size (fun k_ => some k_ ≠ (s_.2.1 : Value).ownBlock) s_.1 t1233) ∧ Aside0 (Kd.R k60 60 w' w.heap.size (fun k_ => some k_ ≠ (s_.1 : Value).ownBlock) s_.2.1 t1240) ∧ Aside0 (w'.heap[gb1226]? = some (.cells #[.bool a0_0, .string a0_1, .string a0_2, .string a0_3, .int .i64 a0_4, .int .i64 a0_5, .string a0_6, .string a0_7, .int .i64 a0_8] 45 (0, 0))) ∧ Aside0 (w'.heap[gb1227]? = some (.cells #[.string a1_0, .string a1_1, .bool a1_2, .bool a1_3, .slice A1_4 l1_4.length c1_4] 54 (0, 0))) ∧ Aside0 (w'.heap[s_.2.2]? = some (.cells #[.string (⟨#[]⟩ : ByteArray), .string (⟨#[]⟩ : ByteArray), .bool false, .bool false, .slice none 0 0] 54 (0, 0))) ∧ Aside0 (w.heap.size ≤ s_.2.2) ∧ Aside0 (w.heap.size ≤ s_.2.2) ∧ Aside0 (gb1226 < s_.2.2) ∧ Aside0 (s_.2.2 ≠ gb1226) ∧ Aside0 (gb1227 < s_.2.2) ∧ Aside0 (s_.2.2 ≠ gb1227) ∧ Aside0 (Below w.heap.size w w')) ?_ ?_
         rotate_left
         ·intro hJ1_3_7
          refine join_ (σ := Value × Value × Nat) 6 #[true, true, true, true, true, false, false, false, true, false, false, false] (fun s_ => [(28, .agg #[.string t1229, .string t1230, .bool t1231, .bool t1232, s_.1]), (30, .agg #[.string t1236, .string t1237, .bool t1238, .bool t1239, s_.2.1]), (7, .pointer (some ⟨s_.2.2, 0, none⟩))]) (fun s_ w' => (w'.cell? ⟨gb1227, 0, none⟩ = some (.string a1_0) ∧ w'.cell? ⟨gb1227, 1, none⟩ = some (.string a1_1) ∧ w'.cell? ⟨gb1227, 2, none⟩ = some (.bool a1_2) ∧ w'.cell? ⟨gb1227, 3, none⟩ = some (.bool a1_3) ∧ w'.cell? ⟨gb1227, 4, none⟩ = some (.slice A1_4 l1_4.length c1_4)) ∧ Aside0 (Kd.R k60 60 w' w.heap.size (fun k_ => some k_ ≠ (s_.2.1 : Value).ownBlock) s_.1 t1233) ∧ Aside0 (Kd.R k60 60 w' w.heap.size (fun k_ => some k_ ≠ (s_.1 : Value).ownBlock) s_.2.1 t1240) ∧ Aside0 (w'.heap[gb1226]? = some (.cells #[.bool a0_0, .string a0_1, .string a0_2, .string a0_3, .int .i64 a0_4, .int .i64 a0_5, .string a0_6, .string a0_7, .int .i64 a0_8] 45 (0, 0))) ∧ Aside0 (w'.heap[gb1227]? = some (.cells #[.string a1_0, .string a1_1, .bool a1_2, .bool a1_3, .slice A1_4 l1_4.length c1_4] 54 (0, 0))) ∧ Aside0 (w'.heap[s_.2.2]? = some (.cells #[.string (⟨#[]⟩ : ByteArray), .string (⟨#[]⟩ : ByteArray), .bool false, .bool false, .slice none 0 0] 54 (0, 0))) ∧ Aside0 (w.heap.size ≤ s_.2.2) ∧ Aside0 (w.heap.size ≤ s_.2.2) ∧ Aside0 (gb1226 < s_.2.2) ∧ Aside0 (s_.2.2 ≠ gb1226) ∧ Aside0 (gb1227 < s_.2.2) ∧ Aside0 (s_.2.2 ≠ gb1227) ∧ Aside0 (Below w.heap.size w w')) ?_ ?_
          rotate_left
          ·intro hJ1_3_8
           refine join_ (σ := Value × Nat × Nat) 6 #[true, true, true, false, true, false, true, true, false, false, false, false] (fun s_ => [(28, .agg #[.string t1229, .string t1230, .bool t1231, .bool t1232, s_.1]), (5, .pointer (some ⟨s_.2.1, 0, none⟩)), (6, .pointer (some ⟨s_.2.2, 0, none⟩))]) (fun s_ w' => (w'.cell? ⟨gb1227, 0, none⟩ = some (.string a1_0) ∧ w'.cell? ⟨gb1227, 1, none⟩ = some (.string a1_1) ∧ w'.cell? ⟨gb1227, 2, none⟩ = some (.bool a1_2) ∧ w'.cell? ⟨gb1227, 3, none⟩ = some (.bool a1_3) ∧ w'.cell? ⟨gb1227, 4, none⟩ = some (.slice A1_4 l1_4.length c1_4)) ∧ Aside0 (Kd.R k60 60 w' w.heap.size (fun _ => True) s_.1 t1233) ∧ Aside0 (w'.heap[gb1226]? = some (.cells #[.bool a0_0, .string a0_1, .string a0_2, .string a0_3, .int .i64 a0_4, .int .i64 a0_5, .string a0_6, .string a0_7, .int .i64 a0_8] 45 (0, 0))) ∧ Aside0 (w'.heap[gb1227]? = some (.cells #[.string a1_0, .string a1_1, .bool a1_2, .bool a1_3, .slice A1_4 l1_4.length c1_4] 54 (0, 0))) ∧ Aside0 (w'.heap[s_.2.1]? = some (.cells #[.string (⟨#[]⟩ : ByteArray), .string (⟨#[]⟩ : ByteArray), .bool false, .bool false, .slice none 0 0] 54 (0, 0))) ∧ Aside0 (w'.heap[s_.2.2]? = some (.cells #[.string (⟨#[]⟩ : ByteArray), .string (⟨#[]⟩ : ByteArray), .bool false, .bool false, .slice none 0 0] 54 (0, 0))) ∧ Aside0 (w.heap.size ≤ s_.2.1) ∧ Aside0 (w.heap.size ≤ s_.2.1) ∧ Aside0 (gb1226 < s_.2.1) ∧ Aside0 (s_.2.1 ≠ gb1226) ∧ Aside0 (gb1227 < s_.2.1) ∧ Aside0 (s_.2.1 ≠ gb1227) ∧ Aside0 (s_.2.2 ≠ s_.2.1) ∧ Aside0 (s_.2.1 ≠ s_.2.2) ∧ Aside0 (w.heap.size ≤ s_.2.2) ∧ Aside0 (w.heap.size ≤ s_.2.2) ∧ Aside0 (gb1226 < s_.2.2) ∧ Aside0 (s_.2.2 ≠ gb1226) ∧ Aside0 (gb1227 < s_.2.2) ∧ Aside0 (s_.2.2 ≠ gb1227) ∧ Aside0 (Below w.heap.size w w')) ?_ ?_
           rotate_left
           ·intro hJ1_6_7
            refine ?rest
            case rest =>
             revert k a0_0 a0_1 a0_2 a0_3 a0_4 a0_5 a0_6 a0_7 a0_8 a1_0 a1_1 a1_2 a1_3 A1_4 c1_4 l1_4 r w hu45 hu54 hu23 hu60 HR1_4 HC1_4 HTB z0_1 gb1226 w5 GW1226 GE1226 gb1227 w6 GW1227 GE1227 NB1226_1227 LB1226_1227 NB1227_1226 w7 hb A3 t1229 t1230 t1231 t1232 t1233 A9 t1236 t1237 t1238 t1239 t1240 A10 t1243 t1244 t1245 t1246 t1247 A11 t1253 t1254 t1255 t1256 t1257 A12 t1260 t1261 A13 t1262 t1263 A14 t1264 t1265 A15 HC16 z0_2 z0_3 z0_4 HT_ HW_ w17 BK1226 BK1227 HB hHeld hJ1_3_5_6_7_8 hJ1_3_5_6_7 hJ1_3_5_6_8 hJ1_3_5_7_8 hJ1_3_6_7_8 hJ1_3_5_6 hJ1_3_5_7 hJ1_3_5_8 hJ1_3_6_7 hJ1_3_6_8 hJ1_3_7_8 hJ1_6_7_8 hJ1_3_5 hJ1_3_6 hJ1_3_7 hJ1_3_8 hJ1_6_7
             exact hrest1.out
           ·skip
            clear BK1226 BK1227 HB
            rintro ⟨v1234, gb1250, gb1251⟩ w21 h
            try dsimp only at h
            obtain ⟨hHeld, HO1235, BK1226, BK1227, BK1250, BK1251, GW1250, GE1250, LB1226_1250, NB1250_1226, LB1227_1250, NB1250_1227, NB1251_1250, NB1250_1251, GW1251, GE1251, LB1226_1251, NB1251_1226, LB1227_1251, NB1251_1227, HB⟩ := h
            have NB1226_1250 := ne_ LB1226_1250
            have NB1227_1250 := ne_ LB1227_1250
            have NB1226_1251 := ne_ LB1226_1251
            have NB1227_1251 := ne_ LB1227_1251
            refine norm_ (a' := ?_) ?_ ?_
            rotate_left
            ·simp only [putAll, Act.put, List.setIfInBounds_toArray, List.set_cons_zero, List.set_cons_succ]
             rfl
            refine two_ (i := 3) (j := 8) (Ni := some 30) (Nj := some 7) #[true, true, true, true, true, false, true, true, false, false, false, false] #[true, true, true, false, true, false, true, true, true, false, false, false] rfl rfl rfl rfl (two_of HT_.out (by kernel_rfl)) (by decide) (by decide) (fun K hK => ?_) (fun K hK => ?_)
            ·skip
             refine goes_ Tryd.func51 (by kernel_rfl) rfl #[.agg #[.string a1_0, .string a1_1, .bool a1_2, .bool a1_3, .slice A1_4 l1_4.length c1_4]] (by rfl) rfl rfl ar_ ?_
             with_reducible refine (idiomlaw04_copied.calls a1_0 a1_1 a1_2 a1_3 _ _ l1_4 t1236 t1237 t1238 t1239 t1240 _ ?side1 ?side2 A10.out).mono ?_
             (case side1 => repeat (first | exact (Kd.C_below HR1_4.out HB.out) | (with_reducible refine Kd.C_alloc ?_ _) | (with_reducible refine Kd.C_drewN ?_ _) | (with_reducible refine Kd.C_drew ?_)))
             (case side2 => exact HC1_4.out)
             rintro e w22 ⟨v1241, rfl, ho0, hb⟩
             refine ⟨_, rfl, ?_⟩
             have HO1242 := Aside0.mk (Kd.R_lower (Kd.R_new' ho0 (Kd.R_lt HO1235.out)) (below_size hb_))
             replace HO1235 := Aside0.mk (Kd.R_elder' HO1235.out (Kd.R_base ho0) hb)
             replace BK1226 := BK1226.bl hb
             replace BK1227 := BK1227.bl hb
             replace BK1250 := BK1250.bl hb
             replace BK1251 := BK1251.bl hb
             replace HB := Aside0.mk (below_step hb_ hb)
             (try clear hb)
             (try clear hb2)
             (try clear hk)
             (try clear hi)
             (try clear ho0)
             refine hK.out _ _ (h5_ BK1227) (fun hHeld => ?_)
             clear hK K
             refine norm_ (a' := ?_) ?_ ?_
             rotate_left
             ·show Act.put _ (some 30) _ = _
              simp only [Act.put, List.setIfInBounds_toArray, List.set_cons_zero, List.set_cons_succ, i64_w, i32_w]
              rfl
             exact norm_ nm_ (hJ1_3_6_7 (v1234, v1241, gb1250, gb1251) _ ⟨hHeld, ⟨by (with_reducible repeat (first | apply Kd.R_alloc | apply Kd.R_drewN | apply Kd.R_drew)); exact Kd.R_mono HO1235.out (fun _ hk => hk.2)⟩, ⟨by (with_reducible repeat (first | apply Kd.R_alloc | apply Kd.R_drewN | apply Kd.R_drew)); exact Kd.R_mono HO1242.out (fun _ hk => hk.2)⟩, BK1226, BK1227, BK1250, BK1251, GW1250, GE1250, LB1226_1250, NB1250_1226, LB1227_1250, NB1250_1227, NB1251_1250, NB1250_1251, GW1251, GE1251, LB1226_1251, NB1251_1226, LB1227_1251, NB1251_1227, ⟨hb_⟩⟩)
            ·skip
             refine bs_ 7 #[.string (⟨#[]⟩ : ByteArray), .string (⟨#[]⟩ : ByteArray), .bool false, .bool false, .slice none 0 0] (t := 54) ?_
             intro gb1252 hg w22 hbox hb
             have BK1252 := Aside0.mk (hbox)
             have GW1252 := Aside0.mk ((by rw [hg]; exact (below_size hb_) : w.heap.size ≤ gb1252))
             have GE1252 := Aside0.mk ((by rw [hg]; exact (below_size hb_) : w.heap.size ≤ gb1252))
             have NB1226_1252 := BK1226.nl hg; have LB1226_1252 := lt_ BK1226 hg
             have NB1252_1226 := BK1226.ng hg
             have NB1227_1252 := BK1227.nl hg; have LB1227_1252 := lt_ BK1227 hg
             have NB1252_1227 := BK1227.ng hg
             have NB1250_1252 := BK1250.nl hg; have LB1250_1252 := lt_ BK1250 hg
             have NB1252_1250 := BK1250.ng hg
             have NB1251_1252 := BK1251.nl hg; have LB1251_1252 := lt_ BK1251 hg
             have NB1252_1251 := BK1251.ng hg
             replace HO1235 := bw_ HO1235 hb
             replace BK1226 := BK1226.bl hb
             replace BK1227 := BK1227.bl hb
             replace BK1250 := BK1250.bl hb
             replace BK1251 := BK1251.bl hb
             replace HB := Aside0.mk (below_step hb_ hb)
             clear hb hbox hg
             refine hK.out _ _ (h5_ BK1227) (fun hHeld => ?_)
             clear hK K
             refine norm_ (a' := ?_) ?_ ?_
             rotate_left
             ·show Act.put _ (some 7) _ = _
              simp only [Act.put, List.setIfInBounds_toArray, List.set_cons_zero, List.set_cons_succ, i64_w, i32_w]
              rfl
             exact norm_ nm_ (hJ1_6_7_8 (v1234, gb1250, gb1251, gb1252) _ ⟨hHeld, HO1235, BK1226, BK1227, BK1250, BK1251, BK1252, GW1250, GE1250, LB1226_1250, NB1250_1226, LB1227_1250, NB1250_1227, NB1251_1250, NB1250_1251, NB1252_1250, NB1250_1252, GW1251, GE1251, LB1226_1251, NB1251_1226, LB1227_1251, NB1251_1227, NB1252_1251, NB1251_1252, GW1252, GE1252, LB1226_1252, NB1252_1226, LB1227_1252, NB1252_1227, ⟨hb_⟩⟩)
          ·skip
           clear BK1226 BK1227 HB
           rintro ⟨v1234, v1241, gb1252⟩ w21 h
           try dsimp only at h
           obtain ⟨hHeld, HO1235, HO1242, BK1226, BK1227, BK1252, GW1252, GE1252, LB1226_1252, NB1252_1226, LB1227_1252, NB1252_1227, HB⟩ := h
           have NB1226_1252 := ne_ LB1226_1252
           have NB1227_1252 := ne_ LB1227_1252
           refine norm_ (a' := ?_) ?_ ?_
           rotate_left
           ·simp only [putAll, Act.put, List.setIfInBounds_toArray, List.set_cons_zero, List.set_cons_succ]
            rfl
           refine three_ (i := 5) (j := 6) (k := 7) (Ni := some 32) (Nj := some 5) (Nk := some 6) #[true, true, true, true, true, true, false, false, true, false, false, false] #[true, true, true, true, true, false, true, false, true, false, false, false] #[true, true, true, true, true, false, false, true, true, false, false, false] rfl rfl rfl rfl rfl rfl (three_of HT_.out (by kernel_rfl)) (by decide) (by decide) (by decide) (fun K hK => ?_) (fun K hK => ?_) (fun K hK => ?_)
           ·skip
            refine goes_ Tryd.func51 (by kernel_rfl) rfl #[.agg #[.string a1_0, .string a1_1, .bool a1_2, .bool a1_3, .slice A1_4 l1_4.length c1_4]] (by rfl) rfl rfl ar_ ?_
            with_reducible refine (idiomlaw04_copied.calls a1_0 a1_1 a1_2 a1_3 _ _ l1_4 t1243 t1244 t1245 t1246 t1247 _ ?side1 ?side2 A11.out).mono ?_
            (case side1 => repeat (first | exact (Kd.C_below HR1_4.out HB.out) | (with_reducible refine Kd.C_alloc ?_ _) | (with_reducible refine Kd.C_drewN ?_ _) | (with_reducible refine Kd.C_drew ?_)))
            (case side2 => exact HC1_4.out)
            rintro e w22 ⟨v1248, rfl, ho0, hb⟩
            refine ⟨_, rfl, ?_⟩
            have HO1249 := Aside0.mk (Kd.R_lower (Kd.R_new' (Kd.R_new' ho0 (Kd.R_lt HO1235.out)) (Kd.R_lt HO1242.out)) (below_size hb_))
            replace HO1235 := Aside0.mk (Kd.R_elder' HO1235.out (Kd.R_base ho0) hb)
            replace HO1242 := Aside0.mk (Kd.R_elder' HO1242.out (Kd.R_base ho0) hb)
            replace BK1226 := BK1226.bl hb
            replace BK1227 := BK1227.bl hb
            replace BK1252 := BK1252.bl hb
            replace HB := Aside0.mk (below_step hb_ hb)
            (try clear hb)
            (try clear hb2)
            (try clear hk)
            (try clear hi)
            (try clear ho0)
            refine hK.out _ _ (h5_ BK1227) (fun hHeld => ?_)
            clear hK K
            refine norm_ (a' := ?_) ?_ ?_
            rotate_left
            ·show Act.put _ (some 32) _ = _
             simp only [Act.put, List.setIfInBounds_toArray, List.set_cons_zero, List.set_cons_succ, i64_w, i32_w]
             rfl
            exact norm_ nm_ (hJ1_3_5_8 (v1234, v1241, v1248, gb1252) _ ⟨hHeld, HO1235, HO1242, ⟨by (with_reducible repeat (first | apply Kd.R_alloc | apply Kd.R_drewN | apply Kd.R_drew)); exact Kd.R_mono HO1249.out (fun _ hk => ⟨hk.1.2, hk.2⟩)⟩, BK1226, BK1227, BK1252, GW1252, GE1252, LB1226_1252, NB1252_1226, LB1227_1252, NB1252_1227, ⟨hb_⟩⟩)
           ·skip
            refine bs_ 5 #[.string (⟨#[]⟩ : ByteArray), .string (⟨#[]⟩ : ByteArray), .bool false, .bool false, .slice none 0 0] (t := 54) ?_
            intro gb1250 hg w22 hbox hb
            have BK1250 := Aside0.mk (hbox)
            have GW1250 := Aside0.mk ((by rw [hg]; exact (below_size hb_) : w.heap.size ≤ gb1250))
            have GE1250 := Aside0.mk ((by rw [hg]; exact (below_size hb_) : w.heap.size ≤ gb1250))
            have NB1226_1250 := BK1226.nl hg; have LB1226_1250 := lt_ BK1226 hg
            have NB1250_1226 := BK1226.ng hg
            have NB1227_1250 := BK1227.nl hg; have LB1227_1250 := lt_ BK1227 hg
            have NB1250_1227 := BK1227.ng hg
            have NB1252_1250 := BK1252.nl hg; have LB1252_1250 := lt_ BK1252 hg
            have NB1250_1252 := BK1252.ng hg
            replace HO1235 := bw_ HO1235 hb
            replace HO1242 := bw_ HO1242 hb
            replace BK1226 := BK1226.bl hb
            replace BK1227 := BK1227.bl hb
            replace BK1252 := BK1252.bl hb
            replace HB := Aside0.mk (below_step hb_ hb)
            clear hb hbox hg
            refine hK.out _ _ (h5_ BK1227) (fun hHeld => ?_)
            clear hK K
            refine norm_ (a' := ?_) ?_ ?_
            rotate_left
            ·show Act.put _ (some 5) _ = _
             simp only [Act.put, List.setIfInBounds_toArray, List.set_cons_zero, List.set_cons_succ, i64_w, i32_w]
             rfl
            exact norm_ nm_ (hJ1_3_6_8 (v1234, v1241, gb1250, gb1252) _ ⟨hHeld, HO1235, HO1242, BK1226, BK1227, BK1250, BK1252, GW1250, GE1250, LB1226_1250, NB1250_1226, LB1227_1250, NB1250_1227, NB1252_1250, NB1250_1252, GW1252, GE1252, LB1226_1252, NB1252_1226, LB1227_1252, NB1252_1227, ⟨hb_⟩⟩)
           ·skip
            refine bs_ 6 #[.string (⟨#[]⟩ : ByteArray), .string (⟨#[]⟩ : ByteArray), .bool false, .bool false, .slice none 0 0] (t := 54) ?_
            intro gb1251 hg w22 hbox hb
            have BK1251 := Aside0.mk (hbox)
            have GW1251 := Aside0.mk ((by rw [hg]; exact (below_size hb_) : w.heap.size ≤ gb1251))
            have GE1251 := Aside0.mk ((by rw [hg]; exact (below_size hb_) : w.heap.size ≤ gb1251))
            have NB1226_1251 := BK1226.nl hg; have LB1226_1251 := lt_ BK1226 hg
            have NB1251_1226 := BK1226.ng hg
            have NB1227_1251 := BK1227.nl hg; have LB1227_1251 := lt_ BK1227 hg
            have NB1251_1227 := BK1227.ng hg
            have NB1252_1251 := BK1252.nl hg; have LB1252_1251 := lt_ BK1252 hg
            have NB1251_1252 := BK1252.ng hg
            replace HO1235 := bw_ HO1235 hb
            replace HO1242 := bw_ HO1242 hb
            replace BK1226 := BK1226.bl hb
            replace BK1227 := BK1227.bl hb
            replace BK1252 := BK1252.bl hb
            replace HB := Aside0.mk (below_step hb_ hb)
            clear hb hbox hg
            refine hK.out _ _ (h5_ BK1227) (fun hHeld => ?_)
            clear hK K
            refine norm_ (a' := ?_) ?_ ?_
            rotate_left
            ·show Act.put _ (some 6) _ = _
             simp only [Act.put, List.setIfInBounds_toArray, List.set_cons_zero, List.set_cons_succ, i64_w, i32_w]
             rfl
            exact norm_ nm_ (hJ1_3_7_8 (v1234, v1241, gb1251, gb1252) _ ⟨hHeld, HO1235, HO1242, BK1226, BK1227, BK1251, BK1252, GW1251, GE1251, LB1226_1251, NB1251_1226, LB1227_1251, NB1251_1227, NB1252_1251, NB1251_1252, GW1252, GE1252, LB1226_1252, NB1252_1226, LB1227_1252, NB1252_1227, ⟨hb_⟩⟩)
         ·skip
          clear BK1226 BK1227 HB
          rintro ⟨v1234, v1241, gb1251⟩ w21 h
          try dsimp only at h
          obtain ⟨hHeld, HO1235, HO1242, BK1226, BK1227, BK1251, GW1251, GE1251, LB1226_1251, NB1251_1226, LB1227_1251, NB1251_1227, HB⟩ := h
          have NB1226_1251 := ne_ LB1226_1251
          have NB1227_1251 := ne_ LB1227_1251
          refine norm_ (a' := ?_) ?_ ?_
          rotate_left
          ·simp only [putAll, Act.put, List.setIfInBounds_toArray, List.set_cons_zero, List.set_cons_succ]
           rfl
          refine three_ (i := 5) (j := 6) (k := 8) (Ni := some 32) (Nj := some 5) (Nk := some 7) #[true, true, true, true, true, true, false, true, false, false, false, false] #[true, true, true, true, true, false, true, true, false, false, false, false] #[true, true, true, true, true, false, false, true, true, false, false, false] rfl rfl rfl rfl rfl rfl (three_of HT_.out (by kernel_rfl)) (by decide) (by decide) (by decide) (fun K hK => ?_) (fun K hK => ?_) (fun K hK => ?_)
          ·skip
           refine goes_ Tryd.func51 (by kernel_rfl) rfl #[.agg #[.string a1_0, .string a1_1, .bool a1_2, .bool a1_3, .slice A1_4 l1_4.length c1_4]] (by rfl) rfl rfl ar_ ?_
           with_reducible refine (idiomlaw04_copied.calls a1_0 a1_1 a1_2 a1_3 _ _ l1_4 t1243 t1244 t1245 t1246 t1247 _ ?side1 ?side2 A11.out).mono ?_
           (case side1 => repeat (first | exact (Kd.C_below HR1_4.out HB.out) | (with_reducible refine Kd.C_alloc ?_ _) | (with_reducible refine Kd.C_drewN ?_ _) | (with_reducible refine Kd.C_drew ?_)))
           (case side2 => exact HC1_4.out)
           rintro e w22 ⟨v1248, rfl, ho0, hb⟩
           refine ⟨_, rfl, ?_⟩
           have HO1249 := Aside0.mk (Kd.R_lower (Kd.R_new' (Kd.R_new' ho0 (Kd.R_lt HO1235.out)) (Kd.R_lt HO1242.out)) (below_size hb_))
           replace HO1235 := Aside0.mk (Kd.R_elder' HO1235.out (Kd.R_base ho0) hb)
           replace HO1242 := Aside0.mk (Kd.R_elder' HO1242.out (Kd.R_base ho0) hb)
           replace BK1226 := BK1226.bl hb
           replace BK1227 := BK1227.bl hb
           replace BK1251 := BK1251.bl hb
           replace HB := Aside0.mk (below_step hb_ hb)
           (try clear hb)
           (try clear hb2)
           (try clear hk)
           (try clear hi)
           (try clear ho0)
           refine hK.out _ _ (h5_ BK1227) (fun hHeld => ?_)
           clear hK K
           refine norm_ (a' := ?_) ?_ ?_
           rotate_left
           ·show Act.put _ (some 32) _ = _
            simp only [Act.put, List.setIfInBounds_toArray, List.set_cons_zero, List.set_cons_succ, i64_w, i32_w]
            rfl
           exact norm_ nm_ (hJ1_3_5_7 (v1234, v1241, v1248, gb1251) _ ⟨hHeld, HO1235, HO1242, ⟨by (with_reducible repeat (first | apply Kd.R_alloc | apply Kd.R_drewN | apply Kd.R_drew)); exact Kd.R_mono HO1249.out (fun _ hk => ⟨hk.1.2, hk.2⟩)⟩, BK1226, BK1227, BK1251, GW1251, GE1251, LB1226_1251, NB1251_1226, LB1227_1251, NB1251_1227, ⟨hb_⟩⟩)
          ·skip
           refine bs_ 5 #[.string (⟨#[]⟩ : ByteArray), .string (⟨#[]⟩ : ByteArray), .bool false, .bool false, .slice none 0 0] (t := 54) ?_
           intro gb1250 hg w22 hbox hb
           have BK1250 := Aside0.mk (hbox)
           have GW1250 := Aside0.mk ((by rw [hg]; exact (below_size hb_) : w.heap.size ≤ gb1250))
           have GE1250 := Aside0.mk ((by rw [hg]; exact (below_size hb_) : w.heap.size ≤ gb1250))
           have NB1226_1250 := BK1226.nl hg; have LB1226_1250 := lt_ BK1226 hg
           have NB1250_1226 := BK1226.ng hg
           have NB1227_1250 := BK1227.nl hg; have LB1227_1250 := lt_ BK1227 hg
           have NB1250_1227 := BK1227.ng hg
           have NB1251_1250 := BK1251.nl hg; have LB1251_1250 := lt_ BK1251 hg
           have NB1250_1251 := BK1251.ng hg
           replace HO1235 := bw_ HO1235 hb
           replace HO1242 := bw_ HO1242 hb
           replace BK1226 := BK1226.bl hb
           replace BK1227 := BK1227.bl hb
           replace BK1251 := BK1251.bl hb
           replace HB := Aside0.mk (below_step hb_ hb)
           clear hb hbox hg
           refine hK.out _ _ (h5_ BK1227) (fun hHeld => ?_)
           clear hK K
           refine norm_ (a' := ?_) ?_ ?_
           rotate_left
           ·show Act.put _ (some 5) _ = _
            simp only [Act.put, List.setIfInBounds_toArray, List.set_cons_zero, List.set_cons_succ, i64_w, i32_w]
            rfl
           exact norm_ nm_ (hJ1_3_6_7 (v1234, v1241, gb1250, gb1251) _ ⟨hHeld, HO1235, HO1242, BK1226, BK1227, BK1250, BK1251, GW1250, GE1250, LB1226_1250, NB1250_1226, LB1227_1250, NB1250_1227, NB1251_1250, NB1250_1251, GW1251, GE1251, LB1226_1251, NB1251_1226, LB1227_1251, NB1251_1227, ⟨hb_⟩⟩)
          ·skip
           refine bs_ 7 #[.string (⟨#[]⟩ : ByteArray), .string (⟨#[]⟩ : ByteArray), .bool false, .bool false, .slice none 0 0] (t := 54) ?_
           intro gb1252 hg w22 hbox hb
           have BK1252 := Aside0.mk (hbox)
           have GW1252 := Aside0.mk ((by rw [hg]; exact (below_size hb_) : w.heap.size ≤ gb1252))
           have GE1252 := Aside0.mk ((by rw [hg]; exact (below_size hb_) : w.heap.size ≤ gb1252))
           have NB1226_1252 := BK1226.nl hg; have LB1226_1252 := lt_ BK1226 hg
           have NB1252_1226 := BK1226.ng hg
           have NB1227_1252 := BK1227.nl hg; have LB1227_1252 := lt_ BK1227 hg
           have NB1252_1227 := BK1227.ng hg
           have NB1251_1252 := BK1251.nl hg; have LB1251_1252 := lt_ BK1251 hg
           have NB1252_1251 := BK1251.ng hg
           replace HO1235 := bw_ HO1235 hb
           replace HO1242 := bw_ HO1242 hb
           replace BK1226 := BK1226.bl hb
           replace BK1227 := BK1227.bl hb
           replace BK1251 := BK1251.bl hb
           replace HB := Aside0.mk (below_step hb_ hb)
           clear hb hbox hg
           refine hK.out _ _ (h5_ BK1227) (fun hHeld => ?_)
           clear hK K
           refine norm_ (a' := ?_) ?_ ?_
           rotate_left
           ·show Act.put _ (some 7) _ = _
            simp only [Act.put, List.setIfInBounds_toArray, List.set_cons_zero, List.set_cons_succ, i64_w, i32_w]
            rfl
           exact norm_ nm_ (hJ1_3_7_8 (v1234, v1241, gb1251, gb1252) _ ⟨hHeld, HO1235, HO1242, BK1226, BK1227, BK1251, BK1252, GW1251, GE1251, LB1226_1251, NB1251_1226, LB1227_1251, NB1251_1227, NB1252_1251, NB1251_1252, GW1252, GE1252, LB1226_1252, NB1252_1226, LB1227_1252, NB1252_1227, ⟨hb_⟩⟩)
        ·skip
         clear BK1226 BK1227 HB
         rintro ⟨v1234, v1241, gb1250⟩ w21 h
         try dsimp only at h
         obtain ⟨hHeld, HO1235, HO1242, BK1226, BK1227, BK1250, GW1250, GE1250, LB1226_1250, NB1250_1226, LB1227_1250, NB1250_1227, HB⟩ := h
         have NB1226_1250 := ne_ LB1226_1250
         have NB1227_1250 := ne_ LB1227_1250
         refine norm_ (a' := ?_) ?_ ?_
         rotate_left
         ·simp only [putAll, Act.put, List.setIfInBounds_toArray, List.set_cons_zero, List.set_cons_succ]
          rfl
         refine three_ (i := 5) (j := 7) (k := 8) (Ni := some 32) (Nj := some 6) (Nk := some 7) #[true, true, true, true, true, true, true, false, false, false, false, false] #[true, true, true, true, true, false, true, true, false, false, false, false] #[true, true, true, true, true, false, true, false, true, false, false, false] rfl rfl rfl rfl rfl rfl (three_of HT_.out (by kernel_rfl)) (by decide) (by decide) (by decide) (fun K hK => ?_) (fun K hK => ?_) (fun K hK => ?_)
         ·skip
          refine goes_ Tryd.func51 (by kernel_rfl) rfl #[.agg #[.string a1_0, .string a1_1, .bool a1_2, .bool a1_3, .slice A1_4 l1_4.length c1_4]] (by rfl) rfl rfl ar_ ?_
          with_reducible refine (idiomlaw04_copied.calls a1_0 a1_1 a1_2 a1_3 _ _ l1_4 t1243 t1244 t1245 t1246 t1247 _ ?side1 ?side2 A11.out).mono ?_
          (case side1 => repeat (first | exact (Kd.C_below HR1_4.out HB.out) | (with_reducible refine Kd.C_alloc ?_ _) | (with_reducible refine Kd.C_drewN ?_ _) | (with_reducible refine Kd.C_drew ?_)))
          (case side2 => exact HC1_4.out)
          rintro e w22 ⟨v1248, rfl, ho0, hb⟩
          refine ⟨_, rfl, ?_⟩
          have HO1249 := Aside0.mk (Kd.R_lower (Kd.R_new' (Kd.R_new' ho0 (Kd.R_lt HO1235.out)) (Kd.R_lt HO1242.out)) (below_size hb_))
          replace HO1235 := Aside0.mk (Kd.R_elder' HO1235.out (Kd.R_base ho0) hb)
          replace HO1242 := Aside0.mk (Kd.R_elder' HO1242.out (Kd.R_base ho0) hb)
          replace BK1226 := BK1226.bl hb
          replace BK1227 := BK1227.bl hb
          replace BK1250 := BK1250.bl hb
          replace HB := Aside0.mk (below_step hb_ hb)
          (try clear hb)
          (try clear hb2)
          (try clear hk)
          (try clear hi)
          (try clear ho0)
          refine hK.out _ _ (h5_ BK1227) (fun hHeld => ?_)
          clear hK K
          refine norm_ (a' := ?_) ?_ ?_
          rotate_left
          ·show Act.put _ (some 32) _ = _
           simp only [Act.put, List.setIfInBounds_toArray, List.set_cons_zero, List.set_cons_succ, i64_w, i32_w]
           rfl
          exact norm_ nm_ (hJ1_3_5_6 (v1234, v1241, v1248, gb1250) _ ⟨hHeld, HO1235, HO1242, ⟨by (with_reducible repeat (first | apply Kd.R_alloc | apply Kd.R_drewN | apply Kd.R_drew)); exact Kd.R_mono HO1249.out (fun _ hk => ⟨hk.1.2, hk.2⟩)⟩, BK1226, BK1227, BK1250, GW1250, GE1250, LB1226_1250, NB1250_1226, LB1227_1250, NB1250_1227, ⟨hb_⟩⟩)
         ·skip
          refine bs_ 6 #[.string (⟨#[]⟩ : ByteArray), .string (⟨#[]⟩ : ByteArray), .bool false, .bool false, .slice none 0 0] (t := 54) ?_
          intro gb1251 hg w22 hbox hb
          have BK1251 := Aside0.mk (hbox)
          have GW1251 := Aside0.mk ((by rw [hg]; exact (below_size hb_) : w.heap.size ≤ gb1251))
          have GE1251 := Aside0.mk ((by rw [hg]; exact (below_size hb_) : w.heap.size ≤ gb1251))
          have NB1226_1251 := BK1226.nl hg; have LB1226_1251 := lt_ BK1226 hg
          have NB1251_1226 := BK1226.ng hg
          have NB1227_1251 := BK1227.nl hg; have LB1227_1251 := lt_ BK1227 hg
          have NB1251_1227 := BK1227.ng hg
          have NB1250_1251 := BK1250.nl hg; have LB1250_1251 := lt_ BK1250 hg
          have NB1251_1250 := BK1250.ng hg
          replace HO1235 := bw_ HO1235 hb
          replace HO1242 := bw_ HO1242 hb
          replace BK1226 := BK1226.bl hb
          replace BK1227 := BK1227.bl hb
          replace BK1250 := BK1250.bl hb
          replace HB := Aside0.mk (below_step hb_ hb)
          clear hb hbox hg
          refine hK.out _ _ (h5_ BK1227) (fun hHeld => ?_)
          clear hK K
          refine norm_ (a' := ?_) ?_ ?_
          rotate_left
          ·show Act.put _ (some 6) _ = _
           simp only [Act.put, List.setIfInBounds_toArray, List.set_cons_zero, List.set_cons_succ, i64_w, i32_w]
           rfl
          exact norm_ nm_ (hJ1_3_6_7 (v1234, v1241, gb1250, gb1251) _ ⟨hHeld, HO1235, HO1242, BK1226, BK1227, BK1250, BK1251, GW1250, GE1250, LB1226_1250, NB1250_1226, LB1227_1250, NB1250_1227, NB1251_1250, NB1250_1251, GW1251, GE1251, LB1226_1251, NB1251_1226, LB1227_1251, NB1251_1227, ⟨hb_⟩⟩)
         ·skip
          refine bs_ 7 #[.string (⟨#[]⟩ : ByteArray), .string (⟨#[]⟩ : ByteArray), .bool false, .bool false, .slice none 0 0] (t := 54) ?_
          intro gb1252 hg w22 hbox hb
          have BK1252 := Aside0.mk (hbox)
          have GW1252 := Aside0.mk ((by rw [hg]; exact (below_size hb_) : w.heap.size ≤ gb1252))
          have GE1252 := Aside0.mk ((by rw [hg]; exact (below_size hb_) : w.heap.size ≤ gb1252))
          have NB1226_1252 := BK1226.nl hg; have LB1226_1252 := lt_ BK1226 hg
          have NB1252_1226 := BK1226.ng hg
          have NB1227_1252 := BK1227.nl hg; have LB1227_1252 := lt_ BK1227 hg
          have NB1252_1227 := BK1227.ng hg
          have NB1250_1252 := BK1250.nl hg; have LB1250_1252 := lt_ BK1250 hg
          have NB1252_1250 := BK1250.ng hg
          replace HO1235 := bw_ HO1235 hb
          replace HO1242 := bw_ HO1242 hb
          replace BK1226 := BK1226.bl hb
          replace BK1227 := BK1227.bl hb
          replace BK1250 := BK1250.bl hb
          replace HB := Aside0.mk (below_step hb_ hb)
          clear hb hbox hg
          refine hK.out _ _ (h5_ BK1227) (fun hHeld => ?_)
          clear hK K
          refine norm_ (a' := ?_) ?_ ?_
          rotate_left
          ·show Act.put _ (some 7) _ = _
           simp only [Act.put, List.setIfInBounds_toArray, List.set_cons_zero, List.set_cons_succ, i64_w, i32_w]
           rfl
          exact norm_ nm_ (hJ1_3_6_8 (v1234, v1241, gb1250, gb1252) _ ⟨hHeld, HO1235, HO1242, BK1226, BK1227, BK1250, BK1252, GW1250, GE1250, LB1226_1250, NB1250_1226, LB1227_1250, NB1250_1227, NB1252_1250, NB1250_1252, GW1252, GE1252, LB1226_1252, NB1252_1226, LB1227_1252, NB1252_1227, ⟨hb_⟩⟩)
       ·skip
        clear BK1226 BK1227 HB
        rintro ⟨v1234, v1241, v1248⟩ w21 h
        try dsimp only at h
        obtain ⟨hHeld, HO1235, HO1242, HO1249, BK1226, BK1227, HB⟩ := h
        refine norm_ (a' := ?_) ?_ ?_
        rotate_left
        ·simp only [putAll, Act.put, List.setIfInBounds_toArray, List.set_cons_zero, List.set_cons_succ]
         rfl
        refine three_ (i := 6) (j := 7) (k := 8) (Ni := some 5) (Nj := some 6) (Nk := some 7) #[true, true, true, true, true, true, true, false, false, false, false, false] #[true, true, true, true, true, true, false, true, false, false, false, false] #[true, true, true, true, true, true, false, false, true, false, false, false] rfl rfl rfl rfl rfl rfl (three_of HT_.out (by kernel_rfl)) (by decide) (by decide) (by decide) (fun K hK => ?_) (fun K hK => ?_) (fun K hK => ?_)
        ·skip
         refine bs_ 5 #[.string (⟨#[]⟩ : ByteArray), .string (⟨#[]⟩ : ByteArray), .bool false, .bool false, .slice none 0 0] (t := 54) ?_
         intro gb1250 hg w22 hbox hb
         have BK1250 := Aside0.mk (hbox)
         have GW1250 := Aside0.mk ((by rw [hg]; exact (below_size hb_) : w.heap.size ≤ gb1250))
         have GE1250 := Aside0.mk ((by rw [hg]; exact (below_size hb_) : w.heap.size ≤ gb1250))
         have NB1226_1250 := BK1226.nl hg; have LB1226_1250 := lt_ BK1226 hg
         have NB1250_1226 := BK1226.ng hg
         have NB1227_1250 := BK1227.nl hg; have LB1227_1250 := lt_ BK1227 hg
         have NB1250_1227 := BK1227.ng hg
         replace HO1235 := bw_ HO1235 hb
         replace HO1242 := bw_ HO1242 hb
         replace HO1249 := bw_ HO1249 hb
         replace BK1226 := BK1226.bl hb
         replace BK1227 := BK1227.bl hb
         replace HB := Aside0.mk (below_step hb_ hb)
         clear hb hbox hg
         refine hK.out _ _ (h5_ BK1227) (fun hHeld => ?_)
         clear hK K
         refine norm_ (a' := ?_) ?_ ?_
         rotate_left
         ·show Act.put _ (some 5) _ = _
          simp only [Act.put, List.setIfInBounds_toArray, List.set_cons_zero, List.set_cons_succ, i64_w, i32_w]
          rfl
         exact norm_ nm_ (hJ1_3_5_6 (v1234, v1241, v1248, gb1250) _ ⟨hHeld, HO1235, HO1242, HO1249, BK1226, BK1227, BK1250, GW1250, GE1250, LB1226_1250, NB1250_1226, LB1227_1250, NB1250_1227, ⟨hb_⟩⟩)
        ·skip
         refine bs_ 6 #[.string (⟨#[]⟩ : ByteArray), .string (⟨#[]⟩ : ByteArray), .bool false, .bool false, .slice none 0 0] (t := 54) ?_
         intro gb1251 hg w22 hbox hb
         have BK1251 := Aside0.mk (hbox)
         have GW1251 := Aside0.mk ((by rw [hg]; exact (below_size hb_) : w.heap.size ≤ gb1251))
         have GE1251 := Aside0.mk ((by rw [hg]; exact (below_size hb_) : w.heap.size ≤ gb1251))
         have NB1226_1251 := BK1226.nl hg; have LB1226_1251 := lt_ BK1226 hg
         have NB1251_1226 := BK1226.ng hg
         have NB1227_1251 := BK1227.nl hg; have LB1227_1251 := lt_ BK1227 hg
         have NB1251_1227 := BK1227.ng hg
         replace HO1235 := bw_ HO1235 hb
         replace HO1242 := bw_ HO1242 hb
         replace HO1249 := bw_ HO1249 hb
         replace BK1226 := BK1226.bl hb
         replace BK1227 := BK1227.bl hb
         replace HB := Aside0.mk (below_step hb_ hb)
         clear hb hbox hg
         refine hK.out _ _ (h5_ BK1227) (fun hHeld => ?_)
         clear hK K
         refine norm_ (a' := ?_) ?_ ?_
         rotate_left
         ·show Act.put _ (some 6) _ = _
          simp only [Act.put, List.setIfInBounds_toArray, List.set_cons_zero, List.set_cons_succ, i64_w, i32_w]
          rfl
         exact norm_ nm_ (hJ1_3_5_7 (v1234, v1241, v1248, gb1251) _ ⟨hHeld, HO1235, HO1242, HO1249, BK1226, BK1227, BK1251, GW1251, GE1251, LB1226_1251, NB1251_1226, LB1227_1251, NB1251_1227, ⟨hb_⟩⟩)
        ·skip
         refine bs_ 7 #[.string (⟨#[]⟩ : ByteArray), .string (⟨#[]⟩ : ByteArray), .bool false, .bool false, .slice none 0 0] (t := 54) ?_
         intro gb1252 hg w22 hbox hb
         have BK1252 := Aside0.mk (hbox)
         have GW1252 := Aside0.mk ((by rw [hg]; exact (below_size hb_) : w.heap.size ≤ gb1252))
         have GE1252 := Aside0.mk ((by rw [hg]; exact (below_size hb_) : w.heap.size ≤ gb1252))
         have NB1226_1252 := BK1226.nl hg; have LB1226_1252 := lt_ BK1226 hg
         have NB1252_1226 := BK1226.ng hg
         have NB1227_1252 := BK1227.nl hg; have LB1227_1252 := lt_ BK1227 hg
         have NB1252_1227 := BK1227.ng hg
         replace HO1235 := bw_ HO1235 hb
         replace HO1242 := bw_ HO1242 hb
         replace HO1249 := bw_ HO1249 hb
         replace BK1226 := BK1226.bl hb
         replace BK1227 := BK1227.bl hb
         replace HB := Aside0.mk (below_step hb_ hb)
         clear hb hbox hg
         refine hK.out _ _ (h5_ BK1227) (fun hHeld => ?_)
         clear hK K
         refine norm_ (a' := ?_) ?_ ?_
         rotate_left
         ·show Act.put _ (some 7) _ = _
          simp only [Act.put, List.setIfInBounds_toArray, List.set_cons_zero, List.set_cons_succ, i64_w, i32_w]
          rfl
         exact norm_ nm_ (hJ1_3_5_8 (v1234, v1241, v1248, gb1252) _ ⟨hHeld, HO1235, HO1242, HO1249, BK1226, BK1227, BK1252, GW1252, GE1252, LB1226_1252, NB1252_1226, LB1227_1252, NB1252_1227, ⟨hb_⟩⟩)
      ·skip
       clear BK1226 BK1227 HB
       rintro ⟨v1234, gb1250, gb1251, gb1252⟩ w22 h
       try dsimp only at h
       obtain ⟨hHeld, HO1235, BK1226, BK1227, BK1250, BK1251, BK1252, GW1250, GE1250, LB1226_1250, NB1250_1226, LB1227_1250, NB1250_1227, NB1251_1250, NB1250_1251, NB1252_1250, NB1250_1252, GW1251, GE1251, LB1226_1251, NB1251_1226, LB1227_1251, NB1251_1227, NB1252_1251, NB1251_1252, GW1252, GE1252, LB1226_1252, NB1252_1226, LB1227_1252, NB1252_1227, HB⟩ := h
       have NB1226_1250 := ne_ LB1226_1250
       have NB1227_1250 := ne_ LB1227_1250
       have NB1226_1251 := ne_ LB1226_1251
       have NB1227_1251 := ne_ LB1227_1251
       have NB1226_1252 := ne_ LB1226_1252
       have NB1227_1252 := ne_ LB1227_1252
       refine norm_ (a' := ?_) ?_ ?_
       rotate_left
       ·simp only [putAll, Act.put, List.setIfInBounds_toArray, List.set_cons_zero, List.set_cons_succ]
        rfl
       refine one_ (i := 3) (N := some 30) #[true, true, true, true, true, false, true, true, true, false, false, false] rfl rfl (one_of HT_.out (by kernel_rfl)) (by decide) (fun K hK => ?_)
       refine goes_ Tryd.func51 (by kernel_rfl) rfl #[.agg #[.string a1_0, .string a1_1, .bool a1_2, .bool a1_3, .slice A1_4 l1_4.length c1_4]] (by rfl) rfl rfl ar_ ?_
       with_reducible refine (idiomlaw04_copied.calls a1_0 a1_1 a1_2 a1_3 _ _ l1_4 t1236 t1237 t1238 t1239 t1240 _ ?side1 ?side2 A10.out).mono ?_
       (case side1 => repeat (first | exact (Kd.C_below HR1_4.out HB.out) | (with_reducible refine Kd.C_alloc ?_ _) | (with_reducible refine Kd.C_drewN ?_ _) | (with_reducible refine Kd.C_drew ?_)))
       (case side2 => exact HC1_4.out)
       rintro e w23 ⟨v1241, rfl, ho0, hb⟩
       refine ⟨_, rfl, ?_⟩
       have HO1242 := Aside0.mk (Kd.R_lower (Kd.R_new' ho0 (Kd.R_lt HO1235.out)) (below_size hb_))
       replace HO1235 := Aside0.mk (Kd.R_elder' HO1235.out (Kd.R_base ho0) hb)
       replace BK1226 := BK1226.bl hb
       replace BK1227 := BK1227.bl hb
       replace BK1250 := BK1250.bl hb
       replace BK1251 := BK1251.bl hb
       replace BK1252 := BK1252.bl hb
       replace HB := Aside0.mk (below_step hb_ hb)
       (try clear hb)
       (try clear hb2)
       (try clear hk)
       (try clear hi)
       (try clear ho0)
       refine hK.out _ _ (h5_ BK1227) (fun hHeld => ?_)
       clear hK K
       refine norm_ (a' := ?_) ?_ ?_
       rotate_left
       ·show Act.put _ (some 30) _ = _
        simp only [Act.put, List.setIfInBounds_toArray, List.set_cons_zero, List.set_cons_succ, i64_w, i32_w]
        rfl
       exact norm_ nm_ (hJ1_3_6_7_8 (v1234, v1241, gb1250, gb1251, gb1252) _ ⟨hHeld, ⟨by (with_reducible repeat (first | apply Kd.R_alloc | apply Kd.R_drewN | apply Kd.R_drew)); exact Kd.R_mono HO1235.out (fun _ hk => hk.2)⟩, ⟨by (with_reducible repeat (first | apply Kd.R_alloc | apply Kd.R_drewN | apply Kd.R_drew)); exact Kd.R_mono HO1242.out (fun _ hk => hk.2)⟩, BK1226, BK1227, BK1250, BK1251, BK1252, GW1250, GE1250, LB1226_1250, NB1250_1226, LB1227_1250, NB1250_1227, NB1251_1250, NB1250_1251, NB1252_1250, NB1250_1252, GW1251, GE1251, LB1226_1251, NB1251_1226, LB1227_1251, NB1251_1227, NB1252_1251, NB1251_1252, GW1252, GE1252, LB1226_1252, NB1252_1226, LB1227_1252, NB1252_1227, ⟨hb_⟩⟩)
     ·skip
      clear BK1226 BK1227 HB
      rintro ⟨v1234, v1241, gb1251, gb1252⟩ w22 h
      try dsimp only at h
      obtain ⟨hHeld, HO1235, HO1242, BK1226, BK1227, BK1251, BK1252, GW1251, GE1251, LB1226_1251, NB1251_1226, LB1227_1251, NB1251_1227, NB1252_1251, NB1251_1252, GW1252, GE1252, LB1226_1252, NB1252_1226, LB1227_1252, NB1252_1227, HB⟩ := h
      have NB1226_1251 := ne_ LB1226_1251
      have NB1227_1251 := ne_ LB1227_1251
      have NB1226_1252 := ne_ LB1226_1252
      have NB1227_1252 := ne_ LB1227_1252
      refine norm_ (a' := ?_) ?_ ?_
      rotate_left
      ·simp only [putAll, Act.put, List.setIfInBounds_toArray, List.set_cons_zero, List.set_cons_succ]
       rfl
      refine two_ (i := 5) (j := 6) (Ni := some 32) (Nj := some 5) #[true, true, true, true, true, true, false, true, true, false, false, false] #[true, true, true, true, true, false, true, true, true, false, false, false] rfl rfl rfl rfl (two_of HT_.out (by kernel_rfl)) (by decide) (by decide) (fun K hK => ?_) (fun K hK => ?_)
      ·skip
       refine goes_ Tryd.func51 (by kernel_rfl) rfl #[.agg #[.string a1_0, .string a1_1, .bool a1_2, .bool a1_3, .slice A1_4 l1_4.length c1_4]] (by rfl) rfl rfl ar_ ?_
       with_reducible refine (idiomlaw04_copied.calls a1_0 a1_1 a1_2 a1_3 _ _ l1_4 t1243 t1244 t1245 t1246 t1247 _ ?side1 ?side2 A11.out).mono ?_
       (case side1 => repeat (first | exact (Kd.C_below HR1_4.out HB.out) | (with_reducible refine Kd.C_alloc ?_ _) | (with_reducible refine Kd.C_drewN ?_ _) | (with_reducible refine Kd.C_drew ?_)))
       (case side2 => exact HC1_4.out)
       rintro e w23 ⟨v1248, rfl, ho0, hb⟩
       refine ⟨_, rfl, ?_⟩
       have HO1249 := Aside0.mk (Kd.R_lower (Kd.R_new' (Kd.R_new' ho0 (Kd.R_lt HO1235.out)) (Kd.R_lt HO1242.out)) (below_size hb_))
       replace HO1235 := Aside0.mk (Kd.R_elder' HO1235.out (Kd.R_base ho0) hb)
       replace HO1242 := Aside0.mk (Kd.R_elder' HO1242.out (Kd.R_base ho0) hb)
       replace BK1226 := BK1226.bl hb
       replace BK1227 := BK1227.bl hb
       replace BK1251 := BK1251.bl hb
       replace BK1252 := BK1252.bl hb
       replace HB := Aside0.mk (below_step hb_ hb)
       (try clear hb)
       (try clear hb2)
       (try clear hk)
       (try clear hi)
       (try clear ho0)
       refine hK.out _ _ (h5_ BK1227) (fun hHeld => ?_)
       clear hK K
       refine norm_ (a' := ?_) ?_ ?_
       rotate_left
       ·show Act.put _ (some 32) _ = _
        simp only [Act.put, List.setIfInBounds_toArray, List.set_cons_zero, List.set_cons_succ, i64_w, i32_w]
        rfl
       exact norm_ nm_ (hJ1_3_5_7_8 (v1234, v1241, v1248, gb1251, gb1252) _ ⟨hHeld, HO1235, HO1242, ⟨by (with_reducible repeat (first | apply Kd.R_alloc | apply Kd.R_drewN | apply Kd.R_drew)); exact Kd.R_mono HO1249.out (fun _ hk => ⟨hk.1.2, hk.2⟩)⟩, BK1226, BK1227, BK1251, BK1252, GW1251, GE1251, LB1226_1251, NB1251_1226, LB1227_1251, NB1251_1227, NB1252_1251, NB1251_1252, GW1252, GE1252, LB1226_1252, NB1252_1226, LB1227_1252, NB1252_1227, ⟨hb_⟩⟩)
      ·skip
       refine bs_ 5 #[.string (⟨#[]⟩ : ByteArray), .string (⟨#[]⟩ : ByteArray), .bool false, .bool false, .slice none 0 0] (t := 54) ?_
       intro gb1250 hg w23 hbox hb
       have BK1250 := Aside0.mk (hbox)
       have GW1250 := Aside0.mk ((by rw [hg]; exact (below_size hb_) : w.heap.size ≤ gb1250))
       have GE1250 := Aside0.mk ((by rw [hg]; exact (below_size hb_) : w.heap.size ≤ gb1250))
       have NB1226_1250 := BK1226.nl hg; have LB1226_1250 := lt_ BK1226 hg
       have NB1250_1226 := BK1226.ng hg
       have NB1227_1250 := BK1227.nl hg; have LB1227_1250 := lt_ BK1227 hg
       have NB1250_1227 := BK1227.ng hg
       have NB1251_1250 := BK1251.nl hg; have LB1251_1250 := lt_ BK1251 hg
       have NB1250_1251 := BK1251.ng hg
       have NB1252_1250 := BK1252.nl hg; have LB1252_1250 := lt_ BK1252 hg
       have NB1250_1252 := BK1252.ng hg
       replace HO1235 := bw_ HO1235 hb
       replace HO1242 := bw_ HO1242 hb
       replace BK1226 := BK1226.bl hb
       replace BK1227 := BK1227.bl hb
       replace BK1251 := BK1251.bl hb
       replace BK1252 := BK1252.bl hb
       replace HB := Aside0.mk (below_step hb_ hb)
       clear hb hbox hg
       refine hK.out _ _ (h5_ BK1227) (fun hHeld => ?_)
       clear hK K
       refine norm_ (a' := ?_) ?_ ?_
       rotate_left
       ·show Act.put _ (some 5) _ = _
        simp only [Act.put, List.setIfInBounds_toArray, List.set_cons_zero, List.set_cons_succ, i64_w, i32_w]
        rfl
       exact norm_ nm_ (hJ1_3_6_7_8 (v1234, v1241, gb1250, gb1251, gb1252) _ ⟨hHeld, HO1235, HO1242, BK1226, BK1227, BK1250, BK1251, BK1252, GW1250, GE1250, LB1226_1250, NB1250_1226, LB1227_1250, NB1250_1227, NB1251_1250, NB1250_1251, NB1252_1250, NB1250_1252, GW1251, GE1251, LB1226_1251, NB1251_1226, LB1227_1251, NB1251_1227, NB1252_1251, NB1251_1252, GW1252, GE1252, LB1226_1252, NB1252_1226, LB1227_1252, NB1252_1227, ⟨hb_⟩⟩)
    ·skip
     clear BK1226 BK1227 HB
     rintro ⟨v1234, v1241, gb1250, gb1252⟩ w22 h
     try dsimp only at h
     obtain ⟨hHeld, HO1235, HO1242, BK1226, BK1227, BK1250, BK1252, GW1250, GE1250, LB1226_1250, NB1250_1226, LB1227_1250, NB1250_1227, NB1252_1250, NB1250_1252, GW1252, GE1252, LB1226_1252, NB1252_1226, LB1227_1252, NB1252_1227, HB⟩ := h
     have NB1226_1250 := ne_ LB1226_1250
     have NB1227_1250 := ne_ LB1227_1250
     have NB1226_1252 := ne_ LB1226_1252
     have NB1227_1252 := ne_ LB1227_1252
     refine norm_ (a' := ?_) ?_ ?_
     rotate_left
     ·simp only [putAll, Act.put, List.setIfInBounds_toArray, List.set_cons_zero, List.set_cons_succ]
      rfl
     refine two_ (i := 5) (j := 7) (Ni := some 32) (Nj := some 6) #[true, true, true, true, true, true, true, false, true, false, false, false] #[true, true, true, true, true, false, true, true, true, false, false, false] rfl rfl rfl rfl (two_of HT_.out (by kernel_rfl)) (by decide) (by decide) (fun K hK => ?_) (fun K hK => ?_)
     ·skip
      refine goes_ Tryd.func51 (by kernel_rfl) rfl #[.agg #[.string a1_0, .string a1_1, .bool a1_2, .bool a1_3, .slice A1_4 l1_4.length c1_4]] (by rfl) rfl rfl ar_ ?_
      with_reducible refine (idiomlaw04_copied.calls a1_0 a1_1 a1_2 a1_3 _ _ l1_4 t1243 t1244 t1245 t1246 t1247 _ ?side1 ?side2 A11.out).mono ?_
      (case side1 => repeat (first | exact (Kd.C_below HR1_4.out HB.out) | (with_reducible refine Kd.C_alloc ?_ _) | (with_reducible refine Kd.C_drewN ?_ _) | (with_reducible refine Kd.C_drew ?_)))
      (case side2 => exact HC1_4.out)
      rintro e w23 ⟨v1248, rfl, ho0, hb⟩
      refine ⟨_, rfl, ?_⟩
      have HO1249 := Aside0.mk (Kd.R_lower (Kd.R_new' (Kd.R_new' ho0 (Kd.R_lt HO1235.out)) (Kd.R_lt HO1242.out)) (below_size hb_))
      replace HO1235 := Aside0.mk (Kd.R_elder' HO1235.out (Kd.R_base ho0) hb)
      replace HO1242 := Aside0.mk (Kd.R_elder' HO1242.out (Kd.R_base ho0) hb)
      replace BK1226 := BK1226.bl hb
      replace BK1227 := BK1227.bl hb
      replace BK1250 := BK1250.bl hb
      replace BK1252 := BK1252.bl hb
      replace HB := Aside0.mk (below_step hb_ hb)
      (try clear hb)
      (try clear hb2)
      (try clear hk)
      (try clear hi)
      (try clear ho0)
      refine hK.out _ _ (h5_ BK1227) (fun hHeld => ?_)
      clear hK K
      refine norm_ (a' := ?_) ?_ ?_
      rotate_left
      ·show Act.put _ (some 32) _ = _
       simp only [Act.put, List.setIfInBounds_toArray, List.set_cons_zero, List.set_cons_succ, i64_w, i32_w]
       rfl
      exact norm_ nm_ (hJ1_3_5_6_8 (v1234, v1241, v1248, gb1250, gb1252) _ ⟨hHeld, HO1235, HO1242, ⟨by (with_reducible repeat (first | apply Kd.R_alloc | apply Kd.R_drewN | apply Kd.R_drew)); exact Kd.R_mono HO1249.out (fun _ hk => ⟨hk.1.2, hk.2⟩)⟩, BK1226, BK1227, BK1250, BK1252, GW1250, GE1250, LB1226_1250, NB1250_1226, LB1227_1250, NB1250_1227, NB1252_1250, NB1250_1252, GW1252, GE1252, LB1226_1252, NB1252_1226, LB1227_1252, NB1252_1227, ⟨hb_⟩⟩)
     ·skip
      refine bs_ 6 #[.string (⟨#[]⟩ : ByteArray), .string (⟨#[]⟩ : ByteArray), .bool false, .bool false, .slice none 0 0] (t := 54) ?_
      intro gb1251 hg w23 hbox hb
      have BK1251 := Aside0.mk (hbox)
      have GW1251 := Aside0.mk ((by rw [hg]; exact (below_size hb_) : w.heap.size ≤ gb1251))
      have GE1251 := Aside0.mk ((by rw [hg]; exact (below_size hb_) : w.heap.size ≤ gb1251))
      have NB1226_1251 := BK1226.nl hg; have LB1226_1251 := lt_ BK1226 hg
      have NB1251_1226 := BK1226.ng hg
      have NB1227_1251 := BK1227.nl hg; have LB1227_1251 := lt_ BK1227 hg
      have NB1251_1227 := BK1227.ng hg
      have NB1250_1251 := BK1250.nl hg; have LB1250_1251 := lt_ BK1250 hg
      have NB1251_1250 := BK1250.ng hg
      have NB1252_1251 := BK1252.nl hg; have LB1252_1251 := lt_ BK1252 hg
      have NB1251_1252 := BK1252.ng hg
      replace HO1235 := bw_ HO1235 hb
      replace HO1242 := bw_ HO1242 hb
      replace BK1226 := BK1226.bl hb
      replace BK1227 := BK1227.bl hb
      replace BK1250 := BK1250.bl hb
      replace BK1252 := BK1252.bl hb
      replace HB := Aside0.mk (below_step hb_ hb)
      clear hb hbox hg
      refine hK.out _ _ (h5_ BK1227) (fun hHeld => ?_)
      clear hK K
      refine norm_ (a' := ?_) ?_ ?_
      rotate_left
      ·show Act.put _ (some 6) _ = _
       simp only [Act.put, List.setIfInBounds_toArray, List.set_cons_zero, List.set_cons_succ, i64_w, i32_w]
       rfl
      exact norm_ nm_ (hJ1_3_6_7_8 (v1234, v1241, gb1250, gb1251, gb1252) _ ⟨hHeld, HO1235, HO1242, BK1226, BK1227, BK1250, BK1251, BK1252, GW1250, GE1250, LB1226_1250, NB1250_1226, LB1227_1250, NB1250_1227, NB1251_1250, NB1250_1251, NB1252_1250, NB1250_1252, GW1251, GE1251, LB1226_1251, NB1251_1226, LB1227_1251, NB1251_1227, NB1252_1251, NB1251_1252, GW1252, GE1252, LB1226_1252, NB1252_1226, LB1227_1252, NB1252_1227, ⟨hb_⟩⟩)
   ·skip
    clear BK1226 BK1227 HB
    rintro ⟨v1234, v1241, gb1250, gb1251⟩ w22 h
    try dsimp only at h
    obtain ⟨hHeld, HO1235, HO1242, BK1226, BK1227, BK1250, BK1251, GW1250, GE1250, LB1226_1250, NB1250_1226, LB1227_1250, NB1250_1227, NB1251_1250, NB1250_1251, GW1251, GE1251, LB1226_1251, NB1251_1226, LB1227_1251, NB1251_1227, HB⟩ := h
    have NB1226_1250 := ne_ LB1226_1250
    have NB1227_1250 := ne_ LB1227_1250
    have NB1226_1251 := ne_ LB1226_1251
    have NB1227_1251 := ne_ LB1227_1251
    refine norm_ (a' := ?_) ?_ ?_
    rotate_left
    ·simp only [putAll, Act.put, List.setIfInBounds_toArray, List.set_cons_zero, List.set_cons_succ]
     rfl
    refine two_ (i := 5) (j := 8) (Ni := some 32) (Nj := some 7) #[true, true, true, true, true, true, true, true, false, false, false, false] #[true, true, true, true, true, false, true, true, true, false, false, false] rfl rfl rfl rfl (two_of HT_.out (by kernel_rfl)) (by decide) (by decide) (fun K hK => ?_) (fun K hK => ?_)
    ·skip
     refine goes_ Tryd.func51 (by kernel_rfl) rfl #[.agg #[.string a1_0, .string a1_1, .bool a1_2, .bool a1_3, .slice A1_4 l1_4.length c1_4]] (by rfl) rfl rfl ar_ ?_
     with_reducible refine (idiomlaw04_copied.calls a1_0 a1_1 a1_2 a1_3 _ _ l1_4 t1243 t1244 t1245 t1246 t1247 _ ?side1 ?side2 A11.out).mono ?_
     (case side1 => repeat (first | exact (Kd.C_below HR1_4.out HB.out) | (with_reducible refine Kd.C_alloc ?_ _) | (with_reducible refine Kd.C_drewN ?_ _) | (with_reducible refine Kd.C_drew ?_)))
     (case side2 => exact HC1_4.out)
     rintro e w23 ⟨v1248, rfl, ho0, hb⟩
     refine ⟨_, rfl, ?_⟩
     have HO1249 := Aside0.mk (Kd.R_lower (Kd.R_new' (Kd.R_new' ho0 (Kd.R_lt HO1235.out)) (Kd.R_lt HO1242.out)) (below_size hb_))
     replace HO1235 := Aside0.mk (Kd.R_elder' HO1235.out (Kd.R_base ho0) hb)
     replace HO1242 := Aside0.mk (Kd.R_elder' HO1242.out (Kd.R_base ho0) hb)
     replace BK1226 := BK1226.bl hb
     replace BK1227 := BK1227.bl hb
     replace BK1250 := BK1250.bl hb
     replace BK1251 := BK1251.bl hb
     replace HB := Aside0.mk (below_step hb_ hb)
     (try clear hb)
     (try clear hb2)
     (try clear hk)
     (try clear hi)
     (try clear ho0)
     refine hK.out _ _ (h5_ BK1227) (fun hHeld => ?_)
     clear hK K
     refine norm_ (a' := ?_) ?_ ?_
     rotate_left
     ·show Act.put _ (some 32) _ = _
      simp only [Act.put, List.setIfInBounds_toArray, List.set_cons_zero, List.set_cons_succ, i64_w, i32_w]
      rfl
     exact norm_ nm_ (hJ1_3_5_6_7 (v1234, v1241, v1248, gb1250, gb1251) _ ⟨hHeld, HO1235, HO1242, ⟨by (with_reducible repeat (first | apply Kd.R_alloc | apply Kd.R_drewN | apply Kd.R_drew)); exact Kd.R_mono HO1249.out (fun _ hk => ⟨hk.1.2, hk.2⟩)⟩, BK1226, BK1227, BK1250, BK1251, GW1250, GE1250, LB1226_1250, NB1250_1226, LB1227_1250, NB1250_1227, NB1251_1250, NB1250_1251, GW1251, GE1251, LB1226_1251, NB1251_1226, LB1227_1251, NB1251_1227, ⟨hb_⟩⟩)
    ·skip
     refine bs_ 7 #[.string (⟨#[]⟩ : ByteArray), .string (⟨#[]⟩ : ByteArray), .bool false, .bool false, .slice none 0 0] (t := 54) ?_
     intro gb1252 hg w23 hbox hb
     have BK1252 := Aside0.mk (hbox)
     have GW1252 := Aside0.mk ((by rw [hg]; exact (below_size hb_) : w.heap.size ≤ gb1252))
     have GE1252 := Aside0.mk ((by rw [hg]; exact (below_size hb_) : w.heap.size ≤ gb1252))
     have NB1226_1252 := BK1226.nl hg; have LB1226_1252 := lt_ BK1226 hg
     have NB1252_1226 := BK1226.ng hg
     have NB1227_1252 := BK1227.nl hg; have LB1227_1252 := lt_ BK1227 hg
     have NB1252_1227 := BK1227.ng hg
     have NB1250_1252 := BK1250.nl hg; have LB1250_1252 := lt_ BK1250 hg
     have NB1252_1250 := BK1250.ng hg
     have NB1251_1252 := BK1251.nl hg; have LB1251_1252 := lt_ BK1251 hg
     have NB1252_1251 := BK1251.ng hg
     replace HO1235 := bw_ HO1235 hb
     replace HO1242 := bw_ HO1242 hb
     replace BK1226 := BK1226.bl hb
     replace BK1227 := BK1227.bl hb
     replace BK1250 := BK1250.bl hb
     replace BK1251 := BK1251.bl hb
     replace HB := Aside0.mk (below_step hb_ hb)
     clear hb hbox hg
     refine hK.out _ _ (h5_ BK1227) (fun hHeld => ?_)
     clear hK K
     refine norm_ (a' := ?_) ?_ ?_
     rotate_left
     ·show Act.put _ (some 7) _ = _
      simp only [Act.put, List.setIfInBounds_toArray, List.set_cons_zero, List.set_cons_succ, i64_w, i32_w]
      rfl
     exact norm_ nm_ (hJ1_3_6_7_8 (v1234, v1241, gb1250, gb1251, gb1252) _ ⟨hHeld, HO1235, HO1242, BK1226, BK1227, BK1250, BK1251, BK1252, GW1250, GE1250, LB1226_1250, NB1250_1226, LB1227_1250, NB1250_1227, NB1251_1250, NB1250_1251, NB1252_1250, NB1250_1252, GW1251, GE1251, LB1226_1251, NB1251_1226, LB1227_1251, NB1251_1227, NB1252_1251, NB1251_1252, GW1252, GE1252, LB1226_1252, NB1252_1226, LB1227_1252, NB1252_1227, ⟨hb_⟩⟩)
end Go.Proofs.YtihjcaglhjepdaaDoor.P
