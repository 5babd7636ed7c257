/- A part of the proof. Part 5 of 7; its texts were written by programs, some out of the kit's print. -/
import Derived.Test.YtapbdblpdkoacaaDoorZMo3
namespace Go.Proofs.YtapbdblpdkoacaaDoor.P
open Go.RowKit Go.Proofs.YtapbdblpdkoacaaDoorW.PrintWords Go.Proofs.YtapbdblpdkoacaaDoorW.PrintLast Go.Proofs.YtapbdblpdkoacaaDoorW.PrintMore
attribute [local go_sem] max2_int max_two
set_option linter.unusedVariables false
set_option linter.unusedSimpArgs false
def idiomlaw02_DecimalMoves.j0 : Nat → Int → Bool → Bool → ByteArray → ByteArray → Option (Bool)
  | 0, _, _, _, _, _ => none
  | k + 1, x1, x28, x991000, x991001, x991002 => if x28 = true then (some false) else ((decimal_Pad.f k x991000 x991001 x991002 x1).bind fun bt1003 => ((idiomref02_Pad.f k x991000 x991001 x991002 x1).bind fun bt1007 => ((idiomlaw02_told.f bt1003.1 bt1003.2.1 bt1003.2.2.1 bt1003.2.2.2 bt1007.1 bt1007.2.1 bt1007.2.2.1 bt1007.2.2.2).bind fun t1011 => (if t1011 = true then ((decimal_Shift.f k x991000 x991001 x991002 x1).bind fun bt1012 => ((idiomref02_Shift.f k x991000 x991001 x991002 x1).bind fun bt1016 => ((idiomlaw02_told.f bt1012.1 bt1012.2.1 bt1012.2.2.1 bt1012.2.2.2 bt1016.1 bt1016.2.1 bt1016.2.2.1 bt1016.2.2.2).bind fun t1020 => (some t1020)))) else (some false)))))
def idiomlaw02_DecimalMoves.f (k : Nat) (a0_0 : Bool) (a0_1 : ByteArray) (a0_2 : ByteArray) (a1 : Int) : Option (Bool) := (decimal_Trim.f k a0_0 a0_1 a0_2).bind fun bt991 => ((idiomref02_Trim.f k a0_0 a0_1 a0_2).bind fun bt996 => ((idiomlaw02_told.f bt991.1 bt991.2.1 bt991.2.2.1 bt991.2.2.2 bt996.1 bt996.2.1 bt996.2.2.1 bt996.2.2.2).bind fun t1001 => (if t1001 = true then ((idiomlaw02_awake.f k).bind fun t1002 => (idiomlaw02_DecimalMoves.j0 k a1 (!t1002) a0_0 a0_1 a0_2)) else (idiomlaw02_DecimalMoves.j0 k a1 true a0_0 a0_1 a0_2))))
set_option maxHeartbeats 8000000 in
set_option maxRecDepth 100000 in
theorem idiomlaw02_DecimalMoves.calls (k : Nat) (a0_0 : Bool) (a0_1 : ByteArray) (a0_2 : ByteArray) (a1 : Int) (r : Bool) (w : World) (h : idiomlaw02_DecimalMoves.f k a0_0 a0_1 a0_2 a1 = some r) :
    Calls Tryd.prog 12 #[.agg #[.bool a0_0, .string a0_1, .string a0_2], .int .i64 a1] w fun e w' => e = .returned (.bool r) ∧ Below w.heap.size w w' := by
 have hu23 := Tryd.underlying23
 have HB := Aside0.mk (Below.refl w.heap.size w)
 unfold idiomlaw02_DecimalMoves.f at h
 have H := h
 clear h
 replace H := Option.bind_eq_some_iff.mp H
 obtain ⟨⟨t991, t992, t993, t994⟩, A30, H⟩ := H
 try dsimp only at H
 have A3 := Aside0.mk A30
 clear A30
 replace H := Option.bind_eq_some_iff.mp H
 obtain ⟨⟨t996, t997, t998, t999⟩, A40, H⟩ := H
 try dsimp only at H
 have A4 := Aside0.mk A40
 clear A40
 have HC5 := Aside0.mk H
 clear H
 go_enter Tryd.func12, Tryd.ntmps12
 go_upto_region 3 with (first | ((with_reducible refine gate_dst (N := 2) rfl ?_); refine box_event ?hg (N := 2) ?hd (cs := #[.bool a0_0, .string a0_1, .string a0_2]) (t := 23) ?hr ?_; (case hd => rfl); (case hg => rfl); (case hr => first | (go_simp; done) | (go_simp; rfl)); intro gb990 hg w6 hbox hb; have n0_ := Aside0.mk (below_step HB.out hb); have n1_ := Aside0.mk (hbox); have n2_ := Aside0.mk ((by rw [hg]; exact (below_size HB.out) : w.heap.size ≤ gb990)); have n3_ := Aside0.mk ((by rw [hg]; exact (below_size HB.out) : w.heap.size ≤ gb990)); clear HB; have HB := n0_; have BK990 := n1_; have GW990 := n2_; have GE990 := n3_; clear n0_ n1_ n2_ n3_; clear hb hbox hg; have hcz7_0 : w6.cell? ⟨gb990, 0, none⟩ = some (.bool a0_0) := (blk_cell BK990.out 0).trans rfl; have hcz7_1 : w6.cell? ⟨gb990, 1, none⟩ = some (.string a0_1) := (blk_cell BK990.out 1).trans rfl; have hcz7_2 : w6.cell? ⟨gb990, 2, none⟩ = some (.string a0_2) := (blk_cell BK990.out 2).trans rfl; have hfz7_0 := blk_frozen BK990.out 0; have hfz7_1 := blk_frozen BK990.out 1; have hfz7_2 := blk_frozen BK990.out 2) | ((with_reducible refine gate_callee (f := 30) rfl ?_); refine goesL_ (some 11) rfl rfl Tryd.func30 (by kernel_rfl) rfl #[.agg #[.bool a0_0, .string a0_1, .string a0_2]] rfl (by (try simp only [List.map_toArray, List.map_cons, List.map_nil]); first | done | rfl | (simp only [List.length_drop, List.length_take]; rfl)) ?_; (with_reducible refine (decimal_Trim.calls k a0_0 a0_1 a0_2 t991 t992 t993 t994 _ A3.out).mono ?_); rintro e w8 ⟨rfl, hb⟩; refine ⟨_, rfl, ?_⟩; have n0_ := Aside0.mk (blk_below (g := gb990) (o := .cells #[.bool a0_0, .string a0_1, .string a0_2] 23 (0, 0)) BK990.out hb); have n1_ := Aside0.mk (below_step HB.out hb); clear BK990; clear HB; have BK990 := n0_; have HB := n1_; clear n0_ n1_) | ((with_reducible refine gate_dst (N := 5) rfl ?_); refine box_event ?hg (N := 5) ?hd (cs := #[.bool false, .string (⟨#[]⟩ : ByteArray), .string (⟨#[]⟩ : ByteArray)]) (t := 23) ?hr ?_; (case hd => rfl); (case hg => rfl); (case hr => first | (go_simp; done) | (go_simp; rfl)); intro gb995 hg w9 hbox hb; have n0_ := Aside0.mk (blk_below (g := gb990) (o := .cells #[.bool a0_0, .string a0_1, .string a0_2] 23 (0, 0)) BK990.out hb); have n1_ := Aside0.mk (below_step HB.out hb); have n2_ := Aside0.mk (hbox); have n3_ := Aside0.mk ((by rw [hg]; exact (below_size HB.out) : w.heap.size ≤ gb995)); have n4_ := Aside0.mk ((by rw [hg]; exact (below_size HB.out) : w.heap.size ≤ gb995)); have n5_ := Aside0.mk ((by rw [hg]; exact Nat.ne_of_lt (blk_lt (g := gb990) (o := .cells #[.bool a0_0, .string a0_1, .string a0_2] 23 (0, 0)) BK990.out) : gb990 ≠ gb995)); have n6_ := Aside0.mk ((by rw [hg]; exact Nat.ne_of_gt (blk_lt (g := gb990) (o := .cells #[.bool a0_0, .string a0_1, .string a0_2] 23 (0, 0)) BK990.out) : gb995 ≠ gb990)); clear BK990; clear HB; have BK990 := n0_; have HB := n1_; have BK995 := n2_; have GW995 := n3_; have GE995 := n4_; have NB990_995 := n5_; have NB995_990 := n6_; clear n0_ n1_ n2_ n3_ n4_ n5_ n6_; clear hb hbox hg; have hnb10 := NB995_990.out; have hnc10 := NB990_995.out; have hcz11_0 : w9.cell? ⟨gb995, 0, none⟩ = some (.bool false) := (blk_cell BK995.out 0).trans rfl; have hcz11_1 : w9.cell? ⟨gb995, 1, none⟩ = some (.string (⟨#[]⟩ : ByteArray)) := (blk_cell BK995.out 1).trans rfl; have hcz11_2 : w9.cell? ⟨gb995, 2, none⟩ = some (.string (⟨#[]⟩ : ByteArray)) := (blk_cell BK995.out 2).trans rfl; have hfz11_0 := blk_frozen BK995.out 0; have hfz11_1 := blk_frozen BK995.out 1; have hfz11_2 := blk_frozen BK995.out 2; have hcz12_0 : w9.cell? ⟨gb990, 0, none⟩ = some (.bool a0_0) := (blk_cell BK990.out 0).trans rfl; have hcz12_1 : w9.cell? ⟨gb990, 1, none⟩ = some (.string a0_1) := (blk_cell BK990.out 1).trans rfl; have hcz12_2 : w9.cell? ⟨gb990, 2, none⟩ = some (.string a0_2) := (blk_cell BK990.out 2).trans rfl; have hfz12_0 := blk_frozen BK990.out 0; have hfz12_1 := blk_frozen BK990.out 1; have hfz12_2 := blk_frozen BK990.out 2) | ((with_reducible refine gate_callee (f := 41) rfl ?_); refine goesL_ (some 16) rfl rfl Tryd.func41 (by kernel_rfl) rfl #[.agg #[.bool a0_0, .string a0_1, .string a0_2]] rfl (by (try simp only [List.map_toArray, List.map_cons, List.map_nil]); first | done | rfl | (simp only [List.length_drop, List.length_take]; rfl)) ?_; (with_reducible refine (idiomref02_Trim.calls k a0_0 a0_1 a0_2 t996 t997 t998 t999 _ A4.out).mono ?_); rintro e w13 ⟨rfl, hb⟩; refine ⟨_, rfl, ?_⟩; have n0_ := Aside0.mk (blk_below (g := gb990) (o := .cells #[.bool a0_0, .string a0_1, .string a0_2] 23 (0, 0)) (by refine blk_far ?_ NB990_995.out _; refine blk_far ?_ NB990_995.out _; refine blk_far ?_ NB990_995.out _; exact BK990.out) hb); have n1_ := Aside0.mk (blk_below (g := gb995) (o := .cells #[.bool t991, .string t992, .string t993] 23 (0, 0)) (by refine blk_put (cs := #[.bool t991, .string t992, .string (⟨#[]⟩ : ByteArray)]) ?_ 2 _ rfl; refine blk_put (cs := #[.bool t991, .string (⟨#[]⟩ : ByteArray), .string (⟨#[]⟩ : ByteArray)]) ?_ 1 _ rfl; refine blk_put (cs := #[.bool false, .string (⟨#[]⟩ : ByteArray), .string (⟨#[]⟩ : ByteArray)]) ?_ 0 _ rfl; exact BK995.out) hb); have n2_ := Aside0.mk (below_step (by repeat (first | (with_reducible first | exact HB.out | apply below_alloc | apply pw_below_drewN | apply below_drew1 | refine below_set ?_ GE990.out | refine below_set ?_ GE995.out) | exact HB.out)) hb); clear BK990; clear BK995; clear HB; have BK990 := n0_; have BK995 := n1_; have HB := n2_; clear n0_ n1_ n2_) | ((with_reducible refine gate_dst (N := 7) rfl ?_); refine box_event ?hg (N := 7) ?hd (cs := #[.bool false, .string (⟨#[]⟩ : ByteArray), .string (⟨#[]⟩ : ByteArray)]) (t := 23) ?hr ?_; (case hd => rfl); (case hg => rfl); (case hr => first | (go_simp; done) | (go_simp; rfl)); intro gb1000 hg w14 hbox hb; have n0_ := Aside0.mk (blk_below (g := gb990) (o := .cells #[.bool a0_0, .string a0_1, .string a0_2] 23 (0, 0)) BK990.out hb); have n1_ := Aside0.mk (blk_below (g := gb995) (o := .cells #[.bool t991, .string t992, .string t993] 23 (0, 0)) BK995.out hb); have n2_ := Aside0.mk (below_step HB.out hb); have n3_ := Aside0.mk (hbox); have n4_ := Aside0.mk ((by rw [hg]; exact (below_size HB.out) : w.heap.size ≤ gb1000)); have n5_ := Aside0.mk ((by rw [hg]; exact (below_size HB.out) : w.heap.size ≤ gb1000)); have n6_ := Aside0.mk ((by rw [hg]; exact Nat.ne_of_lt (blk_lt (g := gb990) (o := .cells #[.bool a0_0, .string a0_1, .string a0_2] 23 (0, 0)) BK990.out) : gb990 ≠ gb1000)); have n7_ := Aside0.mk ((by rw [hg]; exact Nat.ne_of_gt (blk_lt (g := gb990) (o := .cells #[.bool a0_0, .string a0_1, .string a0_2] 23 (0, 0)) BK990.out) : gb1000 ≠ gb990)); have n8_ := Aside0.mk ((by rw [hg]; exact Nat.ne_of_lt (blk_lt (g := gb995) (o := .cells #[.bool t991, .string t992, .string t993] 23 (0, 0)) BK995.out) : gb995 ≠ gb1000)); have n9_ := Aside0.mk ((by rw [hg]; exact Nat.ne_of_gt (blk_lt (g := gb995) (o := .cells #[.bool t991, .string t992, .string t993] 23 (0, 0)) BK995.out) : gb1000 ≠ gb995)); clear BK990; clear BK995; clear HB; have BK990 := n0_; have BK995 := n1_; have HB := n2_; have BK1000 := n3_; have GW1000 := n4_; have GE1000 := n5_; have NB990_1000 := n6_; have NB1000_990 := n7_; have NB995_1000 := n8_; have NB1000_995 := n9_; clear n0_ n1_ n2_ n3_ n4_ n5_ n6_ n7_ n8_ n9_; clear hb hbox hg; have hnb15 := NB1000_990.out; have hnc15 := NB990_1000.out; have hnb16 := NB1000_995.out; have hnc16 := NB995_1000.out; have hcz17_0 : w14.cell? ⟨gb1000, 0, none⟩ = some (.bool false) := (blk_cell BK1000.out 0).trans rfl; have hcz17_1 : w14.cell? ⟨gb1000, 1, none⟩ = some (.string (⟨#[]⟩ : ByteArray)) := (blk_cell BK1000.out 1).trans rfl; have hcz17_2 : w14.cell? ⟨gb1000, 2, none⟩ = some (.string (⟨#[]⟩ : ByteArray)) := (blk_cell BK1000.out 2).trans rfl; have hfz17_0 := blk_frozen BK1000.out 0; have hfz17_1 := blk_frozen BK1000.out 1; have hfz17_2 := blk_frozen BK1000.out 2))
 (try simp only [Act.put, List.setIfInBounds_toArray, List.set_cons_zero, List.set_cons_succ])
 go_cut [28] (fun v28 wc => ∃ (kq : Nat) (x28_4 : Bool), v28 = .bool x28_4 ∧ Aside0 (idiomlaw02_DecimalMoves.j0 kq a1 x28_4 a0_0 a0_1 a0_2 = some r) ∧ Aside0 (kq ≤ k) ∧ Aside0 (wc.heap[gb990]? = some (.cells #[.bool a0_0, .string a0_1, .string a0_2] 23 (0, 0))) ∧ Aside0 (wc.heap[gb995]? = some (.cells #[.bool t991, .string t992, .string t993] 23 (0, 0))) ∧ Aside0 (wc.heap[gb1000]? = some (.cells #[.bool t996, .string t997, .string t998] 23 (0, 0))) ∧ Aside0 (Below w.heap.size w wc))
 case first =>
  have H := HC5.out
  clear HC5
  replace H := Option.bind_eq_some_iff.mp H
  obtain ⟨t1001, A180, H⟩ := H
  try dsimp only at H
  have A18 := Aside0.mk A180
  clear A180
  by_cases c19 : t1001 = true
  ·subst c19
   have H1 : ((idiomlaw02_awake.f k).bind fun t1002 => (idiomlaw02_DecimalMoves.j0 k a1 (!t1002) a0_0 a0_1 a0_2)) = some r := by rw [if_pos rfl] at H; exact H
   clear H
   have H := H1
   clear H1
   replace H := Option.bind_eq_some_iff.mp H
   obtain ⟨t1002, A200, H⟩ := H
   try dsimp only at H
   have A20 := Aside0.mk A200
   clear A200
   have H' := Aside0.mk H
   clear H
   have hnb21 := NB995_990.out
   have hnc21 := NB990_995.out
   have hnb22 := NB995_1000.out
   have hnc22 := NB1000_995.out
   have hcz23_0 : w14.cell? ⟨gb995, 0, none⟩ = some (.bool t991) := (blk_cell BK995.out 0).trans rfl
   have hcz23_1 : w14.cell? ⟨gb995, 1, none⟩ = some (.string t992) := (blk_cell BK995.out 1).trans rfl
   have hcz23_2 : w14.cell? ⟨gb995, 2, none⟩ = some (.string t993) := (blk_cell BK995.out 2).trans rfl
   have hfz23_0 := blk_frozen BK995.out 0
   have hfz23_1 := blk_frozen BK995.out 1
   have hfz23_2 := blk_frozen BK995.out 2
   have hnb24 := NB1000_990.out
   have hnc24 := NB990_1000.out
   have hcz25_0 : w14.cell? ⟨gb1000, 0, none⟩ = some (.bool false) := (blk_cell BK1000.out 0).trans rfl
   have hcz25_1 : w14.cell? ⟨gb1000, 1, none⟩ = some (.string (⟨#[]⟩ : ByteArray)) := (blk_cell BK1000.out 1).trans rfl
   have hcz25_2 : w14.cell? ⟨gb1000, 2, none⟩ = some (.string (⟨#[]⟩ : ByteArray)) := (blk_cell BK1000.out 2).trans rfl
   have hfz25_0 := blk_frozen BK1000.out 0
   have hfz25_1 := blk_frozen BK1000.out 1
   have hfz25_2 := blk_frozen BK1000.out 2
   go_wp2_with (first | ((with_reducible refine gate_callee (f := 24) rfl ?_); refine goesL_ (some 23) rfl rfl Tryd.func24 (by kernel_rfl) rfl #[.agg #[.bool t991, .string t992, .string t993], .int .i64 t994, .agg #[.bool t996, .string t997, .string t998], .int .i64 t999] rfl (by (try simp only [List.map_toArray, List.map_cons, List.map_nil]); first | done | rfl | (simp only [List.length_drop, List.length_take]; rfl)) ?_; (with_reducible refine (idiomlaw02_told.calls t991 t992 t993 t994 t996 t997 t998 t999 true _ A18.out).mono ?_); rintro e w26 ⟨rfl, hb⟩; refine ⟨_, rfl, ?_⟩; have n0_ := Aside0.mk (blk_below (g := gb990) (o := .cells #[.bool a0_0, .string a0_1, .string a0_2] 23 (0, 0)) (by refine blk_far ?_ NB990_1000.out _; refine blk_far ?_ NB990_1000.out _; refine blk_far ?_ NB990_1000.out _; exact BK990.out) hb); have n1_ := Aside0.mk (blk_below (g := gb995) (o := .cells #[.bool t991, .string t992, .string t993] 23 (0, 0)) (by refine blk_far ?_ NB995_1000.out _; refine blk_far ?_ NB995_1000.out _; refine blk_far ?_ NB995_1000.out _; exact BK995.out) hb); have n2_ := Aside0.mk (blk_below (g := gb1000) (o := .cells #[.bool t996, .string t997, .string t998] 23 (0, 0)) (by refine blk_put (cs := #[.bool t996, .string t997, .string (⟨#[]⟩ : ByteArray)]) ?_ 2 _ rfl; refine blk_put (cs := #[.bool t996, .string (⟨#[]⟩ : ByteArray), .string (⟨#[]⟩ : ByteArray)]) ?_ 1 _ rfl; refine blk_put (cs := #[.bool false, .string (⟨#[]⟩ : ByteArray), .string (⟨#[]⟩ : ByteArray)]) ?_ 0 _ rfl; exact BK1000.out) hb); have n3_ := Aside0.mk (below_step (by repeat (first | (with_reducible first | exact HB.out | apply below_alloc | apply pw_below_drewN | apply below_drew1 | refine below_set ?_ GE990.out | refine below_set ?_ GE995.out | refine below_set ?_ GE1000.out) | exact HB.out)) hb); clear BK990; clear BK995; clear BK1000; clear HB; have BK990 := n0_; have BK995 := n1_; have BK1000 := n2_; have HB := n3_; clear n0_ n1_ n2_ n3_) | (go_at_call 19; (with_reducible refine (idiomlaw02_awake.calls k  t1002 _ A20.out).mono ?_); rintro e w27 ⟨rfl, hb⟩; have n0_ := Aside0.mk (blk_below (g := gb990) (o := .cells #[.bool a0_0, .string a0_1, .string a0_2] 23 (0, 0)) BK990.out hb); have n1_ := Aside0.mk (blk_below (g := gb995) (o := .cells #[.bool t991, .string t992, .string t993] 23 (0, 0)) BK995.out hb); have n2_ := Aside0.mk (blk_below (g := gb1000) (o := .cells #[.bool t996, .string t997, .string t998] 23 (0, 0)) BK1000.out hb); have n3_ := Aside0.mk (below_step HB.out hb); clear BK990; clear BK995; clear BK1000; clear HB; have BK990 := n0_; have BK995 := n1_; have BK1000 := n2_; have HB := n3_; clear n0_ n1_ n2_ n3_))
   go_meet
   case rel => exact ⟨_, (!t1002), (by first | rfl | (simp; done) | (simp [*]; done)), H', ⟨by first | omega | exact Nat.le_refl _⟩, ⟨by exact BK990.out⟩, ⟨by exact BK995.out⟩, ⟨by exact BK1000.out⟩, ⟨by repeat (first | (with_reducible first | exact HB.out | apply below_alloc | apply pw_below_drewN | apply below_drew1 | refine below_set ?_ GE990.out | refine below_set ?_ GE995.out | refine below_set ?_ GE1000.out) | exact HB.out)⟩⟩
  ·replace c19 := Bool.eq_false_iff.mpr c19
   subst c19
   have H1 : (idiomlaw02_DecimalMoves.j0 k a1 true a0_0 a0_1 a0_2) = some r := by rw [if_neg (show ¬ (false = true) by decide)] at H; exact H
   clear H
   have H := H1
   clear H1
   have H' := Aside0.mk H
   clear H
   have hnb28 := NB995_990.out
   have hnc28 := NB990_995.out
   have hnb29 := NB995_1000.out
   have hnc29 := NB1000_995.out
   have hcz30_0 : w14.cell? ⟨gb995, 0, none⟩ = some (.bool t991) := (blk_cell BK995.out 0).trans rfl
   have hcz30_1 : w14.cell? ⟨gb995, 1, none⟩ = some (.string t992) := (blk_cell BK995.out 1).trans rfl
   have hcz30_2 : w14.cell? ⟨gb995, 2, none⟩ = some (.string t993) := (blk_cell BK995.out 2).trans rfl
   have hfz30_0 := blk_frozen BK995.out 0
   have hfz30_1 := blk_frozen BK995.out 1
   have hfz30_2 := blk_frozen BK995.out 2
   have hnb31 := NB1000_990.out
   have hnc31 := NB990_1000.out
   have hcz32_0 : w14.cell? ⟨gb1000, 0, none⟩ = some (.bool false) := (blk_cell BK1000.out 0).trans rfl
   have hcz32_1 : w14.cell? ⟨gb1000, 1, none⟩ = some (.string (⟨#[]⟩ : ByteArray)) := (blk_cell BK1000.out 1).trans rfl
   have hcz32_2 : w14.cell? ⟨gb1000, 2, none⟩ = some (.string (⟨#[]⟩ : ByteArray)) := (blk_cell BK1000.out 2).trans rfl
   have hfz32_0 := blk_frozen BK1000.out 0
   have hfz32_1 := blk_frozen BK1000.out 1
   have hfz32_2 := blk_frozen BK1000.out 2
   go_wp2_with (first | ((with_reducible refine gate_callee (f := 24) rfl ?_); refine goesL_ (some 23) rfl rfl Tryd.func24 (by kernel_rfl) rfl #[.agg #[.bool t991, .string t992, .string t993], .int .i64 t994, .agg #[.bool t996, .string t997, .string t998], .int .i64 t999] rfl (by (try simp only [List.map_toArray, List.map_cons, List.map_nil]); first | done | rfl | (simp only [List.length_drop, List.length_take]; rfl)) ?_; (with_reducible refine (idiomlaw02_told.calls t991 t992 t993 t994 t996 t997 t998 t999 false _ A18.out).mono ?_); rintro e w33 ⟨rfl, hb⟩; refine ⟨_, rfl, ?_⟩; have n0_ := Aside0.mk (blk_below (g := gb990) (o := .cells #[.bool a0_0, .string a0_1, .string a0_2] 23 (0, 0)) (by refine blk_far ?_ NB990_1000.out _; refine blk_far ?_ NB990_1000.out _; refine blk_far ?_ NB990_1000.out _; exact BK990.out) hb); have n1_ := Aside0.mk (blk_below (g := gb995) (o := .cells #[.bool t991, .string t992, .string t993] 23 (0, 0)) (by refine blk_far ?_ NB995_1000.out _; refine blk_far ?_ NB995_1000.out _; refine blk_far ?_ NB995_1000.out _; exact BK995.out) hb); have n2_ := Aside0.mk (blk_below (g := gb1000) (o := .cells #[.bool t996, .string t997, .string t998] 23 (0, 0)) (by refine blk_put (cs := #[.bool t996, .string t997, .string (⟨#[]⟩ : ByteArray)]) ?_ 2 _ rfl; refine blk_put (cs := #[.bool t996, .string (⟨#[]⟩ : ByteArray), .string (⟨#[]⟩ : ByteArray)]) ?_ 1 _ rfl; refine blk_put (cs := #[.bool false, .string (⟨#[]⟩ : ByteArray), .string (⟨#[]⟩ : ByteArray)]) ?_ 0 _ rfl; exact BK1000.out) hb); have n3_ := Aside0.mk (below_step (by repeat (first | (with_reducible first | exact HB.out | apply below_alloc | apply pw_below_drewN | apply below_drew1 | refine below_set ?_ GE990.out | refine below_set ?_ GE995.out | refine below_set ?_ GE1000.out) | exact HB.out)) hb); clear BK990; clear BK995; clear BK1000; clear HB; have BK990 := n0_; have BK995 := n1_; have BK1000 := n2_; have HB := n3_; clear n0_ n1_ n2_ n3_))
   go_meet
   case rel => exact ⟨_, (true), (by first | rfl | (simp; done) | (simp [*]; done)), H', ⟨by first | omega | exact Nat.le_refl _⟩, ⟨by exact BK990.out⟩, ⟨by exact BK995.out⟩, ⟨by exact BK1000.out⟩, ⟨by repeat (first | (with_reducible first | exact HB.out | apply below_alloc | apply pw_below_drewN | apply below_drew1 | refine below_set ?_ GE990.out | refine below_set ?_ GE995.out | refine below_set ?_ GE1000.out) | exact HB.out)⟩⟩
 case rest =>
  clear HC5
  try clear c1
  try clear c2
  try clear p2
  try clear c3
  try clear c4
  try clear c10
  try clear c12
  try clear c15
  try clear c16
  try clear c19
  try clear c21
  try clear c22
  try clear c24
  try clear c28
  try clear c29
  try clear c30
  try clear c31
  try clear hcz11_0
  try clear hcz11_1
  try clear hcz11_2
  try clear hcz12_0
  try clear hcz12_1
  try clear hcz12_2
  try clear hcz17_0
  try clear hcz17_1
  try clear hcz17_2
  try clear hcz23_0
  try clear hcz23_1
  try clear hcz23_2
  try clear hcz25_0
  try clear hcz25_1
  try clear hcz25_2
  try clear hcz30_0
  try clear hcz30_1
  try clear hcz30_2
  try clear hcz32_0
  try clear hcz32_1
  try clear hcz32_2
  try clear hcz7_0
  try clear hcz7_1
  try clear hcz7_2
  try clear hfz11_0
  try clear hfz11_1
  try clear hfz11_2
  try clear hfz12_0
  try clear hfz12_1
  try clear hfz12_2
  try clear hfz17_0
  try clear hfz17_1
  try clear hfz17_2
  try clear hfz23_0
  try clear hfz23_1
  try clear hfz23_2
  try clear hfz25_0
  try clear hfz25_1
  try clear hfz25_2
  try clear hfz30_0
  try clear hfz30_1
  try clear hfz30_2
  try clear hfz32_0
  try clear hfz32_1
  try clear hfz32_2
  try clear hfz7_0
  try clear hfz7_1
  try clear hfz7_2
  obtain ⟨kq, x28_4, rfl, HA, HJ4, BK990, BK995, BK1000, HB⟩ := hcut
  cases kq with
  | zero => exact absurd HA.out (by simp [idiomlaw02_DecimalMoves.j0])
  | succ kj4 =>
   have H := HA.out
   clear HA
   simp only [idiomlaw02_DecimalMoves.j0] at H
   by_cases c34 : x28_4 = true
   ·subst c34
    have H1 : (some false) = some r := by rw [if_pos rfl] at H; exact H
    clear H
    have H := H1
    clear H1
    obtain rfl := Option.some.inj H
    go_wp2
    go_ret
    exact ⟨by first | rfl | (simp [errW_none, errW_some] <;> rfl) | (simp [*, errW_none, errW_some] <;> rfl) | (simp [bne_nil_]; done), by repeat (first | (with_reducible first | exact HB.out | apply below_alloc | apply pw_below_drewN | apply below_drew1 | refine below_set ?_ GE990.out | refine below_set ?_ GE995.out | refine below_set ?_ GE1000.out) | exact HB.out)⟩
   ·replace c34 := Bool.eq_false_iff.mpr c34
    subst c34
    have H1 : ((decimal_Pad.f kj4 a0_0 a0_1 a0_2 a1).bind fun bt1003 => ((idiomref02_Pad.f kj4 a0_0 a0_1 a0_2 a1).bind fun bt1007 => ((idiomlaw02_told.f bt1003.1 bt1003.2.1 bt1003.2.2.1 bt1003.2.2.2 bt1007.1 bt1007.2.1 bt1007.2.2.1 bt1007.2.2.2).bind fun t1011 => (if t1011 = true then ((decimal_Shift.f kj4 a0_0 a0_1 a0_2 a1).bind fun bt1012 => ((idiomref02_Shift.f kj4 a0_0 a0_1 a0_2 a1).bind fun bt1016 => ((idiomlaw02_told.f bt1012.1 bt1012.2.1 bt1012.2.2.1 bt1012.2.2.2 bt1016.1 bt1016.2.1 bt1016.2.2.1 bt1016.2.2.2).bind fun t1020 => (some t1020)))) else (some false))))) = some r := by rw [if_neg (show ¬ (false = true) by decide)] at H; exact H
    clear H
    have H := H1
    clear H1
    replace H := Option.bind_eq_some_iff.mp H
    obtain ⟨⟨t1003, t1004, t1005, t1006⟩, A350, H⟩ := H
    try dsimp only at H
    have A35 := Aside0.mk A350
    clear A350
    replace H := Option.bind_eq_some_iff.mp H
    obtain ⟨⟨t1007, t1008, t1009, t1010⟩, A360, H⟩ := H
    try dsimp only at H
    have A36 := Aside0.mk A360
    clear A360
    replace H := Option.bind_eq_some_iff.mp H
    obtain ⟨t1011, A370, H⟩ := H
    try dsimp only at H
    have A37 := Aside0.mk A370
    clear A370
    by_cases c38 : t1011 = true
    ·subst c38
     have H1 : ((decimal_Shift.f kj4 a0_0 a0_1 a0_2 a1).bind fun bt1012 => ((idiomref02_Shift.f kj4 a0_0 a0_1 a0_2 a1).bind fun bt1016 => ((idiomlaw02_told.f bt1012.1 bt1012.2.1 bt1012.2.2.1 bt1012.2.2.2 bt1016.1 bt1016.2.1 bt1016.2.2.1 bt1016.2.2.2).bind fun t1020 => (some t1020)))) = some r := by rw [if_pos rfl] at H; exact H
     clear H
     have H := H1
     clear H1
     replace H := Option.bind_eq_some_iff.mp H
     obtain ⟨⟨t1012, t1013, t1014, t1015⟩, A390, H⟩ := H
     try dsimp only at H
     have A39 := Aside0.mk A390
     clear A390
     replace H := Option.bind_eq_some_iff.mp H
     obtain ⟨⟨t1016, t1017, t1018, t1019⟩, A400, H⟩ := H
     try dsimp only at H
     have A40 := Aside0.mk A400
     clear A400
     replace H := Option.bind_eq_some_iff.mp H
     obtain ⟨t1020, A410, H⟩ := H
     try dsimp only at H
     have A41 := Aside0.mk A410
     clear A410
     obtain rfl := Option.some.inj H
     have hnb42 := NB990_995.out
     have hnc42 := NB995_990.out
     have hnb43 := NB990_1000.out
     have hnc43 := NB1000_990.out
     have hcz44_0 : wc.cell? ⟨gb990, 0, none⟩ = some (.bool a0_0) := (blk_cell BK990.out 0).trans rfl
     have hcz44_1 : wc.cell? ⟨gb990, 1, none⟩ = some (.string a0_1) := (blk_cell BK990.out 1).trans rfl
     have hcz44_2 : wc.cell? ⟨gb990, 2, none⟩ = some (.string a0_2) := (blk_cell BK990.out 2).trans rfl
     have hfz44_0 := blk_frozen BK990.out 0
     have hfz44_1 := blk_frozen BK990.out 1
     have hfz44_2 := blk_frozen BK990.out 2
     go_wp2_with (first | ((with_reducible refine gate_callee (f := 42) rfl ?_); refine goesL_ (some 32) rfl rfl Tryd.func42 (by kernel_rfl) rfl #[.agg #[.bool a0_0, .string a0_1, .string a0_2], .int .i64 a1] rfl (by (try simp only [List.map_toArray, List.map_cons, List.map_nil]); first | done | rfl | (simp only [List.length_drop, List.length_take]; rfl)) ?_; (with_reducible refine (decimal_Pad.calls kj4 a0_0 a0_1 a0_2 a1 t1003 t1004 t1005 t1006 _ A35.out).mono ?_); rintro e w45 ⟨rfl, hb⟩; refine ⟨_, rfl, ?_⟩; have n0_ := Aside0.mk (blk_below (g := gb990) (o := .cells #[.bool a0_0, .string a0_1, .string a0_2] 23 (0, 0)) BK990.out hb); have n1_ := Aside0.mk (blk_below (g := gb995) (o := .cells #[.bool t991, .string t992, .string t993] 23 (0, 0)) BK995.out hb); have n2_ := Aside0.mk (blk_below (g := gb1000) (o := .cells #[.bool t996, .string t997, .string t998] 23 (0, 0)) BK1000.out hb); have n3_ := Aside0.mk (below_step HB.out hb); clear BK990; clear BK995; clear BK1000; clear HB; have BK990 := n0_; have BK995 := n1_; have BK1000 := n2_; have HB := n3_; clear n0_ n1_ n2_ n3_; have hnb46 := NB995_1000.out; have hnc46 := NB1000_995.out; have hcz47_0 : w45.cell? ⟨gb995, 0, none⟩ = some (.bool t991) := (blk_cell BK995.out 0).trans rfl; have hcz47_1 : w45.cell? ⟨gb995, 1, none⟩ = some (.string t992) := (blk_cell BK995.out 1).trans rfl; have hcz47_2 : w45.cell? ⟨gb995, 2, none⟩ = some (.string t993) := (blk_cell BK995.out 2).trans rfl; have hfz47_0 := blk_frozen BK995.out 0; have hfz47_1 := blk_frozen BK995.out 1; have hfz47_2 := blk_frozen BK995.out 2; have hcz48_0 : w45.cell? ⟨gb990, 0, none⟩ = some (.bool a0_0) := (blk_cell BK990.out 0).trans rfl; have hcz48_1 : w45.cell? ⟨gb990, 1, none⟩ = some (.string a0_1) := (blk_cell BK990.out 1).trans rfl; have hcz48_2 : w45.cell? ⟨gb990, 2, none⟩ = some (.string a0_2) := (blk_cell BK990.out 2).trans rfl; have hfz48_0 := blk_frozen BK990.out 0; have hfz48_1 := blk_frozen BK990.out 1; have hfz48_2 := blk_frozen BK990.out 2) | ((with_reducible refine gate_callee (f := 43) rfl ?_); refine goesL_ (some 38) rfl rfl Tryd.func43 (by kernel_rfl) rfl #[.agg #[.bool a0_0, .string a0_1, .string a0_2], .int .i64 a1] rfl (by (try simp only [List.map_toArray, List.map_cons, List.map_nil]); first | done | rfl | (simp only [List.length_drop, List.length_take]; rfl)) ?_; (with_reducible refine (idiomref02_Pad.calls kj4 a0_0 a0_1 a0_2 a1 t1007 t1008 t1009 t1010 _ A36.out).mono ?_); rintro e w49 ⟨rfl, hb⟩; refine ⟨_, rfl, ?_⟩; have n0_ := Aside0.mk (blk_below (g := gb990) (o := .cells #[.bool a0_0, .string a0_1, .string a0_2] 23 (0, 0)) (by refine blk_far ?_ NB990_995.out _; refine blk_far ?_ NB990_995.out _; refine blk_far ?_ NB990_995.out _; exact BK990.out) hb); have n1_ := Aside0.mk (blk_below (g := gb995) (o := .cells #[.bool t1003, .string t1004, .string t1005] 23 (0, 0)) (by refine blk_put (cs := #[.bool t1003, .string t1004, .string t993]) ?_ 2 _ rfl; refine blk_put (cs := #[.bool t1003, .string t992, .string t993]) ?_ 1 _ rfl; refine blk_put (cs := #[.bool t991, .string t992, .string t993]) ?_ 0 _ rfl; exact BK995.out) hb); have n2_ := Aside0.mk (blk_below (g := gb1000) (o := .cells #[.bool t996, .string t997, .string t998] 23 (0, 0)) (by refine blk_far ?_ NB1000_995.out _; refine blk_far ?_ NB1000_995.out _; refine blk_far ?_ NB1000_995.out _; exact BK1000.out) hb); have n3_ := Aside0.mk (below_step (by repeat (first | (with_reducible first | exact HB.out | apply below_alloc | apply pw_below_drewN | apply below_drew1 | refine below_set ?_ GE990.out | refine below_set ?_ GE995.out | refine below_set ?_ GE1000.out) | exact HB.out)) hb); clear BK990; clear BK995; clear BK1000; clear HB; have BK990 := n0_; have BK995 := n1_; have BK1000 := n2_; have HB := n3_; clear n0_ n1_ n2_ n3_; have hcz50_0 : w49.cell? ⟨gb1000, 0, none⟩ = some (.bool t996) := (blk_cell BK1000.out 0).trans rfl; have hcz50_1 : w49.cell? ⟨gb1000, 1, none⟩ = some (.string t997) := (blk_cell BK1000.out 1).trans rfl; have hcz50_2 : w49.cell? ⟨gb1000, 2, none⟩ = some (.string t998) := (blk_cell BK1000.out 2).trans rfl; have hfz50_0 := blk_frozen BK1000.out 0; have hfz50_1 := blk_frozen BK1000.out 1; have hfz50_2 := blk_frozen BK1000.out 2; have hcz51_0 : w49.cell? ⟨gb995, 0, none⟩ = some (.bool t1003) := (blk_cell BK995.out 0).trans rfl; have hcz51_1 : w49.cell? ⟨gb995, 1, none⟩ = some (.string t1004) := (blk_cell BK995.out 1).trans rfl; have hcz51_2 : w49.cell? ⟨gb995, 2, none⟩ = some (.string t1005) := (blk_cell BK995.out 2).trans rfl; have hfz51_0 := blk_frozen BK995.out 0; have hfz51_1 := blk_frozen BK995.out 1; have hfz51_2 := blk_frozen BK995.out 2) | ((with_reducible refine gate_callee (f := 24) rfl ?_); refine goesL_ (some 45) rfl rfl Tryd.func24 (by kernel_rfl) rfl #[.agg #[.bool t1003, .string t1004, .string t1005], .int .i64 t1006, .agg #[.bool t1007, .string t1008, .string t1009], .int .i64 t1010] rfl (by (try simp only [List.map_toArray, List.map_cons, List.map_nil]); first | done | rfl | (simp only [List.length_drop, List.length_take]; rfl)) ?_; (with_reducible refine (idiomlaw02_told.calls t1003 t1004 t1005 t1006 t1007 t1008 t1009 t1010 true _ A37.out).mono ?_); rintro e w52 ⟨rfl, hb⟩; refine ⟨_, rfl, ?_⟩; have n0_ := Aside0.mk (blk_below (g := gb990) (o := .cells #[.bool a0_0, .string a0_1, .string a0_2] 23 (0, 0)) (by refine blk_far ?_ NB990_1000.out _; refine blk_far ?_ NB990_1000.out _; refine blk_far ?_ NB990_1000.out _; exact BK990.out) hb); have n1_ := Aside0.mk (blk_below (g := gb995) (o := .cells #[.bool t1003, .string t1004, .string t1005] 23 (0, 0)) (by refine blk_far ?_ NB995_1000.out _; refine blk_far ?_ NB995_1000.out _; refine blk_far ?_ NB995_1000.out _; exact BK995.out) hb); have n2_ := Aside0.mk (blk_below (g := gb1000) (o := .cells #[.bool t1007, .string t1008, .string t1009] 23 (0, 0)) (by refine blk_put (cs := #[.bool t1007, .string t1008, .string t998]) ?_ 2 _ rfl; refine blk_put (cs := #[.bool t1007, .string t997, .string t998]) ?_ 1 _ rfl; refine blk_put (cs := #[.bool t996, .string t997, .string t998]) ?_ 0 _ rfl; exact BK1000.out) hb); have n3_ := Aside0.mk (below_step (by repeat (first | (with_reducible first | exact HB.out | apply below_alloc | apply pw_below_drewN | apply below_drew1 | refine below_set ?_ GE990.out | refine below_set ?_ GE995.out | refine below_set ?_ GE1000.out) | exact HB.out)) hb); clear BK990; clear BK995; clear BK1000; clear HB; have BK990 := n0_; have BK995 := n1_; have BK1000 := n2_; have HB := n3_; clear n0_ n1_ n2_ n3_; have hcz53_0 : w52.cell? ⟨gb990, 0, none⟩ = some (.bool a0_0) := (blk_cell BK990.out 0).trans rfl; have hcz53_1 : w52.cell? ⟨gb990, 1, none⟩ = some (.string a0_1) := (blk_cell BK990.out 1).trans rfl; have hcz53_2 : w52.cell? ⟨gb990, 2, none⟩ = some (.string a0_2) := (blk_cell BK990.out 2).trans rfl; have hfz53_0 := blk_frozen BK990.out 0; have hfz53_1 := blk_frozen BK990.out 1; have hfz53_2 := blk_frozen BK990.out 2) | ((with_reducible refine gate_callee (f := 40) rfl ?_); refine goesL_ (some 50) rfl rfl Tryd.func40 (by kernel_rfl) rfl #[.agg #[.bool a0_0, .string a0_1, .string a0_2], .int .i64 a1] rfl (by (try simp only [List.map_toArray, List.map_cons, List.map_nil]); first | done | rfl | (simp only [List.length_drop, List.length_take]; rfl)) ?_; (with_reducible refine (decimal_Shift.calls kj4 a0_0 a0_1 a0_2 a1 t1012 t1013 t1014 t1015 _ A39.out).mono ?_); rintro e w54 ⟨rfl, hb⟩; refine ⟨_, rfl, ?_⟩; have n0_ := Aside0.mk (blk_below (g := gb990) (o := .cells #[.bool a0_0, .string a0_1, .string a0_2] 23 (0, 0)) BK990.out hb); have n1_ := Aside0.mk (blk_below (g := gb995) (o := .cells #[.bool t1003, .string t1004, .string t1005] 23 (0, 0)) BK995.out hb); have n2_ := Aside0.mk (blk_below (g := gb1000) (o := .cells #[.bool t1007, .string t1008, .string t1009] 23 (0, 0)) BK1000.out hb); have n3_ := Aside0.mk (below_step HB.out hb); clear BK990; clear BK995; clear BK1000; clear HB; have BK990 := n0_; have BK995 := n1_; have BK1000 := n2_; have HB := n3_; clear n0_ n1_ n2_ n3_; have hcz55_0 : w54.cell? ⟨gb995, 0, none⟩ = some (.bool t1003) := (blk_cell BK995.out 0).trans rfl; have hcz55_1 : w54.cell? ⟨gb995, 1, none⟩ = some (.string t1004) := (blk_cell BK995.out 1).trans rfl; have hcz55_2 : w54.cell? ⟨gb995, 2, none⟩ = some (.string t1005) := (blk_cell BK995.out 2).trans rfl; have hfz55_0 := blk_frozen BK995.out 0; have hfz55_1 := blk_frozen BK995.out 1; have hfz55_2 := blk_frozen BK995.out 2; have hcz56_0 : w54.cell? ⟨gb990, 0, none⟩ = some (.bool a0_0) := (blk_cell BK990.out 0).trans rfl; have hcz56_1 : w54.cell? ⟨gb990, 1, none⟩ = some (.string a0_1) := (blk_cell BK990.out 1).trans rfl; have hcz56_2 : w54.cell? ⟨gb990, 2, none⟩ = some (.string a0_2) := (blk_cell BK990.out 2).trans rfl; have hfz56_0 := blk_frozen BK990.out 0; have hfz56_1 := blk_frozen BK990.out 1; have hfz56_2 := blk_frozen BK990.out 2) | ((with_reducible refine gate_callee (f := 44) rfl ?_); refine goesL_ (some 56) rfl rfl Tryd.func44 (by kernel_rfl) rfl #[.agg #[.bool a0_0, .string a0_1, .string a0_2], .int .i64 a1] rfl (by (try simp only [List.map_toArray, List.map_cons, List.map_nil]); first | done | rfl | (simp only [List.length_drop, List.length_take]; rfl)) ?_; (with_reducible refine (idiomref02_Shift.calls kj4 a0_0 a0_1 a0_2 a1 t1016 t1017 t1018 t1019 _ A40.out).mono ?_); rintro e w57 ⟨rfl, hb⟩; refine ⟨_, rfl, ?_⟩; have n0_ := Aside0.mk (blk_below (g := gb990) (o := .cells #[.bool a0_0, .string a0_1, .string a0_2] 23 (0, 0)) (by refine blk_far ?_ NB990_995.out _; refine blk_far ?_ NB990_995.out _; refine blk_far ?_ NB990_995.out _; exact BK990.out) hb); have n1_ := Aside0.mk (blk_below (g := gb995) (o := .cells #[.bool t1012, .string t1013, .string t1014] 23 (0, 0)) (by refine blk_put (cs := #[.bool t1012, .string t1013, .string t1005]) ?_ 2 _ rfl; refine blk_put (cs := #[.bool t1012, .string t1004, .string t1005]) ?_ 1 _ rfl; refine blk_put (cs := #[.bool t1003, .string t1004, .string t1005]) ?_ 0 _ rfl; exact BK995.out) hb); have n2_ := Aside0.mk (blk_below (g := gb1000) (o := .cells #[.bool t1007, .string t1008, .string t1009] 23 (0, 0)) (by refine blk_far ?_ NB1000_995.out _; refine blk_far ?_ NB1000_995.out _; refine blk_far ?_ NB1000_995.out _; exact BK1000.out) hb); have n3_ := Aside0.mk (below_step (by repeat (first | (with_reducible first | exact HB.out | apply below_alloc | apply pw_below_drewN | apply below_drew1 | refine below_set ?_ GE990.out | refine below_set ?_ GE995.out | refine below_set ?_ GE1000.out) | exact HB.out)) hb); clear BK990; clear BK995; clear BK1000; clear HB; have BK990 := n0_; have BK995 := n1_; have BK1000 := n2_; have HB := n3_; clear n0_ n1_ n2_ n3_; have hcz58_0 : w57.cell? ⟨gb1000, 0, none⟩ = some (.bool t1007) := (blk_cell BK1000.out 0).trans rfl; have hcz58_1 : w57.cell? ⟨gb1000, 1, none⟩ = some (.string t1008) := (blk_cell BK1000.out 1).trans rfl; have hcz58_2 : w57.cell? ⟨gb1000, 2, none⟩ = some (.string t1009) := (blk_cell BK1000.out 2).trans rfl; have hfz58_0 := blk_frozen BK1000.out 0; have hfz58_1 := blk_frozen BK1000.out 1; have hfz58_2 := blk_frozen BK1000.out 2; have hcz59_0 : w57.cell? ⟨gb995, 0, none⟩ = some (.bool t1012) := (blk_cell BK995.out 0).trans rfl; have hcz59_1 : w57.cell? ⟨gb995, 1, none⟩ = some (.string t1013) := (blk_cell BK995.out 1).trans rfl; have hcz59_2 : w57.cell? ⟨gb995, 2, none⟩ = some (.string t1014) := (blk_cell BK995.out 2).trans rfl; have hfz59_0 := blk_frozen BK995.out 0; have hfz59_1 := blk_frozen BK995.out 1; have hfz59_2 := blk_frozen BK995.out 2) | ((with_reducible refine gate_callee (f := 24) rfl ?_); refine goesL_ (some 63) rfl rfl Tryd.func24 (by kernel_rfl) rfl #[.agg #[.bool t1012, .string t1013, .string t1014], .int .i64 t1015, .agg #[.bool t1016, .string t1017, .string t1018], .int .i64 t1019] rfl (by (try simp only [List.map_toArray, List.map_cons, List.map_nil]); first | done | rfl | (simp only [List.length_drop, List.length_take]; rfl)) ?_; (with_reducible refine (idiomlaw02_told.calls t1012 t1013 t1014 t1015 t1016 t1017 t1018 t1019 t1020 _ A41.out).mono ?_); rintro e w60 ⟨rfl, hb⟩; refine ⟨_, rfl, ?_⟩; have n0_ := Aside0.mk (blk_below (g := gb990) (o := .cells #[.bool a0_0, .string a0_1, .string a0_2] 23 (0, 0)) (by refine blk_far ?_ NB990_1000.out _; refine blk_far ?_ NB990_1000.out _; refine blk_far ?_ NB990_1000.out _; exact BK990.out) hb); have n1_ := Aside0.mk (blk_below (g := gb995) (o := .cells #[.bool t1012, .string t1013, .string t1014] 23 (0, 0)) (by refine blk_far ?_ NB995_1000.out _; refine blk_far ?_ NB995_1000.out _; refine blk_far ?_ NB995_1000.out _; exact BK995.out) hb); have n2_ := Aside0.mk (blk_below (g := gb1000) (o := .cells #[.bool t1016, .string t1017, .string t1018] 23 (0, 0)) (by refine blk_put (cs := #[.bool t1016, .string t1017, .string t1009]) ?_ 2 _ rfl; refine blk_put (cs := #[.bool t1016, .string t1008, .string t1009]) ?_ 1 _ rfl; refine blk_put (cs := #[.bool t1007, .string t1008, .string t1009]) ?_ 0 _ rfl; exact BK1000.out) hb); have n3_ := Aside0.mk (below_step (by repeat (first | (with_reducible first | exact HB.out | apply below_alloc | apply pw_below_drewN | apply below_drew1 | refine below_set ?_ GE990.out | refine below_set ?_ GE995.out | refine below_set ?_ GE1000.out) | exact HB.out)) hb); clear BK990; clear BK995; clear BK1000; clear HB; have BK990 := n0_; have BK995 := n1_; have BK1000 := n2_; have HB := n3_; clear n0_ n1_ n2_ n3_))
     go_ret
     exact ⟨by first | rfl | (simp [errW_none, errW_some] <;> rfl) | (simp [*, errW_none, errW_some] <;> rfl) | (simp [bne_nil_]; done), by repeat (first | (with_reducible first | exact HB.out | apply below_alloc | apply pw_below_drewN | apply below_drew1 | refine below_set ?_ GE990.out | refine below_set ?_ GE995.out | refine below_set ?_ GE1000.out) | exact HB.out)⟩
    ·replace c38 := Bool.eq_false_iff.mpr c38
     subst c38
     have H1 : (some false) = some r := by rw [if_neg (show ¬ (false = true) by decide)] at H; exact H
     clear H
     have H := H1
     clear H1
     obtain rfl := Option.some.inj H
     have hnb61 := NB990_995.out
     have hnc61 := NB995_990.out
     have hnb62 := NB990_1000.out
     have hnc62 := NB1000_990.out
     have hcz63_0 : wc.cell? ⟨gb990, 0, none⟩ = some (.bool a0_0) := (blk_cell BK990.out 0).trans rfl
     have hcz63_1 : wc.cell? ⟨gb990, 1, none⟩ = some (.string a0_1) := (blk_cell BK990.out 1).trans rfl
     have hcz63_2 : wc.cell? ⟨gb990, 2, none⟩ = some (.string a0_2) := (blk_cell BK990.out 2).trans rfl
     have hfz63_0 := blk_frozen BK990.out 0
     have hfz63_1 := blk_frozen BK990.out 1
     have hfz63_2 := blk_frozen BK990.out 2
     go_wp2_with (first | ((with_reducible refine gate_callee (f := 42) rfl ?_); refine goesL_ (some 32) rfl rfl Tryd.func42 (by kernel_rfl) rfl #[.agg #[.bool a0_0, .string a0_1, .string a0_2], .int .i64 a1] rfl (by (try simp only [List.map_toArray, List.map_cons, List.map_nil]); first | done | rfl | (simp only [List.length_drop, List.length_take]; rfl)) ?_; (with_reducible refine (decimal_Pad.calls kj4 a0_0 a0_1 a0_2 a1 t1003 t1004 t1005 t1006 _ A35.out).mono ?_); rintro e w64 ⟨rfl, hb⟩; refine ⟨_, rfl, ?_⟩; have n0_ := Aside0.mk (blk_below (g := gb990) (o := .cells #[.bool a0_0, .string a0_1, .string a0_2] 23 (0, 0)) BK990.out hb); have n1_ := Aside0.mk (blk_below (g := gb995) (o := .cells #[.bool t991, .string t992, .string t993] 23 (0, 0)) BK995.out hb); have n2_ := Aside0.mk (blk_below (g := gb1000) (o := .cells #[.bool t996, .string t997, .string t998] 23 (0, 0)) BK1000.out hb); have n3_ := Aside0.mk (below_step HB.out hb); clear BK990; clear BK995; clear BK1000; clear HB; have BK990 := n0_; have BK995 := n1_; have BK1000 := n2_; have HB := n3_; clear n0_ n1_ n2_ n3_; have hnb65 := NB995_1000.out; have hnc65 := NB1000_995.out; have hcz66_0 : w64.cell? ⟨gb995, 0, none⟩ = some (.bool t991) := (blk_cell BK995.out 0).trans rfl; have hcz66_1 : w64.cell? ⟨gb995, 1, none⟩ = some (.string t992) := (blk_cell BK995.out 1).trans rfl; have hcz66_2 : w64.cell? ⟨gb995, 2, none⟩ = some (.string t993) := (blk_cell BK995.out 2).trans rfl; have hfz66_0 := blk_frozen BK995.out 0; have hfz66_1 := blk_frozen BK995.out 1; have hfz66_2 := blk_frozen BK995.out 2; have hcz67_0 : w64.cell? ⟨gb990, 0, none⟩ = some (.bool a0_0) := (blk_cell BK990.out 0).trans rfl; have hcz67_1 : w64.cell? ⟨gb990, 1, none⟩ = some (.string a0_1) := (blk_cell BK990.out 1).trans rfl; have hcz67_2 : w64.cell? ⟨gb990, 2, none⟩ = some (.string a0_2) := (blk_cell BK990.out 2).trans rfl; have hfz67_0 := blk_frozen BK990.out 0; have hfz67_1 := blk_frozen BK990.out 1; have hfz67_2 := blk_frozen BK990.out 2) | ((with_reducible refine gate_callee (f := 43) rfl ?_); refine goesL_ (some 38) rfl rfl Tryd.func43 (by kernel_rfl) rfl #[.agg #[.bool a0_0, .string a0_1, .string a0_2], .int .i64 a1] rfl (by (try simp only [List.map_toArray, List.map_cons, List.map_nil]); first | done | rfl | (simp only [List.length_drop, List.length_take]; rfl)) ?_; (with_reducible refine (idiomref02_Pad.calls kj4 a0_0 a0_1 a0_2 a1 t1007 t1008 t1009 t1010 _ A36.out).mono ?_); rintro e w68 ⟨rfl, hb⟩; refine ⟨_, rfl, ?_⟩; have n0_ := Aside0.mk (blk_below (g := gb990) (o := .cells #[.bool a0_0, .string a0_1, .string a0_2] 23 (0, 0)) (by refine blk_far ?_ NB990_995.out _; refine blk_far ?_ NB990_995.out _; refine blk_far ?_ NB990_995.out _; exact BK990.out) hb); have n1_ := Aside0.mk (blk_below (g := gb995) (o := .cells #[.bool t1003, .string t1004, .string t1005] 23 (0, 0)) (by refine blk_put (cs := #[.bool t1003, .string t1004, .string t993]) ?_ 2 _ rfl; refine blk_put (cs := #[.bool t1003, .string t992, .string t993]) ?_ 1 _ rfl; refine blk_put (cs := #[.bool t991, .string t992, .string t993]) ?_ 0 _ rfl; exact BK995.out) hb); have n2_ := Aside0.mk (blk_below (g := gb1000) (o := .cells #[.bool t996, .string t997, .string t998] 23 (0, 0)) (by refine blk_far ?_ NB1000_995.out _; refine blk_far ?_ NB1000_995.out _; refine blk_far ?_ NB1000_995.out _; exact BK1000.out) hb); have n3_ := Aside0.mk (below_step (by repeat (first | (with_reducible first | exact HB.out | apply below_alloc | apply pw_below_drewN | apply below_drew1 | refine below_set ?_ GE990.out | refine below_set ?_ GE995.out | refine below_set ?_ GE1000.out) | exact HB.out)) hb); clear BK990; clear BK995; clear BK1000; clear HB; have BK990 := n0_; have BK995 := n1_; have BK1000 := n2_; have HB := n3_; clear n0_ n1_ n2_ n3_; have hcz69_0 : w68.cell? ⟨gb1000, 0, none⟩ = some (.bool t996) := (blk_cell BK1000.out 0).trans rfl; have hcz69_1 : w68.cell? ⟨gb1000, 1, none⟩ = some (.string t997) := (blk_cell BK1000.out 1).trans rfl; have hcz69_2 : w68.cell? ⟨gb1000, 2, none⟩ = some (.string t998) := (blk_cell BK1000.out 2).trans rfl; have hfz69_0 := blk_frozen BK1000.out 0; have hfz69_1 := blk_frozen BK1000.out 1; have hfz69_2 := blk_frozen BK1000.out 2; have hcz70_0 : w68.cell? ⟨gb995, 0, none⟩ = some (.bool t1003) := (blk_cell BK995.out 0).trans rfl; have hcz70_1 : w68.cell? ⟨gb995, 1, none⟩ = some (.string t1004) := (blk_cell BK995.out 1).trans rfl; have hcz70_2 : w68.cell? ⟨gb995, 2, none⟩ = some (.string t1005) := (blk_cell BK995.out 2).trans rfl; have hfz70_0 := blk_frozen BK995.out 0; have hfz70_1 := blk_frozen BK995.out 1; have hfz70_2 := blk_frozen BK995.out 2) | ((with_reducible refine gate_callee (f := 24) rfl ?_); refine goesL_ (some 45) rfl rfl Tryd.func24 (by kernel_rfl) rfl #[.agg #[.bool t1003, .string t1004, .string t1005], .int .i64 t1006, .agg #[.bool t1007, .string t1008, .string t1009], .int .i64 t1010] rfl (by (try simp only [List.map_toArray, List.map_cons, List.map_nil]); first | done | rfl | (simp only [List.length_drop, List.length_take]; rfl)) ?_; (with_reducible refine (idiomlaw02_told.calls t1003 t1004 t1005 t1006 t1007 t1008 t1009 t1010 false _ A37.out).mono ?_); rintro e w71 ⟨rfl, hb⟩; refine ⟨_, rfl, ?_⟩; have n0_ := Aside0.mk (blk_below (g := gb990) (o := .cells #[.bool a0_0, .string a0_1, .string a0_2] 23 (0, 0)) (by refine blk_far ?_ NB990_1000.out _; refine blk_far ?_ NB990_1000.out _; refine blk_far ?_ NB990_1000.out _; exact BK990.out) hb); have n1_ := Aside0.mk (blk_below (g := gb995) (o := .cells #[.bool t1003, .string t1004, .string t1005] 23 (0, 0)) (by refine blk_far ?_ NB995_1000.out _; refine blk_far ?_ NB995_1000.out _; refine blk_far ?_ NB995_1000.out _; exact BK995.out) hb); have n2_ := Aside0.mk (blk_below (g := gb1000) (o := .cells #[.bool t1007, .string t1008, .string t1009] 23 (0, 0)) (by refine blk_put (cs := #[.bool t1007, .string t1008, .string t998]) ?_ 2 _ rfl; refine blk_put (cs := #[.bool t1007, .string t997, .string t998]) ?_ 1 _ rfl; refine blk_put (cs := #[.bool t996, .string t997, .string t998]) ?_ 0 _ rfl; exact BK1000.out) hb); have n3_ := Aside0.mk (below_step (by repeat (first | (with_reducible first | exact HB.out | apply below_alloc | apply pw_below_drewN | apply below_drew1 | refine below_set ?_ GE990.out | refine below_set ?_ GE995.out | refine below_set ?_ GE1000.out) | exact HB.out)) hb); clear BK990; clear BK995; clear BK1000; clear HB; have BK990 := n0_; have BK995 := n1_; have BK1000 := n2_; have HB := n3_; clear n0_ n1_ n2_ n3_))
     go_ret
     exact ⟨by first | rfl | (simp [errW_none, errW_some] <;> rfl) | (simp [*, errW_none, errW_some] <;> rfl) | (simp [bne_nil_]; done), by repeat (first | (with_reducible first | exact HB.out | apply below_alloc | apply pw_below_drewN | apply below_drew1 | refine below_set ?_ GE990.out | refine below_set ?_ GE995.out | refine below_set ?_ GE1000.out) | exact HB.out)⟩
end Go.Proofs.YtapbdblpdkoacaaDoor.P
