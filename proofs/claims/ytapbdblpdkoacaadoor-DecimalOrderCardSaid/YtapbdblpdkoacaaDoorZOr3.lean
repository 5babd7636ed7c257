/- A part of the proof. Part 4 of 6; its texts were written by programs, some out of the kit's print. -/
import Derived.Test.YtapbdblpdkoacaaDoorZOr2
namespace Go.Proofs.YtapbdblpdkoacaaDoor.P
open Go.RowKit Go.Proofs.YtapbdblpdkoacaaDoorW.PrintWords Go.Proofs.YtapbdblpdkoacaaDoorW.PrintLast Go.Proofs.YtapbdblpdkoacaaDoorW.PrintMore
attribute [local go_sem] max2_int max_two
set_option linter.unusedVariables false
set_option linter.unusedSimpArgs false
mutual
def strings_TrimRight.j0 : Nat → ByteArray → ByteArray → Bool → Option (ByteArray)
  | 0, _, _, _ => none
  | k + 1, x0, x1, x12 => if x12 = true then (some x0) else (if (x1.size : Int) = 1 then (if 0 < (x1.size : Int) then (strings_TrimRight.j1 k x0 x1 (decide ((bt x1 0) < 128))) else (none)) else (strings_TrimRight.j1 k x0 x1 false))
def strings_TrimRight.j1 : Nat → ByteArray → ByteArray → Bool → Option (ByteArray)
  | 0, _, _, _ => none
  | k + 1, x0, x1, x21 => if x21 = true then (if 0 < (x1.size : Int) then ((strings_trimRightByte.f k x0 (bt x1 0)).bind fun t547 => (some t547)) else (none)) else (none)
end
def strings_TrimRight.f (k : Nat) (a0 : ByteArray) (a1 : ByteArray) : Option (ByteArray) := if a0.toList = ([] : List UInt8) then (strings_TrimRight.j0 k a0 a1 true) else (strings_TrimRight.j0 k a0 a1 (a1.toList == ([] : List UInt8)))
set_option maxHeartbeats 8000000 in
set_option maxRecDepth 100000 in
theorem strings_TrimRight.calls (k : Nat) (a0 : ByteArray) (a1 : ByteArray) (r : ByteArray) (w : World) (h : strings_TrimRight.f k a0 a1 = some r) :
    Calls Tryd.prog 62 #[.string a0, .string a1] w fun e w' => e = .returned (.string r) ∧ Below w.heap.size w w' := by
 have HB := Aside0.mk (Below.refl w.heap.size w)
 unfold strings_TrimRight.f at h
 have H := h
 clear h
 have HC3 := Aside0.mk H
 clear H
 go_enter Tryd.func62, Tryd.ntmps62
 go_upto_region 1 with (fail)
 go_cut [12] (fun v12 wc => ∃ (kq : Nat) (x12_2 : Bool), v12 = .bool x12_2 ∧ Aside0 (strings_TrimRight.j0 kq a0 a1 x12_2 = some r) ∧ Aside0 (kq ≤ k) ∧ Aside0 (Below w.heap.size w wc))
 case first =>
  have H := HC3.out
  clear HC3
  by_cases c4 : a0.toList = ([] : List UInt8)
  ·rw [if_pos c4] at H
   have c4b0 : (a0.toList == ([] : List UInt8)) = true := beq_iff_eq.mpr c4
   have c4b1 : (a0.toList != ([] : List UInt8)) = false := bne_eq_false_iff_eq.mpr c4
   clear c4
   (first | rw [c4b0] | (simp only [i64_w, i32_w]; rw [c4b0]) | rw [c4b1] | skip)
   have H' := Aside0.mk H
   clear H
   go_wp2
   go_meet
   case rel => exact ⟨_, (true), (by first | rfl | (simp; done) | (simp [*]; done)), H', ⟨by first | omega | exact Nat.le_refl _⟩, ⟨by repeat (first | (with_reducible first | exact HB.out | apply below_alloc | apply pw_below_drewN | apply below_drew1) | exact HB.out)⟩⟩
  ·rw [if_neg c4] at H
   have c4b0 : (a0.toList == ([] : List UInt8)) = false := beq_eq_false_iff_ne.mpr c4
   have c4b1 : (a0.toList != ([] : List UInt8)) = true := bne_iff_ne.mpr c4
   (first | rw [c4b0] | (simp only [i64_w, i32_w]; rw [c4b0]) | rw [c4b1] | skip)
   have H' := Aside0.mk H
   clear H
   go_wp2
   go_meet
   case rel => exact ⟨_, ((a1.toList == ([] : List UInt8))), (by first | rfl | (simp; done) | (simp [*]; done)), H', ⟨by first | omega | exact Nat.le_refl _⟩, ⟨by repeat (first | (with_reducible first | exact HB.out | apply below_alloc | apply pw_below_drewN | apply below_drew1) | exact HB.out)⟩⟩
 case rest =>
  clear HC3
  try clear p2
  try clear c4
  try clear c4b0
  try clear c4b1
  obtain ⟨kq, x12_2, rfl, HA, HJ2, HB⟩ := hcut
  cases kq with
  | zero => exact absurd HA.out (by simp [strings_TrimRight.j0])
  | succ kj2 =>
   have H := HA.out
   clear HA
   simp only [strings_TrimRight.j0] at H
   by_cases c5 : x12_2 = true
   ·subst c5
    have H1 : (some a0) = some r := by rw [if_pos rfl] at H; exact H
    clear H
    have H := H1
    clear H1
    obtain rfl := Option.some.inj H
    go_wp2
    go_ret
    exact ⟨by first | rfl | (simp [errW_none, errW_some] <;> rfl) | (simp [*, errW_none, errW_some] <;> rfl) | (simp [bne_nil_]; done), by repeat (first | (with_reducible first | exact HB.out | apply below_alloc | apply pw_below_drewN | apply below_drew1) | exact HB.out)⟩
   ·replace c5 := Bool.eq_false_iff.mpr c5
    subst c5
    have H1 : (if (a1.size : Int) = 1 then (if 0 < (a1.size : Int) then (strings_TrimRight.j1 kj2 a0 a1 (decide ((bt a1 0) < 128))) else (none)) else (strings_TrimRight.j1 kj2 a0 a1 false)) = some r := by rw [if_neg (show ¬ (false = true) by decide)] at H; exact H
    clear H
    have H := H1
    clear H1
    have HC6 := Aside0.mk H
    clear H
    go_upto_region 3 with (fail)
    go_cut [21] (fun v21 wc => ∃ (kq : Nat) (x21_5 : Bool), v21 = .bool x21_5 ∧ Aside0 (strings_TrimRight.j1 kq a0 a1 x21_5 = some r) ∧ Aside0 (kq ≤ kj2) ∧ Aside0 (Below w.heap.size w wc))
    case first =>
     have H := HC6.out
     clear HC6
     by_cases c7 : (a1.size : Int) = 1
     ·rw [if_pos c7] at H
      have c7b0 : ((a1.size : Int) == 1) = true := beq_iff_eq.mpr c7
      have c7b1 : ((a1.size : Int) != 1) = false := bne_eq_false_iff_eq.mpr c7
      clear c7
      (first | rw [c7b0] | (simp only [i64_w, i32_w]; rw [c7b0]) | rw [c7b1] | skip)
      by_cases c8 : 0 < (a1.size : Int)
      ·rw [if_pos c8] at H
       have c8b0 : decide (0 < (a1.size : Int)) = true := decide_eq_true c8
       have c8b1 : decide (0 < a1.size) = true := decide_eq_true (by omega)
       clear c8
       have H' := Aside0.mk H
       clear H
       have p9 : 0 ≤ (0 : Int) := (by omega)
       have q9 : 0 < a1.size := (by have : (0 : Int) < (a1.size : Int) := of_decide_eq_true (by first | (with_reducible assumption) | assumption); omega)
       have hx9 : ∀ h : 0 < a1.size, ((a1[0]'h).toNat : Int) = bt a1 0 := bt_at a1 0
       clear p9
       have qi9 : (0 < (a1.size : Int)) = True := eq_true (of_decide_eq_true (by first | (with_reducible assumption) | assumption))
       replace q9 := eq_true q9
       go_wp2
       go_meet
       case rel => exact ⟨_, (decide ((bt a1 0) < 128)), (by first | rfl | (simp; done) | (simp [*]; done)), H', ⟨by have := HJ2.out; first | omega | exact Nat.le_refl _⟩, ⟨by repeat (first | (with_reducible first | exact HB.out | apply below_alloc | apply pw_below_drewN | apply below_drew1) | exact HB.out)⟩⟩
      ·rw [if_neg c8] at H
       exact absurd H (by simp)
     ·rw [if_neg c7] at H
      have c7b0 : ((a1.size : Int) == 1) = false := beq_eq_false_iff_ne.mpr c7
      have c7b1 : ((a1.size : Int) != 1) = true := bne_iff_ne.mpr c7
      (first | rw [c7b0] | (simp only [i64_w, i32_w]; rw [c7b0]) | rw [c7b1] | skip)
      have H' := Aside0.mk H
      clear H
      go_wp2
      go_meet
      case rel => exact ⟨_, (false), (by first | rfl | (simp; done) | (simp [*]; done)), H', ⟨by have := HJ2.out; first | omega | exact Nat.le_refl _⟩, ⟨by repeat (first | (with_reducible first | exact HB.out | apply below_alloc | apply pw_below_drewN | apply below_drew1) | exact HB.out)⟩⟩
    case rest =>
     clear HC6
     try clear p2
     try clear c4
     try clear c4b0
     try clear c4b1
     try clear c5
     try clear c6
     try clear c7
     try clear c7b0
     try clear c7b1
     try clear c8
     try clear c8b0
     try clear c8b1
     try clear p9
     try clear q9
     try clear hx9
     try clear qi9
     try clear p2
     try clear p9
     try clear q9
     obtain ⟨kq, x21_5, rfl, HA, HJ5, HB⟩ := hcut
     cases kq with
     | zero => exact absurd HA.out (by simp [strings_TrimRight.j1])
     | succ kj5 =>
      have H := HA.out
      clear HA
      simp only [strings_TrimRight.j1] at H
      by_cases c10 : x21_5 = true
      ·subst c10
       have H1 : (if 0 < (a1.size : Int) then ((strings_trimRightByte.f kj5 a0 (bt a1 0)).bind fun t547 => (some t547)) else (none)) = some r := by rw [if_pos rfl] at H; exact H
       clear H
       have H := H1
       clear H1
       by_cases c11 : 0 < (a1.size : Int)
       ·rw [if_pos c11] at H
        have c11b0 : decide (0 < (a1.size : Int)) = true := decide_eq_true c11
        have c11b1 : decide (0 < a1.size) = true := decide_eq_true (by omega)
        clear c11
        replace H := Option.bind_eq_some_iff.mp H
        obtain ⟨t547, A130, H⟩ := H
        try dsimp only at H
        have A13 := Aside0.mk A130
        clear A130
        obtain rfl := Option.some.inj H
        have p12 : 0 ≤ (0 : Int) := (by omega)
        have q12 : 0 < a1.size := (by have : (0 : Int) < (a1.size : Int) := of_decide_eq_true (by first | (with_reducible assumption) | assumption); omega)
        have hx12 : ∀ h : 0 < a1.size, ((a1[0]'h).toNat : Int) = bt a1 0 := bt_at a1 0
        clear p12
        have qi12 : (0 < (a1.size : Int)) = True := eq_true (of_decide_eq_true (by first | (with_reducible assumption) | assumption))
        replace q12 := eq_true q12
        go_wp2_with (first | ((with_reducible refine gate_callee (f := 87) rfl ?_); refine goesL_ (some 25) rfl rfl Tryd.func87 (by kernel_rfl) rfl #[.string a0, .int .u8 (bt a1 0)] rfl (by (try simp only [List.map_toArray, List.map_cons, List.map_nil]); first | done | rfl | (simp only [List.length_drop, List.length_take]; rfl)) ?_; (with_reducible refine (strings_trimRightByte.calls kj5 a0 (bt a1 0) t547 _ A13.out).mono ?_); rintro e w' ⟨rfl, ⟨nd, rfl⟩⟩; refine ⟨_, rfl, ?_⟩))
        go_ret
        exact ⟨by first | rfl | (simp [errW_none, errW_some] <;> rfl) | (simp [*, errW_none, errW_some] <;> rfl) | (simp [bne_nil_]; done), by repeat (first | (with_reducible first | exact HB.out | apply below_alloc | apply pw_below_drewN | apply below_drew1) | exact HB.out)⟩
       ·rw [if_neg c11] at H
        exact absurd H (by simp)
      ·replace c10 := Bool.eq_false_iff.mpr c10
       subst c10
       have H1 : (none) = some r := by rw [if_neg (show ¬ (false = true) by decide)] at H; exact H
       clear H
       have H := H1
       clear H1
       exact absurd H (by simp)
end Go.Proofs.YtapbdblpdkoacaaDoor.P
namespace Go.Proofs.YtapbdblpdkoacaaDoor.P
open Go.RowKit Go.Proofs.YtapbdblpdkoacaaDoorW.PrintWords Go.Proofs.YtapbdblpdkoacaaDoorW.PrintLast Go.Proofs.YtapbdblpdkoacaaDoorW.PrintMore
attribute [local go_sem] max2_int max_two
set_option linter.unusedVariables false
set_option linter.unusedSimpArgs false
def decimal_Compare.j0 : Nat → List Int → List Int → Bool → Bool → ByteArray → ByteArray → Bool → ByteArray → ByteArray → Option (Int × Int)
  | 0, _, _, _, _, _, _, _, _, _ => none
  | k + 1, x7, x8, x23, x528000, x528001, x528002, x529000, x529001, x529002 => if x23 = true then ((decimal_digits_cmp.f k x8 x7).bind fun t537 => (some (t537, 0))) else (if x528000 = true then (some ((-1), 0)) else (if x529000 = true then (some (1, 0)) else ((decimal_digits_cmp.f k x7 x8).bind fun t538 => (some (t538, 0)))))
def decimal_Compare.f (k : Nat) (a0_0 : Bool) (a0_1 : ByteArray) (a0_2 : ByteArray) (a1_0 : Bool) (a1_1 : ByteArray) (a1_2 : ByteArray) : Option (Int × Int) := (decimal_both.f k a0_0 a0_1 a0_2 a1_0 a1_1 a1_2).bind fun t529 => (if t529 = 0 then ((decimal_aligned.f k a0_0 a0_1 a0_2 a1_0 a1_1 a1_2).bind fun bt530 => (if a0_0 = true then (decimal_Compare.j0 k bt530.1 bt530.2.1 a1_0 a0_0 a0_1 a0_2 a1_0 a1_1 a1_2) else (decimal_Compare.j0 k bt530.1 bt530.2.1 false a0_0 a0_1 a0_2 a1_0 a1_1 a1_2))) else (some (0, t529)))
set_option maxHeartbeats 8000000 in
set_option maxRecDepth 100000 in
theorem decimal_Compare.calls (k : Nat) (a0_0 : Bool) (a0_1 : ByteArray) (a0_2 : ByteArray) (a1_0 : Bool) (a1_1 : ByteArray) (a1_2 : ByteArray) (r1 : Int) (r2 : Int) (w : World) (h : decimal_Compare.f k a0_0 a0_1 a0_2 a1_0 a1_1 a1_2 = some (r1, r2)) :
    Calls Tryd.prog 28 #[.agg #[.bool a0_0, .string a0_1, .string a0_2], .agg #[.bool a1_0, .string a1_1, .string a1_2]] w fun e w' => e = .returned (.tuple #[.int .i64 r1, .int .i64 r2]) ∧ Below w.heap.size w w' := by
 have hu23 := Tryd.underlying23
 have HB := Aside0.mk (Below.refl w.heap.size w)
 unfold decimal_Compare.f at h
 have H := h
 clear h
 replace H := Option.bind_eq_some_iff.mp H
 obtain ⟨t529, A30, H⟩ := H
 try dsimp only at H
 have A3 := Aside0.mk A30
 clear A30
 by_cases c4 : t529 = 0
 ·rw [if_pos c4] at H
  have c4b0 : (t529 == 0) = true := beq_iff_eq.mpr c4
  have c4b1 : (t529 != 0) = false := bne_eq_false_iff_eq.mpr c4
  clear c4
  replace H := Option.bind_eq_some_iff.mp H
  obtain ⟨⟨t530, t533, t536⟩, A50, H⟩ := H
  try dsimp only at H
  have A5 := Aside0.mk A50
  clear A50
  have HC6 := Aside0.mk H
  clear H
  go_enter Tryd.func28, Tryd.ntmps28
  go_upto_region 5 with (first | ((with_reducible refine gate_dst (N := 2) rfl ?_); refine box_event ?hg (N := 2) ?hd (cs := #[.bool a0_0, .string a0_1, .string a0_2]) (t := 23) ?hr ?_; (case hd => rfl); (case hg => rfl); (case hr => first | (go_simp; done) | (go_simp; rfl)); intro gb527 hg w7 hbox hb; have n0_ := Aside0.mk (below_step HB.out hb); have n1_ := Aside0.mk (hbox); have n2_ := Aside0.mk ((by rw [hg]; exact (below_size HB.out) : w.heap.size ≤ gb527)); have n3_ := Aside0.mk ((by rw [hg]; exact (below_size HB.out) : w.heap.size ≤ gb527)); clear HB; have HB := n0_; have BK527 := n1_; have GW527 := n2_; have GE527 := n3_; clear n0_ n1_ n2_ n3_; clear hb hbox hg) | ((with_reducible refine gate_dst (N := 3) rfl ?_); refine box_event ?hg (N := 3) ?hd (cs := #[.bool a1_0, .string a1_1, .string a1_2]) (t := 23) ?hr ?_; (case hd => rfl); (case hg => rfl); (case hr => first | (go_simp; done) | (go_simp; rfl)); intro gb528 hg w8 hbox hb; have n0_ := Aside0.mk (blk_below (g := gb527) (o := .cells #[.bool a0_0, .string a0_1, .string a0_2] 23 (0, 0)) BK527.out hb); have n1_ := Aside0.mk (below_step HB.out hb); have n2_ := Aside0.mk (hbox); have n3_ := Aside0.mk ((by rw [hg]; exact (below_size HB.out) : w.heap.size ≤ gb528)); have n4_ := Aside0.mk ((by rw [hg]; exact (below_size HB.out) : w.heap.size ≤ gb528)); have n5_ := Aside0.mk ((by rw [hg]; exact Nat.ne_of_lt (blk_lt (g := gb527) (o := .cells #[.bool a0_0, .string a0_1, .string a0_2] 23 (0, 0)) BK527.out) : gb527 ≠ gb528)); have n6_ := Aside0.mk ((by rw [hg]; exact Nat.ne_of_gt (blk_lt (g := gb527) (o := .cells #[.bool a0_0, .string a0_1, .string a0_2] 23 (0, 0)) BK527.out) : gb528 ≠ gb527)); clear BK527; clear HB; have BK527 := n0_; have HB := n1_; have BK528 := n2_; have GW528 := n3_; have GE528 := n4_; have NB527_528 := n5_; have NB528_527 := n6_; clear n0_ n1_ n2_ n3_ n4_ n5_ n6_; clear hb hbox hg; have hnb9 := NB527_528.out; have hnc9 := NB528_527.out; have hcz10_0 : w8.cell? ⟨gb527, 0, none⟩ = some (.bool a0_0) := (blk_cell BK527.out 0).trans rfl; have hcz10_1 : w8.cell? ⟨gb527, 1, none⟩ = some (.string a0_1) := (blk_cell BK527.out 1).trans rfl; have hcz10_2 : w8.cell? ⟨gb527, 2, none⟩ = some (.string a0_2) := (blk_cell BK527.out 2).trans rfl; have hfz10_0 := blk_frozen BK527.out 0; have hfz10_1 := blk_frozen BK527.out 1; have hfz10_2 := blk_frozen BK527.out 2; have hcz11_0 : w8.cell? ⟨gb528, 0, none⟩ = some (.bool a1_0) := (blk_cell BK528.out 0).trans rfl; have hcz11_1 : w8.cell? ⟨gb528, 1, none⟩ = some (.string a1_1) := (blk_cell BK528.out 1).trans rfl; have hcz11_2 : w8.cell? ⟨gb528, 2, none⟩ = some (.string a1_2) := (blk_cell BK528.out 2).trans rfl; have hfz11_0 := blk_frozen BK528.out 0; have hfz11_1 := blk_frozen BK528.out 1; have hfz11_2 := blk_frozen BK528.out 2) | ((with_reducible refine gate_callee (f := 58) rfl ?_); refine goesL_ (some 12) rfl rfl Tryd.func58 (by kernel_rfl) rfl #[.agg #[.bool a0_0, .string a0_1, .string a0_2], .agg #[.bool a1_0, .string a1_1, .string a1_2]] rfl (by (try simp only [List.map_toArray, List.map_cons, List.map_nil]); first | done | rfl | (simp only [List.length_drop, List.length_take]; rfl)) ?_; (with_reducible refine (decimal_both.calls k a0_0 a0_1 a0_2 a1_0 a1_1 a1_2 t529 _ A3.out).mono ?_); rintro e w12 ⟨rfl, hb⟩; refine ⟨_, rfl, ?_⟩; have n0_ := Aside0.mk (blk_below (g := gb527) (o := .cells #[.bool a0_0, .string a0_1, .string a0_2] 23 (0, 0)) BK527.out hb); have n1_ := Aside0.mk (blk_below (g := gb528) (o := .cells #[.bool a1_0, .string a1_1, .string a1_2] 23 (0, 0)) BK528.out hb); have n2_ := Aside0.mk (below_step HB.out hb); clear BK527; clear BK528; clear HB; have BK527 := n0_; have BK528 := n1_; have HB := n2_; clear n0_ n1_ n2_; have hcz13_0 : w12.cell? ⟨gb527, 0, none⟩ = some (.bool a0_0) := (blk_cell BK527.out 0).trans rfl; have hcz13_1 : w12.cell? ⟨gb527, 1, none⟩ = some (.string a0_1) := (blk_cell BK527.out 1).trans rfl; have hcz13_2 : w12.cell? ⟨gb527, 2, none⟩ = some (.string a0_2) := (blk_cell BK527.out 2).trans rfl; have hfz13_0 := blk_frozen BK527.out 0; have hfz13_1 := blk_frozen BK527.out 1; have hfz13_2 := blk_frozen BK527.out 2; have hcz14_0 : w12.cell? ⟨gb528, 0, none⟩ = some (.bool a1_0) := (blk_cell BK528.out 0).trans rfl; have hcz14_1 : w12.cell? ⟨gb528, 1, none⟩ = some (.string a1_1) := (blk_cell BK528.out 1).trans rfl; have hcz14_2 : w12.cell? ⟨gb528, 2, none⟩ = some (.string a1_2) := (blk_cell BK528.out 2).trans rfl; have hfz14_0 := blk_frozen BK528.out 0; have hfz14_1 := blk_frozen BK528.out 1; have hfz14_2 := blk_frozen BK528.out 2) | ((with_reducible refine gate_callee (f := 59) rfl ?_); refine goesL_ (some 19) rfl rfl Tryd.func59 (by kernel_rfl) rfl #[.agg #[.bool a0_0, .string a0_1, .string a0_2], .agg #[.bool a1_0, .string a1_1, .string a1_2]] rfl (by (try simp only [List.map_toArray, List.map_cons, List.map_nil]); first | done | rfl | (simp only [List.length_drop, List.length_take]; rfl)) ?_; (with_reducible refine (decimal_aligned.calls k a0_0 a0_1 a0_2 a1_0 a1_1 a1_2 t530 t533 t536 _ A5.out).mono ?_); rintro e w15 ⟨v531, v534, rfl, ho0, ho1, hb⟩; refine ⟨_, rfl, ?_⟩; have n0_ := Aside0.mk (Kd.V_lower (Kd.V_mono (ok' := fun k_ => k_ ≠ gb527 ∧ k_ ≠ gb528) ho0 (fun k_ hk_ => ⟨(Kd.freshB (g := gb527) (o := .cells #[.bool a0_0, .string a0_1, .string a0_2] 23 (0, 0)) BK527.out k_ hk_), (Kd.freshB (g := gb528) (o := .cells #[.bool a1_0, .string a1_1, .string a1_2] 23 (0, 0)) BK528.out k_ hk_)⟩)) (below_size HB.out)); have n1_ := Aside0.mk (Kd.V_lower (Kd.V_mono (ok' := fun k_ => k_ ≠ gb527 ∧ k_ ≠ gb528) ho1 (fun k_ hk_ => ⟨(Kd.freshB (g := gb527) (o := .cells #[.bool a0_0, .string a0_1, .string a0_2] 23 (0, 0)) BK527.out k_ hk_), (Kd.freshB (g := gb528) (o := .cells #[.bool a1_0, .string a1_1, .string a1_2] 23 (0, 0)) BK528.out k_ hk_)⟩)) (below_size HB.out)); have n2_ := Aside0.mk (blk_below (g := gb527) (o := .cells #[.bool a0_0, .string a0_1, .string a0_2] 23 (0, 0)) BK527.out hb); have n3_ := Aside0.mk (blk_below (g := gb528) (o := .cells #[.bool a1_0, .string a1_1, .string a1_2] 23 (0, 0)) BK528.out hb); have n4_ := Aside0.mk (below_step HB.out hb); clear BK527; clear BK528; clear HB; have HO532 := n0_; have HO535 := n1_; have BK527 := n2_; have BK528 := n3_; have HB := n4_; clear n0_ n1_ n2_ n3_ n4_; (try clear ho0); (try clear ho1)))
  (try simp only [Act.put, List.setIfInBounds_toArray, List.set_cons_zero, List.set_cons_succ])
  go_cut [23] (fun v23 wc => ∃ (kq : Nat) (x23_5 : Bool), v23 = .bool x23_5 ∧ Aside0 (decimal_Compare.j0 kq t530 t533 x23_5 a0_0 a0_1 a0_2 a1_0 a1_1 a1_2 = some (r1, r2)) ∧ Aside0 (kq ≤ k) ∧ Aside0 (Kd.V (Kd.int .u8) 5 wc w.heap.size (fun k_ => k_ ≠ gb527 ∧ k_ ≠ gb528) v531 t530) ∧ Aside0 (Kd.V (Kd.int .u8) 5 wc w.heap.size (fun k_ => k_ ≠ gb527 ∧ k_ ≠ gb528) v534 t533) ∧ Aside0 (wc.heap[gb527]? = some (.cells #[.bool a0_0, .string a0_1, .string a0_2] 23 (0, 0))) ∧ Aside0 (wc.heap[gb528]? = some (.cells #[.bool a1_0, .string a1_1, .string a1_2] 23 (0, 0))) ∧ Aside0 (Below w.heap.size w wc))
  case first =>
   have H := HC6.out
   clear HC6
   by_cases c16 : a0_0 = true
   ·subst c16
    have H1 : (decimal_Compare.j0 k t530 t533 a1_0 true a0_1 a0_2 a1_0 a1_1 a1_2) = some (r1, r2) := by rw [if_pos rfl] at H; exact H
    clear H
    have H := H1
    clear H1
    have H' := Aside0.mk H
    clear H
    have hnb17 := NB527_528.out
    have hnc17 := NB528_527.out
    have hcz18_0 : w15.cell? ⟨gb527, 0, none⟩ = some (.bool true) := (blk_cell BK527.out 0).trans rfl
    have hcz18_1 : w15.cell? ⟨gb527, 1, none⟩ = some (.string a0_1) := (blk_cell BK527.out 1).trans rfl
    have hcz18_2 : w15.cell? ⟨gb527, 2, none⟩ = some (.string a0_2) := (blk_cell BK527.out 2).trans rfl
    have hfz18_0 := blk_frozen BK527.out 0
    have hfz18_1 := blk_frozen BK527.out 1
    have hfz18_2 := blk_frozen BK527.out 2
    have hcz19_0 : w15.cell? ⟨gb528, 0, none⟩ = some (.bool a1_0) := (blk_cell BK528.out 0).trans rfl
    have hcz19_1 : w15.cell? ⟨gb528, 1, none⟩ = some (.string a1_1) := (blk_cell BK528.out 1).trans rfl
    have hcz19_2 : w15.cell? ⟨gb528, 2, none⟩ = some (.string a1_2) := (blk_cell BK528.out 2).trans rfl
    have hfz19_0 := blk_frozen BK528.out 0
    have hfz19_1 := blk_frozen BK528.out 1
    have hfz19_2 := blk_frozen BK528.out 2
    go_wp2
    go_meet
    case rel => exact ⟨_, (a1_0), (by first | rfl | (simp; done) | (simp [*]; done)), H', ⟨by first | omega | exact Nat.le_refl _⟩, ⟨by (with_reducible repeat (first | apply Kd.V_alloc | apply Kd.V_drewN | apply Kd.V_drew)); exact HO532.out⟩, ⟨by (with_reducible repeat (first | apply Kd.V_alloc | apply Kd.V_drewN | apply Kd.V_drew)); exact HO535.out⟩, ⟨by exact BK527.out⟩, ⟨by exact BK528.out⟩, ⟨by repeat (first | (with_reducible first | exact HB.out | apply below_alloc | apply pw_below_drewN | apply below_drew1 | refine below_set ?_ GE527.out | refine below_set ?_ GE528.out) | exact HB.out)⟩⟩
   ·replace c16 := Bool.eq_false_iff.mpr c16
    subst c16
    have H1 : (decimal_Compare.j0 k t530 t533 false false a0_1 a0_2 a1_0 a1_1 a1_2) = some (r1, r2) := by rw [if_neg (show ¬ (false = true) by decide)] at H; exact H
    clear H
    have H := H1
    clear H1
    have H' := Aside0.mk H
    clear H
    have hnb20 := NB527_528.out
    have hnc20 := NB528_527.out
    have hcz21_0 : w15.cell? ⟨gb527, 0, none⟩ = some (.bool false) := (blk_cell BK527.out 0).trans rfl
    have hcz21_1 : w15.cell? ⟨gb527, 1, none⟩ = some (.string a0_1) := (blk_cell BK527.out 1).trans rfl
    have hcz21_2 : w15.cell? ⟨gb527, 2, none⟩ = some (.string a0_2) := (blk_cell BK527.out 2).trans rfl
    have hfz21_0 := blk_frozen BK527.out 0
    have hfz21_1 := blk_frozen BK527.out 1
    have hfz21_2 := blk_frozen BK527.out 2
    go_wp2
    go_meet
    case rel => exact ⟨_, (false), (by first | rfl | (simp; done) | (simp [*]; done)), H', ⟨by first | omega | exact Nat.le_refl _⟩, ⟨by (with_reducible repeat (first | apply Kd.V_alloc | apply Kd.V_drewN | apply Kd.V_drew)); exact HO532.out⟩, ⟨by (with_reducible repeat (first | apply Kd.V_alloc | apply Kd.V_drewN | apply Kd.V_drew)); exact HO535.out⟩, ⟨by exact BK527.out⟩, ⟨by exact BK528.out⟩, ⟨by repeat (first | (with_reducible first | exact HB.out | apply below_alloc | apply pw_below_drewN | apply below_drew1 | refine below_set ?_ GE527.out | refine below_set ?_ GE528.out) | exact HB.out)⟩⟩
  case rest =>
   clear HC6
   try clear c1
   try clear c2
   try clear p2
   try clear c4
   try clear c4b0
   try clear c4b1
   try clear c5
   try clear c9
   try clear c16
   try clear c17
   try clear c20
   try clear hcz10_0
   try clear hcz10_1
   try clear hcz10_2
   try clear hcz11_0
   try clear hcz11_1
   try clear hcz11_2
   try clear hcz13_0
   try clear hcz13_1
   try clear hcz13_2
   try clear hcz14_0
   try clear hcz14_1
   try clear hcz14_2
   try clear hcz18_0
   try clear hcz18_1
   try clear hcz18_2
   try clear hcz19_0
   try clear hcz19_1
   try clear hcz19_2
   try clear hcz21_0
   try clear hcz21_1
   try clear hcz21_2
   try clear hfz10_0
   try clear hfz10_1
   try clear hfz10_2
   try clear hfz11_0
   try clear hfz11_1
   try clear hfz11_2
   try clear hfz13_0
   try clear hfz13_1
   try clear hfz13_2
   try clear hfz14_0
   try clear hfz14_1
   try clear hfz14_2
   try clear hfz18_0
   try clear hfz18_1
   try clear hfz18_2
   try clear hfz19_0
   try clear hfz19_1
   try clear hfz19_2
   try clear hfz21_0
   try clear hfz21_1
   try clear hfz21_2
   obtain ⟨kq, x23_5, rfl, HA, HJ5, HO_7, HO_8, BK527, BK528, HB⟩ := hcut
   cases kq with
   | zero => exact absurd HA.out (by simp [decimal_Compare.j0])
   | succ kj5 =>
    have H := HA.out
    clear HA
    simp only [decimal_Compare.j0] at H
    by_cases c22 : x23_5 = true
    ·subst c22
     have H1 : ((decimal_digits_cmp.f kj5 t533 t530).bind fun t537 => (some (t537, 0))) = some (r1, r2) := by rw [if_pos rfl] at H; exact H
     clear H
     have H := H1
     clear H1
     replace H := Option.bind_eq_some_iff.mp H
     obtain ⟨t537, A230, H⟩ := H
     try dsimp only at H
     have A23 := Aside0.mk A230
     clear A230
     simp only [Option.some.injEq, Prod.mk.injEq] at H
     obtain ⟨rfl, rfl⟩ := H
     obtain ⟨Ao24, co24, eo24⟩ := Kd.V_slice HO_8.out
     subst eo24
     obtain ⟨Ao25, co25, eo25⟩ := Kd.V_slice HO_7.out
     subst eo25
     go_wp2_with (first | ((with_reducible refine gate_callee (f := 60) rfl ?_); refine goesL_ (some 32) rfl rfl Tryd.func60 (by kernel_rfl) rfl #[.slice Ao24 t533.length co24, .slice Ao25 t530.length co25] rfl (by (try simp only [List.map_toArray, List.map_cons, List.map_nil]); first | done | rfl | (simp only [List.length_drop, List.length_take]; rfl)) ?_; (with_reducible refine (decimal_digits_cmp.calls kj5 _ _ t533 _ _ t530 t537 _ ?side1 ?side2 ?side3 ?side4 A23.out).mono ?_); (case side1 => repeat (first | exact (Kd.V_reads' HO_8.out).2.2 | (with_reducible refine Kd.C_alloc ?_ _) | (with_reducible refine Kd.C_drewN ?_ _) | (with_reducible refine Kd.C_drew ?_))); (case side2 => exact (Kd.V_reads' HO_8.out).2.1); (case side3 => repeat (first | exact (Kd.V_reads' HO_7.out).2.2 | (with_reducible refine Kd.C_alloc ?_ _) | (with_reducible refine Kd.C_drewN ?_ _) | (with_reducible refine Kd.C_drew ?_))); (case side4 => exact (Kd.V_reads' HO_7.out).2.1); rintro e w' ⟨rfl, ⟨nd, rfl⟩⟩; refine ⟨_, rfl, ?_⟩))
     go_ret2
     exact ⟨by first | rfl | (simp [errW_none, errW_some] <;> rfl) | (simp [*, errW_none, errW_some] <;> rfl) | (simp [bne_nil_]; done), by repeat (first | (with_reducible first | exact HB.out | apply below_alloc | apply pw_below_drewN | apply below_drew1 | refine below_set ?_ GE527.out | refine below_set ?_ GE528.out) | exact HB.out)⟩
    ·replace c22 := Bool.eq_false_iff.mpr c22
     subst c22
     have H1 : (if a0_0 = true then (some ((-1), 0)) else (if a1_0 = true then (some (1, 0)) else ((decimal_digits_cmp.f kj5 t530 t533).bind fun t538 => (some (t538, 0))))) = some (r1, r2) := by rw [if_neg (show ¬ (false = true) by decide)] at H; exact H
     clear H
     have H := H1
     clear H1
     by_cases c26 : a0_0 = true
     ·subst c26
      have H1 : (some ((-1), 0)) = some (r1, r2) := by rw [if_pos rfl] at H; exact H
      clear H
      have H := H1
      clear H1
      simp only [Option.some.injEq, Prod.mk.injEq] at H
      obtain ⟨rfl, rfl⟩ := H
      have hnb27 := NB527_528.out
      have hnc27 := NB528_527.out
      have hcz28_0 : wc.cell? ⟨gb527, 0, none⟩ = some (.bool true) := (blk_cell BK527.out 0).trans rfl
      have hcz28_1 : wc.cell? ⟨gb527, 1, none⟩ = some (.string a0_1) := (blk_cell BK527.out 1).trans rfl
      have hcz28_2 : wc.cell? ⟨gb527, 2, none⟩ = some (.string a0_2) := (blk_cell BK527.out 2).trans rfl
      have hfz28_0 := blk_frozen BK527.out 0
      have hfz28_1 := blk_frozen BK527.out 1
      have hfz28_2 := blk_frozen BK527.out 2
      go_wp2
      go_ret2
      exact ⟨by first | rfl | (simp [errW_none, errW_some] <;> rfl) | (simp [*, errW_none, errW_some] <;> rfl) | (simp [bne_nil_]; done), by repeat (first | (with_reducible first | exact HB.out | apply below_alloc | apply pw_below_drewN | apply below_drew1 | refine below_set ?_ GE527.out | refine below_set ?_ GE528.out) | exact HB.out)⟩
     ·replace c26 := Bool.eq_false_iff.mpr c26
      subst c26
      have H1 : (if a1_0 = true then (some (1, 0)) else ((decimal_digits_cmp.f kj5 t530 t533).bind fun t538 => (some (t538, 0)))) = some (r1, r2) := by rw [if_neg (show ¬ (false = true) by decide)] at H; exact H
      clear H
      have H := H1
      clear H1
      by_cases c29 : a1_0 = true
      ·subst c29
       have H1 : (some (1, 0)) = some (r1, r2) := by rw [if_pos rfl] at H; exact H
       clear H
       have H := H1
       clear H1
       simp only [Option.some.injEq, Prod.mk.injEq] at H
       obtain ⟨rfl, rfl⟩ := H
       have hnb30 := NB527_528.out
       have hnc30 := NB528_527.out
       have hcz31_0 : wc.cell? ⟨gb527, 0, none⟩ = some (.bool false) := (blk_cell BK527.out 0).trans rfl
       have hcz31_1 : wc.cell? ⟨gb527, 1, none⟩ = some (.string a0_1) := (blk_cell BK527.out 1).trans rfl
       have hcz31_2 : wc.cell? ⟨gb527, 2, none⟩ = some (.string a0_2) := (blk_cell BK527.out 2).trans rfl
       have hfz31_0 := blk_frozen BK527.out 0
       have hfz31_1 := blk_frozen BK527.out 1
       have hfz31_2 := blk_frozen BK527.out 2
       have hcz32_0 : wc.cell? ⟨gb528, 0, none⟩ = some (.bool true) := (blk_cell BK528.out 0).trans rfl
       have hcz32_1 : wc.cell? ⟨gb528, 1, none⟩ = some (.string a1_1) := (blk_cell BK528.out 1).trans rfl
       have hcz32_2 : wc.cell? ⟨gb528, 2, none⟩ = some (.string a1_2) := (blk_cell BK528.out 2).trans rfl
       have hfz32_0 := blk_frozen BK528.out 0
       have hfz32_1 := blk_frozen BK528.out 1
       have hfz32_2 := blk_frozen BK528.out 2
       go_wp2
       go_ret2
       exact ⟨by first | rfl | (simp [errW_none, errW_some] <;> rfl) | (simp [*, errW_none, errW_some] <;> rfl) | (simp [bne_nil_]; done), by repeat (first | (with_reducible first | exact HB.out | apply below_alloc | apply pw_below_drewN | apply below_drew1 | refine below_set ?_ GE527.out | refine below_set ?_ GE528.out) | exact HB.out)⟩
      ·replace c29 := Bool.eq_false_iff.mpr c29
       subst c29
       have H1 : ((decimal_digits_cmp.f kj5 t530 t533).bind fun t538 => (some (t538, 0))) = some (r1, r2) := by rw [if_neg (show ¬ (false = true) by decide)] at H; exact H
       clear H
       have H := H1
       clear H1
       replace H := Option.bind_eq_some_iff.mp H
       obtain ⟨t538, A330, H⟩ := H
       try dsimp only at H
       have A33 := Aside0.mk A330
       clear A330
       simp only [Option.some.injEq, Prod.mk.injEq] at H
       obtain ⟨rfl, rfl⟩ := H
       have hnb34 := NB527_528.out
       have hnc34 := NB528_527.out
       have hcz35_0 : wc.cell? ⟨gb527, 0, none⟩ = some (.bool false) := (blk_cell BK527.out 0).trans rfl
       have hcz35_1 : wc.cell? ⟨gb527, 1, none⟩ = some (.string a0_1) := (blk_cell BK527.out 1).trans rfl
       have hcz35_2 : wc.cell? ⟨gb527, 2, none⟩ = some (.string a0_2) := (blk_cell BK527.out 2).trans rfl
       have hfz35_0 := blk_frozen BK527.out 0
       have hfz35_1 := blk_frozen BK527.out 1
       have hfz35_2 := blk_frozen BK527.out 2
       have hcz36_0 : wc.cell? ⟨gb528, 0, none⟩ = some (.bool false) := (blk_cell BK528.out 0).trans rfl
       have hcz36_1 : wc.cell? ⟨gb528, 1, none⟩ = some (.string a1_1) := (blk_cell BK528.out 1).trans rfl
       have hcz36_2 : wc.cell? ⟨gb528, 2, none⟩ = some (.string a1_2) := (blk_cell BK528.out 2).trans rfl
       have hfz36_0 := blk_frozen BK528.out 0
       have hfz36_1 := blk_frozen BK528.out 1
       have hfz36_2 := blk_frozen BK528.out 2
       obtain ⟨Ao37, co37, eo37⟩ := Kd.V_slice HO_7.out
       subst eo37
       obtain ⟨Ao38, co38, eo38⟩ := Kd.V_slice HO_8.out
       subst eo38
       go_wp2_with (first | ((with_reducible refine gate_callee (f := 60) rfl ?_); refine goesL_ (some 41) rfl rfl Tryd.func60 (by kernel_rfl) rfl #[.slice Ao37 t530.length co37, .slice Ao38 t533.length co38] rfl (by (try simp only [List.map_toArray, List.map_cons, List.map_nil]); first | done | rfl | (simp only [List.length_drop, List.length_take]; rfl)) ?_; (with_reducible refine (decimal_digits_cmp.calls kj5 _ _ t530 _ _ t533 t538 _ ?side1 ?side2 ?side3 ?side4 A33.out).mono ?_); (case side1 => repeat (first | exact (Kd.V_reads' HO_7.out).2.2 | (with_reducible refine Kd.C_alloc ?_ _) | (with_reducible refine Kd.C_drewN ?_ _) | (with_reducible refine Kd.C_drew ?_))); (case side2 => exact (Kd.V_reads' HO_7.out).2.1); (case side3 => repeat (first | exact (Kd.V_reads' HO_8.out).2.2 | (with_reducible refine Kd.C_alloc ?_ _) | (with_reducible refine Kd.C_drewN ?_ _) | (with_reducible refine Kd.C_drew ?_))); (case side4 => exact (Kd.V_reads' HO_8.out).2.1); rintro e w' ⟨rfl, ⟨nd, rfl⟩⟩; refine ⟨_, rfl, ?_⟩))
       go_ret2
       exact ⟨by first | rfl | (simp [errW_none, errW_some] <;> rfl) | (simp [*, errW_none, errW_some] <;> rfl) | (simp [bne_nil_]; done), by repeat (first | (with_reducible first | exact HB.out | apply below_alloc | apply pw_below_drewN | apply below_drew1 | refine below_set ?_ GE527.out | refine below_set ?_ GE528.out) | exact HB.out)⟩
 ·rw [if_neg c4] at H
  have c4b0 : (t529 == 0) = false := beq_eq_false_iff_ne.mpr c4
  have c4b1 : (t529 != 0) = true := bne_iff_ne.mpr c4
  simp only [Option.some.injEq, Prod.mk.injEq] at H
  obtain ⟨rfl, rfl⟩ := H
  go_enter Tryd.func28, Tryd.ntmps28
  go_wp2_with (first | ((with_reducible refine gate_dst (N := 2) rfl ?_); refine box_event ?hg (N := 2) ?hd (cs := #[.bool a0_0, .string a0_1, .string a0_2]) (t := 23) ?hr ?_; (case hd => rfl); (case hg => rfl); (case hr => first | (go_simp; done) | (go_simp; rfl)); intro gb527 hg w39 hbox hb; have n0_ := Aside0.mk (below_step HB.out hb); have n1_ := Aside0.mk (hbox); have n2_ := Aside0.mk ((by rw [hg]; exact (below_size HB.out) : w.heap.size ≤ gb527)); have n3_ := Aside0.mk ((by rw [hg]; exact (below_size HB.out) : w.heap.size ≤ gb527)); clear HB; have HB := n0_; have BK527 := n1_; have GW527 := n2_; have GE527 := n3_; clear n0_ n1_ n2_ n3_; clear hb hbox hg) | ((with_reducible refine gate_dst (N := 3) rfl ?_); refine box_event ?hg (N := 3) ?hd (cs := #[.bool a1_0, .string a1_1, .string a1_2]) (t := 23) ?hr ?_; (case hd => rfl); (case hg => rfl); (case hr => first | (go_simp; done) | (go_simp; rfl)); intro gb528 hg w40 hbox hb; have n0_ := Aside0.mk (blk_below (g := gb527) (o := .cells #[.bool a0_0, .string a0_1, .string a0_2] 23 (0, 0)) BK527.out hb); have n1_ := Aside0.mk (below_step HB.out hb); have n2_ := Aside0.mk (hbox); have n3_ := Aside0.mk ((by rw [hg]; exact (below_size HB.out) : w.heap.size ≤ gb528)); have n4_ := Aside0.mk ((by rw [hg]; exact (below_size HB.out) : w.heap.size ≤ gb528)); have n5_ := Aside0.mk ((by rw [hg]; exact Nat.ne_of_lt (blk_lt (g := gb527) (o := .cells #[.bool a0_0, .string a0_1, .string a0_2] 23 (0, 0)) BK527.out) : gb527 ≠ gb528)); have n6_ := Aside0.mk ((by rw [hg]; exact Nat.ne_of_gt (blk_lt (g := gb527) (o := .cells #[.bool a0_0, .string a0_1, .string a0_2] 23 (0, 0)) BK527.out) : gb528 ≠ gb527)); clear BK527; clear HB; have BK527 := n0_; have HB := n1_; have BK528 := n2_; have GW528 := n3_; have GE528 := n4_; have NB527_528 := n5_; have NB528_527 := n6_; clear n0_ n1_ n2_ n3_ n4_ n5_ n6_; clear hb hbox hg; have hnb41 := NB527_528.out; have hnc41 := NB528_527.out; have hcz42_0 : w40.cell? ⟨gb527, 0, none⟩ = some (.bool a0_0) := (blk_cell BK527.out 0).trans rfl; have hcz42_1 : w40.cell? ⟨gb527, 1, none⟩ = some (.string a0_1) := (blk_cell BK527.out 1).trans rfl; have hcz42_2 : w40.cell? ⟨gb527, 2, none⟩ = some (.string a0_2) := (blk_cell BK527.out 2).trans rfl; have hfz42_0 := blk_frozen BK527.out 0; have hfz42_1 := blk_frozen BK527.out 1; have hfz42_2 := blk_frozen BK527.out 2; have hcz43_0 : w40.cell? ⟨gb528, 0, none⟩ = some (.bool a1_0) := (blk_cell BK528.out 0).trans rfl; have hcz43_1 : w40.cell? ⟨gb528, 1, none⟩ = some (.string a1_1) := (blk_cell BK528.out 1).trans rfl; have hcz43_2 : w40.cell? ⟨gb528, 2, none⟩ = some (.string a1_2) := (blk_cell BK528.out 2).trans rfl; have hfz43_0 := blk_frozen BK528.out 0; have hfz43_1 := blk_frozen BK528.out 1; have hfz43_2 := blk_frozen BK528.out 2) | ((with_reducible refine gate_callee (f := 58) rfl ?_); refine goesL_ (some 12) rfl rfl Tryd.func58 (by kernel_rfl) rfl #[.agg #[.bool a0_0, .string a0_1, .string a0_2], .agg #[.bool a1_0, .string a1_1, .string a1_2]] rfl (by (try simp only [List.map_toArray, List.map_cons, List.map_nil]); first | done | rfl | (simp only [List.length_drop, List.length_take]; rfl)) ?_; (with_reducible refine (decimal_both.calls k a0_0 a0_1 a0_2 a1_0 a1_1 a1_2 t529 _ A3.out).mono ?_); rintro e w44 ⟨rfl, hb⟩; refine ⟨_, rfl, ?_⟩; have n0_ := Aside0.mk (blk_below (g := gb527) (o := .cells #[.bool a0_0, .string a0_1, .string a0_2] 23 (0, 0)) BK527.out hb); have n1_ := Aside0.mk (blk_below (g := gb528) (o := .cells #[.bool a1_0, .string a1_1, .string a1_2] 23 (0, 0)) BK528.out hb); have n2_ := Aside0.mk (below_step HB.out hb); clear BK527; clear BK528; clear HB; have BK527 := n0_; have BK528 := n1_; have HB := n2_; clear n0_ n1_ n2_))
  go_ret2
  exact ⟨by first | rfl | (simp [errW_none, errW_some] <;> rfl) | (simp [*, errW_none, errW_some] <;> rfl) | (simp [bne_nil_]; done), by repeat (first | (with_reducible first | exact HB.out | apply below_alloc | apply pw_below_drewN | apply below_drew1 | refine below_set ?_ GE527.out | refine below_set ?_ GE528.out) | exact HB.out)⟩
end Go.Proofs.YtapbdblpdkoacaaDoor.P
namespace Go.Proofs.YtapbdblpdkoacaaDoor.P
open Go.RowKit Go.Proofs.YtapbdblpdkoacaaDoorW.PrintWords Go.Proofs.YtapbdblpdkoacaaDoorW.PrintLast Go.Proofs.YtapbdblpdkoacaaDoorW.PrintMore
attribute [local go_sem] max2_int max_two
set_option linter.unusedVariables false
set_option linter.unusedSimpArgs false
def decimal_Sub.f (k : Nat) (a0_0 : Bool) (a0_1 : ByteArray) (a0_2 : ByteArray) (a1_0 : Bool) (a1_1 : ByteArray) (a1_2 : ByteArray) : Option (Bool × ByteArray × ByteArray × Int) := (decimal_both.f k a0_0 a0_1 a0_2 a1_0 a1_1 a1_2).bind fun t542 => (if t542 = 0 then ((decimal_sum.f k a0_0 a0_1 a0_2 a1_0 a1_1 a1_2 (!a1_0)).bind fun bt543 => (some (bt543.1, bt543.2.1, bt543.2.2.1, bt543.2.2.2))) else (some (false, (⟨#[]⟩ : ByteArray), (⟨#[]⟩ : ByteArray), t542)))
set_option maxHeartbeats 8000000 in
set_option maxRecDepth 100000 in
theorem decimal_Sub.calls (k : Nat) (a0_0 : Bool) (a0_1 : ByteArray) (a0_2 : ByteArray) (a1_0 : Bool) (a1_1 : ByteArray) (a1_2 : ByteArray) (r1 : Bool) (r2 : ByteArray) (r3 : ByteArray) (r4 : Int) (w : World) (h : decimal_Sub.f k a0_0 a0_1 a0_2 a1_0 a1_1 a1_2 = some (r1, r2, r3, r4)) :
    Calls Tryd.prog 29 #[.agg #[.bool a0_0, .string a0_1, .string a0_2], .agg #[.bool a1_0, .string a1_1, .string a1_2]] w fun e w' => e = .returned (.tuple #[.agg #[.bool r1, .string r2, .string r3], .int .i64 r4]) ∧ Below w.heap.size w w' := by
 have hu23 := Tryd.underlying23
 have HB := Aside0.mk (Below.refl w.heap.size w)
 unfold decimal_Sub.f at h
 have H := h
 clear h
 replace H := Option.bind_eq_some_iff.mp H
 obtain ⟨t542, A30, H⟩ := H
 try dsimp only at H
 have A3 := Aside0.mk A30
 clear A30
 by_cases c4 : t542 = 0
 ·rw [if_pos c4] at H
  have c4b0 : (t542 == 0) = true := beq_iff_eq.mpr c4
  have c4b1 : (t542 != 0) = false := bne_eq_false_iff_eq.mpr c4
  clear c4
  replace H := Option.bind_eq_some_iff.mp H
  obtain ⟨⟨t543, t544, t545, t546⟩, A50, H⟩ := H
  try dsimp only at H
  have A5 := Aside0.mk A50
  clear A50
  simp only [Option.some.injEq, Prod.mk.injEq] at H
  obtain ⟨rfl, rfl, rfl, rfl⟩ := H
  go_enter Tryd.func29, Tryd.ntmps29
  go_wp2_with (first | ((with_reducible refine gate_dst (N := 2) rfl ?_); refine box_event ?hg (N := 2) ?hd (cs := #[.bool a0_0, .string a0_1, .string a0_2]) (t := 23) ?hr ?_; (case hd => rfl); (case hg => rfl); (case hr => first | (go_simp; done) | (go_simp; rfl)); intro gb539 hg w6 hbox hb; have n0_ := Aside0.mk (below_step HB.out hb); have n1_ := Aside0.mk (hbox); have n2_ := Aside0.mk ((by rw [hg]; exact (below_size HB.out) : w.heap.size ≤ gb539)); have n3_ := Aside0.mk ((by rw [hg]; exact (below_size HB.out) : w.heap.size ≤ gb539)); clear HB; have HB := n0_; have BK539 := n1_; have GW539 := n2_; have GE539 := n3_; clear n0_ n1_ n2_ n3_; clear hb hbox hg) | ((with_reducible refine gate_dst (N := 3) rfl ?_); refine box_event ?hg (N := 3) ?hd (cs := #[.bool a1_0, .string a1_1, .string a1_2]) (t := 23) ?hr ?_; (case hd => rfl); (case hg => rfl); (case hr => first | (go_simp; done) | (go_simp; rfl)); intro gb540 hg w7 hbox hb; have n0_ := Aside0.mk (blk_below (g := gb539) (o := .cells #[.bool a0_0, .string a0_1, .string a0_2] 23 (0, 0)) BK539.out hb); have n1_ := Aside0.mk (below_step HB.out hb); have n2_ := Aside0.mk (hbox); have n3_ := Aside0.mk ((by rw [hg]; exact (below_size HB.out) : w.heap.size ≤ gb540)); have n4_ := Aside0.mk ((by rw [hg]; exact (below_size HB.out) : w.heap.size ≤ gb540)); have n5_ := Aside0.mk ((by rw [hg]; exact Nat.ne_of_lt (blk_lt (g := gb539) (o := .cells #[.bool a0_0, .string a0_1, .string a0_2] 23 (0, 0)) BK539.out) : gb539 ≠ gb540)); have n6_ := Aside0.mk ((by rw [hg]; exact Nat.ne_of_gt (blk_lt (g := gb539) (o := .cells #[.bool a0_0, .string a0_1, .string a0_2] 23 (0, 0)) BK539.out) : gb540 ≠ gb539)); clear BK539; clear HB; have BK539 := n0_; have HB := n1_; have BK540 := n2_; have GW540 := n3_; have GE540 := n4_; have NB539_540 := n5_; have NB540_539 := n6_; clear n0_ n1_ n2_ n3_ n4_ n5_ n6_; clear hb hbox hg) | ((with_reducible refine gate_dst (N := 4) rfl ?_); refine box_event ?hg (N := 4) ?hd (cs := #[.bool false, .string (⟨#[]⟩ : ByteArray), .string (⟨#[]⟩ : ByteArray)]) (t := 23) ?hr ?_; (case hd => rfl); (case hg => rfl); (case hr => first | (go_simp; done) | (go_simp; rfl)); intro gb541 hg w8 hbox hb; have n0_ := Aside0.mk (blk_below (g := gb539) (o := .cells #[.bool a0_0, .string a0_1, .string a0_2] 23 (0, 0)) BK539.out hb); have n1_ := Aside0.mk (blk_below (g := gb540) (o := .cells #[.bool a1_0, .string a1_1, .string a1_2] 23 (0, 0)) BK540.out hb); have n2_ := Aside0.mk (below_step HB.out hb); have n3_ := Aside0.mk (hbox); have n4_ := Aside0.mk ((by rw [hg]; exact (below_size HB.out) : w.heap.size ≤ gb541)); have n5_ := Aside0.mk ((by rw [hg]; exact (below_size HB.out) : w.heap.size ≤ gb541)); have n6_ := Aside0.mk ((by rw [hg]; exact Nat.ne_of_lt (blk_lt (g := gb539) (o := .cells #[.bool a0_0, .string a0_1, .string a0_2] 23 (0, 0)) BK539.out) : gb539 ≠ gb541)); have n7_ := Aside0.mk ((by rw [hg]; exact Nat.ne_of_gt (blk_lt (g := gb539) (o := .cells #[.bool a0_0, .string a0_1, .string a0_2] 23 (0, 0)) BK539.out) : gb541 ≠ gb539)); have n8_ := Aside0.mk ((by rw [hg]; exact Nat.ne_of_lt (blk_lt (g := gb540) (o := .cells #[.bool a1_0, .string a1_1, .string a1_2] 23 (0, 0)) BK540.out) : gb540 ≠ gb541)); have n9_ := Aside0.mk ((by rw [hg]; exact Nat.ne_of_gt (blk_lt (g := gb540) (o := .cells #[.bool a1_0, .string a1_1, .string a1_2] 23 (0, 0)) BK540.out) : gb541 ≠ gb540)); clear BK539; clear BK540; clear HB; have BK539 := n0_; have BK540 := n1_; have HB := n2_; have BK541 := n3_; have GW541 := n4_; have GE541 := n5_; have NB539_541 := n6_; have NB541_539 := n7_; have NB540_541 := n8_; have NB541_540 := n9_; clear n0_ n1_ n2_ n3_ n4_ n5_ n6_ n7_ n8_ n9_; clear hb hbox hg; have hnb9 := NB539_540.out; have hnc9 := NB540_539.out; have hnb10 := NB539_541.out; have hnc10 := NB541_539.out; have hcz11_0 : w8.cell? ⟨gb539, 0, none⟩ = some (.bool a0_0) := (blk_cell BK539.out 0).trans rfl; have hcz11_1 : w8.cell? ⟨gb539, 1, none⟩ = some (.string a0_1) := (blk_cell BK539.out 1).trans rfl; have hcz11_2 : w8.cell? ⟨gb539, 2, none⟩ = some (.string a0_2) := (blk_cell BK539.out 2).trans rfl; have hfz11_0 := blk_frozen BK539.out 0; have hfz11_1 := blk_frozen BK539.out 1; have hfz11_2 := blk_frozen BK539.out 2; have hnb12 := NB540_541.out; have hnc12 := NB541_540.out; have hcz13_0 : w8.cell? ⟨gb540, 0, none⟩ = some (.bool a1_0) := (blk_cell BK540.out 0).trans rfl; have hcz13_1 : w8.cell? ⟨gb540, 1, none⟩ = some (.string a1_1) := (blk_cell BK540.out 1).trans rfl; have hcz13_2 : w8.cell? ⟨gb540, 2, none⟩ = some (.string a1_2) := (blk_cell BK540.out 2).trans rfl; have hfz13_0 := blk_frozen BK540.out 0; have hfz13_1 := blk_frozen BK540.out 1; have hfz13_2 := blk_frozen BK540.out 2) | ((with_reducible refine gate_callee (f := 58) rfl ?_); refine goesL_ (some 9) rfl rfl Tryd.func58 (by kernel_rfl) rfl #[.agg #[.bool a0_0, .string a0_1, .string a0_2], .agg #[.bool a1_0, .string a1_1, .string a1_2]] rfl (by (try simp only [List.map_toArray, List.map_cons, List.map_nil]); first | done | rfl | (simp only [List.length_drop, List.length_take]; rfl)) ?_; (with_reducible refine (decimal_both.calls k a0_0 a0_1 a0_2 a1_0 a1_1 a1_2 t542 _ A3.out).mono ?_); rintro e w14 ⟨rfl, hb⟩; refine ⟨_, rfl, ?_⟩; have n0_ := Aside0.mk (blk_below (g := gb539) (o := .cells #[.bool a0_0, .string a0_1, .string a0_2] 23 (0, 0)) BK539.out hb); have n1_ := Aside0.mk (blk_below (g := gb540) (o := .cells #[.bool a1_0, .string a1_1, .string a1_2] 23 (0, 0)) BK540.out hb); have n2_ := Aside0.mk (blk_below (g := gb541) (o := .cells #[.bool false, .string (⟨#[]⟩ : ByteArray), .string (⟨#[]⟩ : ByteArray)] 23 (0, 0)) BK541.out hb); have n3_ := Aside0.mk (below_step HB.out hb); clear BK539; clear BK540; clear BK541; clear HB; have BK539 := n0_; have BK540 := n1_; have BK541 := n2_; have HB := n3_; clear n0_ n1_ n2_ n3_; have hcz15_0 : w14.cell? ⟨gb539, 0, none⟩ = some (.bool a0_0) := (blk_cell BK539.out 0).trans rfl; have hcz15_1 : w14.cell? ⟨gb539, 1, none⟩ = some (.string a0_1) := (blk_cell BK539.out 1).trans rfl; have hcz15_2 : w14.cell? ⟨gb539, 2, none⟩ = some (.string a0_2) := (blk_cell BK539.out 2).trans rfl; have hfz15_0 := blk_frozen BK539.out 0; have hfz15_1 := blk_frozen BK539.out 1; have hfz15_2 := blk_frozen BK539.out 2; have hcz16_0 : w14.cell? ⟨gb540, 0, none⟩ = some (.bool a1_0) := (blk_cell BK540.out 0).trans rfl; have hcz16_1 : w14.cell? ⟨gb540, 1, none⟩ = some (.string a1_1) := (blk_cell BK540.out 1).trans rfl; have hcz16_2 : w14.cell? ⟨gb540, 2, none⟩ = some (.string a1_2) := (blk_cell BK540.out 2).trans rfl; have hfz16_0 := blk_frozen BK540.out 0; have hfz16_1 := blk_frozen BK540.out 1; have hfz16_2 := blk_frozen BK540.out 2) | ((with_reducible refine gate_callee (f := 61) rfl ?_); refine goesL_ (some 19) rfl rfl Tryd.func61 (by kernel_rfl) rfl #[.agg #[.bool a0_0, .string a0_1, .string a0_2], .agg #[.bool a1_0, .string a1_1, .string a1_2], .bool (!a1_0)] rfl (by (try simp only [List.map_toArray, List.map_cons, List.map_nil]); first | done | rfl | (simp only [List.length_drop, List.length_take]; rfl)) ?_; (with_reducible refine (decimal_sum.calls k a0_0 a0_1 a0_2 a1_0 a1_1 a1_2 (!a1_0) t543 t544 t545 t546 _ A5.out).mono ?_); rintro e w17 ⟨rfl, hb⟩; refine ⟨_, rfl, ?_⟩; have n0_ := Aside0.mk (blk_below (g := gb539) (o := .cells #[.bool a0_0, .string a0_1, .string a0_2] 23 (0, 0)) BK539.out hb); have n1_ := Aside0.mk (blk_below (g := gb540) (o := .cells #[.bool a1_0, .string a1_1, .string a1_2] 23 (0, 0)) BK540.out hb); have n2_ := Aside0.mk (blk_below (g := gb541) (o := .cells #[.bool false, .string (⟨#[]⟩ : ByteArray), .string (⟨#[]⟩ : ByteArray)] 23 (0, 0)) BK541.out hb); have n3_ := Aside0.mk (below_step HB.out hb); clear BK539; clear BK540; clear BK541; clear HB; have BK539 := n0_; have BK540 := n1_; have BK541 := n2_; have HB := n3_; clear n0_ n1_ n2_ n3_; have hcz18_0 : w17.cell? ⟨gb541, 0, none⟩ = some (.bool false) := (blk_cell BK541.out 0).trans rfl; have hcz18_1 : w17.cell? ⟨gb541, 1, none⟩ = some (.string (⟨#[]⟩ : ByteArray)) := (blk_cell BK541.out 1).trans rfl; have hcz18_2 : w17.cell? ⟨gb541, 2, none⟩ = some (.string (⟨#[]⟩ : ByteArray)) := (blk_cell BK541.out 2).trans rfl; have hfz18_0 := blk_frozen BK541.out 0; have hfz18_1 := blk_frozen BK541.out 1; have hfz18_2 := blk_frozen BK541.out 2))
  refine bodyPost_ret (results_ct rfl _ _ gb541 23 #[.bool t543, .string t544, .string t545] (0, 0) _ rfl (by refine blk_put (cs := #[.bool t543, .string t544, .string (⟨#[]⟩ : ByteArray)]) ?_ 2 _ rfl; refine blk_put (cs := #[.bool t543, .string (⟨#[]⟩ : ByteArray), .string (⟨#[]⟩ : ByteArray)]) ?_ 1 _ rfl; refine blk_put (cs := #[.bool false, .string (⟨#[]⟩ : ByteArray), .string (⟨#[]⟩ : ByteArray)]) ?_ 0 _ rfl; exact BK541.out) Tryd.underlying23 rfl (by kernel_rfl)) rfl ?_
  exact ⟨by first | rfl | (simp [errW_none, errW_some] <;> rfl) | (simp [*, errW_none, errW_some] <;> rfl) | (simp [bne_nil_]; done), by repeat (first | (with_reducible first | exact HB.out | apply below_alloc | apply pw_below_drewN | apply below_drew1 | refine below_set ?_ GE539.out | refine below_set ?_ GE540.out | refine below_set ?_ GE541.out) | exact HB.out)⟩
 ·rw [if_neg c4] at H
  have c4b0 : (t542 == 0) = false := beq_eq_false_iff_ne.mpr c4
  have c4b1 : (t542 != 0) = true := bne_iff_ne.mpr c4
  simp only [Option.some.injEq, Prod.mk.injEq] at H
  obtain ⟨rfl, rfl, rfl, rfl⟩ := H
  go_enter Tryd.func29, Tryd.ntmps29
  go_wp2_with (first | ((with_reducible refine gate_dst (N := 2) rfl ?_); refine box_event ?hg (N := 2) ?hd (cs := #[.bool a0_0, .string a0_1, .string a0_2]) (t := 23) ?hr ?_; (case hd => rfl); (case hg => rfl); (case hr => first | (go_simp; done) | (go_simp; rfl)); intro gb539 hg w19 hbox hb; have n0_ := Aside0.mk (below_step HB.out hb); have n1_ := Aside0.mk (hbox); have n2_ := Aside0.mk ((by rw [hg]; exact (below_size HB.out) : w.heap.size ≤ gb539)); have n3_ := Aside0.mk ((by rw [hg]; exact (below_size HB.out) : w.heap.size ≤ gb539)); clear HB; have HB := n0_; have BK539 := n1_; have GW539 := n2_; have GE539 := n3_; clear n0_ n1_ n2_ n3_; clear hb hbox hg) | ((with_reducible refine gate_dst (N := 3) rfl ?_); refine box_event ?hg (N := 3) ?hd (cs := #[.bool a1_0, .string a1_1, .string a1_2]) (t := 23) ?hr ?_; (case hd => rfl); (case hg => rfl); (case hr => first | (go_simp; done) | (go_simp; rfl)); intro gb540 hg w20 hbox hb; have n0_ := Aside0.mk (blk_below (g := gb539) (o := .cells #[.bool a0_0, .string a0_1, .string a0_2] 23 (0, 0)) BK539.out hb); have n1_ := Aside0.mk (below_step HB.out hb); have n2_ := Aside0.mk (hbox); have n3_ := Aside0.mk ((by rw [hg]; exact (below_size HB.out) : w.heap.size ≤ gb540)); have n4_ := Aside0.mk ((by rw [hg]; exact (below_size HB.out) : w.heap.size ≤ gb540)); have n5_ := Aside0.mk ((by rw [hg]; exact Nat.ne_of_lt (blk_lt (g := gb539) (o := .cells #[.bool a0_0, .string a0_1, .string a0_2] 23 (0, 0)) BK539.out) : gb539 ≠ gb540)); have n6_ := Aside0.mk ((by rw [hg]; exact Nat.ne_of_gt (blk_lt (g := gb539) (o := .cells #[.bool a0_0, .string a0_1, .string a0_2] 23 (0, 0)) BK539.out) : gb540 ≠ gb539)); clear BK539; clear HB; have BK539 := n0_; have HB := n1_; have BK540 := n2_; have GW540 := n3_; have GE540 := n4_; have NB539_540 := n5_; have NB540_539 := n6_; clear n0_ n1_ n2_ n3_ n4_ n5_ n6_; clear hb hbox hg) | ((with_reducible refine gate_dst (N := 4) rfl ?_); refine box_event ?hg (N := 4) ?hd (cs := #[.bool false, .string (⟨#[]⟩ : ByteArray), .string (⟨#[]⟩ : ByteArray)]) (t := 23) ?hr ?_; (case hd => rfl); (case hg => rfl); (case hr => first | (go_simp; done) | (go_simp; rfl)); intro gb541 hg w21 hbox hb; have n0_ := Aside0.mk (blk_below (g := gb539) (o := .cells #[.bool a0_0, .string a0_1, .string a0_2] 23 (0, 0)) BK539.out hb); have n1_ := Aside0.mk (blk_below (g := gb540) (o := .cells #[.bool a1_0, .string a1_1, .string a1_2] 23 (0, 0)) BK540.out hb); have n2_ := Aside0.mk (below_step HB.out hb); have n3_ := Aside0.mk (hbox); have n4_ := Aside0.mk ((by rw [hg]; exact (below_size HB.out) : w.heap.size ≤ gb541)); have n5_ := Aside0.mk ((by rw [hg]; exact (below_size HB.out) : w.heap.size ≤ gb541)); have n6_ := Aside0.mk ((by rw [hg]; exact Nat.ne_of_lt (blk_lt (g := gb539) (o := .cells #[.bool a0_0, .string a0_1, .string a0_2] 23 (0, 0)) BK539.out) : gb539 ≠ gb541)); have n7_ := Aside0.mk ((by rw [hg]; exact Nat.ne_of_gt (blk_lt (g := gb539) (o := .cells #[.bool a0_0, .string a0_1, .string a0_2] 23 (0, 0)) BK539.out) : gb541 ≠ gb539)); have n8_ := Aside0.mk ((by rw [hg]; exact Nat.ne_of_lt (blk_lt (g := gb540) (o := .cells #[.bool a1_0, .string a1_1, .string a1_2] 23 (0, 0)) BK540.out) : gb540 ≠ gb541)); have n9_ := Aside0.mk ((by rw [hg]; exact Nat.ne_of_gt (blk_lt (g := gb540) (o := .cells #[.bool a1_0, .string a1_1, .string a1_2] 23 (0, 0)) BK540.out) : gb541 ≠ gb540)); clear BK539; clear BK540; clear HB; have BK539 := n0_; have BK540 := n1_; have HB := n2_; have BK541 := n3_; have GW541 := n4_; have GE541 := n5_; have NB539_541 := n6_; have NB541_539 := n7_; have NB540_541 := n8_; have NB541_540 := n9_; clear n0_ n1_ n2_ n3_ n4_ n5_ n6_ n7_ n8_ n9_; clear hb hbox hg; have hnb22 := NB539_540.out; have hnc22 := NB540_539.out; have hnb23 := NB539_541.out; have hnc23 := NB541_539.out; have hcz24_0 : w21.cell? ⟨gb539, 0, none⟩ = some (.bool a0_0) := (blk_cell BK539.out 0).trans rfl; have hcz24_1 : w21.cell? ⟨gb539, 1, none⟩ = some (.string a0_1) := (blk_cell BK539.out 1).trans rfl; have hcz24_2 : w21.cell? ⟨gb539, 2, none⟩ = some (.string a0_2) := (blk_cell BK539.out 2).trans rfl; have hfz24_0 := blk_frozen BK539.out 0; have hfz24_1 := blk_frozen BK539.out 1; have hfz24_2 := blk_frozen BK539.out 2; have hnb25 := NB540_541.out; have hnc25 := NB541_540.out; have hcz26_0 : w21.cell? ⟨gb540, 0, none⟩ = some (.bool a1_0) := (blk_cell BK540.out 0).trans rfl; have hcz26_1 : w21.cell? ⟨gb540, 1, none⟩ = some (.string a1_1) := (blk_cell BK540.out 1).trans rfl; have hcz26_2 : w21.cell? ⟨gb540, 2, none⟩ = some (.string a1_2) := (blk_cell BK540.out 2).trans rfl; have hfz26_0 := blk_frozen BK540.out 0; have hfz26_1 := blk_frozen BK540.out 1; have hfz26_2 := blk_frozen BK540.out 2) | ((with_reducible refine gate_callee (f := 58) rfl ?_); refine goesL_ (some 9) rfl rfl Tryd.func58 (by kernel_rfl) rfl #[.agg #[.bool a0_0, .string a0_1, .string a0_2], .agg #[.bool a1_0, .string a1_1, .string a1_2]] rfl (by (try simp only [List.map_toArray, List.map_cons, List.map_nil]); first | done | rfl | (simp only [List.length_drop, List.length_take]; rfl)) ?_; (with_reducible refine (decimal_both.calls k a0_0 a0_1 a0_2 a1_0 a1_1 a1_2 t542 _ A3.out).mono ?_); rintro e w27 ⟨rfl, hb⟩; refine ⟨_, rfl, ?_⟩; have n0_ := Aside0.mk (blk_below (g := gb539) (o := .cells #[.bool a0_0, .string a0_1, .string a0_2] 23 (0, 0)) BK539.out hb); have n1_ := Aside0.mk (blk_below (g := gb540) (o := .cells #[.bool a1_0, .string a1_1, .string a1_2] 23 (0, 0)) BK540.out hb); have n2_ := Aside0.mk (blk_below (g := gb541) (o := .cells #[.bool false, .string (⟨#[]⟩ : ByteArray), .string (⟨#[]⟩ : ByteArray)] 23 (0, 0)) BK541.out hb); have n3_ := Aside0.mk (below_step HB.out hb); clear BK539; clear BK540; clear BK541; clear HB; have BK539 := n0_; have BK540 := n1_; have BK541 := n2_; have HB := n3_; clear n0_ n1_ n2_ n3_; have hcz28_0 : w27.cell? ⟨gb541, 0, none⟩ = some (.bool false) := (blk_cell BK541.out 0).trans rfl; have hcz28_1 : w27.cell? ⟨gb541, 1, none⟩ = some (.string (⟨#[]⟩ : ByteArray)) := (blk_cell BK541.out 1).trans rfl; have hcz28_2 : w27.cell? ⟨gb541, 2, none⟩ = some (.string (⟨#[]⟩ : ByteArray)) := (blk_cell BK541.out 2).trans rfl; have hfz28_0 := blk_frozen BK541.out 0; have hfz28_1 := blk_frozen BK541.out 1; have hfz28_2 := blk_frozen BK541.out 2))
  refine bodyPost_ret (results_ct rfl _ _ gb541 23 #[.bool false, .string (⟨#[]⟩ : ByteArray), .string (⟨#[]⟩ : ByteArray)] (0, 0) _ rfl (by refine blk_put (cs := #[.bool false, .string (⟨#[]⟩ : ByteArray), .string (⟨#[]⟩ : ByteArray)]) ?_ 2 _ rfl; refine blk_put (cs := #[.bool false, .string (⟨#[]⟩ : ByteArray), .string (⟨#[]⟩ : ByteArray)]) ?_ 1 _ rfl; refine blk_put (cs := #[.bool false, .string (⟨#[]⟩ : ByteArray), .string (⟨#[]⟩ : ByteArray)]) ?_ 0 _ rfl; exact BK541.out) Tryd.underlying23 rfl (by kernel_rfl)) rfl ?_
  exact ⟨by first | rfl | (simp [errW_none, errW_some] <;> rfl) | (simp [*, errW_none, errW_some] <;> rfl) | (simp [bne_nil_]; done), by repeat (first | (with_reducible first | exact HB.out | apply below_alloc | apply pw_below_drewN | apply below_drew1 | refine below_set ?_ GE539.out | refine below_set ?_ GE540.out | refine below_set ?_ GE541.out) | exact HB.out)⟩
end Go.Proofs.YtapbdblpdkoacaaDoor.P
namespace Go.Proofs.YtapbdblpdkoacaaDoor.P
open Go.RowKit Go.Proofs.YtapbdblpdkoacaaDoorW.PrintWords Go.Proofs.YtapbdblpdkoacaaDoorW.PrintLast Go.Proofs.YtapbdblpdkoacaaDoorW.PrintMore
attribute [local go_sem] max2_int max_two
set_option linter.unusedVariables false
set_option linter.unusedSimpArgs false
def decimal_Trim.f (k : Nat) (a0_0 : Bool) (a0_1 : ByteArray) (a0_2 : ByteArray) : Option (Bool × ByteArray × ByteArray × Int) := (decimal_Check.f k a0_0 a0_1 a0_2).bind fun t550 => (if t550 = 0 then ((strings_TrimRight.f k a0_2 (⟨#[48]⟩ : ByteArray)).bind fun t551 => (some (a0_0, a0_1, t551, 0))) else (some (false, (⟨#[]⟩ : ByteArray), (⟨#[]⟩ : ByteArray), t550)))
set_option maxHeartbeats 8000000 in
set_option maxRecDepth 100000 in
theorem decimal_Trim.calls (k : Nat) (a0_0 : Bool) (a0_1 : ByteArray) (a0_2 : ByteArray) (r1 : Bool) (r2 : ByteArray) (r3 : ByteArray) (r4 : Int) (w : World) (h : decimal_Trim.f k a0_0 a0_1 a0_2 = some (r1, r2, r3, r4)) :
    Calls Tryd.prog 30 #[.agg #[.bool a0_0, .string a0_1, .string a0_2]] w fun e w' => e = .returned (.tuple #[.agg #[.bool r1, .string r2, .string r3], .int .i64 r4]) ∧ Below w.heap.size w w' := by
 have hu23 := Tryd.underlying23
 have HB := Aside0.mk (Below.refl w.heap.size w)
 unfold decimal_Trim.f at h
 have H := h
 clear h
 replace H := Option.bind_eq_some_iff.mp H
 obtain ⟨t550, A20, H⟩ := H
 try dsimp only at H
 have A2 := Aside0.mk A20
 clear A20
 by_cases c3 : t550 = 0
 ·rw [if_pos c3] at H
  have c3b0 : (t550 == 0) = true := beq_iff_eq.mpr c3
  have c3b1 : (t550 != 0) = false := bne_eq_false_iff_eq.mpr c3
  clear c3
  replace H := Option.bind_eq_some_iff.mp H
  obtain ⟨t551, A40, H⟩ := H
  try dsimp only at H
  have A4 := Aside0.mk A40
  clear A40
  simp only [Option.some.injEq, Prod.mk.injEq] at H
  obtain ⟨rfl, rfl, rfl, rfl⟩ := H
  go_enter Tryd.func30, Tryd.ntmps30
  go_wp2_with (first | ((with_reducible refine gate_dst (N := 1) rfl ?_); refine box_event ?hg (N := 1) ?hd (cs := #[.bool a0_0, .string a0_1, .string a0_2]) (t := 23) ?hr ?_; (case hd => rfl); (case hg => rfl); (case hr => first | (go_simp; done) | (go_simp; rfl)); intro gb548 hg w5 hbox hb; have n0_ := Aside0.mk (below_step HB.out hb); have n1_ := Aside0.mk (hbox); have n2_ := Aside0.mk ((by rw [hg]; exact (below_size HB.out) : w.heap.size ≤ gb548)); have n3_ := Aside0.mk ((by rw [hg]; exact (below_size HB.out) : w.heap.size ≤ gb548)); clear HB; have HB := n0_; have BK548 := n1_; have GW548 := n2_; have GE548 := n3_; clear n0_ n1_ n2_ n3_; clear hb hbox hg) | ((with_reducible refine gate_dst (N := 2) rfl ?_); refine box_event ?hg (N := 2) ?hd (cs := #[.bool false, .string (⟨#[]⟩ : ByteArray), .string (⟨#[]⟩ : ByteArray)]) (t := 23) ?hr ?_; (case hd => rfl); (case hg => rfl); (case hr => first | (go_simp; done) | (go_simp; rfl)); intro gb549 hg w6 hbox hb; have n0_ := Aside0.mk (blk_below (g := gb548) (o := .cells #[.bool a0_0, .string a0_1, .string a0_2] 23 (0, 0)) BK548.out hb); have n1_ := Aside0.mk (below_step HB.out hb); have n2_ := Aside0.mk (hbox); have n3_ := Aside0.mk ((by rw [hg]; exact (below_size HB.out) : w.heap.size ≤ gb549)); have n4_ := Aside0.mk ((by rw [hg]; exact (below_size HB.out) : w.heap.size ≤ gb549)); have n5_ := Aside0.mk ((by rw [hg]; exact Nat.ne_of_lt (blk_lt (g := gb548) (o := .cells #[.bool a0_0, .string a0_1, .string a0_2] 23 (0, 0)) BK548.out) : gb548 ≠ gb549)); have n6_ := Aside0.mk ((by rw [hg]; exact Nat.ne_of_gt (blk_lt (g := gb548) (o := .cells #[.bool a0_0, .string a0_1, .string a0_2] 23 (0, 0)) BK548.out) : gb549 ≠ gb548)); clear BK548; clear HB; have BK548 := n0_; have HB := n1_; have BK549 := n2_; have GW549 := n3_; have GE549 := n4_; have NB548_549 := n5_; have NB549_548 := n6_; clear n0_ n1_ n2_ n3_ n4_ n5_ n6_; clear hb hbox hg; have hnb7 := NB548_549.out; have hnc7 := NB549_548.out; have hcz8_0 : w6.cell? ⟨gb548, 0, none⟩ = some (.bool a0_0) := (blk_cell BK548.out 0).trans rfl; have hcz8_1 : w6.cell? ⟨gb548, 1, none⟩ = some (.string a0_1) := (blk_cell BK548.out 1).trans rfl; have hcz8_2 : w6.cell? ⟨gb548, 2, none⟩ = some (.string a0_2) := (blk_cell BK548.out 2).trans rfl; have hfz8_0 := blk_frozen BK548.out 0; have hfz8_1 := blk_frozen BK548.out 1; have hfz8_2 := blk_frozen BK548.out 2) | ((with_reducible refine gate_callee (f := 17) rfl ?_); refine goesL_ (some 6) rfl rfl Tryd.func17 (by kernel_rfl) rfl #[.agg #[.bool a0_0, .string a0_1, .string a0_2]] rfl (by (try simp only [List.map_toArray, List.map_cons, List.map_nil]); first | done | rfl | (simp only [List.length_drop, List.length_take]; rfl)) ?_; (with_reducible refine (decimal_Check.calls k a0_0 a0_1 a0_2 t550 _ A2.out).mono ?_); rintro e w9 ⟨rfl, hb⟩; refine ⟨_, rfl, ?_⟩; have n0_ := Aside0.mk (blk_below (g := gb548) (o := .cells #[.bool a0_0, .string a0_1, .string a0_2] 23 (0, 0)) BK548.out hb); have n1_ := Aside0.mk (blk_below (g := gb549) (o := .cells #[.bool false, .string (⟨#[]⟩ : ByteArray), .string (⟨#[]⟩ : ByteArray)] 23 (0, 0)) BK549.out hb); have n2_ := Aside0.mk (below_step HB.out hb); clear BK548; clear BK549; clear HB; have BK548 := n0_; have BK549 := n1_; have HB := n2_; clear n0_ n1_ n2_; have hcz10_0 : w9.cell? ⟨gb548, 0, none⟩ = some (.bool a0_0) := (blk_cell BK548.out 0).trans rfl; have hcz10_1 : w9.cell? ⟨gb548, 1, none⟩ = some (.string a0_1) := (blk_cell BK548.out 1).trans rfl; have hcz10_2 : w9.cell? ⟨gb548, 2, none⟩ = some (.string a0_2) := (blk_cell BK548.out 2).trans rfl; have hfz10_0 := blk_frozen BK548.out 0; have hfz10_1 := blk_frozen BK548.out 1; have hfz10_2 := blk_frozen BK548.out 2) | ((with_reducible refine gate_callee (f := 62) rfl ?_); refine goesL_ (some 13) rfl rfl Tryd.func62 (by kernel_rfl) rfl #[.string a0_2, .string (⟨#[48]⟩ : ByteArray)] rfl (by (try simp only [List.map_toArray, List.map_cons, List.map_nil]); first | done | rfl | (simp only [List.length_drop, List.length_take]; rfl)) ?_; (with_reducible refine (strings_TrimRight.calls k a0_2 (⟨#[48]⟩ : ByteArray) t551 _ A4.out).mono ?_); rintro e w11 ⟨rfl, hb⟩; refine ⟨_, rfl, ?_⟩; have n0_ := Aside0.mk (blk_below (g := gb548) (o := .cells #[.bool a0_0, .string a0_1, .string a0_2] 23 (0, 0)) BK548.out hb); have n1_ := Aside0.mk (blk_below (g := gb549) (o := .cells #[.bool false, .string (⟨#[]⟩ : ByteArray), .string (⟨#[]⟩ : ByteArray)] 23 (0, 0)) BK549.out hb); have n2_ := Aside0.mk (below_step HB.out hb); clear BK548; clear BK549; clear HB; have BK548 := n0_; have BK549 := n1_; have HB := n2_; clear n0_ n1_ n2_; have hcz12_0 : w11.cell? ⟨gb548, 0, none⟩ = some (.bool a0_0) := (blk_cell BK548.out 0).trans rfl; have hcz12_1 : w11.cell? ⟨gb548, 1, none⟩ = some (.string a0_1) := (blk_cell BK548.out 1).trans rfl; have hcz12_2 : w11.cell? ⟨gb548, 2, none⟩ = some (.string a0_2) := (blk_cell BK548.out 2).trans rfl; have hfz12_0 := blk_frozen BK548.out 0; have hfz12_1 := blk_frozen BK548.out 1; have hfz12_2 := blk_frozen BK548.out 2; have hcz13_0 : w11.cell? ⟨gb549, 0, none⟩ = some (.bool false) := (blk_cell BK549.out 0).trans rfl; have hcz13_1 : w11.cell? ⟨gb549, 1, none⟩ = some (.string (⟨#[]⟩ : ByteArray)) := (blk_cell BK549.out 1).trans rfl; have hcz13_2 : w11.cell? ⟨gb549, 2, none⟩ = some (.string (⟨#[]⟩ : ByteArray)) := (blk_cell BK549.out 2).trans rfl; have hfz13_0 := blk_frozen BK549.out 0; have hfz13_1 := blk_frozen BK549.out 1; have hfz13_2 := blk_frozen BK549.out 2))
  refine bodyPost_ret (results_ct rfl _ _ gb549 23 #[.bool a0_0, .string a0_1, .string t551] (0, 0) _ rfl (by refine blk_put (cs := #[.bool a0_0, .string a0_1, .string (⟨#[]⟩ : ByteArray)]) ?_ 2 _ rfl; refine blk_put (cs := #[.bool a0_0, .string (⟨#[]⟩ : ByteArray), .string (⟨#[]⟩ : ByteArray)]) ?_ 1 _ rfl; refine blk_put (cs := #[.bool false, .string (⟨#[]⟩ : ByteArray), .string (⟨#[]⟩ : ByteArray)]) ?_ 0 _ rfl; refine blk_far ?_ NB549_548.out _; exact BK549.out) Tryd.underlying23 rfl (by kernel_rfl)) rfl ?_
  exact ⟨by first | rfl | (simp [errW_none, errW_some] <;> rfl) | (simp [*, errW_none, errW_some] <;> rfl) | (simp [bne_nil_]; done), by repeat (first | (with_reducible first | exact HB.out | apply below_alloc | apply pw_below_drewN | apply below_drew1 | refine below_set ?_ GE548.out | refine below_set ?_ GE549.out) | exact HB.out)⟩
 ·rw [if_neg c3] at H
  have c3b0 : (t550 == 0) = false := beq_eq_false_iff_ne.mpr c3
  have c3b1 : (t550 != 0) = true := bne_iff_ne.mpr c3
  simp only [Option.some.injEq, Prod.mk.injEq] at H
  obtain ⟨rfl, rfl, rfl, rfl⟩ := H
  go_enter Tryd.func30, Tryd.ntmps30
  go_wp2_with (first | ((with_reducible refine gate_dst (N := 1) rfl ?_); refine box_event ?hg (N := 1) ?hd (cs := #[.bool a0_0, .string a0_1, .string a0_2]) (t := 23) ?hr ?_; (case hd => rfl); (case hg => rfl); (case hr => first | (go_simp; done) | (go_simp; rfl)); intro gb548 hg w14 hbox hb; have n0_ := Aside0.mk (below_step HB.out hb); have n1_ := Aside0.mk (hbox); have n2_ := Aside0.mk ((by rw [hg]; exact (below_size HB.out) : w.heap.size ≤ gb548)); have n3_ := Aside0.mk ((by rw [hg]; exact (below_size HB.out) : w.heap.size ≤ gb548)); clear HB; have HB := n0_; have BK548 := n1_; have GW548 := n2_; have GE548 := n3_; clear n0_ n1_ n2_ n3_; clear hb hbox hg) | ((with_reducible refine gate_dst (N := 2) rfl ?_); refine box_event ?hg (N := 2) ?hd (cs := #[.bool false, .string (⟨#[]⟩ : ByteArray), .string (⟨#[]⟩ : ByteArray)]) (t := 23) ?hr ?_; (case hd => rfl); (case hg => rfl); (case hr => first | (go_simp; done) | (go_simp; rfl)); intro gb549 hg w15 hbox hb; have n0_ := Aside0.mk (blk_below (g := gb548) (o := .cells #[.bool a0_0, .string a0_1, .string a0_2] 23 (0, 0)) BK548.out hb); have n1_ := Aside0.mk (below_step HB.out hb); have n2_ := Aside0.mk (hbox); have n3_ := Aside0.mk ((by rw [hg]; exact (below_size HB.out) : w.heap.size ≤ gb549)); have n4_ := Aside0.mk ((by rw [hg]; exact (below_size HB.out) : w.heap.size ≤ gb549)); have n5_ := Aside0.mk ((by rw [hg]; exact Nat.ne_of_lt (blk_lt (g := gb548) (o := .cells #[.bool a0_0, .string a0_1, .string a0_2] 23 (0, 0)) BK548.out) : gb548 ≠ gb549)); have n6_ := Aside0.mk ((by rw [hg]; exact Nat.ne_of_gt (blk_lt (g := gb548) (o := .cells #[.bool a0_0, .string a0_1, .string a0_2] 23 (0, 0)) BK548.out) : gb549 ≠ gb548)); clear BK548; clear HB; have BK548 := n0_; have HB := n1_; have BK549 := n2_; have GW549 := n3_; have GE549 := n4_; have NB548_549 := n5_; have NB549_548 := n6_; clear n0_ n1_ n2_ n3_ n4_ n5_ n6_; clear hb hbox hg; have hnb16 := NB548_549.out; have hnc16 := NB549_548.out; have hcz17_0 : w15.cell? ⟨gb548, 0, none⟩ = some (.bool a0_0) := (blk_cell BK548.out 0).trans rfl; have hcz17_1 : w15.cell? ⟨gb548, 1, none⟩ = some (.string a0_1) := (blk_cell BK548.out 1).trans rfl; have hcz17_2 : w15.cell? ⟨gb548, 2, none⟩ = some (.string a0_2) := (blk_cell BK548.out 2).trans rfl; have hfz17_0 := blk_frozen BK548.out 0; have hfz17_1 := blk_frozen BK548.out 1; have hfz17_2 := blk_frozen BK548.out 2) | ((with_reducible refine gate_callee (f := 17) rfl ?_); refine goesL_ (some 6) rfl rfl Tryd.func17 (by kernel_rfl) rfl #[.agg #[.bool a0_0, .string a0_1, .string a0_2]] rfl (by (try simp only [List.map_toArray, List.map_cons, List.map_nil]); first | done | rfl | (simp only [List.length_drop, List.length_take]; rfl)) ?_; (with_reducible refine (decimal_Check.calls k a0_0 a0_1 a0_2 t550 _ A2.out).mono ?_); rintro e w18 ⟨rfl, hb⟩; refine ⟨_, rfl, ?_⟩; have n0_ := Aside0.mk (blk_below (g := gb548) (o := .cells #[.bool a0_0, .string a0_1, .string a0_2] 23 (0, 0)) BK548.out hb); have n1_ := Aside0.mk (blk_below (g := gb549) (o := .cells #[.bool false, .string (⟨#[]⟩ : ByteArray), .string (⟨#[]⟩ : ByteArray)] 23 (0, 0)) BK549.out hb); have n2_ := Aside0.mk (below_step HB.out hb); clear BK548; clear BK549; clear HB; have BK548 := n0_; have BK549 := n1_; have HB := n2_; clear n0_ n1_ n2_; have hcz19_0 : w18.cell? ⟨gb549, 0, none⟩ = some (.bool false) := (blk_cell BK549.out 0).trans rfl; have hcz19_1 : w18.cell? ⟨gb549, 1, none⟩ = some (.string (⟨#[]⟩ : ByteArray)) := (blk_cell BK549.out 1).trans rfl; have hcz19_2 : w18.cell? ⟨gb549, 2, none⟩ = some (.string (⟨#[]⟩ : ByteArray)) := (blk_cell BK549.out 2).trans rfl; have hfz19_0 := blk_frozen BK549.out 0; have hfz19_1 := blk_frozen BK549.out 1; have hfz19_2 := blk_frozen BK549.out 2))
  refine bodyPost_ret (results_ct rfl _ _ gb549 23 #[.bool false, .string (⟨#[]⟩ : ByteArray), .string (⟨#[]⟩ : ByteArray)] (0, 0) _ rfl (by refine blk_put (cs := #[.bool false, .string (⟨#[]⟩ : ByteArray), .string (⟨#[]⟩ : ByteArray)]) ?_ 2 _ rfl; refine blk_put (cs := #[.bool false, .string (⟨#[]⟩ : ByteArray), .string (⟨#[]⟩ : ByteArray)]) ?_ 1 _ rfl; refine blk_put (cs := #[.bool false, .string (⟨#[]⟩ : ByteArray), .string (⟨#[]⟩ : ByteArray)]) ?_ 0 _ rfl; exact BK549.out) Tryd.underlying23 rfl (by kernel_rfl)) rfl ?_
  exact ⟨by first | rfl | (simp [errW_none, errW_some] <;> rfl) | (simp [*, errW_none, errW_some] <;> rfl) | (simp [bne_nil_]; done), by repeat (first | (with_reducible first | exact HB.out | apply below_alloc | apply pw_below_drewN | apply below_drew1 | refine below_set ?_ GE548.out | refine below_set ?_ GE549.out) | exact HB.out)⟩
end Go.Proofs.YtapbdblpdkoacaaDoor.P
namespace Go.Proofs.YtapbdblpdkoacaaDoor.P
open Go.RowKit Go.Proofs.YtapbdblpdkoacaaDoorW.PrintWords Go.Proofs.YtapbdblpdkoacaaDoorW.PrintLast Go.Proofs.YtapbdblpdkoacaaDoorW.PrintMore
attribute [local go_sem] max2_int max_two
set_option linter.unusedVariables false
set_option linter.unusedSimpArgs false
def idiomlaw02_fine.l0 : Nat → List (S23) → Int → Option (Bool)
  | 0, _, _ => none
  | k + 1, x0, x3 => if x3 < (x0.length : Int) then (if 0 ≤ x3 then ((idiomref02_Check.f k ((rd_T23 x0 x3).f0) ((rd_T23 x0 x3).f1) ((rd_T23 x0 x3).f2)).bind fun t526 => (if t526 = 0 then (idiomlaw02_fine.l0 k x0 (wrap64 (x3 + 1))) else (some false))) else (none)) else (some true)
def idiomlaw02_fine.f (k : Nat) (l0 : List (S23)) : Option (Bool) := idiomlaw02_fine.l0 k l0 0
set_option maxHeartbeats 8000000 in
set_option maxRecDepth 100000 in
theorem idiomlaw02_fine.calls (k : Nat) (A0 : Option Addr) (c0 : Nat) (l0 : List (S23)) (r : Bool) (w : World) (hr0 : Kd.C k23 w A0 l0.length l0) (hc0 : l0.length ≤ c0) (h : idiomlaw02_fine.f k l0 = some r) :
    Calls Tryd.prog 27 #[.slice A0 l0.length c0] w fun e w' => e = .returned (.bool r) ∧ Below w.heap.size w w' := by
 have hu23 := Tryd.underlying23
 have HR0 := Aside0.mk hr0
 have HC0 := Aside0.mk hc0
 clear hr0 hc0
 have HB := Aside0.mk (Below.refl w.heap.size w)
 unfold idiomlaw02_fine.f at h
 have H := h
 clear h
 have H' := Aside0.mk H
 clear H
 go_enter Tryd.func27, Tryd.ntmps27
 go_wp2
 go_loopg [3] k (fun kq v3 w' => ∃ (x3_1 : Int), v3 = .int .i64 x3_1 ∧ Aside0 (idiomlaw02_fine.l0 kq l0 x3_1 = some r) ∧ Aside0 (kq ≤ k) ∧ Aside0 (Below w.heap.size w w'))
 case atStart => exact ⟨(0), (by first | rfl | (simp; done) | (simp [*]; done)), H', ⟨Nat.le_refl _⟩, ⟨by repeat (first | (with_reducible first | exact HB.out | apply below_alloc | apply pw_below_drewN | apply below_drew1) | exact HB.out)⟩⟩
 case round =>
  clear H'
  obtain ⟨x3_1, rfl, HA, HK1, HB⟩ := hrel
  cases gk with
  | zero => exact absurd HA.out (by simp [idiomlaw02_fine.l0])
  | succ k1 =>
   have H := HA.out
   clear HA
   simp only [idiomlaw02_fine.l0] at H
   by_cases c2 : x3_1 < (l0.length : Int)
   ·rw [if_pos c2] at H
    have c2b0 : decide (x3_1 < (l0.length : Int)) = true := decide_eq_true c2
    clear c2
    by_cases c3 : 0 ≤ x3_1
    ·rw [if_pos c3] at H
     have c3b0 : decide (0 ≤ x3_1) = true := decide_eq_true c3
     clear c3
     replace H := Option.bind_eq_some_iff.mp H
     obtain ⟨t526, A40, H⟩ := H
     try dsimp only at H
     have A4 := Aside0.mk A40
     clear A40
     by_cases c5 : t526 = 0
     ·rw [if_pos c5] at H
      have c5b0 : (t526 == 0) = true := beq_iff_eq.mpr c5
      have c5b1 : (t526 != 0) = false := bne_eq_false_iff_eq.mpr c5
      clear c5
      have H' := Aside0.mk H
      clear H
      have p525 : 0 ≤ (x3_1 : Int) := of_decide_eq_true (by first | (with_reducible assumption) | assumption)
      have q525 : x3_1 < (l0.length : Int) := of_decide_eq_true (by first | (with_reducible assumption) | assumption)
      obtain ⟨ad525, e525, hx525_0, hx525_1, hx525_2⟩ := at_T23 HR0.out x3_1 p525 q525
      cases e525
      replace hx525_0 := (HB.out.cell (World.block_lt_of_cell? w _ hx525_0)).trans hx525_0
      replace hx525_1 := (HB.out.cell (World.block_lt_of_cell? w _ hx525_1)).trans hx525_1
      replace hx525_2 := (HB.out.cell (World.block_lt_of_cell? w _ hx525_2)).trans hx525_2
      replace p525 := eq_true p525
      replace q525 := eq_true q525
      go_wp2_with (first | ((with_reducible refine gate_callee (f := 18) rfl ?_); refine goesL_ (some 14) rfl rfl Tryd.func18 (by kernel_rfl) rfl #[.agg #[.bool ((rd_T23 l0 x3_1).f0), .string ((rd_T23 l0 x3_1).f1), .string ((rd_T23 l0 x3_1).f2)]] rfl (by (try simp only [List.map_toArray, List.map_cons, List.map_nil]); first | done | rfl | (simp only [List.length_drop, List.length_take]; rfl)) ?_; (with_reducible refine (idiomref02_Check.calls k1 ((rd_T23 l0 x3_1).f0) ((rd_T23 l0 x3_1).f1) ((rd_T23 l0 x3_1).f2) t526 _ A4.out).mono ?_); rintro e w6 ⟨rfl, hb⟩; refine ⟨_, rfl, ?_⟩; have n0_ := Aside0.mk (below_step HB.out hb); clear HB; have HB := n0_; clear n0_))
      go_roundg k1
      case measure => have := HK1.out; omega
      case rel => exact ⟨(wrap64 (x3_1 + 1)), (by first | rfl | (simp; done) | (simp [*]; done)), H', ⟨by have := HK1.out; omega⟩, ⟨by repeat (first | (with_reducible first | exact HB.out | apply below_alloc | apply pw_below_drewN | apply below_drew1) | exact HB.out)⟩⟩
     ·rw [if_neg c5] at H
      have c5b0 : (t526 == 0) = false := beq_eq_false_iff_ne.mpr c5
      have c5b1 : (t526 != 0) = true := bne_iff_ne.mpr c5
      obtain rfl := Option.some.inj H
      have p525 : 0 ≤ (x3_1 : Int) := of_decide_eq_true (by first | (with_reducible assumption) | assumption)
      have q525 : x3_1 < (l0.length : Int) := of_decide_eq_true (by first | (with_reducible assumption) | assumption)
      obtain ⟨ad525, e525, hx525_0, hx525_1, hx525_2⟩ := at_T23 HR0.out x3_1 p525 q525
      cases e525
      replace hx525_0 := (HB.out.cell (World.block_lt_of_cell? w _ hx525_0)).trans hx525_0
      replace hx525_1 := (HB.out.cell (World.block_lt_of_cell? w _ hx525_1)).trans hx525_1
      replace hx525_2 := (HB.out.cell (World.block_lt_of_cell? w _ hx525_2)).trans hx525_2
      replace p525 := eq_true p525
      replace q525 := eq_true q525
      go_wp2_with (first | ((with_reducible refine gate_callee (f := 18) rfl ?_); refine goesL_ (some 14) rfl rfl Tryd.func18 (by kernel_rfl) rfl #[.agg #[.bool ((rd_T23 l0 x3_1).f0), .string ((rd_T23 l0 x3_1).f1), .string ((rd_T23 l0 x3_1).f2)]] rfl (by (try simp only [List.map_toArray, List.map_cons, List.map_nil]); first | done | rfl | (simp only [List.length_drop, List.length_take]; rfl)) ?_; (with_reducible refine (idiomref02_Check.calls k1 ((rd_T23 l0 x3_1).f0) ((rd_T23 l0 x3_1).f1) ((rd_T23 l0 x3_1).f2) t526 _ A4.out).mono ?_); rintro e w7 ⟨rfl, hb⟩; refine ⟨_, rfl, ?_⟩; have n0_ := Aside0.mk (below_step HB.out hb); clear HB; have HB := n0_; clear n0_))
      go_ret
      exact ⟨by first | rfl | (simp [errW_none, errW_some] <;> rfl) | (simp [*, errW_none, errW_some] <;> rfl) | (simp [bne_nil_]; done), by repeat (first | (with_reducible first | exact HB.out | apply below_alloc | apply pw_below_drewN | apply below_drew1) | exact HB.out)⟩
    ·rw [if_neg c3] at H
     exact absurd H (by simp)
   ·rw [if_neg c2] at H
    have c2b0 : decide (x3_1 < (l0.length : Int)) = false := decide_eq_false c2
    clear c2
    obtain rfl := Option.some.inj H
    go_wp2
    go_ret
    exact ⟨by first | rfl | (simp [errW_none, errW_some] <;> rfl) | (simp [*, errW_none, errW_some] <;> rfl) | (simp [bne_nil_]; done), by repeat (first | (with_reducible first | exact HB.out | apply below_alloc | apply pw_below_drewN | apply below_drew1) | exact HB.out)⟩
end Go.Proofs.YtapbdblpdkoacaaDoor.P
namespace Go.Proofs.YtapbdblpdkoacaaDoor.P
open Go.RowKit Go.Proofs.YtapbdblpdkoacaaDoorW.PrintWords Go.Proofs.YtapbdblpdkoacaaDoorW.PrintLast Go.Proofs.YtapbdblpdkoacaaDoorW.PrintMore
attribute [local go_sem] max2_int max_two
set_option linter.unusedVariables false
set_option linter.unusedSimpArgs false
attribute [local go_sem high] eqA23
mutual
def idiomlaw02_DecimalOrder.j0 : Nat → Int → Int → Int → Bool → Bool → ByteArray → ByteArray → Bool → ByteArray → ByteArray → Option (Bool)
  | 0, _, _, _, _, _, _, _, _, _, _ => none
  | k + 1, x7, x11, x13, x80, x553000, x553001, x553002, x554000, x554001, x554002 => if x80 = true then (some false) else (if x7 ≤ 0 then (if x11 ≤ 0 then (if x13 > 0 then (idiomlaw02_DecimalOrder.j1 k x7 true x553000 x553001 x553002 x554000 x554001 x554002) else (if x13 = 0 then (if x7 = 0 then (idiomlaw02_DecimalOrder.j1 k x7 (x11 != 0) x553000 x553001 x553002 x554000 x554001 x554002) else (idiomlaw02_DecimalOrder.j1 k x7 true x553000 x553001 x553002 x554000 x554001 x554002)) else (idiomlaw02_DecimalOrder.j1 k x7 false x553000 x553001 x553002 x554000 x554001 x554002))) else (idiomlaw02_DecimalOrder.j1 k x7 false x553000 x553001 x553002 x554000 x554001 x554002)) else (idiomlaw02_DecimalOrder.j1 k x7 false x553000 x553001 x553002 x554000 x554001 x554002))
def idiomlaw02_DecimalOrder.j1 : Nat → Int → Bool → Bool → ByteArray → ByteArray → Bool → ByteArray → ByteArray → Option (Bool)
  | 0, _, _, _, _, _, _, _, _ => none
  | k + 1, x7, x102, x553000, x553001, x553002, x554000, x554001, x554002 => if x102 = true then (some false) else ((decimal_Sub.f k x553000 x553001 x553002 x554000 x554001 x554002).bind fun bt568 => (if bt568.2.2.2 = 0 then ((decimal_Compare.f k bt568.1 bt568.2.1 bt568.2.2.1 false (⟨#[48]⟩ : ByteArray) (⟨#[]⟩ : ByteArray)).bind fun bt573 => (if bt573.2 = 0 then (idiomlaw02_DecimalOrder.j2 k x7 (bt573.1 != x7) x553000 x553001 x553002 x554000 x554001 x554002) else (idiomlaw02_DecimalOrder.j2 k x7 true x553000 x553001 x553002 x554000 x554001 x554002))) else ((decimal_Trim.f k x553000 x553001 x553002).bind fun bt585 => ((decimal_Trim.f k x554000 x554001 x554002).bind fun bt590 => (if bt585.2.2.2 = 0 then (if bt590.2.2.2 = 0 then (some ((bt585.1 == bt590.1 && (bt585.2.1.toList == bt590.2.1.toList && (bt585.2.2.1.toList == bt590.2.2.1.toList))) == (x7 == 0))) else (some false)) else (some false))))))
def idiomlaw02_DecimalOrder.j2 : Nat → Int → Bool → Bool → ByteArray → ByteArray → Bool → ByteArray → ByteArray → Option (Bool)
  | 0, _, _, _, _, _, _, _, _ => none
  | k + 1, x7, x123, x553000, x553001, x553002, x554000, x554001, x554002 => if x123 = true then (some false) else ((decimal_Trim.f k x553000 x553001 x553002).bind fun bt575 => ((decimal_Trim.f k x554000 x554001 x554002).bind fun bt580 => (if bt575.2.2.2 = 0 then (if bt580.2.2.2 = 0 then (some ((bt575.1 == bt580.1 && (bt575.2.1.toList == bt580.2.1.toList && (bt575.2.2.1.toList == bt580.2.2.1.toList))) == (x7 == 0))) else (some false)) else (some false))))
end
def idiomlaw02_DecimalOrder.f (k : Nat) (a0_0 : Bool) (a0_1 : ByteArray) (a0_2 : ByteArray) (a1_0 : Bool) (a1_1 : ByteArray) (a1_2 : ByteArray) (a2_0 : Bool) (a2_1 : ByteArray) (a2_2 : ByteArray) : Option (Bool) := (idiomlaw02_awake.f k).bind fun t555 => (if t555 = true then ((idiomlaw02_fine.f k (([(⟨a0_0, a0_1, a0_2⟩ : S23), (⟨a1_0, a1_1, a1_2⟩ : S23), (⟨a2_0, a2_1, a2_2⟩ : S23)] : List (S23)))).bind fun t559 => (if t559 = true then ((decimal_Compare.f k a0_0 a0_1 a0_2 a1_0 a1_1 a1_2).bind fun bt560 => ((decimal_Compare.f k a1_0 a1_1 a1_2 a0_0 a0_1 a0_2).bind fun bt562 => ((decimal_Compare.f k a1_0 a1_1 a1_2 a2_0 a2_1 a2_2).bind fun bt564 => ((decimal_Compare.f k a0_0 a0_1 a0_2 a2_0 a2_1 a2_2).bind fun bt566 => (if bt560.2 = 0 then (if bt562.2 = 0 then (if bt564.2 = 0 then (if bt566.2 = 0 then (if bt560.1 < (-1) then (idiomlaw02_DecimalOrder.j0 k bt560.1 bt564.1 bt566.1 true a0_0 a0_1 a0_2 a1_0 a1_1 a1_2) else (if bt560.1 > 1 then (idiomlaw02_DecimalOrder.j0 k bt560.1 bt564.1 bt566.1 true a0_0 a0_1 a0_2 a1_0 a1_1 a1_2) else (idiomlaw02_DecimalOrder.j0 k bt560.1 bt564.1 bt566.1 (bt560.1 != (wrap64 (-bt562.1))) a0_0 a0_1 a0_2 a1_0 a1_1 a1_2))) else (idiomlaw02_DecimalOrder.j0 k bt560.1 bt564.1 bt566.1 true a0_0 a0_1 a0_2 a1_0 a1_1 a1_2)) else (idiomlaw02_DecimalOrder.j0 k bt560.1 bt564.1 bt566.1 true a0_0 a0_1 a0_2 a1_0 a1_1 a1_2)) else (idiomlaw02_DecimalOrder.j0 k bt560.1 bt564.1 bt566.1 true a0_0 a0_1 a0_2 a1_0 a1_1 a1_2)) else (idiomlaw02_DecimalOrder.j0 k bt560.1 bt564.1 bt566.1 true a0_0 a0_1 a0_2 a1_0 a1_1 a1_2)))))) else (some true))) else (some false))
set_option maxHeartbeats 8000000 in
set_option maxRecDepth 100000 in
theorem idiomlaw02_DecimalOrder.calls (k : Nat) (a0_0 : Bool) (a0_1 : ByteArray) (a0_2 : ByteArray) (a1_0 : Bool) (a1_1 : ByteArray) (a1_2 : ByteArray) (a2_0 : Bool) (a2_1 : ByteArray) (a2_2 : ByteArray) (r : Bool) (w : World) (h : idiomlaw02_DecimalOrder.f k a0_0 a0_1 a0_2 a1_0 a1_1 a1_2 a2_0 a2_1 a2_2 = some r) :
    Calls Tryd.prog 7 #[.agg #[.bool a0_0, .string a0_1, .string a0_2], .agg #[.bool a1_0, .string a1_1, .string a1_2], .agg #[.bool a2_0, .string a2_1, .string a2_2]] w fun e w' => e = .returned (.bool r) ∧ Below w.heap.size w w' := by
 have hu23 := Tryd.underlying23
 have HB := Aside0.mk (Below.refl w.heap.size w)
 unfold idiomlaw02_DecimalOrder.f at h
 have H := h
 clear h
 replace H := Option.bind_eq_some_iff.mp H
 obtain ⟨t555, A40, H⟩ := H
 try dsimp only at H
 have A4 := Aside0.mk A40
 clear A40
 by_cases c5 : t555 = true
 ·subst c5
  have H1 : ((idiomlaw02_fine.f k (([(⟨a0_0, a0_1, a0_2⟩ : S23), (⟨a1_0, a1_1, a1_2⟩ : S23), (⟨a2_0, a2_1, a2_2⟩ : S23)] : List (S23)))).bind fun t559 => (if t559 = true then ((decimal_Compare.f k a0_0 a0_1 a0_2 a1_0 a1_1 a1_2).bind fun bt560 => ((decimal_Compare.f k a1_0 a1_1 a1_2 a0_0 a0_1 a0_2).bind fun bt562 => ((decimal_Compare.f k a1_0 a1_1 a1_2 a2_0 a2_1 a2_2).bind fun bt564 => ((decimal_Compare.f k a0_0 a0_1 a0_2 a2_0 a2_1 a2_2).bind fun bt566 => (if bt560.2 = 0 then (if bt562.2 = 0 then (if bt564.2 = 0 then (if bt566.2 = 0 then (if bt560.1 < (-1) then (idiomlaw02_DecimalOrder.j0 k bt560.1 bt564.1 bt566.1 true a0_0 a0_1 a0_2 a1_0 a1_1 a1_2) else (if bt560.1 > 1 then (idiomlaw02_DecimalOrder.j0 k bt560.1 bt564.1 bt566.1 true a0_0 a0_1 a0_2 a1_0 a1_1 a1_2) else (idiomlaw02_DecimalOrder.j0 k bt560.1 bt564.1 bt566.1 (bt560.1 != (wrap64 (-bt562.1))) a0_0 a0_1 a0_2 a1_0 a1_1 a1_2))) else (idiomlaw02_DecimalOrder.j0 k bt560.1 bt564.1 bt566.1 true a0_0 a0_1 a0_2 a1_0 a1_1 a1_2)) else (idiomlaw02_DecimalOrder.j0 k bt560.1 bt564.1 bt566.1 true a0_0 a0_1 a0_2 a1_0 a1_1 a1_2)) else (idiomlaw02_DecimalOrder.j0 k bt560.1 bt564.1 bt566.1 true a0_0 a0_1 a0_2 a1_0 a1_1 a1_2)) else (idiomlaw02_DecimalOrder.j0 k bt560.1 bt564.1 bt566.1 true a0_0 a0_1 a0_2 a1_0 a1_1 a1_2)))))) else (some true))) = some r := by rw [if_pos rfl] at H; exact H
  clear H
  have H := H1
  clear H1
  obtain ⟨y556, hy556⟩ : ∃ y_ : List (S23), y_ = (([(⟨a0_0, a0_1, a0_2⟩ : S23), (⟨a1_0, a1_1, a1_2⟩ : S23), (⟨a2_0, a2_1, a2_2⟩ : S23)] : List (S23))) := ⟨_, rfl⟩
  rw [← hy556] at H
  have Ny556 := Aside0.mk hy556
  clear hy556
  replace H := Option.bind_eq_some_iff.mp H
  obtain ⟨t559, A60, H⟩ := H
  try dsimp only at H
  have A6 := Aside0.mk A60
  clear A60
  by_cases c7 : t559 = true
  ·subst c7
   have H1 : ((decimal_Compare.f k a0_0 a0_1 a0_2 a1_0 a1_1 a1_2).bind fun bt560 => ((decimal_Compare.f k a1_0 a1_1 a1_2 a0_0 a0_1 a0_2).bind fun bt562 => ((decimal_Compare.f k a1_0 a1_1 a1_2 a2_0 a2_1 a2_2).bind fun bt564 => ((decimal_Compare.f k a0_0 a0_1 a0_2 a2_0 a2_1 a2_2).bind fun bt566 => (if bt560.2 = 0 then (if bt562.2 = 0 then (if bt564.2 = 0 then (if bt566.2 = 0 then (if bt560.1 < (-1) then (idiomlaw02_DecimalOrder.j0 k bt560.1 bt564.1 bt566.1 true a0_0 a0_1 a0_2 a1_0 a1_1 a1_2) else (if bt560.1 > 1 then (idiomlaw02_DecimalOrder.j0 k bt560.1 bt564.1 bt566.1 true a0_0 a0_1 a0_2 a1_0 a1_1 a1_2) else (idiomlaw02_DecimalOrder.j0 k bt560.1 bt564.1 bt566.1 (bt560.1 != (wrap64 (-bt562.1))) a0_0 a0_1 a0_2 a1_0 a1_1 a1_2))) else (idiomlaw02_DecimalOrder.j0 k bt560.1 bt564.1 bt566.1 true a0_0 a0_1 a0_2 a1_0 a1_1 a1_2)) else (idiomlaw02_DecimalOrder.j0 k bt560.1 bt564.1 bt566.1 true a0_0 a0_1 a0_2 a1_0 a1_1 a1_2)) else (idiomlaw02_DecimalOrder.j0 k bt560.1 bt564.1 bt566.1 true a0_0 a0_1 a0_2 a1_0 a1_1 a1_2)) else (idiomlaw02_DecimalOrder.j0 k bt560.1 bt564.1 bt566.1 true a0_0 a0_1 a0_2 a1_0 a1_1 a1_2)))))) = some r := by rw [if_pos rfl] at H; exact H
   clear H
   have H := H1
   clear H1
   replace H := Option.bind_eq_some_iff.mp H
   obtain ⟨⟨t560, t561⟩, A80, H⟩ := H
   try dsimp only at H
   have A8 := Aside0.mk A80
   clear A80
   replace H := Option.bind_eq_some_iff.mp H
   obtain ⟨⟨t562, t563⟩, A90, H⟩ := H
   try dsimp only at H
   have A9 := Aside0.mk A90
   clear A90
   replace H := Option.bind_eq_some_iff.mp H
   obtain ⟨⟨t564, t565⟩, A100, H⟩ := H
   try dsimp only at H
   have A10 := Aside0.mk A100
   clear A100
   replace H := Option.bind_eq_some_iff.mp H
   obtain ⟨⟨t566, t567⟩, A110, H⟩ := H
   try dsimp only at H
   have A11 := Aside0.mk A110
   clear A110
   have HC12 := Aside0.mk H
   clear H
   go_enter Tryd.func7, Tryd.ntmps7
   go_upto_region 9 with (first | ((with_reducible refine gate_dst (N := 3) rfl ?_); refine box_event ?hg (N := 3) ?hd (cs := #[.bool a0_0, .string a0_1, .string a0_2]) (t := 23) ?hr ?_; (case hd => rfl); (case hg => rfl); (case hr => first | (go_simp; done) | (go_simp; rfl)); intro gb552 hg w13 hbox hb; have n0_ := Aside0.mk (below_step HB.out hb); have n1_ := Aside0.mk (hbox); have n2_ := Aside0.mk ((by rw [hg]; exact (below_size HB.out) : w.heap.size ≤ gb552)); have n3_ := Aside0.mk ((by rw [hg]; exact (below_size HB.out) : w.heap.size ≤ gb552)); clear HB; have HB := n0_; have BK552 := n1_; have GW552 := n2_; have GE552 := n3_; clear n0_ n1_ n2_ n3_; clear hb hbox hg) | ((with_reducible refine gate_dst (N := 4) rfl ?_); refine box_event ?hg (N := 4) ?hd (cs := #[.bool a1_0, .string a1_1, .string a1_2]) (t := 23) ?hr ?_; (case hd => rfl); (case hg => rfl); (case hr => first | (go_simp; done) | (go_simp; rfl)); intro gb553 hg w14 hbox hb; have n0_ := Aside0.mk (blk_below (g := gb552) (o := .cells #[.bool a0_0, .string a0_1, .string a0_2] 23 (0, 0)) BK552.out hb); have n1_ := Aside0.mk (below_step HB.out hb); have n2_ := Aside0.mk (hbox); have n3_ := Aside0.mk ((by rw [hg]; exact (below_size HB.out) : w.heap.size ≤ gb553)); have n4_ := Aside0.mk ((by rw [hg]; exact (below_size HB.out) : w.heap.size ≤ gb553)); have n5_ := Aside0.mk ((by rw [hg]; exact Nat.ne_of_lt (blk_lt (g := gb552) (o := .cells #[.bool a0_0, .string a0_1, .string a0_2] 23 (0, 0)) BK552.out) : gb552 ≠ gb553)); have n6_ := Aside0.mk ((by rw [hg]; exact Nat.ne_of_gt (blk_lt (g := gb552) (o := .cells #[.bool a0_0, .string a0_1, .string a0_2] 23 (0, 0)) BK552.out) : gb553 ≠ gb552)); clear BK552; clear HB; have BK552 := n0_; have HB := n1_; have BK553 := n2_; have GW553 := n3_; have GE553 := n4_; have NB552_553 := n5_; have NB553_552 := n6_; clear n0_ n1_ n2_ n3_ n4_ n5_ n6_; clear hb hbox hg) | ((with_reducible refine gate_dst (N := 5) rfl ?_); refine box_event ?hg (N := 5) ?hd (cs := #[.bool a2_0, .string a2_1, .string a2_2]) (t := 23) ?hr ?_; (case hd => rfl); (case hg => rfl); (case hr => first | (go_simp; done) | (go_simp; rfl)); intro gb554 hg w15 hbox hb; have n0_ := Aside0.mk (blk_below (g := gb552) (o := .cells #[.bool a0_0, .string a0_1, .string a0_2] 23 (0, 0)) BK552.out hb); have n1_ := Aside0.mk (blk_below (g := gb553) (o := .cells #[.bool a1_0, .string a1_1, .string a1_2] 23 (0, 0)) BK553.out hb); have n2_ := Aside0.mk (below_step HB.out hb); have n3_ := Aside0.mk (hbox); have n4_ := Aside0.mk ((by rw [hg]; exact (below_size HB.out) : w.heap.size ≤ gb554)); have n5_ := Aside0.mk ((by rw [hg]; exact (below_size HB.out) : w.heap.size ≤ gb554)); have n6_ := Aside0.mk ((by rw [hg]; exact Nat.ne_of_lt (blk_lt (g := gb552) (o := .cells #[.bool a0_0, .string a0_1, .string a0_2] 23 (0, 0)) BK552.out) : gb552 ≠ gb554)); have n7_ := Aside0.mk ((by rw [hg]; exact Nat.ne_of_gt (blk_lt (g := gb552) (o := .cells #[.bool a0_0, .string a0_1, .string a0_2] 23 (0, 0)) BK552.out) : gb554 ≠ gb552)); have n8_ := Aside0.mk ((by rw [hg]; exact Nat.ne_of_lt (blk_lt (g := gb553) (o := .cells #[.bool a1_0, .string a1_1, .string a1_2] 23 (0, 0)) BK553.out) : gb553 ≠ gb554)); have n9_ := Aside0.mk ((by rw [hg]; exact Nat.ne_of_gt (blk_lt (g := gb553) (o := .cells #[.bool a1_0, .string a1_1, .string a1_2] 23 (0, 0)) BK553.out) : gb554 ≠ gb553)); clear BK552; clear BK553; clear HB; have BK552 := n0_; have BK553 := n1_; have HB := n2_; have BK554 := n3_; have GW554 := n4_; have GE554 := n5_; have NB552_554 := n6_; have NB554_552 := n7_; have NB553_554 := n8_; have NB554_553 := n9_; clear n0_ n1_ n2_ n3_ n4_ n5_ n6_ n7_ n8_ n9_; clear hb hbox hg) | ((with_reducible refine gate_callee (f := 19) rfl ?_); refine goesL_ (some 21) rfl rfl Tryd.func19 (by kernel_rfl) rfl #[] rfl (by simp only [List.map_toArray, List.map_cons, List.map_nil]) ?_; (with_reducible refine (idiomlaw02_awake.calls k  true _ A4.out).mono ?_); rintro e w16 ⟨rfl, hb⟩; refine ⟨_, rfl, ?_⟩; have n0_ := Aside0.mk (blk_below (g := gb552) (o := .cells #[.bool a0_0, .string a0_1, .string a0_2] 23 (0, 0)) BK552.out hb); have n1_ := Aside0.mk (blk_below (g := gb553) (o := .cells #[.bool a1_0, .string a1_1, .string a1_2] 23 (0, 0)) BK553.out hb); have n2_ := Aside0.mk (blk_below (g := gb554) (o := .cells #[.bool a2_0, .string a2_1, .string a2_2] 23 (0, 0)) BK554.out hb); have n3_ := Aside0.mk (below_step HB.out hb); clear BK552; clear BK553; clear BK554; clear HB; have BK552 := n0_; have BK553 := n1_; have BK554 := n2_; have HB := n3_; clear n0_ n1_ n2_ n3_; have hnb17 := NB552_553.out; have hnc17 := NB553_552.out; have hnb18 := NB552_554.out; have hnc18 := NB554_552.out; have hcz19_0 : w16.cell? ⟨gb552, 0, none⟩ = some (.bool a0_0) := (blk_cell BK552.out 0).trans rfl; have hcz19_1 : w16.cell? ⟨gb552, 1, none⟩ = some (.string a0_1) := (blk_cell BK552.out 1).trans rfl; have hcz19_2 : w16.cell? ⟨gb552, 2, none⟩ = some (.string a0_2) := (blk_cell BK552.out 2).trans rfl; have hfz19_0 := blk_frozen BK552.out 0; have hfz19_1 := blk_frozen BK552.out 1; have hfz19_2 := blk_frozen BK552.out 2; have hnb20 := NB553_554.out; have hnc20 := NB554_553.out; have hcz21_0 : w16.cell? ⟨gb553, 0, none⟩ = some (.bool a1_0) := (blk_cell BK553.out 0).trans rfl; have hcz21_1 : w16.cell? ⟨gb553, 1, none⟩ = some (.string a1_1) := (blk_cell BK553.out 1).trans rfl; have hcz21_2 : w16.cell? ⟨gb553, 2, none⟩ = some (.string a1_2) := (blk_cell BK553.out 2).trans rfl; have hfz21_0 := blk_frozen BK553.out 0; have hfz21_1 := blk_frozen BK553.out 1; have hfz21_2 := blk_frozen BK553.out 2; have hcz22_0 : w16.cell? ⟨gb554, 0, none⟩ = some (.bool a2_0) := (blk_cell BK554.out 0).trans rfl; have hcz22_1 : w16.cell? ⟨gb554, 1, none⟩ = some (.string a2_1) := (blk_cell BK554.out 1).trans rfl; have hcz22_2 : w16.cell? ⟨gb554, 2, none⟩ = some (.string a2_2) := (blk_cell BK554.out 2).trans rfl; have hfz22_0 := blk_frozen BK554.out 0; have hfz22_1 := blk_frozen BK554.out 1; have hfz22_2 := blk_frozen BK554.out 2) | ((with_reducible refine gate_dst (N := 26) rfl ?_); refine Kd.R_lit k23 _ 23 ?hg (N := 26) ?hd (xs := ([(⟨a0_0, a0_1, a0_2⟩ : S23), (⟨a1_0, a1_1, a1_2⟩ : S23), (⟨a2_0, a2_1, a2_2⟩ : S23)] : List (S23))) (inner := [.bool a0_0, .string a0_1, .string a0_2, .bool a1_0, .string a1_1, .string a1_2, .bool a2_0, .string a2_1, .string a2_2]) (ok := fun _ => True) (okp := fun _ => True) ?hr ?hp (fun _ hk => hk) trivial (Below.refl _ _) (Nat.le_refl _) (by simp) ?_; (case hd => rfl); (case hg => rfl); (case hr => first | (go_simp; done) | (go_simp; rfl)); (case hp => exact (Reps.c3 (show Kd.M k23 _ _ _ (⟨a0_0, a0_1, a0_2⟩ : S23) [.bool a0_0, .string a0_1, .string a0_2] from (k23_mkM _ _ _ (⟨a0_0, a0_1, a0_2⟩ : S23) )) (Reps.c3 (show Kd.M k23 _ _ _ (⟨a1_0, a1_1, a1_2⟩ : S23) [.bool a1_0, .string a1_1, .string a1_2] from (k23_mkM _ _ _ (⟨a1_0, a1_1, a1_2⟩ : S23) )) (Reps.c3 (show Kd.M k23 _ _ _ (⟨a2_0, a2_1, a2_2⟩ : S23) [.bool a2_0, .string a2_1, .string a2_2] from (k23_mkM _ _ _ (⟨a2_0, a2_1, a2_2⟩ : S23) )) (Reps.none _ _))))); intro v557 w23 ho24 hb hg_ hnew_; clear hg_ hnew_; (first | rw [← Ny556.out] at ho24 | (simp only [Int.reduceToNat] at ho24; rw [← Ny556.out] at ho24)); have n0_ := Aside0.mk (Kd.R_lower (Kd.R_newB (Kd.R_newB (Kd.R_newB ho24 (g := gb552) (o := .cells #[.bool a0_0, .string a0_1, .string a0_2] 23 (0, 0)) BK552.out) (g := gb553) (o := .cells #[.bool a1_0, .string a1_1, .string a1_2] 23 (0, 0)) BK553.out) (g := gb554) (o := .cells #[.bool a2_0, .string a2_1, .string a2_2] 23 (0, 0)) BK554.out) (below_size HB.out)); have n1_ := Aside0.mk (blk_below (g := gb552) (o := .cells #[.bool a0_0, .string a0_1, .string a0_2] 23 (0, 0)) BK552.out hb); have n2_ := Aside0.mk (blk_below (g := gb553) (o := .cells #[.bool a1_0, .string a1_1, .string a1_2] 23 (0, 0)) BK553.out hb); have n3_ := Aside0.mk (blk_below (g := gb554) (o := .cells #[.bool a2_0, .string a2_1, .string a2_2] 23 (0, 0)) BK554.out hb); have n4_ := Aside0.mk (below_step HB.out hb); clear BK552; clear BK553; clear BK554; clear HB; have HO558 := n0_; have BK552 := n1_; have BK553 := n2_; have BK554 := n3_; have HB := n4_; clear n0_ n1_ n2_ n3_ n4_; clear hb ho24; obtain ⟨Ao25, co25, eo25⟩ := Kd.R_slice HO558.out; subst eo25) | ((with_reducible refine gate_callee (f := 27) rfl ?_); refine goesL_ (some 27) rfl rfl Tryd.func27 (by kernel_rfl) rfl #[.slice Ao25 y556.length co25] rfl (by (try simp only [List.map_toArray, List.map_cons, List.map_nil]); first | done | rfl | (simp only [List.length_drop, List.length_take]; rfl)) ?_; (with_reducible refine (idiomlaw02_fine.calls k _ _ y556 true _ ?side1 ?side2 A6.out).mono ?_); (case side1 => repeat (first | exact (Kd.R_reads' HO558.out).2.2 | (with_reducible refine Kd.C_alloc ?_ _) | (with_reducible refine Kd.C_drewN ?_ _) | (with_reducible refine Kd.C_drew ?_))); (case side2 => exact (Kd.R_reads' HO558.out).2.1); rintro e w26 ⟨rfl, hb⟩; refine ⟨_, rfl, ?_⟩; have n0_ := Aside0.mk (Kd.R_below (by (with_reducible repeat (first | apply Kd.R_alloc | apply Kd.R_drewN | apply Kd.R_drew)); exact HO558.out) hb); have n1_ := Aside0.mk (blk_below (g := gb552) (o := .cells #[.bool a0_0, .string a0_1, .string a0_2] 23 (0, 0)) BK552.out hb); have n2_ := Aside0.mk (blk_below (g := gb553) (o := .cells #[.bool a1_0, .string a1_1, .string a1_2] 23 (0, 0)) BK553.out hb); have n3_ := Aside0.mk (blk_below (g := gb554) (o := .cells #[.bool a2_0, .string a2_1, .string a2_2] 23 (0, 0)) BK554.out hb); have n4_ := Aside0.mk (below_step HB.out hb); clear HO558; clear BK552; clear BK553; clear BK554; clear HB; have HO558 := n0_; have BK552 := n1_; have BK553 := n2_; have BK554 := n3_; have HB := n4_; clear n0_ n1_ n2_ n3_ n4_; have hcz27_0 : w26.cell? ⟨gb552, 0, none⟩ = some (.bool a0_0) := (blk_cell BK552.out 0).trans rfl; have hcz27_1 : w26.cell? ⟨gb552, 1, none⟩ = some (.string a0_1) := (blk_cell BK552.out 1).trans rfl; have hcz27_2 : w26.cell? ⟨gb552, 2, none⟩ = some (.string a0_2) := (blk_cell BK552.out 2).trans rfl; have hfz27_0 := blk_frozen BK552.out 0; have hfz27_1 := blk_frozen BK552.out 1; have hfz27_2 := blk_frozen BK552.out 2; have hcz28_0 : w26.cell? ⟨gb553, 0, none⟩ = some (.bool a1_0) := (blk_cell BK553.out 0).trans rfl; have hcz28_1 : w26.cell? ⟨gb553, 1, none⟩ = some (.string a1_1) := (blk_cell BK553.out 1).trans rfl; have hcz28_2 : w26.cell? ⟨gb553, 2, none⟩ = some (.string a1_2) := (blk_cell BK553.out 2).trans rfl; have hfz28_0 := blk_frozen BK553.out 0; have hfz28_1 := blk_frozen BK553.out 1; have hfz28_2 := blk_frozen BK553.out 2) | ((with_reducible refine gate_callee (f := 28) rfl ?_); refine goesL_ (some 32) rfl rfl Tryd.func28 (by kernel_rfl) rfl #[.agg #[.bool a0_0, .string a0_1, .string a0_2], .agg #[.bool a1_0, .string a1_1, .string a1_2]] rfl (by (try simp only [List.map_toArray, List.map_cons, List.map_nil]); first | done | rfl | (simp only [List.length_drop, List.length_take]; rfl)) ?_; (with_reducible refine (decimal_Compare.calls k a0_0 a0_1 a0_2 a1_0 a1_1 a1_2 t560 t561 _ A8.out).mono ?_); rintro e w29 ⟨rfl, hb⟩; refine ⟨_, rfl, ?_⟩; have n0_ := Aside0.mk (Kd.R_below (by (with_reducible repeat (first | apply Kd.R_alloc | apply Kd.R_drewN | apply Kd.R_drew)); exact HO558.out) hb); have n1_ := Aside0.mk (blk_below (g := gb552) (o := .cells #[.bool a0_0, .string a0_1, .string a0_2] 23 (0, 0)) BK552.out hb); have n2_ := Aside0.mk (blk_below (g := gb553) (o := .cells #[.bool a1_0, .string a1_1, .string a1_2] 23 (0, 0)) BK553.out hb); have n3_ := Aside0.mk (blk_below (g := gb554) (o := .cells #[.bool a2_0, .string a2_1, .string a2_2] 23 (0, 0)) BK554.out hb); have n4_ := Aside0.mk (below_step HB.out hb); clear HO558; clear BK552; clear BK553; clear BK554; clear HB; have HO558 := n0_; have BK552 := n1_; have BK553 := n2_; have BK554 := n3_; have HB := n4_; clear n0_ n1_ n2_ n3_ n4_; have hcz30_0 : w29.cell? ⟨gb553, 0, none⟩ = some (.bool a1_0) := (blk_cell BK553.out 0).trans rfl; have hcz30_1 : w29.cell? ⟨gb553, 1, none⟩ = some (.string a1_1) := (blk_cell BK553.out 1).trans rfl; have hcz30_2 : w29.cell? ⟨gb553, 2, none⟩ = some (.string a1_2) := (blk_cell BK553.out 2).trans rfl; have hfz30_0 := blk_frozen BK553.out 0; have hfz30_1 := blk_frozen BK553.out 1; have hfz30_2 := blk_frozen BK553.out 2; have hcz31_0 : w29.cell? ⟨gb552, 0, none⟩ = some (.bool a0_0) := (blk_cell BK552.out 0).trans rfl; have hcz31_1 : w29.cell? ⟨gb552, 1, none⟩ = some (.string a0_1) := (blk_cell BK552.out 1).trans rfl; have hcz31_2 : w29.cell? ⟨gb552, 2, none⟩ = some (.string a0_2) := (blk_cell BK552.out 2).trans rfl; have hfz31_0 := blk_frozen BK552.out 0; have hfz31_1 := blk_frozen BK552.out 1; have hfz31_2 := blk_frozen BK552.out 2) | ((with_reducible refine gate_callee (f := 28) rfl ?_); refine goesL_ (some 38) rfl rfl Tryd.func28 (by kernel_rfl) rfl #[.agg #[.bool a1_0, .string a1_1, .string a1_2], .agg #[.bool a0_0, .string a0_1, .string a0_2]] rfl (by (try simp only [List.map_toArray, List.map_cons, List.map_nil]); first | done | rfl | (simp only [List.length_drop, List.length_take]; rfl)) ?_; (with_reducible refine (decimal_Compare.calls k a1_0 a1_1 a1_2 a0_0 a0_1 a0_2 t562 t563 _ A9.out).mono ?_); rintro e w32 ⟨rfl, hb⟩; refine ⟨_, rfl, ?_⟩; have n0_ := Aside0.mk (Kd.R_below (by (with_reducible repeat (first | apply Kd.R_alloc | apply Kd.R_drewN | apply Kd.R_drew)); exact HO558.out) hb); have n1_ := Aside0.mk (blk_below (g := gb552) (o := .cells #[.bool a0_0, .string a0_1, .string a0_2] 23 (0, 0)) BK552.out hb); have n2_ := Aside0.mk (blk_below (g := gb553) (o := .cells #[.bool a1_0, .string a1_1, .string a1_2] 23 (0, 0)) BK553.out hb); have n3_ := Aside0.mk (blk_below (g := gb554) (o := .cells #[.bool a2_0, .string a2_1, .string a2_2] 23 (0, 0)) BK554.out hb); have n4_ := Aside0.mk (below_step HB.out hb); clear HO558; clear BK552; clear BK553; clear BK554; clear HB; have HO558 := n0_; have BK552 := n1_; have BK553 := n2_; have BK554 := n3_; have HB := n4_; clear n0_ n1_ n2_ n3_ n4_; have hcz33_0 : w32.cell? ⟨gb553, 0, none⟩ = some (.bool a1_0) := (blk_cell BK553.out 0).trans rfl; have hcz33_1 : w32.cell? ⟨gb553, 1, none⟩ = some (.string a1_1) := (blk_cell BK553.out 1).trans rfl; have hcz33_2 : w32.cell? ⟨gb553, 2, none⟩ = some (.string a1_2) := (blk_cell BK553.out 2).trans rfl; have hfz33_0 := blk_frozen BK553.out 0; have hfz33_1 := blk_frozen BK553.out 1; have hfz33_2 := blk_frozen BK553.out 2; have hcz34_0 : w32.cell? ⟨gb554, 0, none⟩ = some (.bool a2_0) := (blk_cell BK554.out 0).trans rfl; have hcz34_1 : w32.cell? ⟨gb554, 1, none⟩ = some (.string a2_1) := (blk_cell BK554.out 1).trans rfl; have hcz34_2 : w32.cell? ⟨gb554, 2, none⟩ = some (.string a2_2) := (blk_cell BK554.out 2).trans rfl; have hfz34_0 := blk_frozen BK554.out 0; have hfz34_1 := blk_frozen BK554.out 1; have hfz34_2 := blk_frozen BK554.out 2) | ((with_reducible refine gate_callee (f := 28) rfl ?_); refine goesL_ (some 44) rfl rfl Tryd.func28 (by kernel_rfl) rfl #[.agg #[.bool a1_0, .string a1_1, .string a1_2], .agg #[.bool a2_0, .string a2_1, .string a2_2]] rfl (by (try simp only [List.map_toArray, List.map_cons, List.map_nil]); first | done | rfl | (simp only [List.length_drop, List.length_take]; rfl)) ?_; (with_reducible refine (decimal_Compare.calls k a1_0 a1_1 a1_2 a2_0 a2_1 a2_2 t564 t565 _ A10.out).mono ?_); rintro e w35 ⟨rfl, hb⟩; refine ⟨_, rfl, ?_⟩; have n0_ := Aside0.mk (Kd.R_below (by (with_reducible repeat (first | apply Kd.R_alloc | apply Kd.R_drewN | apply Kd.R_drew)); exact HO558.out) hb); have n1_ := Aside0.mk (blk_below (g := gb552) (o := .cells #[.bool a0_0, .string a0_1, .string a0_2] 23 (0, 0)) BK552.out hb); have n2_ := Aside0.mk (blk_below (g := gb553) (o := .cells #[.bool a1_0, .string a1_1, .string a1_2] 23 (0, 0)) BK553.out hb); have n3_ := Aside0.mk (blk_below (g := gb554) (o := .cells #[.bool a2_0, .string a2_1, .string a2_2] 23 (0, 0)) BK554.out hb); have n4_ := Aside0.mk (below_step HB.out hb); clear HO558; clear BK552; clear BK553; clear BK554; clear HB; have HO558 := n0_; have BK552 := n1_; have BK553 := n2_; have BK554 := n3_; have HB := n4_; clear n0_ n1_ n2_ n3_ n4_; have hcz36_0 : w35.cell? ⟨gb552, 0, none⟩ = some (.bool a0_0) := (blk_cell BK552.out 0).trans rfl; have hcz36_1 : w35.cell? ⟨gb552, 1, none⟩ = some (.string a0_1) := (blk_cell BK552.out 1).trans rfl; have hcz36_2 : w35.cell? ⟨gb552, 2, none⟩ = some (.string a0_2) := (blk_cell BK552.out 2).trans rfl; have hfz36_0 := blk_frozen BK552.out 0; have hfz36_1 := blk_frozen BK552.out 1; have hfz36_2 := blk_frozen BK552.out 2; have hcz37_0 : w35.cell? ⟨gb554, 0, none⟩ = some (.bool a2_0) := (blk_cell BK554.out 0).trans rfl; have hcz37_1 : w35.cell? ⟨gb554, 1, none⟩ = some (.string a2_1) := (blk_cell BK554.out 1).trans rfl; have hcz37_2 : w35.cell? ⟨gb554, 2, none⟩ = some (.string a2_2) := (blk_cell BK554.out 2).trans rfl; have hfz37_0 := blk_frozen BK554.out 0; have hfz37_1 := blk_frozen BK554.out 1; have hfz37_2 := blk_frozen BK554.out 2) | ((with_reducible refine gate_callee (f := 28) rfl ?_); refine goesL_ (some 50) rfl rfl Tryd.func28 (by kernel_rfl) rfl #[.agg #[.bool a0_0, .string a0_1, .string a0_2], .agg #[.bool a2_0, .string a2_1, .string a2_2]] rfl (by (try simp only [List.map_toArray, List.map_cons, List.map_nil]); first | done | rfl | (simp only [List.length_drop, List.length_take]; rfl)) ?_; (with_reducible refine (decimal_Compare.calls k a0_0 a0_1 a0_2 a2_0 a2_1 a2_2 t566 t567 _ A11.out).mono ?_); rintro e w38 ⟨rfl, hb⟩; refine ⟨_, rfl, ?_⟩; have n0_ := Aside0.mk (Kd.R_below (by (with_reducible repeat (first | apply Kd.R_alloc | apply Kd.R_drewN | apply Kd.R_drew)); exact HO558.out) hb); have n1_ := Aside0.mk (blk_below (g := gb552) (o := .cells #[.bool a0_0, .string a0_1, .string a0_2] 23 (0, 0)) BK552.out hb); have n2_ := Aside0.mk (blk_below (g := gb553) (o := .cells #[.bool a1_0, .string a1_1, .string a1_2] 23 (0, 0)) BK553.out hb); have n3_ := Aside0.mk (blk_below (g := gb554) (o := .cells #[.bool a2_0, .string a2_1, .string a2_2] 23 (0, 0)) BK554.out hb); have n4_ := Aside0.mk (below_step HB.out hb); clear HO558; clear BK552; clear BK553; clear BK554; clear HB; have HO558 := n0_; have BK552 := n1_; have BK553 := n2_; have BK554 := n3_; have HB := n4_; clear n0_ n1_ n2_ n3_ n4_))
   (try simp only [Act.put, List.setIfInBounds_toArray, List.set_cons_zero, List.set_cons_succ])
   go_cut [80] (fun v80 wc => ∃ (kq : Nat) (x80_11 : Bool), v80 = .bool x80_11 ∧ Aside0 (idiomlaw02_DecimalOrder.j0 kq t560 t564 t566 x80_11 a0_0 a0_1 a0_2 a1_0 a1_1 a1_2 = some r) ∧ Aside0 (kq ≤ k) ∧ Aside0 (wc.heap[gb552]? = some (.cells #[.bool a0_0, .string a0_1, .string a0_2] 23 (0, 0))) ∧ Aside0 (wc.heap[gb553]? = some (.cells #[.bool a1_0, .string a1_1, .string a1_2] 23 (0, 0))) ∧ Aside0 (wc.heap[gb554]? = some (.cells #[.bool a2_0, .string a2_1, .string a2_2] 23 (0, 0))) ∧ Aside0 (Below w.heap.size w wc))
   case first =>
    have H := HC12.out
    clear HC12
    by_cases c39 : t561 = 0
    ·rw [if_pos c39] at H
     have c39b0 : (t561 == 0) = true := beq_iff_eq.mpr c39
     have c39b1 : (t561 != 0) = false := bne_eq_false_iff_eq.mpr c39
     clear c39
     (first | rw [c39b0] | (simp only [i64_w, i32_w]; rw [c39b0]) | rw [c39b1] | skip)
     by_cases c40 : t563 = 0
     ·rw [if_pos c40] at H
      have c40b0 : (t563 == 0) = true := beq_iff_eq.mpr c40
      have c40b1 : (t563 != 0) = false := bne_eq_false_iff_eq.mpr c40
      clear c40
      by_cases c41 : t565 = 0
      ·rw [if_pos c41] at H
       have c41b0 : (t565 == 0) = true := beq_iff_eq.mpr c41
       have c41b1 : (t565 != 0) = false := bne_eq_false_iff_eq.mpr c41
       clear c41
       by_cases c42 : t567 = 0
       ·rw [if_pos c42] at H
        have c42b0 : (t567 == 0) = true := beq_iff_eq.mpr c42
        have c42b1 : (t567 != 0) = false := bne_eq_false_iff_eq.mpr c42
        clear c42
        by_cases c43 : t560 < (-1)
        ·rw [if_pos c43] at H
         have c43b0 : decide (t560 < (-1)) = true := decide_eq_true c43
         clear c43
         have H' := Aside0.mk H
         clear H
         go_wp2
         go_meet
         case rel => exact ⟨_, (true), (by first | rfl | (simp; done) | (simp [*]; done)), H', ⟨by first | omega | exact Nat.le_refl _⟩, ⟨by exact BK552.out⟩, ⟨by exact BK553.out⟩, ⟨by exact BK554.out⟩, ⟨by repeat (first | (with_reducible first | exact HB.out | apply below_alloc | apply pw_below_drewN | apply below_drew1 | refine below_set ?_ GE552.out | refine below_set ?_ GE553.out | refine below_set ?_ GE554.out) | exact HB.out)⟩⟩
        ·rw [if_neg c43] at H
         have c43b0 : decide (t560 < (-1)) = false := decide_eq_false c43
         clear c43
         by_cases c44 : t560 > 1
         ·rw [if_pos c44] at H
          have c44b0 : decide (1 < t560) = true := decide_eq_true c44
          clear c44
          have H' := Aside0.mk H
          clear H
          go_wp2
          go_meet
          case rel => exact ⟨_, (true), (by first | rfl | (simp; done) | (simp [*]; done)), H', ⟨by first | omega | exact Nat.le_refl _⟩, ⟨by exact BK552.out⟩, ⟨by exact BK553.out⟩, ⟨by exact BK554.out⟩, ⟨by repeat (first | (with_reducible first | exact HB.out | apply below_alloc | apply pw_below_drewN | apply below_drew1 | refine below_set ?_ GE552.out | refine below_set ?_ GE553.out | refine below_set ?_ GE554.out) | exact HB.out)⟩⟩
         ·rw [if_neg c44] at H
          have c44b0 : decide (1 < t560) = false := decide_eq_false c44
          clear c44
          have H' := Aside0.mk H
          clear H
          go_wp2
          go_meet
          case rel => exact ⟨_, ((t560 != (wrap64 (-t562)))), (by first | rfl | (simp; done) | (simp [*]; done)), H', ⟨by first | omega | exact Nat.le_refl _⟩, ⟨by exact BK552.out⟩, ⟨by exact BK553.out⟩, ⟨by exact BK554.out⟩, ⟨by repeat (first | (with_reducible first | exact HB.out | apply below_alloc | apply pw_below_drewN | apply below_drew1 | refine below_set ?_ GE552.out | refine below_set ?_ GE553.out | refine below_set ?_ GE554.out) | exact HB.out)⟩⟩
       ·rw [if_neg c42] at H
        have c42b0 : (t567 == 0) = false := beq_eq_false_iff_ne.mpr c42
        have c42b1 : (t567 != 0) = true := bne_iff_ne.mpr c42
        have H' := Aside0.mk H
        clear H
        go_wp2
        go_meet
        case rel => exact ⟨_, (true), (by first | rfl | (simp; done) | (simp [*]; done)), H', ⟨by first | omega | exact Nat.le_refl _⟩, ⟨by exact BK552.out⟩, ⟨by exact BK553.out⟩, ⟨by exact BK554.out⟩, ⟨by repeat (first | (with_reducible first | exact HB.out | apply below_alloc | apply pw_below_drewN | apply below_drew1 | refine below_set ?_ GE552.out | refine below_set ?_ GE553.out | refine below_set ?_ GE554.out) | exact HB.out)⟩⟩
      ·rw [if_neg c41] at H
       have c41b0 : (t565 == 0) = false := beq_eq_false_iff_ne.mpr c41
       have c41b1 : (t565 != 0) = true := bne_iff_ne.mpr c41
       have H' := Aside0.mk H
       clear H
       go_wp2
       go_meet
       case rel => exact ⟨_, (true), (by first | rfl | (simp; done) | (simp [*]; done)), H', ⟨by first | omega | exact Nat.le_refl _⟩, ⟨by exact BK552.out⟩, ⟨by exact BK553.out⟩, ⟨by exact BK554.out⟩, ⟨by repeat (first | (with_reducible first | exact HB.out | apply below_alloc | apply pw_below_drewN | apply below_drew1 | refine below_set ?_ GE552.out | refine below_set ?_ GE553.out | refine below_set ?_ GE554.out) | exact HB.out)⟩⟩
     ·rw [if_neg c40] at H
      have c40b0 : (t563 == 0) = false := beq_eq_false_iff_ne.mpr c40
      have c40b1 : (t563 != 0) = true := bne_iff_ne.mpr c40
      have H' := Aside0.mk H
      clear H
      go_wp2
      go_meet
      case rel => exact ⟨_, (true), (by first | rfl | (simp; done) | (simp [*]; done)), H', ⟨by first | omega | exact Nat.le_refl _⟩, ⟨by exact BK552.out⟩, ⟨by exact BK553.out⟩, ⟨by exact BK554.out⟩, ⟨by repeat (first | (with_reducible first | exact HB.out | apply below_alloc | apply pw_below_drewN | apply below_drew1 | refine below_set ?_ GE552.out | refine below_set ?_ GE553.out | refine below_set ?_ GE554.out) | exact HB.out)⟩⟩
    ·rw [if_neg c39] at H
     have c39b0 : (t561 == 0) = false := beq_eq_false_iff_ne.mpr c39
     have c39b1 : (t561 != 0) = true := bne_iff_ne.mpr c39
     (first | rw [c39b0] | (simp only [i64_w, i32_w]; rw [c39b0]) | rw [c39b1] | skip)
     have H' := Aside0.mk H
     clear H
     go_wp2
     go_meet
     case rel => exact ⟨_, (true), (by first | rfl | (simp; done) | (simp [*]; done)), H', ⟨by first | omega | exact Nat.le_refl _⟩, ⟨by exact BK552.out⟩, ⟨by exact BK553.out⟩, ⟨by exact BK554.out⟩, ⟨by repeat (first | (with_reducible first | exact HB.out | apply below_alloc | apply pw_below_drewN | apply below_drew1 | refine below_set ?_ GE552.out | refine below_set ?_ GE553.out | refine below_set ?_ GE554.out) | exact HB.out)⟩⟩
   case rest =>
    clear HC12
    try clear c1
    try clear c2
    try clear p2
    try clear c3
    try clear c4
    try clear c5
    try clear p6
    try clear c7
    try clear c17
    try clear c18
    try clear c19
    try clear c20
    try clear c27
    try clear c28
    try clear c39
    try clear c39b0
    try clear c39b1
    try clear c40
    try clear c40b0
    try clear c40b1
    try clear c41
    try clear c41b0
    try clear c41b1
    try clear c42
    try clear c42b0
    try clear c42b1
    try clear c43
    try clear c43b0
    try clear c44
    try clear c44b0
    try clear hcz19_0
    try clear hcz19_1
    try clear hcz19_2
    try clear hcz21_0
    try clear hcz21_1
    try clear hcz21_2
    try clear hcz22_0
    try clear hcz22_1
    try clear hcz22_2
    try clear hcz27_0
    try clear hcz27_1
    try clear hcz27_2
    try clear hcz28_0
    try clear hcz28_1
    try clear hcz28_2
    try clear hcz30_0
    try clear hcz30_1
    try clear hcz30_2
    try clear hcz31_0
    try clear hcz31_1
    try clear hcz31_2
    try clear hcz33_0
    try clear hcz33_1
    try clear hcz33_2
    try clear hcz34_0
    try clear hcz34_1
    try clear hcz34_2
    try clear hcz36_0
    try clear hcz36_1
    try clear hcz36_2
    try clear hcz37_0
    try clear hcz37_1
    try clear hcz37_2
    try clear hfz19_0
    try clear hfz19_1
    try clear hfz19_2
    try clear hfz21_0
    try clear hfz21_1
    try clear hfz21_2
    try clear hfz22_0
    try clear hfz22_1
    try clear hfz22_2
    try clear hfz27_0
    try clear hfz27_1
    try clear hfz27_2
    try clear hfz28_0
    try clear hfz28_1
    try clear hfz28_2
    try clear hfz30_0
    try clear hfz30_1
    try clear hfz30_2
    try clear hfz31_0
    try clear hfz31_1
    try clear hfz31_2
    try clear hfz33_0
    try clear hfz33_1
    try clear hfz33_2
    try clear hfz34_0
    try clear hfz34_1
    try clear hfz34_2
    try clear hfz36_0
    try clear hfz36_1
    try clear hfz36_2
    try clear hfz37_0
    try clear hfz37_1
    try clear hfz37_2
    obtain ⟨kq, x80_11, rfl, HA, HJ11, BK552, BK553, BK554, HB⟩ := hcut
    cases kq with
    | zero => exact absurd HA.out (by simp [idiomlaw02_DecimalOrder.j0])
    | succ kj11 =>
     have H := HA.out
     clear HA
     simp only [idiomlaw02_DecimalOrder.j0] at H
     by_cases c45 : x80_11 = true
     ·subst c45
      have H1 : (some false) = some r := by rw [if_pos rfl] at H; exact H
      clear H
      have H := H1
      clear H1
      obtain rfl := Option.some.inj H
      go_wp2
      go_ret
      exact ⟨by first | rfl | (simp [errW_none, errW_some] <;> rfl) | (simp [*, errW_none, errW_some] <;> rfl) | (simp [bne_nil_]; done), by repeat (first | (with_reducible first | exact HB.out | apply below_alloc | apply pw_below_drewN | apply below_drew1 | refine below_set ?_ GE552.out | refine below_set ?_ GE553.out | refine below_set ?_ GE554.out) | exact HB.out)⟩
     ·replace c45 := Bool.eq_false_iff.mpr c45
      subst c45
      have H1 : (if t560 ≤ 0 then (if t564 ≤ 0 then (if t566 > 0 then (idiomlaw02_DecimalOrder.j1 kj11 t560 true a0_0 a0_1 a0_2 a1_0 a1_1 a1_2) else (if t566 = 0 then (if t560 = 0 then (idiomlaw02_DecimalOrder.j1 kj11 t560 (t564 != 0) a0_0 a0_1 a0_2 a1_0 a1_1 a1_2) else (idiomlaw02_DecimalOrder.j1 kj11 t560 true a0_0 a0_1 a0_2 a1_0 a1_1 a1_2)) else (idiomlaw02_DecimalOrder.j1 kj11 t560 false a0_0 a0_1 a0_2 a1_0 a1_1 a1_2))) else (idiomlaw02_DecimalOrder.j1 kj11 t560 false a0_0 a0_1 a0_2 a1_0 a1_1 a1_2)) else (idiomlaw02_DecimalOrder.j1 kj11 t560 false a0_0 a0_1 a0_2 a1_0 a1_1 a1_2)) = some r := by rw [if_neg (show ¬ (false = true) by decide)] at H; exact H
      clear H
      have H := H1
      clear H1
      have HC46 := Aside0.mk H
      clear H
      go_upto_region 11 with (fail)
      go_cut [102] (fun v102 wc => ∃ (kq : Nat) (x102_45 : Bool), v102 = .bool x102_45 ∧ Aside0 (idiomlaw02_DecimalOrder.j1 kq t560 x102_45 a0_0 a0_1 a0_2 a1_0 a1_1 a1_2 = some r) ∧ Aside0 (kq ≤ kj11) ∧ Aside0 (wc.heap[gb552]? = some (.cells #[.bool a0_0, .string a0_1, .string a0_2] 23 (0, 0))) ∧ Aside0 (wc.heap[gb553]? = some (.cells #[.bool a1_0, .string a1_1, .string a1_2] 23 (0, 0))) ∧ Aside0 (wc.heap[gb554]? = some (.cells #[.bool a2_0, .string a2_1, .string a2_2] 23 (0, 0))) ∧ Aside0 (Below w.heap.size w wc))
      case first =>
       have H := HC46.out
       clear HC46
       by_cases c47 : t560 ≤ 0
       ·rw [if_pos c47] at H
        have c47b0 : decide (t560 ≤ 0) = true := decide_eq_true c47
        clear c47
        (first | rw [c47b0] | (simp only [i64_w, i32_w]; rw [c47b0]) | skip)
        by_cases c48 : t564 ≤ 0
        ·rw [if_pos c48] at H
         have c48b0 : decide (t564 ≤ 0) = true := decide_eq_true c48
         clear c48
         by_cases c49 : t566 > 0
         ·rw [if_pos c49] at H
          have c49b0 : decide (0 < t566) = true := decide_eq_true c49
          clear c49
          have H' := Aside0.mk H
          clear H
          go_wp2
          go_meet
          case rel => exact ⟨_, (true), (by first | rfl | (simp; done) | (simp [*]; done)), H', ⟨by have := HJ11.out; first | omega | exact Nat.le_refl _⟩, ⟨by exact BK552.out⟩, ⟨by exact BK553.out⟩, ⟨by exact BK554.out⟩, ⟨by repeat (first | (with_reducible first | exact HB.out | apply below_alloc | apply pw_below_drewN | apply below_drew1 | refine below_set ?_ GE552.out | refine below_set ?_ GE553.out | refine below_set ?_ GE554.out) | exact HB.out)⟩⟩
         ·rw [if_neg c49] at H
          have c49b0 : decide (0 < t566) = false := decide_eq_false c49
          clear c49
          by_cases c50 : t566 = 0
          ·rw [if_pos c50] at H
           have c50b0 : (t566 == 0) = true := beq_iff_eq.mpr c50
           have c50b1 : (t566 != 0) = false := bne_eq_false_iff_eq.mpr c50
           clear c50
           by_cases c51 : t560 = 0
           ·rw [if_pos c51] at H
            have c51b0 : (t560 == 0) = true := beq_iff_eq.mpr c51
            have c51b1 : (t560 != 0) = false := bne_eq_false_iff_eq.mpr c51
            clear c51
            have H' := Aside0.mk H
            clear H
            go_wp2
            go_meet
            case rel => exact ⟨_, ((t564 != 0)), (by first | rfl | (simp; done) | (simp [*]; done)), H', ⟨by have := HJ11.out; first | omega | exact Nat.le_refl _⟩, ⟨by exact BK552.out⟩, ⟨by exact BK553.out⟩, ⟨by exact BK554.out⟩, ⟨by repeat (first | (with_reducible first | exact HB.out | apply below_alloc | apply pw_below_drewN | apply below_drew1 | refine below_set ?_ GE552.out | refine below_set ?_ GE553.out | refine below_set ?_ GE554.out) | exact HB.out)⟩⟩
           ·rw [if_neg c51] at H
            have c51b0 : (t560 == 0) = false := beq_eq_false_iff_ne.mpr c51
            have c51b1 : (t560 != 0) = true := bne_iff_ne.mpr c51
            have H' := Aside0.mk H
            clear H
            go_wp2
            go_meet
            case rel => exact ⟨_, (true), (by first | rfl | (simp; done) | (simp [*]; done)), H', ⟨by have := HJ11.out; first | omega | exact Nat.le_refl _⟩, ⟨by exact BK552.out⟩, ⟨by exact BK553.out⟩, ⟨by exact BK554.out⟩, ⟨by repeat (first | (with_reducible first | exact HB.out | apply below_alloc | apply pw_below_drewN | apply below_drew1 | refine below_set ?_ GE552.out | refine below_set ?_ GE553.out | refine below_set ?_ GE554.out) | exact HB.out)⟩⟩
          ·rw [if_neg c50] at H
           have c50b0 : (t566 == 0) = false := beq_eq_false_iff_ne.mpr c50
           have c50b1 : (t566 != 0) = true := bne_iff_ne.mpr c50
           have H' := Aside0.mk H
           clear H
           go_wp2
           go_meet
           case rel => exact ⟨_, (false), (by first | rfl | (simp; done) | (simp [*]; done)), H', ⟨by have := HJ11.out; first | omega | exact Nat.le_refl _⟩, ⟨by exact BK552.out⟩, ⟨by exact BK553.out⟩, ⟨by exact BK554.out⟩, ⟨by repeat (first | (with_reducible first | exact HB.out | apply below_alloc | apply pw_below_drewN | apply below_drew1 | refine below_set ?_ GE552.out | refine below_set ?_ GE553.out | refine below_set ?_ GE554.out) | exact HB.out)⟩⟩
        ·rw [if_neg c48] at H
         have c48b0 : decide (t564 ≤ 0) = false := decide_eq_false c48
         clear c48
         have H' := Aside0.mk H
         clear H
         go_wp2
         go_meet
         case rel => exact ⟨_, (false), (by first | rfl | (simp; done) | (simp [*]; done)), H', ⟨by have := HJ11.out; first | omega | exact Nat.le_refl _⟩, ⟨by exact BK552.out⟩, ⟨by exact BK553.out⟩, ⟨by exact BK554.out⟩, ⟨by repeat (first | (with_reducible first | exact HB.out | apply below_alloc | apply pw_below_drewN | apply below_drew1 | refine below_set ?_ GE552.out | refine below_set ?_ GE553.out | refine below_set ?_ GE554.out) | exact HB.out)⟩⟩
       ·rw [if_neg c47] at H
        have c47b0 : decide (t560 ≤ 0) = false := decide_eq_false c47
        clear c47
        (first | rw [c47b0] | (simp only [i64_w, i32_w]; rw [c47b0]) | skip)
        have H' := Aside0.mk H
        clear H
        go_wp2
        go_meet
        case rel => exact ⟨_, (false), (by first | rfl | (simp; done) | (simp [*]; done)), H', ⟨by have := HJ11.out; first | omega | exact Nat.le_refl _⟩, ⟨by exact BK552.out⟩, ⟨by exact BK553.out⟩, ⟨by exact BK554.out⟩, ⟨by repeat (first | (with_reducible first | exact HB.out | apply below_alloc | apply pw_below_drewN | apply below_drew1 | refine below_set ?_ GE552.out | refine below_set ?_ GE553.out | refine below_set ?_ GE554.out) | exact HB.out)⟩⟩
      case rest =>
       clear HC46
       try clear c1
       try clear c2
       try clear p2
       try clear c3
       try clear c4
       try clear c5
       try clear p6
       try clear c7
       try clear c17
       try clear c18
       try clear c19
       try clear c20
       try clear c27
       try clear c28
       try clear c39
       try clear c39b0
       try clear c39b1
       try clear c40
       try clear c40b0
       try clear c40b1
       try clear c41
       try clear c41b0
       try clear c41b1
       try clear c42
       try clear c42b0
       try clear c42b1
       try clear c43
       try clear c43b0
       try clear c44
       try clear c44b0
       try clear c45
       try clear c47
       try clear c47b0
       try clear c48
       try clear c48b0
       try clear c49
       try clear c49b0
       try clear c50
       try clear c50b0
       try clear c50b1
       try clear c51
       try clear c51b0
       try clear c51b1
       try clear hcz19_0
       try clear hcz19_1
       try clear hcz19_2
       try clear hcz21_0
       try clear hcz21_1
       try clear hcz21_2
       try clear hcz22_0
       try clear hcz22_1
       try clear hcz22_2
       try clear hcz27_0
       try clear hcz27_1
       try clear hcz27_2
       try clear hcz28_0
       try clear hcz28_1
       try clear hcz28_2
       try clear hcz30_0
       try clear hcz30_1
       try clear hcz30_2
       try clear hcz31_0
       try clear hcz31_1
       try clear hcz31_2
       try clear hcz33_0
       try clear hcz33_1
       try clear hcz33_2
       try clear hcz34_0
       try clear hcz34_1
       try clear hcz34_2
       try clear hcz36_0
       try clear hcz36_1
       try clear hcz36_2
       try clear hcz37_0
       try clear hcz37_1
       try clear hcz37_2
       try clear hfz19_0
       try clear hfz19_1
       try clear hfz19_2
       try clear hfz21_0
       try clear hfz21_1
       try clear hfz21_2
       try clear hfz22_0
       try clear hfz22_1
       try clear hfz22_2
       try clear hfz27_0
       try clear hfz27_1
       try clear hfz27_2
       try clear hfz28_0
       try clear hfz28_1
       try clear hfz28_2
       try clear hfz30_0
       try clear hfz30_1
       try clear hfz30_2
       try clear hfz31_0
       try clear hfz31_1
       try clear hfz31_2
       try clear hfz33_0
       try clear hfz33_1
       try clear hfz33_2
       try clear hfz34_0
       try clear hfz34_1
       try clear hfz34_2
       try clear hfz36_0
       try clear hfz36_1
       try clear hfz36_2
       try clear hfz37_0
       try clear hfz37_1
       try clear hfz37_2
       try clear p2
       try clear p6
       obtain ⟨kq, x102_45, rfl, HA, HJ45, BK552, BK553, BK554, HB⟩ := hcut
       cases kq with
       | zero => exact absurd HA.out (by simp [idiomlaw02_DecimalOrder.j1])
       | succ kj45 =>
        have H := HA.out
        clear HA
        simp only [idiomlaw02_DecimalOrder.j1] at H
        by_cases c52 : x102_45 = true
        ·subst c52
         have H1 : (some false) = some r := by rw [if_pos rfl] at H; exact H
         clear H
         have H := H1
         clear H1
         obtain rfl := Option.some.inj H
         go_wp2
         go_ret
         exact ⟨by first | rfl | (simp [errW_none, errW_some] <;> rfl) | (simp [*, errW_none, errW_some] <;> rfl) | (simp [bne_nil_]; done), by repeat (first | (with_reducible first | exact HB.out | apply below_alloc | apply pw_below_drewN | apply below_drew1 | refine below_set ?_ GE552.out | refine below_set ?_ GE553.out | refine below_set ?_ GE554.out) | exact HB.out)⟩
        ·replace c52 := Bool.eq_false_iff.mpr c52
         subst c52
         have H1 : ((decimal_Sub.f kj45 a0_0 a0_1 a0_2 a1_0 a1_1 a1_2).bind fun bt568 => (if bt568.2.2.2 = 0 then ((decimal_Compare.f kj45 bt568.1 bt568.2.1 bt568.2.2.1 false (⟨#[48]⟩ : ByteArray) (⟨#[]⟩ : ByteArray)).bind fun bt573 => (if bt573.2 = 0 then (idiomlaw02_DecimalOrder.j2 kj45 t560 (bt573.1 != t560) a0_0 a0_1 a0_2 a1_0 a1_1 a1_2) else (idiomlaw02_DecimalOrder.j2 kj45 t560 true a0_0 a0_1 a0_2 a1_0 a1_1 a1_2))) else ((decimal_Trim.f kj45 a0_0 a0_1 a0_2).bind fun bt585 => ((decimal_Trim.f kj45 a1_0 a1_1 a1_2).bind fun bt590 => (if bt585.2.2.2 = 0 then (if bt590.2.2.2 = 0 then (some ((bt585.1 == bt590.1 && (bt585.2.1.toList == bt590.2.1.toList && (bt585.2.2.1.toList == bt590.2.2.1.toList))) == (t560 == 0))) else (some false)) else (some false)))))) = some r := by rw [if_neg (show ¬ (false = true) by decide)] at H; exact H
         clear H
         have H := H1
         clear H1
         replace H := Option.bind_eq_some_iff.mp H
         obtain ⟨⟨t568, t569, t570, t571⟩, A530, H⟩ := H
         try dsimp only at H
         have A53 := Aside0.mk A530
         clear A530
         by_cases c54 : t571 = 0
         ·rw [if_pos c54] at H
          have c54b0 : (t571 == 0) = true := beq_iff_eq.mpr c54
          have c54b1 : (t571 != 0) = false := bne_eq_false_iff_eq.mpr c54
          clear c54
          replace H := Option.bind_eq_some_iff.mp H
          obtain ⟨⟨t573, t574⟩, A550, H⟩ := H
          try dsimp only at H
          have A55 := Aside0.mk A550
          clear A550
          have HC56 := Aside0.mk H
          clear H
          have hnb57 := NB552_553.out
          have hnc57 := NB553_552.out
          have hnb58 := NB552_554.out
          have hnc58 := NB554_552.out
          have hcz59_0 : wc.cell? ⟨gb552, 0, none⟩ = some (.bool a0_0) := (blk_cell BK552.out 0).trans rfl
          have hcz59_1 : wc.cell? ⟨gb552, 1, none⟩ = some (.string a0_1) := (blk_cell BK552.out 1).trans rfl
          have hcz59_2 : wc.cell? ⟨gb552, 2, none⟩ = some (.string a0_2) := (blk_cell BK552.out 2).trans rfl
          have hfz59_0 := blk_frozen BK552.out 0
          have hfz59_1 := blk_frozen BK552.out 1
          have hfz59_2 := blk_frozen BK552.out 2
          have hnb60 := NB553_554.out
          have hnc60 := NB554_553.out
          have hcz61_0 : wc.cell? ⟨gb553, 0, none⟩ = some (.bool a1_0) := (blk_cell BK553.out 0).trans rfl
          have hcz61_1 : wc.cell? ⟨gb553, 1, none⟩ = some (.string a1_1) := (blk_cell BK553.out 1).trans rfl
          have hcz61_2 : wc.cell? ⟨gb553, 2, none⟩ = some (.string a1_2) := (blk_cell BK553.out 2).trans rfl
          have hfz61_0 := blk_frozen BK553.out 0
          have hfz61_1 := blk_frozen BK553.out 1
          have hfz61_2 := blk_frozen BK553.out 2
          go_upto_region 16 with (first | ((with_reducible refine gate_callee (f := 29) rfl ?_); refine goesL_ (some 106) rfl rfl Tryd.func29 (by kernel_rfl) rfl #[.agg #[.bool a0_0, .string a0_1, .string a0_2], .agg #[.bool a1_0, .string a1_1, .string a1_2]] rfl (by (try simp only [List.map_toArray, List.map_cons, List.map_nil]); first | done | rfl | (simp only [List.length_drop, List.length_take]; rfl)) ?_; (with_reducible refine (decimal_Sub.calls kj45 a0_0 a0_1 a0_2 a1_0 a1_1 a1_2 t568 t569 t570 t571 _ A53.out).mono ?_); rintro e w62 ⟨rfl, hb⟩; refine ⟨_, rfl, ?_⟩; have n0_ := Aside0.mk (blk_below (g := gb552) (o := .cells #[.bool a0_0, .string a0_1, .string a0_2] 23 (0, 0)) BK552.out hb); have n1_ := Aside0.mk (blk_below (g := gb553) (o := .cells #[.bool a1_0, .string a1_1, .string a1_2] 23 (0, 0)) BK553.out hb); have n2_ := Aside0.mk (blk_below (g := gb554) (o := .cells #[.bool a2_0, .string a2_1, .string a2_2] 23 (0, 0)) BK554.out hb); have n3_ := Aside0.mk (below_step HB.out hb); clear BK552; clear BK553; clear BK554; clear HB; have BK552 := n0_; have BK553 := n1_; have BK554 := n2_; have HB := n3_; clear n0_ n1_ n2_ n3_) | ((with_reducible refine gate_dst (N := 15) rfl ?_); refine box_event ?hg (N := 15) ?hd (cs := #[.bool false, .string (⟨#[]⟩ : ByteArray), .string (⟨#[]⟩ : ByteArray)]) (t := 23) ?hr ?_; (case hd => rfl); (case hg => rfl); (case hr => first | (go_simp; done) | (go_simp; rfl)); intro gb572 hg w63 hbox hb; have n0_ := Aside0.mk (blk_below (g := gb552) (o := .cells #[.bool a0_0, .string a0_1, .string a0_2] 23 (0, 0)) BK552.out hb); have n1_ := Aside0.mk (blk_below (g := gb553) (o := .cells #[.bool a1_0, .string a1_1, .string a1_2] 23 (0, 0)) BK553.out hb); have n2_ := Aside0.mk (blk_below (g := gb554) (o := .cells #[.bool a2_0, .string a2_1, .string a2_2] 23 (0, 0)) BK554.out hb); have n3_ := Aside0.mk (below_step HB.out hb); have n4_ := Aside0.mk (hbox); have n5_ := Aside0.mk ((by rw [hg]; exact (below_size HB.out) : w.heap.size ≤ gb572)); have n6_ := Aside0.mk ((by rw [hg]; exact (below_size HB.out) : w.heap.size ≤ gb572)); have n7_ := Aside0.mk ((by rw [hg]; exact Nat.ne_of_lt (blk_lt (g := gb552) (o := .cells #[.bool a0_0, .string a0_1, .string a0_2] 23 (0, 0)) BK552.out) : gb552 ≠ gb572)); have n8_ := Aside0.mk ((by rw [hg]; exact Nat.ne_of_gt (blk_lt (g := gb552) (o := .cells #[.bool a0_0, .string a0_1, .string a0_2] 23 (0, 0)) BK552.out) : gb572 ≠ gb552)); have n9_ := Aside0.mk ((by rw [hg]; exact Nat.ne_of_lt (blk_lt (g := gb553) (o := .cells #[.bool a1_0, .string a1_1, .string a1_2] 23 (0, 0)) BK553.out) : gb553 ≠ gb572)); have n10_ := Aside0.mk ((by rw [hg]; exact Nat.ne_of_gt (blk_lt (g := gb553) (o := .cells #[.bool a1_0, .string a1_1, .string a1_2] 23 (0, 0)) BK553.out) : gb572 ≠ gb553)); have n11_ := Aside0.mk ((by rw [hg]; exact Nat.ne_of_lt (blk_lt (g := gb554) (o := .cells #[.bool a2_0, .string a2_1, .string a2_2] 23 (0, 0)) BK554.out) : gb554 ≠ gb572)); have n12_ := Aside0.mk ((by rw [hg]; exact Nat.ne_of_gt (blk_lt (g := gb554) (o := .cells #[.bool a2_0, .string a2_1, .string a2_2] 23 (0, 0)) BK554.out) : gb572 ≠ gb554)); clear BK552; clear BK553; clear BK554; clear HB; have BK552 := n0_; have BK553 := n1_; have BK554 := n2_; have HB := n3_; have BK572 := n4_; have GW572 := n5_; have GE572 := n6_; have NB552_572 := n7_; have NB572_552 := n8_; have NB553_572 := n9_; have NB572_553 := n10_; have NB554_572 := n11_; have NB572_554 := n12_; clear n0_ n1_ n2_ n3_ n4_ n5_ n6_ n7_ n8_ n9_ n10_ n11_ n12_; clear hb hbox hg; have hnb64 := NB572_552.out; have hnc64 := NB552_572.out; have hnb65 := NB572_553.out; have hnc65 := NB553_572.out; have hnb66 := NB572_554.out; have hnc66 := NB554_572.out; have hcz67_0 : w63.cell? ⟨gb572, 0, none⟩ = some (.bool false) := (blk_cell BK572.out 0).trans rfl; have hcz67_1 : w63.cell? ⟨gb572, 1, none⟩ = some (.string (⟨#[]⟩ : ByteArray)) := (blk_cell BK572.out 1).trans rfl; have hcz67_2 : w63.cell? ⟨gb572, 2, none⟩ = some (.string (⟨#[]⟩ : ByteArray)) := (blk_cell BK572.out 2).trans rfl; have hfz67_0 := blk_frozen BK572.out 0; have hfz67_1 := blk_frozen BK572.out 1; have hfz67_2 := blk_frozen BK572.out 2) | ((with_reducible refine gate_callee (f := 28) rfl ?_); refine goesL_ (some 114) rfl rfl Tryd.func28 (by kernel_rfl) rfl #[.agg #[.bool t568, .string t569, .string t570], .agg #[.bool false, .string (⟨#[48]⟩ : ByteArray), .string (⟨#[]⟩ : ByteArray)]] rfl (by (try simp only [List.map_toArray, List.map_cons, List.map_nil]); first | done | rfl | (simp only [List.length_drop, List.length_take]; rfl)) ?_; (with_reducible refine (decimal_Compare.calls kj45 t568 t569 t570 false (⟨#[48]⟩ : ByteArray) (⟨#[]⟩ : ByteArray) t573 t574 _ A55.out).mono ?_); rintro e w68 ⟨rfl, hb⟩; refine ⟨_, rfl, ?_⟩; have n0_ := Aside0.mk (blk_below (g := gb552) (o := .cells #[.bool a0_0, .string a0_1, .string a0_2] 23 (0, 0)) (by refine blk_far ?_ NB552_572.out _; refine blk_far ?_ NB552_572.out _; refine blk_far ?_ NB552_572.out _; exact BK552.out) hb); have n1_ := Aside0.mk (blk_below (g := gb553) (o := .cells #[.bool a1_0, .string a1_1, .string a1_2] 23 (0, 0)) (by refine blk_far ?_ NB553_572.out _; refine blk_far ?_ NB553_572.out _; refine blk_far ?_ NB553_572.out _; exact BK553.out) hb); have n2_ := Aside0.mk (blk_below (g := gb554) (o := .cells #[.bool a2_0, .string a2_1, .string a2_2] 23 (0, 0)) (by refine blk_far ?_ NB554_572.out _; refine blk_far ?_ NB554_572.out _; refine blk_far ?_ NB554_572.out _; exact BK554.out) hb); have n3_ := Aside0.mk (blk_below (g := gb572) (o := .cells #[.bool t568, .string t569, .string t570] 23 (0, 0)) (by refine blk_put (cs := #[.bool t568, .string t569, .string (⟨#[]⟩ : ByteArray)]) ?_ 2 _ rfl; refine blk_put (cs := #[.bool t568, .string (⟨#[]⟩ : ByteArray), .string (⟨#[]⟩ : ByteArray)]) ?_ 1 _ rfl; refine blk_put (cs := #[.bool false, .string (⟨#[]⟩ : ByteArray), .string (⟨#[]⟩ : ByteArray)]) ?_ 0 _ rfl; exact BK572.out) hb); have n4_ := Aside0.mk (below_step (by repeat (first | (with_reducible first | exact HB.out | apply below_alloc | apply pw_below_drewN | apply below_drew1 | refine below_set ?_ GE552.out | refine below_set ?_ GE553.out | refine below_set ?_ GE554.out | refine below_set ?_ GE572.out) | exact HB.out)) hb); clear BK552; clear BK553; clear BK554; clear BK572; clear HB; have BK552 := n0_; have BK553 := n1_; have BK554 := n2_; have BK572 := n3_; have HB := n4_; clear n0_ n1_ n2_ n3_ n4_))
          (try simp only [Act.put, List.setIfInBounds_toArray, List.set_cons_zero, List.set_cons_succ])
          go_cut [123] (fun v123 wc => ∃ (kq : Nat) (x123_55 : Bool), v123 = .bool x123_55 ∧ Aside0 (idiomlaw02_DecimalOrder.j2 kq t560 x123_55 a0_0 a0_1 a0_2 a1_0 a1_1 a1_2 = some r) ∧ Aside0 (kq ≤ kj45) ∧ Aside0 (wc.heap[gb552]? = some (.cells #[.bool a0_0, .string a0_1, .string a0_2] 23 (0, 0))) ∧ Aside0 (wc.heap[gb553]? = some (.cells #[.bool a1_0, .string a1_1, .string a1_2] 23 (0, 0))) ∧ Aside0 (wc.heap[gb554]? = some (.cells #[.bool a2_0, .string a2_1, .string a2_2] 23 (0, 0))) ∧ Aside0 (wc.heap[gb572]? = some (.cells #[.bool t568, .string t569, .string t570] 23 (0, 0))) ∧ Aside0 (Below w.heap.size w wc))
          case first =>
           have H := HC56.out
           clear HC56
           by_cases c69 : t574 = 0
           ·rw [if_pos c69] at H
            have c69b0 : (t574 == 0) = true := beq_iff_eq.mpr c69
            have c69b1 : (t574 != 0) = false := bne_eq_false_iff_eq.mpr c69
            clear c69
            (first | rw [c69b0] | (simp only [i64_w, i32_w]; rw [c69b0]) | rw [c69b1] | skip)
            have H' := Aside0.mk H
            clear H
            go_wp2
            go_meet
            case rel => exact ⟨_, ((t573 != t560)), (by first | rfl | (simp; done) | (simp [*]; done)), H', ⟨by have := HJ11.out; have := HJ45.out; first | omega | exact Nat.le_refl _⟩, ⟨by exact BK552.out⟩, ⟨by exact BK553.out⟩, ⟨by exact BK554.out⟩, ⟨by exact BK572.out⟩, ⟨by repeat (first | (with_reducible first | exact HB.out | apply below_alloc | apply pw_below_drewN | apply below_drew1 | refine below_set ?_ GE552.out | refine below_set ?_ GE553.out | refine below_set ?_ GE554.out | refine below_set ?_ GE572.out) | exact HB.out)⟩⟩
           ·rw [if_neg c69] at H
            have c69b0 : (t574 == 0) = false := beq_eq_false_iff_ne.mpr c69
            have c69b1 : (t574 != 0) = true := bne_iff_ne.mpr c69
            (first | rw [c69b0] | (simp only [i64_w, i32_w]; rw [c69b0]) | rw [c69b1] | skip)
            have H' := Aside0.mk H
            clear H
            go_wp2
            go_meet
            case rel => exact ⟨_, (true), (by first | rfl | (simp; done) | (simp [*]; done)), H', ⟨by have := HJ11.out; have := HJ45.out; first | omega | exact Nat.le_refl _⟩, ⟨by exact BK552.out⟩, ⟨by exact BK553.out⟩, ⟨by exact BK554.out⟩, ⟨by exact BK572.out⟩, ⟨by repeat (first | (with_reducible first | exact HB.out | apply below_alloc | apply pw_below_drewN | apply below_drew1 | refine below_set ?_ GE552.out | refine below_set ?_ GE553.out | refine below_set ?_ GE554.out | refine below_set ?_ GE572.out) | exact HB.out)⟩⟩
          case rest =>
           clear HC56
           try clear c1
           try clear c2
           try clear p2
           try clear c3
           try clear c4
           try clear c5
           try clear c6
           try clear p6
           try clear c7
           try clear c17
           try clear c18
           try clear c19
           try clear c20
           try clear c27
           try clear c28
           try clear c29
           try clear c39
           try clear c39b0
           try clear c39b1
           try clear c40
           try clear c40b0
           try clear c40b1
           try clear c41
           try clear c41b0
           try clear c41b1
           try clear c42
           try clear c42b0
           try clear c42b1
           try clear c43
           try clear c43b0
           try clear c44
           try clear c44b0
           try clear c45
           try clear c47
           try clear c47b0
           try clear c48
           try clear c48b0
           try clear c49
           try clear c49b0
           try clear c50
           try clear c50b0
           try clear c50b1
           try clear c51
           try clear c51b0
           try clear c51b1
           try clear c52
           try clear c54
           try clear c54b0
           try clear c54b1
           try clear c57
           try clear c58
           try clear c60
           try clear c64
           try clear p64
           try clear c65
           try clear c66
           try clear c69
           try clear c69b0
           try clear c69b1
           try clear hcz19_0
           try clear hcz19_1
           try clear hcz19_2
           try clear hcz21_0
           try clear hcz21_1
           try clear hcz21_2
           try clear hcz22_0
           try clear hcz22_1
           try clear hcz22_2
           try clear hcz27_0
           try clear hcz27_1
           try clear hcz27_2
           try clear hcz28_0
           try clear hcz28_1
           try clear hcz28_2
           try clear hcz30_0
           try clear hcz30_1
           try clear hcz30_2
           try clear hcz31_0
           try clear hcz31_1
           try clear hcz31_2
           try clear hcz33_0
           try clear hcz33_1
           try clear hcz33_2
           try clear hcz34_0
           try clear hcz34_1
           try clear hcz34_2
           try clear hcz36_0
           try clear hcz36_1
           try clear hcz36_2
           try clear hcz37_0
           try clear hcz37_1
           try clear hcz37_2
           try clear hcz59_0
           try clear hcz59_1
           try clear hcz59_2
           try clear hcz61_0
           try clear hcz61_1
           try clear hcz61_2
           try clear hcz67_0
           try clear hcz67_1
           try clear hcz67_2
           try clear hfz19_0
           try clear hfz19_1
           try clear hfz19_2
           try clear hfz21_0
           try clear hfz21_1
           try clear hfz21_2
           try clear hfz22_0
           try clear hfz22_1
           try clear hfz22_2
           try clear hfz27_0
           try clear hfz27_1
           try clear hfz27_2
           try clear hfz28_0
           try clear hfz28_1
           try clear hfz28_2
           try clear hfz30_0
           try clear hfz30_1
           try clear hfz30_2
           try clear hfz31_0
           try clear hfz31_1
           try clear hfz31_2
           try clear hfz33_0
           try clear hfz33_1
           try clear hfz33_2
           try clear hfz34_0
           try clear hfz34_1
           try clear hfz34_2
           try clear hfz36_0
           try clear hfz36_1
           try clear hfz36_2
           try clear hfz37_0
           try clear hfz37_1
           try clear hfz37_2
           try clear hfz59_0
           try clear hfz59_1
           try clear hfz59_2
           try clear hfz61_0
           try clear hfz61_1
           try clear hfz61_2
           try clear hfz67_0
           try clear hfz67_1
           try clear hfz67_2
           try clear p2
           try clear p6
           obtain ⟨kq, x123_55, rfl, HA, HJ55, BK552, BK553, BK554, BK572, HB⟩ := hcut
           cases kq with
           | zero => exact absurd HA.out (by simp [idiomlaw02_DecimalOrder.j2])
           | succ kj55 =>
            have H := HA.out
            clear HA
            simp only [idiomlaw02_DecimalOrder.j2] at H
            by_cases c70 : x123_55 = true
            ·subst c70
             have H1 : (some false) = some r := by rw [if_pos rfl] at H; exact H
             clear H
             have H := H1
             clear H1
             obtain rfl := Option.some.inj H
             go_wp2
             go_ret
             exact ⟨by first | rfl | (simp [errW_none, errW_some] <;> rfl) | (simp [*, errW_none, errW_some] <;> rfl) | (simp [bne_nil_]; done), by repeat (first | (with_reducible first | exact HB.out | apply below_alloc | apply pw_below_drewN | apply below_drew1 | refine below_set ?_ GE552.out | refine below_set ?_ GE553.out | refine below_set ?_ GE554.out | refine below_set ?_ GE572.out) | exact HB.out)⟩
            ·replace c70 := Bool.eq_false_iff.mpr c70
             subst c70
             have H1 : ((decimal_Trim.f kj55 a0_0 a0_1 a0_2).bind fun bt575 => ((decimal_Trim.f kj55 a1_0 a1_1 a1_2).bind fun bt580 => (if bt575.2.2.2 = 0 then (if bt580.2.2.2 = 0 then (some ((bt575.1 == bt580.1 && (bt575.2.1.toList == bt580.2.1.toList && (bt575.2.2.1.toList == bt580.2.2.1.toList))) == (t560 == 0))) else (some false)) else (some false)))) = some r := by rw [if_neg (show ¬ (false = true) by decide)] at H; exact H
             clear H
             have H := H1
             clear H1
             replace H := Option.bind_eq_some_iff.mp H
             obtain ⟨⟨t575, t576, t577, t578⟩, A710, H⟩ := H
             try dsimp only at H
             have A71 := Aside0.mk A710
             clear A710
             replace H := Option.bind_eq_some_iff.mp H
             obtain ⟨⟨t580, t581, t582, t583⟩, A720, H⟩ := H
             try dsimp only at H
             have A72 := Aside0.mk A720
             clear A720
             by_cases c73 : t578 = 0
             ·rw [if_pos c73] at H
              have c73b0 : (t578 == 0) = true := beq_iff_eq.mpr c73
              have c73b1 : (t578 != 0) = false := bne_eq_false_iff_eq.mpr c73
              clear c73
              by_cases c74 : t583 = 0
              ·rw [if_pos c74] at H
               have c74b0 : (t583 == 0) = true := beq_iff_eq.mpr c74
               have c74b1 : (t583 != 0) = false := bne_eq_false_iff_eq.mpr c74
               clear c74
               obtain rfl := Option.some.inj H
               have hnb75 := NB552_553.out
               have hnc75 := NB553_552.out
               have hnb76 := NB552_554.out
               have hnc76 := NB554_552.out
               have hnb77 := NB552_572.out
               have hnc77 := NB572_552.out
               have hcz78_0 : wc.cell? ⟨gb552, 0, none⟩ = some (.bool a0_0) := (blk_cell BK552.out 0).trans rfl
               have hcz78_1 : wc.cell? ⟨gb552, 1, none⟩ = some (.string a0_1) := (blk_cell BK552.out 1).trans rfl
               have hcz78_2 : wc.cell? ⟨gb552, 2, none⟩ = some (.string a0_2) := (blk_cell BK552.out 2).trans rfl
               have hfz78_0 := blk_frozen BK552.out 0
               have hfz78_1 := blk_frozen BK552.out 1
               have hfz78_2 := blk_frozen BK552.out 2
               go_wp2_with (first | ((with_reducible refine gate_callee (f := 30) rfl ?_); refine goesL_ (some 126) rfl rfl Tryd.func30 (by kernel_rfl) rfl #[.agg #[.bool a0_0, .string a0_1, .string a0_2]] rfl (by (try simp only [List.map_toArray, List.map_cons, List.map_nil]); first | done | rfl | (simp only [List.length_drop, List.length_take]; rfl)) ?_; (with_reducible refine (decimal_Trim.calls kj55 a0_0 a0_1 a0_2 t575 t576 t577 t578 _ A71.out).mono ?_); rintro e w79 ⟨rfl, hb⟩; refine ⟨_, rfl, ?_⟩; have n0_ := Aside0.mk (blk_below (g := gb552) (o := .cells #[.bool a0_0, .string a0_1, .string a0_2] 23 (0, 0)) BK552.out hb); have n1_ := Aside0.mk (blk_below (g := gb553) (o := .cells #[.bool a1_0, .string a1_1, .string a1_2] 23 (0, 0)) BK553.out hb); have n2_ := Aside0.mk (blk_below (g := gb554) (o := .cells #[.bool a2_0, .string a2_1, .string a2_2] 23 (0, 0)) BK554.out hb); have n3_ := Aside0.mk (blk_below (g := gb572) (o := .cells #[.bool t568, .string t569, .string t570] 23 (0, 0)) BK572.out hb); have n4_ := Aside0.mk (below_step HB.out hb); clear BK552; clear BK553; clear BK554; clear BK572; clear HB; have BK552 := n0_; have BK553 := n1_; have BK554 := n2_; have BK572 := n3_; have HB := n4_; clear n0_ n1_ n2_ n3_ n4_) | ((with_reducible refine gate_dst (N := 19) rfl ?_); refine box_event ?hg (N := 19) ?hd (cs := #[.bool false, .string (⟨#[]⟩ : ByteArray), .string (⟨#[]⟩ : ByteArray)]) (t := 23) ?hr ?_; (case hd => rfl); (case hg => rfl); (case hr => first | (go_simp; done) | (go_simp; rfl)); intro gb579 hg w80 hbox hb; have n0_ := Aside0.mk (blk_below (g := gb552) (o := .cells #[.bool a0_0, .string a0_1, .string a0_2] 23 (0, 0)) BK552.out hb); have n1_ := Aside0.mk (blk_below (g := gb553) (o := .cells #[.bool a1_0, .string a1_1, .string a1_2] 23 (0, 0)) BK553.out hb); have n2_ := Aside0.mk (blk_below (g := gb554) (o := .cells #[.bool a2_0, .string a2_1, .string a2_2] 23 (0, 0)) BK554.out hb); have n3_ := Aside0.mk (blk_below (g := gb572) (o := .cells #[.bool t568, .string t569, .string t570] 23 (0, 0)) BK572.out hb); have n4_ := Aside0.mk (below_step HB.out hb); have n5_ := Aside0.mk (hbox); have n6_ := Aside0.mk ((by rw [hg]; exact (below_size HB.out) : w.heap.size ≤ gb579)); have n7_ := Aside0.mk ((by rw [hg]; exact (below_size HB.out) : w.heap.size ≤ gb579)); have n8_ := Aside0.mk ((by rw [hg]; exact Nat.ne_of_lt (blk_lt (g := gb552) (o := .cells #[.bool a0_0, .string a0_1, .string a0_2] 23 (0, 0)) BK552.out) : gb552 ≠ gb579)); have n9_ := Aside0.mk ((by rw [hg]; exact Nat.ne_of_gt (blk_lt (g := gb552) (o := .cells #[.bool a0_0, .string a0_1, .string a0_2] 23 (0, 0)) BK552.out) : gb579 ≠ gb552)); have n10_ := Aside0.mk ((by rw [hg]; exact Nat.ne_of_lt (blk_lt (g := gb553) (o := .cells #[.bool a1_0, .string a1_1, .string a1_2] 23 (0, 0)) BK553.out) : gb553 ≠ gb579)); have n11_ := Aside0.mk ((by rw [hg]; exact Nat.ne_of_gt (blk_lt (g := gb553) (o := .cells #[.bool a1_0, .string a1_1, .string a1_2] 23 (0, 0)) BK553.out) : gb579 ≠ gb553)); have n12_ := Aside0.mk ((by rw [hg]; exact Nat.ne_of_lt (blk_lt (g := gb554) (o := .cells #[.bool a2_0, .string a2_1, .string a2_2] 23 (0, 0)) BK554.out) : gb554 ≠ gb579)); have n13_ := Aside0.mk ((by rw [hg]; exact Nat.ne_of_gt (blk_lt (g := gb554) (o := .cells #[.bool a2_0, .string a2_1, .string a2_2] 23 (0, 0)) BK554.out) : gb579 ≠ gb554)); have n14_ := Aside0.mk ((by rw [hg]; exact Nat.ne_of_lt (blk_lt (g := gb572) (o := .cells #[.bool t568, .string t569, .string t570] 23 (0, 0)) BK572.out) : gb572 ≠ gb579)); have n15_ := Aside0.mk ((by rw [hg]; exact Nat.ne_of_gt (blk_lt (g := gb572) (o := .cells #[.bool t568, .string t569, .string t570] 23 (0, 0)) BK572.out) : gb579 ≠ gb572)); clear BK552; clear BK553; clear BK554; clear BK572; clear HB; have BK552 := n0_; have BK553 := n1_; have BK554 := n2_; have BK572 := n3_; have HB := n4_; have BK579 := n5_; have GW579 := n6_; have GE579 := n7_; have NB552_579 := n8_; have NB579_552 := n9_; have NB553_579 := n10_; have NB579_553 := n11_; have NB554_579 := n12_; have NB579_554 := n13_; have NB572_579 := n14_; have NB579_572 := n15_; clear n0_ n1_ n2_ n3_ n4_ n5_ n6_ n7_ n8_ n9_ n10_ n11_ n12_ n13_ n14_ n15_; clear hb hbox hg; have hnb81 := NB579_552.out; have hnc81 := NB552_579.out; have hnb82 := NB579_553.out; have hnc82 := NB553_579.out; have hnb83 := NB579_554.out; have hnc83 := NB554_579.out; have hnb84 := NB579_572.out; have hnc84 := NB572_579.out; have hcz85_0 : w80.cell? ⟨gb579, 0, none⟩ = some (.bool false) := (blk_cell BK579.out 0).trans rfl; have hcz85_1 : w80.cell? ⟨gb579, 1, none⟩ = some (.string (⟨#[]⟩ : ByteArray)) := (blk_cell BK579.out 1).trans rfl; have hcz85_2 : w80.cell? ⟨gb579, 2, none⟩ = some (.string (⟨#[]⟩ : ByteArray)) := (blk_cell BK579.out 2).trans rfl; have hfz85_0 := blk_frozen BK579.out 0; have hfz85_1 := blk_frozen BK579.out 1; have hfz85_2 := blk_frozen BK579.out 2; have hnb86 := NB553_554.out; have hnc86 := NB554_553.out; have hnb87 := NB553_572.out; have hnc87 := NB572_553.out; have hcz88_0 : w80.cell? ⟨gb553, 0, none⟩ = some (.bool a1_0) := (blk_cell BK553.out 0).trans rfl; have hcz88_1 : w80.cell? ⟨gb553, 1, none⟩ = some (.string a1_1) := (blk_cell BK553.out 1).trans rfl; have hcz88_2 : w80.cell? ⟨gb553, 2, none⟩ = some (.string a1_2) := (blk_cell BK553.out 2).trans rfl; have hfz88_0 := blk_frozen BK553.out 0; have hfz88_1 := blk_frozen BK553.out 1; have hfz88_2 := blk_frozen BK553.out 2) | ((with_reducible refine gate_callee (f := 30) rfl ?_); refine goesL_ (some 131) rfl rfl Tryd.func30 (by kernel_rfl) rfl #[.agg #[.bool a1_0, .string a1_1, .string a1_2]] rfl (by (try simp only [List.map_toArray, List.map_cons, List.map_nil]); first | done | rfl | (simp only [List.length_drop, List.length_take]; rfl)) ?_; (with_reducible refine (decimal_Trim.calls kj55 a1_0 a1_1 a1_2 t580 t581 t582 t583 _ A72.out).mono ?_); rintro e w89 ⟨rfl, hb⟩; refine ⟨_, rfl, ?_⟩; have n0_ := Aside0.mk (blk_below (g := gb552) (o := .cells #[.bool a0_0, .string a0_1, .string a0_2] 23 (0, 0)) (by refine blk_far ?_ NB552_579.out _; refine blk_far ?_ NB552_579.out _; refine blk_far ?_ NB552_579.out _; exact BK552.out) hb); have n1_ := Aside0.mk (blk_below (g := gb553) (o := .cells #[.bool a1_0, .string a1_1, .string a1_2] 23 (0, 0)) (by refine blk_far ?_ NB553_579.out _; refine blk_far ?_ NB553_579.out _; refine blk_far ?_ NB553_579.out _; exact BK553.out) hb); have n2_ := Aside0.mk (blk_below (g := gb554) (o := .cells #[.bool a2_0, .string a2_1, .string a2_2] 23 (0, 0)) (by refine blk_far ?_ NB554_579.out _; refine blk_far ?_ NB554_579.out _; refine blk_far ?_ NB554_579.out _; exact BK554.out) hb); have n3_ := Aside0.mk (blk_below (g := gb572) (o := .cells #[.bool t568, .string t569, .string t570] 23 (0, 0)) (by refine blk_far ?_ NB572_579.out _; refine blk_far ?_ NB572_579.out _; refine blk_far ?_ NB572_579.out _; exact BK572.out) hb); have n4_ := Aside0.mk (blk_below (g := gb579) (o := .cells #[.bool t575, .string t576, .string t577] 23 (0, 0)) (by refine blk_put (cs := #[.bool t575, .string t576, .string (⟨#[]⟩ : ByteArray)]) ?_ 2 _ rfl; refine blk_put (cs := #[.bool t575, .string (⟨#[]⟩ : ByteArray), .string (⟨#[]⟩ : ByteArray)]) ?_ 1 _ rfl; refine blk_put (cs := #[.bool false, .string (⟨#[]⟩ : ByteArray), .string (⟨#[]⟩ : ByteArray)]) ?_ 0 _ rfl; exact BK579.out) hb); have n5_ := Aside0.mk (below_step (by repeat (first | (with_reducible first | exact HB.out | apply below_alloc | apply pw_below_drewN | apply below_drew1 | refine below_set ?_ GE552.out | refine below_set ?_ GE553.out | refine below_set ?_ GE554.out | refine below_set ?_ GE572.out | refine below_set ?_ GE579.out) | exact HB.out)) hb); clear BK552; clear BK553; clear BK554; clear BK572; clear BK579; clear HB; have BK552 := n0_; have BK553 := n1_; have BK554 := n2_; have BK572 := n3_; have BK579 := n4_; have HB := n5_; clear n0_ n1_ n2_ n3_ n4_ n5_) | ((with_reducible refine gate_dst (N := 20) rfl ?_); refine box_event ?hg (N := 20) ?hd (cs := #[.bool false, .string (⟨#[]⟩ : ByteArray), .string (⟨#[]⟩ : ByteArray)]) (t := 23) ?hr ?_; (case hd => rfl); (case hg => rfl); (case hr => first | (go_simp; done) | (go_simp; rfl)); intro gb584 hg w90 hbox hb; have n0_ := Aside0.mk (blk_below (g := gb552) (o := .cells #[.bool a0_0, .string a0_1, .string a0_2] 23 (0, 0)) BK552.out hb); have n1_ := Aside0.mk (blk_below (g := gb553) (o := .cells #[.bool a1_0, .string a1_1, .string a1_2] 23 (0, 0)) BK553.out hb); have n2_ := Aside0.mk (blk_below (g := gb554) (o := .cells #[.bool a2_0, .string a2_1, .string a2_2] 23 (0, 0)) BK554.out hb); have n3_ := Aside0.mk (blk_below (g := gb572) (o := .cells #[.bool t568, .string t569, .string t570] 23 (0, 0)) BK572.out hb); have n4_ := Aside0.mk (blk_below (g := gb579) (o := .cells #[.bool t575, .string t576, .string t577] 23 (0, 0)) BK579.out hb); have n5_ := Aside0.mk (below_step HB.out hb); have n6_ := Aside0.mk (hbox); have n7_ := Aside0.mk ((by rw [hg]; exact (below_size HB.out) : w.heap.size ≤ gb584)); have n8_ := Aside0.mk ((by rw [hg]; exact (below_size HB.out) : w.heap.size ≤ gb584)); have n9_ := Aside0.mk ((by rw [hg]; exact Nat.ne_of_lt (blk_lt (g := gb552) (o := .cells #[.bool a0_0, .string a0_1, .string a0_2] 23 (0, 0)) BK552.out) : gb552 ≠ gb584)); have n10_ := Aside0.mk ((by rw [hg]; exact Nat.ne_of_gt (blk_lt (g := gb552) (o := .cells #[.bool a0_0, .string a0_1, .string a0_2] 23 (0, 0)) BK552.out) : gb584 ≠ gb552)); have n11_ := Aside0.mk ((by rw [hg]; exact Nat.ne_of_lt (blk_lt (g := gb553) (o := .cells #[.bool a1_0, .string a1_1, .string a1_2] 23 (0, 0)) BK553.out) : gb553 ≠ gb584)); have n12_ := Aside0.mk ((by rw [hg]; exact Nat.ne_of_gt (blk_lt (g := gb553) (o := .cells #[.bool a1_0, .string a1_1, .string a1_2] 23 (0, 0)) BK553.out) : gb584 ≠ gb553)); have n13_ := Aside0.mk ((by rw [hg]; exact Nat.ne_of_lt (blk_lt (g := gb554) (o := .cells #[.bool a2_0, .string a2_1, .string a2_2] 23 (0, 0)) BK554.out) : gb554 ≠ gb584)); have n14_ := Aside0.mk ((by rw [hg]; exact Nat.ne_of_gt (blk_lt (g := gb554) (o := .cells #[.bool a2_0, .string a2_1, .string a2_2] 23 (0, 0)) BK554.out) : gb584 ≠ gb554)); have n15_ := Aside0.mk ((by rw [hg]; exact Nat.ne_of_lt (blk_lt (g := gb572) (o := .cells #[.bool t568, .string t569, .string t570] 23 (0, 0)) BK572.out) : gb572 ≠ gb584)); have n16_ := Aside0.mk ((by rw [hg]; exact Nat.ne_of_gt (blk_lt (g := gb572) (o := .cells #[.bool t568, .string t569, .string t570] 23 (0, 0)) BK572.out) : gb584 ≠ gb572)); have n17_ := Aside0.mk ((by rw [hg]; exact Nat.ne_of_lt (blk_lt (g := gb579) (o := .cells #[.bool t575, .string t576, .string t577] 23 (0, 0)) BK579.out) : gb579 ≠ gb584)); have n18_ := Aside0.mk ((by rw [hg]; exact Nat.ne_of_gt (blk_lt (g := gb579) (o := .cells #[.bool t575, .string t576, .string t577] 23 (0, 0)) BK579.out) : gb584 ≠ gb579)); clear BK552; clear BK553; clear BK554; clear BK572; clear BK579; clear HB; have BK552 := n0_; have BK553 := n1_; have BK554 := n2_; have BK572 := n3_; have BK579 := n4_; have HB := n5_; have BK584 := n6_; have GW584 := n7_; have GE584 := n8_; have NB552_584 := n9_; have NB584_552 := n10_; have NB553_584 := n11_; have NB584_553 := n12_; have NB554_584 := n13_; have NB584_554 := n14_; have NB572_584 := n15_; have NB584_572 := n16_; have NB579_584 := n17_; have NB584_579 := n18_; clear n0_ n1_ n2_ n3_ n4_ n5_ n6_ n7_ n8_ n9_ n10_ n11_ n12_ n13_ n14_ n15_ n16_ n17_ n18_; clear hb hbox hg; have hnb91 := NB584_552.out; have hnc91 := NB552_584.out; have hnb92 := NB584_553.out; have hnc92 := NB553_584.out; have hnb93 := NB584_554.out; have hnc93 := NB554_584.out; have hnb94 := NB584_572.out; have hnc94 := NB572_584.out; have hnb95 := NB584_579.out; have hnc95 := NB579_584.out; have hcz96_0 : w90.cell? ⟨gb584, 0, none⟩ = some (.bool false) := (blk_cell BK584.out 0).trans rfl; have hcz96_1 : w90.cell? ⟨gb584, 1, none⟩ = some (.string (⟨#[]⟩ : ByteArray)) := (blk_cell BK584.out 1).trans rfl; have hcz96_2 : w90.cell? ⟨gb584, 2, none⟩ = some (.string (⟨#[]⟩ : ByteArray)) := (blk_cell BK584.out 2).trans rfl; have hfz96_0 := blk_frozen BK584.out 0; have hfz96_1 := blk_frozen BK584.out 1; have hfz96_2 := blk_frozen BK584.out 2; have hcz97_0 : w90.cell? ⟨gb579, 0, none⟩ = some (.bool t575) := (blk_cell BK579.out 0).trans rfl; have hcz97_1 : w90.cell? ⟨gb579, 1, none⟩ = some (.string t576) := (blk_cell BK579.out 1).trans rfl; have hcz97_2 : w90.cell? ⟨gb579, 2, none⟩ = some (.string t577) := (blk_cell BK579.out 2).trans rfl; have hfz97_0 := blk_frozen BK579.out 0; have hfz97_1 := blk_frozen BK579.out 1; have hfz97_2 := blk_frozen BK579.out 2))
               go_ret
               exact ⟨by first | rfl | (simp [errW_none, errW_some] <;> rfl) | (simp [*, errW_none, errW_some] <;> rfl) | (simp [bne_nil_]; done), by repeat (first | (with_reducible first | exact HB.out | apply below_alloc | apply pw_below_drewN | apply below_drew1 | refine below_set ?_ GE552.out | refine below_set ?_ GE553.out | refine below_set ?_ GE554.out | refine below_set ?_ GE572.out | refine below_set ?_ GE579.out | refine below_set ?_ GE584.out) | exact HB.out)⟩
              ·rw [if_neg c74] at H
               have c74b0 : (t583 == 0) = false := beq_eq_false_iff_ne.mpr c74
               have c74b1 : (t583 != 0) = true := bne_iff_ne.mpr c74
               obtain rfl := Option.some.inj H
               have hnb98 := NB552_553.out
               have hnc98 := NB553_552.out
               have hnb99 := NB552_554.out
               have hnc99 := NB554_552.out
               have hnb100 := NB552_572.out
               have hnc100 := NB572_552.out
               have hcz101_0 : wc.cell? ⟨gb552, 0, none⟩ = some (.bool a0_0) := (blk_cell BK552.out 0).trans rfl
               have hcz101_1 : wc.cell? ⟨gb552, 1, none⟩ = some (.string a0_1) := (blk_cell BK552.out 1).trans rfl
               have hcz101_2 : wc.cell? ⟨gb552, 2, none⟩ = some (.string a0_2) := (blk_cell BK552.out 2).trans rfl
               have hfz101_0 := blk_frozen BK552.out 0
               have hfz101_1 := blk_frozen BK552.out 1
               have hfz101_2 := blk_frozen BK552.out 2
               go_wp2_with (first | ((with_reducible refine gate_callee (f := 30) rfl ?_); refine goesL_ (some 126) rfl rfl Tryd.func30 (by kernel_rfl) rfl #[.agg #[.bool a0_0, .string a0_1, .string a0_2]] rfl (by (try simp only [List.map_toArray, List.map_cons, List.map_nil]); first | done | rfl | (simp only [List.length_drop, List.length_take]; rfl)) ?_; (with_reducible refine (decimal_Trim.calls kj55 a0_0 a0_1 a0_2 t575 t576 t577 t578 _ A71.out).mono ?_); rintro e w102 ⟨rfl, hb⟩; refine ⟨_, rfl, ?_⟩; have n0_ := Aside0.mk (blk_below (g := gb552) (o := .cells #[.bool a0_0, .string a0_1, .string a0_2] 23 (0, 0)) BK552.out hb); have n1_ := Aside0.mk (blk_below (g := gb553) (o := .cells #[.bool a1_0, .string a1_1, .string a1_2] 23 (0, 0)) BK553.out hb); have n2_ := Aside0.mk (blk_below (g := gb554) (o := .cells #[.bool a2_0, .string a2_1, .string a2_2] 23 (0, 0)) BK554.out hb); have n3_ := Aside0.mk (blk_below (g := gb572) (o := .cells #[.bool t568, .string t569, .string t570] 23 (0, 0)) BK572.out hb); have n4_ := Aside0.mk (below_step HB.out hb); clear BK552; clear BK553; clear BK554; clear BK572; clear HB; have BK552 := n0_; have BK553 := n1_; have BK554 := n2_; have BK572 := n3_; have HB := n4_; clear n0_ n1_ n2_ n3_ n4_) | ((with_reducible refine gate_dst (N := 19) rfl ?_); refine box_event ?hg (N := 19) ?hd (cs := #[.bool false, .string (⟨#[]⟩ : ByteArray), .string (⟨#[]⟩ : ByteArray)]) (t := 23) ?hr ?_; (case hd => rfl); (case hg => rfl); (case hr => first | (go_simp; done) | (go_simp; rfl)); intro gb579 hg w103 hbox hb; have n0_ := Aside0.mk (blk_below (g := gb552) (o := .cells #[.bool a0_0, .string a0_1, .string a0_2] 23 (0, 0)) BK552.out hb); have n1_ := Aside0.mk (blk_below (g := gb553) (o := .cells #[.bool a1_0, .string a1_1, .string a1_2] 23 (0, 0)) BK553.out hb); have n2_ := Aside0.mk (blk_below (g := gb554) (o := .cells #[.bool a2_0, .string a2_1, .string a2_2] 23 (0, 0)) BK554.out hb); have n3_ := Aside0.mk (blk_below (g := gb572) (o := .cells #[.bool t568, .string t569, .string t570] 23 (0, 0)) BK572.out hb); have n4_ := Aside0.mk (below_step HB.out hb); have n5_ := Aside0.mk (hbox); have n6_ := Aside0.mk ((by rw [hg]; exact (below_size HB.out) : w.heap.size ≤ gb579)); have n7_ := Aside0.mk ((by rw [hg]; exact (below_size HB.out) : w.heap.size ≤ gb579)); have n8_ := Aside0.mk ((by rw [hg]; exact Nat.ne_of_lt (blk_lt (g := gb552) (o := .cells #[.bool a0_0, .string a0_1, .string a0_2] 23 (0, 0)) BK552.out) : gb552 ≠ gb579)); have n9_ := Aside0.mk ((by rw [hg]; exact Nat.ne_of_gt (blk_lt (g := gb552) (o := .cells #[.bool a0_0, .string a0_1, .string a0_2] 23 (0, 0)) BK552.out) : gb579 ≠ gb552)); have n10_ := Aside0.mk ((by rw [hg]; exact Nat.ne_of_lt (blk_lt (g := gb553) (o := .cells #[.bool a1_0, .string a1_1, .string a1_2] 23 (0, 0)) BK553.out) : gb553 ≠ gb579)); have n11_ := Aside0.mk ((by rw [hg]; exact Nat.ne_of_gt (blk_lt (g := gb553) (o := .cells #[.bool a1_0, .string a1_1, .string a1_2] 23 (0, 0)) BK553.out) : gb579 ≠ gb553)); have n12_ := Aside0.mk ((by rw [hg]; exact Nat.ne_of_lt (blk_lt (g := gb554) (o := .cells #[.bool a2_0, .string a2_1, .string a2_2] 23 (0, 0)) BK554.out) : gb554 ≠ gb579)); have n13_ := Aside0.mk ((by rw [hg]; exact Nat.ne_of_gt (blk_lt (g := gb554) (o := .cells #[.bool a2_0, .string a2_1, .string a2_2] 23 (0, 0)) BK554.out) : gb579 ≠ gb554)); have n14_ := Aside0.mk ((by rw [hg]; exact Nat.ne_of_lt (blk_lt (g := gb572) (o := .cells #[.bool t568, .string t569, .string t570] 23 (0, 0)) BK572.out) : gb572 ≠ gb579)); have n15_ := Aside0.mk ((by rw [hg]; exact Nat.ne_of_gt (blk_lt (g := gb572) (o := .cells #[.bool t568, .string t569, .string t570] 23 (0, 0)) BK572.out) : gb579 ≠ gb572)); clear BK552; clear BK553; clear BK554; clear BK572; clear HB; have BK552 := n0_; have BK553 := n1_; have BK554 := n2_; have BK572 := n3_; have HB := n4_; have BK579 := n5_; have GW579 := n6_; have GE579 := n7_; have NB552_579 := n8_; have NB579_552 := n9_; have NB553_579 := n10_; have NB579_553 := n11_; have NB554_579 := n12_; have NB579_554 := n13_; have NB572_579 := n14_; have NB579_572 := n15_; clear n0_ n1_ n2_ n3_ n4_ n5_ n6_ n7_ n8_ n9_ n10_ n11_ n12_ n13_ n14_ n15_; clear hb hbox hg; have hnb104 := NB579_552.out; have hnc104 := NB552_579.out; have hnb105 := NB579_553.out; have hnc105 := NB553_579.out; have hnb106 := NB579_554.out; have hnc106 := NB554_579.out; have hnb107 := NB579_572.out; have hnc107 := NB572_579.out; have hcz108_0 : w103.cell? ⟨gb579, 0, none⟩ = some (.bool false) := (blk_cell BK579.out 0).trans rfl; have hcz108_1 : w103.cell? ⟨gb579, 1, none⟩ = some (.string (⟨#[]⟩ : ByteArray)) := (blk_cell BK579.out 1).trans rfl; have hcz108_2 : w103.cell? ⟨gb579, 2, none⟩ = some (.string (⟨#[]⟩ : ByteArray)) := (blk_cell BK579.out 2).trans rfl; have hfz108_0 := blk_frozen BK579.out 0; have hfz108_1 := blk_frozen BK579.out 1; have hfz108_2 := blk_frozen BK579.out 2; have hnb109 := NB553_554.out; have hnc109 := NB554_553.out; have hnb110 := NB553_572.out; have hnc110 := NB572_553.out; have hcz111_0 : w103.cell? ⟨gb553, 0, none⟩ = some (.bool a1_0) := (blk_cell BK553.out 0).trans rfl; have hcz111_1 : w103.cell? ⟨gb553, 1, none⟩ = some (.string a1_1) := (blk_cell BK553.out 1).trans rfl; have hcz111_2 : w103.cell? ⟨gb553, 2, none⟩ = some (.string a1_2) := (blk_cell BK553.out 2).trans rfl; have hfz111_0 := blk_frozen BK553.out 0; have hfz111_1 := blk_frozen BK553.out 1; have hfz111_2 := blk_frozen BK553.out 2) | ((with_reducible refine gate_callee (f := 30) rfl ?_); refine goesL_ (some 131) rfl rfl Tryd.func30 (by kernel_rfl) rfl #[.agg #[.bool a1_0, .string a1_1, .string a1_2]] rfl (by (try simp only [List.map_toArray, List.map_cons, List.map_nil]); first | done | rfl | (simp only [List.length_drop, List.length_take]; rfl)) ?_; (with_reducible refine (decimal_Trim.calls kj55 a1_0 a1_1 a1_2 t580 t581 t582 t583 _ A72.out).mono ?_); rintro e w112 ⟨rfl, hb⟩; refine ⟨_, rfl, ?_⟩; have n0_ := Aside0.mk (blk_below (g := gb552) (o := .cells #[.bool a0_0, .string a0_1, .string a0_2] 23 (0, 0)) (by refine blk_far ?_ NB552_579.out _; refine blk_far ?_ NB552_579.out _; refine blk_far ?_ NB552_579.out _; exact BK552.out) hb); have n1_ := Aside0.mk (blk_below (g := gb553) (o := .cells #[.bool a1_0, .string a1_1, .string a1_2] 23 (0, 0)) (by refine blk_far ?_ NB553_579.out _; refine blk_far ?_ NB553_579.out _; refine blk_far ?_ NB553_579.out _; exact BK553.out) hb); have n2_ := Aside0.mk (blk_below (g := gb554) (o := .cells #[.bool a2_0, .string a2_1, .string a2_2] 23 (0, 0)) (by refine blk_far ?_ NB554_579.out _; refine blk_far ?_ NB554_579.out _; refine blk_far ?_ NB554_579.out _; exact BK554.out) hb); have n3_ := Aside0.mk (blk_below (g := gb572) (o := .cells #[.bool t568, .string t569, .string t570] 23 (0, 0)) (by refine blk_far ?_ NB572_579.out _; refine blk_far ?_ NB572_579.out _; refine blk_far ?_ NB572_579.out _; exact BK572.out) hb); have n4_ := Aside0.mk (blk_below (g := gb579) (o := .cells #[.bool t575, .string t576, .string t577] 23 (0, 0)) (by refine blk_put (cs := #[.bool t575, .string t576, .string (⟨#[]⟩ : ByteArray)]) ?_ 2 _ rfl; refine blk_put (cs := #[.bool t575, .string (⟨#[]⟩ : ByteArray), .string (⟨#[]⟩ : ByteArray)]) ?_ 1 _ rfl; refine blk_put (cs := #[.bool false, .string (⟨#[]⟩ : ByteArray), .string (⟨#[]⟩ : ByteArray)]) ?_ 0 _ rfl; exact BK579.out) hb); have n5_ := Aside0.mk (below_step (by repeat (first | (with_reducible first | exact HB.out | apply below_alloc | apply pw_below_drewN | apply below_drew1 | refine below_set ?_ GE552.out | refine below_set ?_ GE553.out | refine below_set ?_ GE554.out | refine below_set ?_ GE572.out | refine below_set ?_ GE579.out) | exact HB.out)) hb); clear BK552; clear BK553; clear BK554; clear BK572; clear BK579; clear HB; have BK552 := n0_; have BK553 := n1_; have BK554 := n2_; have BK572 := n3_; have BK579 := n4_; have HB := n5_; clear n0_ n1_ n2_ n3_ n4_ n5_) | ((with_reducible refine gate_dst (N := 20) rfl ?_); refine box_event ?hg (N := 20) ?hd (cs := #[.bool false, .string (⟨#[]⟩ : ByteArray), .string (⟨#[]⟩ : ByteArray)]) (t := 23) ?hr ?_; (case hd => rfl); (case hg => rfl); (case hr => first | (go_simp; done) | (go_simp; rfl)); intro gb584 hg w113 hbox hb; have n0_ := Aside0.mk (blk_below (g := gb552) (o := .cells #[.bool a0_0, .string a0_1, .string a0_2] 23 (0, 0)) BK552.out hb); have n1_ := Aside0.mk (blk_below (g := gb553) (o := .cells #[.bool a1_0, .string a1_1, .string a1_2] 23 (0, 0)) BK553.out hb); have n2_ := Aside0.mk (blk_below (g := gb554) (o := .cells #[.bool a2_0, .string a2_1, .string a2_2] 23 (0, 0)) BK554.out hb); have n3_ := Aside0.mk (blk_below (g := gb572) (o := .cells #[.bool t568, .string t569, .string t570] 23 (0, 0)) BK572.out hb); have n4_ := Aside0.mk (blk_below (g := gb579) (o := .cells #[.bool t575, .string t576, .string t577] 23 (0, 0)) BK579.out hb); have n5_ := Aside0.mk (below_step HB.out hb); have n6_ := Aside0.mk (hbox); have n7_ := Aside0.mk ((by rw [hg]; exact (below_size HB.out) : w.heap.size ≤ gb584)); have n8_ := Aside0.mk ((by rw [hg]; exact (below_size HB.out) : w.heap.size ≤ gb584)); have n9_ := Aside0.mk ((by rw [hg]; exact Nat.ne_of_lt (blk_lt (g := gb552) (o := .cells #[.bool a0_0, .string a0_1, .string a0_2] 23 (0, 0)) BK552.out) : gb552 ≠ gb584)); have n10_ := Aside0.mk ((by rw [hg]; exact Nat.ne_of_gt (blk_lt (g := gb552) (o := .cells #[.bool a0_0, .string a0_1, .string a0_2] 23 (0, 0)) BK552.out) : gb584 ≠ gb552)); have n11_ := Aside0.mk ((by rw [hg]; exact Nat.ne_of_lt (blk_lt (g := gb553) (o := .cells #[.bool a1_0, .string a1_1, .string a1_2] 23 (0, 0)) BK553.out) : gb553 ≠ gb584)); have n12_ := Aside0.mk ((by rw [hg]; exact Nat.ne_of_gt (blk_lt (g := gb553) (o := .cells #[.bool a1_0, .string a1_1, .string a1_2] 23 (0, 0)) BK553.out) : gb584 ≠ gb553)); have n13_ := Aside0.mk ((by rw [hg]; exact Nat.ne_of_lt (blk_lt (g := gb554) (o := .cells #[.bool a2_0, .string a2_1, .string a2_2] 23 (0, 0)) BK554.out) : gb554 ≠ gb584)); have n14_ := Aside0.mk ((by rw [hg]; exact Nat.ne_of_gt (blk_lt (g := gb554) (o := .cells #[.bool a2_0, .string a2_1, .string a2_2] 23 (0, 0)) BK554.out) : gb584 ≠ gb554)); have n15_ := Aside0.mk ((by rw [hg]; exact Nat.ne_of_lt (blk_lt (g := gb572) (o := .cells #[.bool t568, .string t569, .string t570] 23 (0, 0)) BK572.out) : gb572 ≠ gb584)); have n16_ := Aside0.mk ((by rw [hg]; exact Nat.ne_of_gt (blk_lt (g := gb572) (o := .cells #[.bool t568, .string t569, .string t570] 23 (0, 0)) BK572.out) : gb584 ≠ gb572)); have n17_ := Aside0.mk ((by rw [hg]; exact Nat.ne_of_lt (blk_lt (g := gb579) (o := .cells #[.bool t575, .string t576, .string t577] 23 (0, 0)) BK579.out) : gb579 ≠ gb584)); have n18_ := Aside0.mk ((by rw [hg]; exact Nat.ne_of_gt (blk_lt (g := gb579) (o := .cells #[.bool t575, .string t576, .string t577] 23 (0, 0)) BK579.out) : gb584 ≠ gb579)); clear BK552; clear BK553; clear BK554; clear BK572; clear BK579; clear HB; have BK552 := n0_; have BK553 := n1_; have BK554 := n2_; have BK572 := n3_; have BK579 := n4_; have HB := n5_; have BK584 := n6_; have GW584 := n7_; have GE584 := n8_; have NB552_584 := n9_; have NB584_552 := n10_; have NB553_584 := n11_; have NB584_553 := n12_; have NB554_584 := n13_; have NB584_554 := n14_; have NB572_584 := n15_; have NB584_572 := n16_; have NB579_584 := n17_; have NB584_579 := n18_; clear n0_ n1_ n2_ n3_ n4_ n5_ n6_ n7_ n8_ n9_ n10_ n11_ n12_ n13_ n14_ n15_ n16_ n17_ n18_; clear hb hbox hg; have hnb114 := NB584_552.out; have hnc114 := NB552_584.out; have hnb115 := NB584_553.out; have hnc115 := NB553_584.out; have hnb116 := NB584_554.out; have hnc116 := NB554_584.out; have hnb117 := NB584_572.out; have hnc117 := NB572_584.out; have hnb118 := NB584_579.out; have hnc118 := NB579_584.out; have hcz119_0 : w113.cell? ⟨gb584, 0, none⟩ = some (.bool false) := (blk_cell BK584.out 0).trans rfl; have hcz119_1 : w113.cell? ⟨gb584, 1, none⟩ = some (.string (⟨#[]⟩ : ByteArray)) := (blk_cell BK584.out 1).trans rfl; have hcz119_2 : w113.cell? ⟨gb584, 2, none⟩ = some (.string (⟨#[]⟩ : ByteArray)) := (blk_cell BK584.out 2).trans rfl; have hfz119_0 := blk_frozen BK584.out 0; have hfz119_1 := blk_frozen BK584.out 1; have hfz119_2 := blk_frozen BK584.out 2))
               go_ret
               exact ⟨by first | rfl | (simp [errW_none, errW_some] <;> rfl) | (simp [*, errW_none, errW_some] <;> rfl) | (simp [bne_nil_]; done), by repeat (first | (with_reducible first | exact HB.out | apply below_alloc | apply pw_below_drewN | apply below_drew1 | refine below_set ?_ GE552.out | refine below_set ?_ GE553.out | refine below_set ?_ GE554.out | refine below_set ?_ GE572.out | refine below_set ?_ GE579.out | refine below_set ?_ GE584.out) | exact HB.out)⟩
             ·rw [if_neg c73] at H
              have c73b0 : (t578 == 0) = false := beq_eq_false_iff_ne.mpr c73
              have c73b1 : (t578 != 0) = true := bne_iff_ne.mpr c73
              obtain rfl := Option.some.inj H
              have hnb120 := NB552_553.out
              have hnc120 := NB553_552.out
              have hnb121 := NB552_554.out
              have hnc121 := NB554_552.out
              have hnb122 := NB552_572.out
              have hnc122 := NB572_552.out
              have hcz123_0 : wc.cell? ⟨gb552, 0, none⟩ = some (.bool a0_0) := (blk_cell BK552.out 0).trans rfl
              have hcz123_1 : wc.cell? ⟨gb552, 1, none⟩ = some (.string a0_1) := (blk_cell BK552.out 1).trans rfl
              have hcz123_2 : wc.cell? ⟨gb552, 2, none⟩ = some (.string a0_2) := (blk_cell BK552.out 2).trans rfl
              have hfz123_0 := blk_frozen BK552.out 0
              have hfz123_1 := blk_frozen BK552.out 1
              have hfz123_2 := blk_frozen BK552.out 2
              go_wp2_with (first | ((with_reducible refine gate_callee (f := 30) rfl ?_); refine goesL_ (some 126) rfl rfl Tryd.func30 (by kernel_rfl) rfl #[.agg #[.bool a0_0, .string a0_1, .string a0_2]] rfl (by (try simp only [List.map_toArray, List.map_cons, List.map_nil]); first | done | rfl | (simp only [List.length_drop, List.length_take]; rfl)) ?_; (with_reducible refine (decimal_Trim.calls kj55 a0_0 a0_1 a0_2 t575 t576 t577 t578 _ A71.out).mono ?_); rintro e w124 ⟨rfl, hb⟩; refine ⟨_, rfl, ?_⟩; have n0_ := Aside0.mk (blk_below (g := gb552) (o := .cells #[.bool a0_0, .string a0_1, .string a0_2] 23 (0, 0)) BK552.out hb); have n1_ := Aside0.mk (blk_below (g := gb553) (o := .cells #[.bool a1_0, .string a1_1, .string a1_2] 23 (0, 0)) BK553.out hb); have n2_ := Aside0.mk (blk_below (g := gb554) (o := .cells #[.bool a2_0, .string a2_1, .string a2_2] 23 (0, 0)) BK554.out hb); have n3_ := Aside0.mk (blk_below (g := gb572) (o := .cells #[.bool t568, .string t569, .string t570] 23 (0, 0)) BK572.out hb); have n4_ := Aside0.mk (below_step HB.out hb); clear BK552; clear BK553; clear BK554; clear BK572; clear HB; have BK552 := n0_; have BK553 := n1_; have BK554 := n2_; have BK572 := n3_; have HB := n4_; clear n0_ n1_ n2_ n3_ n4_) | ((with_reducible refine gate_dst (N := 19) rfl ?_); refine box_event ?hg (N := 19) ?hd (cs := #[.bool false, .string (⟨#[]⟩ : ByteArray), .string (⟨#[]⟩ : ByteArray)]) (t := 23) ?hr ?_; (case hd => rfl); (case hg => rfl); (case hr => first | (go_simp; done) | (go_simp; rfl)); intro gb579 hg w125 hbox hb; have n0_ := Aside0.mk (blk_below (g := gb552) (o := .cells #[.bool a0_0, .string a0_1, .string a0_2] 23 (0, 0)) BK552.out hb); have n1_ := Aside0.mk (blk_below (g := gb553) (o := .cells #[.bool a1_0, .string a1_1, .string a1_2] 23 (0, 0)) BK553.out hb); have n2_ := Aside0.mk (blk_below (g := gb554) (o := .cells #[.bool a2_0, .string a2_1, .string a2_2] 23 (0, 0)) BK554.out hb); have n3_ := Aside0.mk (blk_below (g := gb572) (o := .cells #[.bool t568, .string t569, .string t570] 23 (0, 0)) BK572.out hb); have n4_ := Aside0.mk (below_step HB.out hb); have n5_ := Aside0.mk (hbox); have n6_ := Aside0.mk ((by rw [hg]; exact (below_size HB.out) : w.heap.size ≤ gb579)); have n7_ := Aside0.mk ((by rw [hg]; exact (below_size HB.out) : w.heap.size ≤ gb579)); have n8_ := Aside0.mk ((by rw [hg]; exact Nat.ne_of_lt (blk_lt (g := gb552) (o := .cells #[.bool a0_0, .string a0_1, .string a0_2] 23 (0, 0)) BK552.out) : gb552 ≠ gb579)); have n9_ := Aside0.mk ((by rw [hg]; exact Nat.ne_of_gt (blk_lt (g := gb552) (o := .cells #[.bool a0_0, .string a0_1, .string a0_2] 23 (0, 0)) BK552.out) : gb579 ≠ gb552)); have n10_ := Aside0.mk ((by rw [hg]; exact Nat.ne_of_lt (blk_lt (g := gb553) (o := .cells #[.bool a1_0, .string a1_1, .string a1_2] 23 (0, 0)) BK553.out) : gb553 ≠ gb579)); have n11_ := Aside0.mk ((by rw [hg]; exact Nat.ne_of_gt (blk_lt (g := gb553) (o := .cells #[.bool a1_0, .string a1_1, .string a1_2] 23 (0, 0)) BK553.out) : gb579 ≠ gb553)); have n12_ := Aside0.mk ((by rw [hg]; exact Nat.ne_of_lt (blk_lt (g := gb554) (o := .cells #[.bool a2_0, .string a2_1, .string a2_2] 23 (0, 0)) BK554.out) : gb554 ≠ gb579)); have n13_ := Aside0.mk ((by rw [hg]; exact Nat.ne_of_gt (blk_lt (g := gb554) (o := .cells #[.bool a2_0, .string a2_1, .string a2_2] 23 (0, 0)) BK554.out) : gb579 ≠ gb554)); have n14_ := Aside0.mk ((by rw [hg]; exact Nat.ne_of_lt (blk_lt (g := gb572) (o := .cells #[.bool t568, .string t569, .string t570] 23 (0, 0)) BK572.out) : gb572 ≠ gb579)); have n15_ := Aside0.mk ((by rw [hg]; exact Nat.ne_of_gt (blk_lt (g := gb572) (o := .cells #[.bool t568, .string t569, .string t570] 23 (0, 0)) BK572.out) : gb579 ≠ gb572)); clear BK552; clear BK553; clear BK554; clear BK572; clear HB; have BK552 := n0_; have BK553 := n1_; have BK554 := n2_; have BK572 := n3_; have HB := n4_; have BK579 := n5_; have GW579 := n6_; have GE579 := n7_; have NB552_579 := n8_; have NB579_552 := n9_; have NB553_579 := n10_; have NB579_553 := n11_; have NB554_579 := n12_; have NB579_554 := n13_; have NB572_579 := n14_; have NB579_572 := n15_; clear n0_ n1_ n2_ n3_ n4_ n5_ n6_ n7_ n8_ n9_ n10_ n11_ n12_ n13_ n14_ n15_; clear hb hbox hg; have hnb126 := NB579_552.out; have hnc126 := NB552_579.out; have hnb127 := NB579_553.out; have hnc127 := NB553_579.out; have hnb128 := NB579_554.out; have hnc128 := NB554_579.out; have hnb129 := NB579_572.out; have hnc129 := NB572_579.out; have hcz130_0 : w125.cell? ⟨gb579, 0, none⟩ = some (.bool false) := (blk_cell BK579.out 0).trans rfl; have hcz130_1 : w125.cell? ⟨gb579, 1, none⟩ = some (.string (⟨#[]⟩ : ByteArray)) := (blk_cell BK579.out 1).trans rfl; have hcz130_2 : w125.cell? ⟨gb579, 2, none⟩ = some (.string (⟨#[]⟩ : ByteArray)) := (blk_cell BK579.out 2).trans rfl; have hfz130_0 := blk_frozen BK579.out 0; have hfz130_1 := blk_frozen BK579.out 1; have hfz130_2 := blk_frozen BK579.out 2; have hnb131 := NB553_554.out; have hnc131 := NB554_553.out; have hnb132 := NB553_572.out; have hnc132 := NB572_553.out; have hcz133_0 : w125.cell? ⟨gb553, 0, none⟩ = some (.bool a1_0) := (blk_cell BK553.out 0).trans rfl; have hcz133_1 : w125.cell? ⟨gb553, 1, none⟩ = some (.string a1_1) := (blk_cell BK553.out 1).trans rfl; have hcz133_2 : w125.cell? ⟨gb553, 2, none⟩ = some (.string a1_2) := (blk_cell BK553.out 2).trans rfl; have hfz133_0 := blk_frozen BK553.out 0; have hfz133_1 := blk_frozen BK553.out 1; have hfz133_2 := blk_frozen BK553.out 2) | ((with_reducible refine gate_callee (f := 30) rfl ?_); refine goesL_ (some 131) rfl rfl Tryd.func30 (by kernel_rfl) rfl #[.agg #[.bool a1_0, .string a1_1, .string a1_2]] rfl (by (try simp only [List.map_toArray, List.map_cons, List.map_nil]); first | done | rfl | (simp only [List.length_drop, List.length_take]; rfl)) ?_; (with_reducible refine (decimal_Trim.calls kj55 a1_0 a1_1 a1_2 t580 t581 t582 t583 _ A72.out).mono ?_); rintro e w134 ⟨rfl, hb⟩; refine ⟨_, rfl, ?_⟩; have n0_ := Aside0.mk (blk_below (g := gb552) (o := .cells #[.bool a0_0, .string a0_1, .string a0_2] 23 (0, 0)) (by refine blk_far ?_ NB552_579.out _; refine blk_far ?_ NB552_579.out _; refine blk_far ?_ NB552_579.out _; exact BK552.out) hb); have n1_ := Aside0.mk (blk_below (g := gb553) (o := .cells #[.bool a1_0, .string a1_1, .string a1_2] 23 (0, 0)) (by refine blk_far ?_ NB553_579.out _; refine blk_far ?_ NB553_579.out _; refine blk_far ?_ NB553_579.out _; exact BK553.out) hb); have n2_ := Aside0.mk (blk_below (g := gb554) (o := .cells #[.bool a2_0, .string a2_1, .string a2_2] 23 (0, 0)) (by refine blk_far ?_ NB554_579.out _; refine blk_far ?_ NB554_579.out _; refine blk_far ?_ NB554_579.out _; exact BK554.out) hb); have n3_ := Aside0.mk (blk_below (g := gb572) (o := .cells #[.bool t568, .string t569, .string t570] 23 (0, 0)) (by refine blk_far ?_ NB572_579.out _; refine blk_far ?_ NB572_579.out _; refine blk_far ?_ NB572_579.out _; exact BK572.out) hb); have n4_ := Aside0.mk (blk_below (g := gb579) (o := .cells #[.bool t575, .string t576, .string t577] 23 (0, 0)) (by refine blk_put (cs := #[.bool t575, .string t576, .string (⟨#[]⟩ : ByteArray)]) ?_ 2 _ rfl; refine blk_put (cs := #[.bool t575, .string (⟨#[]⟩ : ByteArray), .string (⟨#[]⟩ : ByteArray)]) ?_ 1 _ rfl; refine blk_put (cs := #[.bool false, .string (⟨#[]⟩ : ByteArray), .string (⟨#[]⟩ : ByteArray)]) ?_ 0 _ rfl; exact BK579.out) hb); have n5_ := Aside0.mk (below_step (by repeat (first | (with_reducible first | exact HB.out | apply below_alloc | apply pw_below_drewN | apply below_drew1 | refine below_set ?_ GE552.out | refine below_set ?_ GE553.out | refine below_set ?_ GE554.out | refine below_set ?_ GE572.out | refine below_set ?_ GE579.out) | exact HB.out)) hb); clear BK552; clear BK553; clear BK554; clear BK572; clear BK579; clear HB; have BK552 := n0_; have BK553 := n1_; have BK554 := n2_; have BK572 := n3_; have BK579 := n4_; have HB := n5_; clear n0_ n1_ n2_ n3_ n4_ n5_) | ((with_reducible refine gate_dst (N := 20) rfl ?_); refine box_event ?hg (N := 20) ?hd (cs := #[.bool false, .string (⟨#[]⟩ : ByteArray), .string (⟨#[]⟩ : ByteArray)]) (t := 23) ?hr ?_; (case hd => rfl); (case hg => rfl); (case hr => first | (go_simp; done) | (go_simp; rfl)); intro gb584 hg w135 hbox hb; have n0_ := Aside0.mk (blk_below (g := gb552) (o := .cells #[.bool a0_0, .string a0_1, .string a0_2] 23 (0, 0)) BK552.out hb); have n1_ := Aside0.mk (blk_below (g := gb553) (o := .cells #[.bool a1_0, .string a1_1, .string a1_2] 23 (0, 0)) BK553.out hb); have n2_ := Aside0.mk (blk_below (g := gb554) (o := .cells #[.bool a2_0, .string a2_1, .string a2_2] 23 (0, 0)) BK554.out hb); have n3_ := Aside0.mk (blk_below (g := gb572) (o := .cells #[.bool t568, .string t569, .string t570] 23 (0, 0)) BK572.out hb); have n4_ := Aside0.mk (blk_below (g := gb579) (o := .cells #[.bool t575, .string t576, .string t577] 23 (0, 0)) BK579.out hb); have n5_ := Aside0.mk (below_step HB.out hb); have n6_ := Aside0.mk (hbox); have n7_ := Aside0.mk ((by rw [hg]; exact (below_size HB.out) : w.heap.size ≤ gb584)); have n8_ := Aside0.mk ((by rw [hg]; exact (below_size HB.out) : w.heap.size ≤ gb584)); have n9_ := Aside0.mk ((by rw [hg]; exact Nat.ne_of_lt (blk_lt (g := gb552) (o := .cells #[.bool a0_0, .string a0_1, .string a0_2] 23 (0, 0)) BK552.out) : gb552 ≠ gb584)); have n10_ := Aside0.mk ((by rw [hg]; exact Nat.ne_of_gt (blk_lt (g := gb552) (o := .cells #[.bool a0_0, .string a0_1, .string a0_2] 23 (0, 0)) BK552.out) : gb584 ≠ gb552)); have n11_ := Aside0.mk ((by rw [hg]; exact Nat.ne_of_lt (blk_lt (g := gb553) (o := .cells #[.bool a1_0, .string a1_1, .string a1_2] 23 (0, 0)) BK553.out) : gb553 ≠ gb584)); have n12_ := Aside0.mk ((by rw [hg]; exact Nat.ne_of_gt (blk_lt (g := gb553) (o := .cells #[.bool a1_0, .string a1_1, .string a1_2] 23 (0, 0)) BK553.out) : gb584 ≠ gb553)); have n13_ := Aside0.mk ((by rw [hg]; exact Nat.ne_of_lt (blk_lt (g := gb554) (o := .cells #[.bool a2_0, .string a2_1, .string a2_2] 23 (0, 0)) BK554.out) : gb554 ≠ gb584)); have n14_ := Aside0.mk ((by rw [hg]; exact Nat.ne_of_gt (blk_lt (g := gb554) (o := .cells #[.bool a2_0, .string a2_1, .string a2_2] 23 (0, 0)) BK554.out) : gb584 ≠ gb554)); have n15_ := Aside0.mk ((by rw [hg]; exact Nat.ne_of_lt (blk_lt (g := gb572) (o := .cells #[.bool t568, .string t569, .string t570] 23 (0, 0)) BK572.out) : gb572 ≠ gb584)); have n16_ := Aside0.mk ((by rw [hg]; exact Nat.ne_of_gt (blk_lt (g := gb572) (o := .cells #[.bool t568, .string t569, .string t570] 23 (0, 0)) BK572.out) : gb584 ≠ gb572)); have n17_ := Aside0.mk ((by rw [hg]; exact Nat.ne_of_lt (blk_lt (g := gb579) (o := .cells #[.bool t575, .string t576, .string t577] 23 (0, 0)) BK579.out) : gb579 ≠ gb584)); have n18_ := Aside0.mk ((by rw [hg]; exact Nat.ne_of_gt (blk_lt (g := gb579) (o := .cells #[.bool t575, .string t576, .string t577] 23 (0, 0)) BK579.out) : gb584 ≠ gb579)); clear BK552; clear BK553; clear BK554; clear BK572; clear BK579; clear HB; have BK552 := n0_; have BK553 := n1_; have BK554 := n2_; have BK572 := n3_; have BK579 := n4_; have HB := n5_; have BK584 := n6_; have GW584 := n7_; have GE584 := n8_; have NB552_584 := n9_; have NB584_552 := n10_; have NB553_584 := n11_; have NB584_553 := n12_; have NB554_584 := n13_; have NB584_554 := n14_; have NB572_584 := n15_; have NB584_572 := n16_; have NB579_584 := n17_; have NB584_579 := n18_; clear n0_ n1_ n2_ n3_ n4_ n5_ n6_ n7_ n8_ n9_ n10_ n11_ n12_ n13_ n14_ n15_ n16_ n17_ n18_; clear hb hbox hg; have hnb136 := NB584_552.out; have hnc136 := NB552_584.out; have hnb137 := NB584_553.out; have hnc137 := NB553_584.out; have hnb138 := NB584_554.out; have hnc138 := NB554_584.out; have hnb139 := NB584_572.out; have hnc139 := NB572_584.out; have hnb140 := NB584_579.out; have hnc140 := NB579_584.out; have hcz141_0 : w135.cell? ⟨gb584, 0, none⟩ = some (.bool false) := (blk_cell BK584.out 0).trans rfl; have hcz141_1 : w135.cell? ⟨gb584, 1, none⟩ = some (.string (⟨#[]⟩ : ByteArray)) := (blk_cell BK584.out 1).trans rfl; have hcz141_2 : w135.cell? ⟨gb584, 2, none⟩ = some (.string (⟨#[]⟩ : ByteArray)) := (blk_cell BK584.out 2).trans rfl; have hfz141_0 := blk_frozen BK584.out 0; have hfz141_1 := blk_frozen BK584.out 1; have hfz141_2 := blk_frozen BK584.out 2))
              go_ret
              exact ⟨by first | rfl | (simp [errW_none, errW_some] <;> rfl) | (simp [*, errW_none, errW_some] <;> rfl) | (simp [bne_nil_]; done), by repeat (first | (with_reducible first | exact HB.out | apply below_alloc | apply pw_below_drewN | apply below_drew1 | refine below_set ?_ GE552.out | refine below_set ?_ GE553.out | refine below_set ?_ GE554.out | refine below_set ?_ GE572.out | refine below_set ?_ GE579.out | refine below_set ?_ GE584.out) | exact HB.out)⟩
         ·rw [if_neg c54] at H
          have c54b0 : (t571 == 0) = false := beq_eq_false_iff_ne.mpr c54
          have c54b1 : (t571 != 0) = true := bne_iff_ne.mpr c54
          replace H := Option.bind_eq_some_iff.mp H
          obtain ⟨⟨t585, t586, t587, t588⟩, A1420, H⟩ := H
          try dsimp only at H
          have A142 := Aside0.mk A1420
          clear A1420
          replace H := Option.bind_eq_some_iff.mp H
          obtain ⟨⟨t590, t591, t592, t593⟩, A1430, H⟩ := H
          try dsimp only at H
          have A143 := Aside0.mk A1430
          clear A1430
          by_cases c144 : t588 = 0
          ·rw [if_pos c144] at H
           have c144b0 : (t588 == 0) = true := beq_iff_eq.mpr c144
           have c144b1 : (t588 != 0) = false := bne_eq_false_iff_eq.mpr c144
           clear c144
           by_cases c145 : t593 = 0
           ·rw [if_pos c145] at H
            have c145b0 : (t593 == 0) = true := beq_iff_eq.mpr c145
            have c145b1 : (t593 != 0) = false := bne_eq_false_iff_eq.mpr c145
            clear c145
            obtain rfl := Option.some.inj H
            have hnb146 := NB552_553.out
            have hnc146 := NB553_552.out
            have hnb147 := NB552_554.out
            have hnc147 := NB554_552.out
            have hcz148_0 : wc.cell? ⟨gb552, 0, none⟩ = some (.bool a0_0) := (blk_cell BK552.out 0).trans rfl
            have hcz148_1 : wc.cell? ⟨gb552, 1, none⟩ = some (.string a0_1) := (blk_cell BK552.out 1).trans rfl
            have hcz148_2 : wc.cell? ⟨gb552, 2, none⟩ = some (.string a0_2) := (blk_cell BK552.out 2).trans rfl
            have hfz148_0 := blk_frozen BK552.out 0
            have hfz148_1 := blk_frozen BK552.out 1
            have hfz148_2 := blk_frozen BK552.out 2
            have hnb149 := NB553_554.out
            have hnc149 := NB554_553.out
            have hcz150_0 : wc.cell? ⟨gb553, 0, none⟩ = some (.bool a1_0) := (blk_cell BK553.out 0).trans rfl
            have hcz150_1 : wc.cell? ⟨gb553, 1, none⟩ = some (.string a1_1) := (blk_cell BK553.out 1).trans rfl
            have hcz150_2 : wc.cell? ⟨gb553, 2, none⟩ = some (.string a1_2) := (blk_cell BK553.out 2).trans rfl
            have hfz150_0 := blk_frozen BK553.out 0
            have hfz150_1 := blk_frozen BK553.out 1
            have hfz150_2 := blk_frozen BK553.out 2
            go_wp2_with (first | ((with_reducible refine gate_callee (f := 29) rfl ?_); refine goesL_ (some 106) rfl rfl Tryd.func29 (by kernel_rfl) rfl #[.agg #[.bool a0_0, .string a0_1, .string a0_2], .agg #[.bool a1_0, .string a1_1, .string a1_2]] rfl (by (try simp only [List.map_toArray, List.map_cons, List.map_nil]); first | done | rfl | (simp only [List.length_drop, List.length_take]; rfl)) ?_; (with_reducible refine (decimal_Sub.calls kj45 a0_0 a0_1 a0_2 a1_0 a1_1 a1_2 t568 t569 t570 t571 _ A53.out).mono ?_); rintro e w151 ⟨rfl, hb⟩; refine ⟨_, rfl, ?_⟩; have n0_ := Aside0.mk (blk_below (g := gb552) (o := .cells #[.bool a0_0, .string a0_1, .string a0_2] 23 (0, 0)) BK552.out hb); have n1_ := Aside0.mk (blk_below (g := gb553) (o := .cells #[.bool a1_0, .string a1_1, .string a1_2] 23 (0, 0)) BK553.out hb); have n2_ := Aside0.mk (blk_below (g := gb554) (o := .cells #[.bool a2_0, .string a2_1, .string a2_2] 23 (0, 0)) BK554.out hb); have n3_ := Aside0.mk (below_step HB.out hb); clear BK552; clear BK553; clear BK554; clear HB; have BK552 := n0_; have BK553 := n1_; have BK554 := n2_; have HB := n3_; clear n0_ n1_ n2_ n3_) | ((with_reducible refine gate_dst (N := 15) rfl ?_); refine box_event ?hg (N := 15) ?hd (cs := #[.bool false, .string (⟨#[]⟩ : ByteArray), .string (⟨#[]⟩ : ByteArray)]) (t := 23) ?hr ?_; (case hd => rfl); (case hg => rfl); (case hr => first | (go_simp; done) | (go_simp; rfl)); intro gb572 hg w152 hbox hb; have n0_ := Aside0.mk (blk_below (g := gb552) (o := .cells #[.bool a0_0, .string a0_1, .string a0_2] 23 (0, 0)) BK552.out hb); have n1_ := Aside0.mk (blk_below (g := gb553) (o := .cells #[.bool a1_0, .string a1_1, .string a1_2] 23 (0, 0)) BK553.out hb); have n2_ := Aside0.mk (blk_below (g := gb554) (o := .cells #[.bool a2_0, .string a2_1, .string a2_2] 23 (0, 0)) BK554.out hb); have n3_ := Aside0.mk (below_step HB.out hb); have n4_ := Aside0.mk (hbox); have n5_ := Aside0.mk ((by rw [hg]; exact (below_size HB.out) : w.heap.size ≤ gb572)); have n6_ := Aside0.mk ((by rw [hg]; exact (below_size HB.out) : w.heap.size ≤ gb572)); have n7_ := Aside0.mk ((by rw [hg]; exact Nat.ne_of_lt (blk_lt (g := gb552) (o := .cells #[.bool a0_0, .string a0_1, .string a0_2] 23 (0, 0)) BK552.out) : gb552 ≠ gb572)); have n8_ := Aside0.mk ((by rw [hg]; exact Nat.ne_of_gt (blk_lt (g := gb552) (o := .cells #[.bool a0_0, .string a0_1, .string a0_2] 23 (0, 0)) BK552.out) : gb572 ≠ gb552)); have n9_ := Aside0.mk ((by rw [hg]; exact Nat.ne_of_lt (blk_lt (g := gb553) (o := .cells #[.bool a1_0, .string a1_1, .string a1_2] 23 (0, 0)) BK553.out) : gb553 ≠ gb572)); have n10_ := Aside0.mk ((by rw [hg]; exact Nat.ne_of_gt (blk_lt (g := gb553) (o := .cells #[.bool a1_0, .string a1_1, .string a1_2] 23 (0, 0)) BK553.out) : gb572 ≠ gb553)); have n11_ := Aside0.mk ((by rw [hg]; exact Nat.ne_of_lt (blk_lt (g := gb554) (o := .cells #[.bool a2_0, .string a2_1, .string a2_2] 23 (0, 0)) BK554.out) : gb554 ≠ gb572)); have n12_ := Aside0.mk ((by rw [hg]; exact Nat.ne_of_gt (blk_lt (g := gb554) (o := .cells #[.bool a2_0, .string a2_1, .string a2_2] 23 (0, 0)) BK554.out) : gb572 ≠ gb554)); clear BK552; clear BK553; clear BK554; clear HB; have BK552 := n0_; have BK553 := n1_; have BK554 := n2_; have HB := n3_; have BK572 := n4_; have GW572 := n5_; have GE572 := n6_; have NB552_572 := n7_; have NB572_552 := n8_; have NB553_572 := n9_; have NB572_553 := n10_; have NB554_572 := n11_; have NB572_554 := n12_; clear n0_ n1_ n2_ n3_ n4_ n5_ n6_ n7_ n8_ n9_ n10_ n11_ n12_; clear hb hbox hg; have hnb153 := NB572_552.out; have hnc153 := NB552_572.out; have hnb154 := NB572_553.out; have hnc154 := NB553_572.out; have hnb155 := NB572_554.out; have hnc155 := NB554_572.out; have hcz156_0 : w152.cell? ⟨gb572, 0, none⟩ = some (.bool false) := (blk_cell BK572.out 0).trans rfl; have hcz156_1 : w152.cell? ⟨gb572, 1, none⟩ = some (.string (⟨#[]⟩ : ByteArray)) := (blk_cell BK572.out 1).trans rfl; have hcz156_2 : w152.cell? ⟨gb572, 2, none⟩ = some (.string (⟨#[]⟩ : ByteArray)) := (blk_cell BK572.out 2).trans rfl; have hfz156_0 := blk_frozen BK572.out 0; have hfz156_1 := blk_frozen BK572.out 1; have hfz156_2 := blk_frozen BK572.out 2; have hcz157_0 : w152.cell? ⟨gb552, 0, none⟩ = some (.bool a0_0) := (blk_cell BK552.out 0).trans rfl; have hcz157_1 : w152.cell? ⟨gb552, 1, none⟩ = some (.string a0_1) := (blk_cell BK552.out 1).trans rfl; have hcz157_2 : w152.cell? ⟨gb552, 2, none⟩ = some (.string a0_2) := (blk_cell BK552.out 2).trans rfl; have hfz157_0 := blk_frozen BK552.out 0; have hfz157_1 := blk_frozen BK552.out 1; have hfz157_2 := blk_frozen BK552.out 2) | ((with_reducible refine gate_callee (f := 30) rfl ?_); refine goesL_ (some 126) rfl rfl Tryd.func30 (by kernel_rfl) rfl #[.agg #[.bool a0_0, .string a0_1, .string a0_2]] rfl (by (try simp only [List.map_toArray, List.map_cons, List.map_nil]); first | done | rfl | (simp only [List.length_drop, List.length_take]; rfl)) ?_; (with_reducible refine (decimal_Trim.calls kj45 a0_0 a0_1 a0_2 t585 t586 t587 t588 _ A142.out).mono ?_); rintro e w158 ⟨rfl, hb⟩; refine ⟨_, rfl, ?_⟩; have n0_ := Aside0.mk (blk_below (g := gb552) (o := .cells #[.bool a0_0, .string a0_1, .string a0_2] 23 (0, 0)) (by refine blk_far ?_ NB552_572.out _; refine blk_far ?_ NB552_572.out _; refine blk_far ?_ NB552_572.out _; exact BK552.out) hb); have n1_ := Aside0.mk (blk_below (g := gb553) (o := .cells #[.bool a1_0, .string a1_1, .string a1_2] 23 (0, 0)) (by refine blk_far ?_ NB553_572.out _; refine blk_far ?_ NB553_572.out _; refine blk_far ?_ NB553_572.out _; exact BK553.out) hb); have n2_ := Aside0.mk (blk_below (g := gb554) (o := .cells #[.bool a2_0, .string a2_1, .string a2_2] 23 (0, 0)) (by refine blk_far ?_ NB554_572.out _; refine blk_far ?_ NB554_572.out _; refine blk_far ?_ NB554_572.out _; exact BK554.out) hb); have n3_ := Aside0.mk (blk_below (g := gb572) (o := .cells #[.bool t568, .string t569, .string t570] 23 (0, 0)) (by refine blk_put (cs := #[.bool t568, .string t569, .string (⟨#[]⟩ : ByteArray)]) ?_ 2 _ rfl; refine blk_put (cs := #[.bool t568, .string (⟨#[]⟩ : ByteArray), .string (⟨#[]⟩ : ByteArray)]) ?_ 1 _ rfl; refine blk_put (cs := #[.bool false, .string (⟨#[]⟩ : ByteArray), .string (⟨#[]⟩ : ByteArray)]) ?_ 0 _ rfl; exact BK572.out) hb); have n4_ := Aside0.mk (below_step (by repeat (first | (with_reducible first | exact HB.out | apply below_alloc | apply pw_below_drewN | apply below_drew1 | refine below_set ?_ GE552.out | refine below_set ?_ GE553.out | refine below_set ?_ GE554.out | refine below_set ?_ GE572.out) | exact HB.out)) hb); clear BK552; clear BK553; clear BK554; clear BK572; clear HB; have BK552 := n0_; have BK553 := n1_; have BK554 := n2_; have BK572 := n3_; have HB := n4_; clear n0_ n1_ n2_ n3_ n4_) | ((with_reducible refine gate_dst (N := 19) rfl ?_); refine box_event ?hg (N := 19) ?hd (cs := #[.bool false, .string (⟨#[]⟩ : ByteArray), .string (⟨#[]⟩ : ByteArray)]) (t := 23) ?hr ?_; (case hd => rfl); (case hg => rfl); (case hr => first | (go_simp; done) | (go_simp; rfl)); intro gb589 hg w159 hbox hb; have n0_ := Aside0.mk (blk_below (g := gb552) (o := .cells #[.bool a0_0, .string a0_1, .string a0_2] 23 (0, 0)) BK552.out hb); have n1_ := Aside0.mk (blk_below (g := gb553) (o := .cells #[.bool a1_0, .string a1_1, .string a1_2] 23 (0, 0)) BK553.out hb); have n2_ := Aside0.mk (blk_below (g := gb554) (o := .cells #[.bool a2_0, .string a2_1, .string a2_2] 23 (0, 0)) BK554.out hb); have n3_ := Aside0.mk (blk_below (g := gb572) (o := .cells #[.bool t568, .string t569, .string t570] 23 (0, 0)) BK572.out hb); have n4_ := Aside0.mk (below_step HB.out hb); have n5_ := Aside0.mk (hbox); have n6_ := Aside0.mk ((by rw [hg]; exact (below_size HB.out) : w.heap.size ≤ gb589)); have n7_ := Aside0.mk ((by rw [hg]; exact (below_size HB.out) : w.heap.size ≤ gb589)); have n8_ := Aside0.mk ((by rw [hg]; exact Nat.ne_of_lt (blk_lt (g := gb552) (o := .cells #[.bool a0_0, .string a0_1, .string a0_2] 23 (0, 0)) BK552.out) : gb552 ≠ gb589)); have n9_ := Aside0.mk ((by rw [hg]; exact Nat.ne_of_gt (blk_lt (g := gb552) (o := .cells #[.bool a0_0, .string a0_1, .string a0_2] 23 (0, 0)) BK552.out) : gb589 ≠ gb552)); have n10_ := Aside0.mk ((by rw [hg]; exact Nat.ne_of_lt (blk_lt (g := gb553) (o := .cells #[.bool a1_0, .string a1_1, .string a1_2] 23 (0, 0)) BK553.out) : gb553 ≠ gb589)); have n11_ := Aside0.mk ((by rw [hg]; exact Nat.ne_of_gt (blk_lt (g := gb553) (o := .cells #[.bool a1_0, .string a1_1, .string a1_2] 23 (0, 0)) BK553.out) : gb589 ≠ gb553)); have n12_ := Aside0.mk ((by rw [hg]; exact Nat.ne_of_lt (blk_lt (g := gb554) (o := .cells #[.bool a2_0, .string a2_1, .string a2_2] 23 (0, 0)) BK554.out) : gb554 ≠ gb589)); have n13_ := Aside0.mk ((by rw [hg]; exact Nat.ne_of_gt (blk_lt (g := gb554) (o := .cells #[.bool a2_0, .string a2_1, .string a2_2] 23 (0, 0)) BK554.out) : gb589 ≠ gb554)); have n14_ := Aside0.mk ((by rw [hg]; exact Nat.ne_of_lt (blk_lt (g := gb572) (o := .cells #[.bool t568, .string t569, .string t570] 23 (0, 0)) BK572.out) : gb572 ≠ gb589)); have n15_ := Aside0.mk ((by rw [hg]; exact Nat.ne_of_gt (blk_lt (g := gb572) (o := .cells #[.bool t568, .string t569, .string t570] 23 (0, 0)) BK572.out) : gb589 ≠ gb572)); clear BK552; clear BK553; clear BK554; clear BK572; clear HB; have BK552 := n0_; have BK553 := n1_; have BK554 := n2_; have BK572 := n3_; have HB := n4_; have BK589 := n5_; have GW589 := n6_; have GE589 := n7_; have NB552_589 := n8_; have NB589_552 := n9_; have NB553_589 := n10_; have NB589_553 := n11_; have NB554_589 := n12_; have NB589_554 := n13_; have NB572_589 := n14_; have NB589_572 := n15_; clear n0_ n1_ n2_ n3_ n4_ n5_ n6_ n7_ n8_ n9_ n10_ n11_ n12_ n13_ n14_ n15_; clear hb hbox hg; have hnb160 := NB589_552.out; have hnc160 := NB552_589.out; have hnb161 := NB589_553.out; have hnc161 := NB553_589.out; have hnb162 := NB589_554.out; have hnc162 := NB554_589.out; have hnb163 := NB589_572.out; have hnc163 := NB572_589.out; have hcz164_0 : w159.cell? ⟨gb589, 0, none⟩ = some (.bool false) := (blk_cell BK589.out 0).trans rfl; have hcz164_1 : w159.cell? ⟨gb589, 1, none⟩ = some (.string (⟨#[]⟩ : ByteArray)) := (blk_cell BK589.out 1).trans rfl; have hcz164_2 : w159.cell? ⟨gb589, 2, none⟩ = some (.string (⟨#[]⟩ : ByteArray)) := (blk_cell BK589.out 2).trans rfl; have hfz164_0 := blk_frozen BK589.out 0; have hfz164_1 := blk_frozen BK589.out 1; have hfz164_2 := blk_frozen BK589.out 2; have hcz165_0 : w159.cell? ⟨gb553, 0, none⟩ = some (.bool a1_0) := (blk_cell BK553.out 0).trans rfl; have hcz165_1 : w159.cell? ⟨gb553, 1, none⟩ = some (.string a1_1) := (blk_cell BK553.out 1).trans rfl; have hcz165_2 : w159.cell? ⟨gb553, 2, none⟩ = some (.string a1_2) := (blk_cell BK553.out 2).trans rfl; have hfz165_0 := blk_frozen BK553.out 0; have hfz165_1 := blk_frozen BK553.out 1; have hfz165_2 := blk_frozen BK553.out 2) | ((with_reducible refine gate_callee (f := 30) rfl ?_); refine goesL_ (some 131) rfl rfl Tryd.func30 (by kernel_rfl) rfl #[.agg #[.bool a1_0, .string a1_1, .string a1_2]] rfl (by (try simp only [List.map_toArray, List.map_cons, List.map_nil]); first | done | rfl | (simp only [List.length_drop, List.length_take]; rfl)) ?_; (with_reducible refine (decimal_Trim.calls kj45 a1_0 a1_1 a1_2 t590 t591 t592 t593 _ A143.out).mono ?_); rintro e w166 ⟨rfl, hb⟩; refine ⟨_, rfl, ?_⟩; have n0_ := Aside0.mk (blk_below (g := gb552) (o := .cells #[.bool a0_0, .string a0_1, .string a0_2] 23 (0, 0)) (by refine blk_far ?_ NB552_589.out _; refine blk_far ?_ NB552_589.out _; refine blk_far ?_ NB552_589.out _; exact BK552.out) hb); have n1_ := Aside0.mk (blk_below (g := gb553) (o := .cells #[.bool a1_0, .string a1_1, .string a1_2] 23 (0, 0)) (by refine blk_far ?_ NB553_589.out _; refine blk_far ?_ NB553_589.out _; refine blk_far ?_ NB553_589.out _; exact BK553.out) hb); have n2_ := Aside0.mk (blk_below (g := gb554) (o := .cells #[.bool a2_0, .string a2_1, .string a2_2] 23 (0, 0)) (by refine blk_far ?_ NB554_589.out _; refine blk_far ?_ NB554_589.out _; refine blk_far ?_ NB554_589.out _; exact BK554.out) hb); have n3_ := Aside0.mk (blk_below (g := gb572) (o := .cells #[.bool t568, .string t569, .string t570] 23 (0, 0)) (by refine blk_far ?_ NB572_589.out _; refine blk_far ?_ NB572_589.out _; refine blk_far ?_ NB572_589.out _; exact BK572.out) hb); have n4_ := Aside0.mk (blk_below (g := gb589) (o := .cells #[.bool t585, .string t586, .string t587] 23 (0, 0)) (by refine blk_put (cs := #[.bool t585, .string t586, .string (⟨#[]⟩ : ByteArray)]) ?_ 2 _ rfl; refine blk_put (cs := #[.bool t585, .string (⟨#[]⟩ : ByteArray), .string (⟨#[]⟩ : ByteArray)]) ?_ 1 _ rfl; refine blk_put (cs := #[.bool false, .string (⟨#[]⟩ : ByteArray), .string (⟨#[]⟩ : ByteArray)]) ?_ 0 _ rfl; exact BK589.out) hb); have n5_ := Aside0.mk (below_step (by repeat (first | (with_reducible first | exact HB.out | apply below_alloc | apply pw_below_drewN | apply below_drew1 | refine below_set ?_ GE552.out | refine below_set ?_ GE553.out | refine below_set ?_ GE554.out | refine below_set ?_ GE572.out | refine below_set ?_ GE589.out) | exact HB.out)) hb); clear BK552; clear BK553; clear BK554; clear BK572; clear BK589; clear HB; have BK552 := n0_; have BK553 := n1_; have BK554 := n2_; have BK572 := n3_; have BK589 := n4_; have HB := n5_; clear n0_ n1_ n2_ n3_ n4_ n5_) | ((with_reducible refine gate_dst (N := 20) rfl ?_); refine box_event ?hg (N := 20) ?hd (cs := #[.bool false, .string (⟨#[]⟩ : ByteArray), .string (⟨#[]⟩ : ByteArray)]) (t := 23) ?hr ?_; (case hd => rfl); (case hg => rfl); (case hr => first | (go_simp; done) | (go_simp; rfl)); intro gb594 hg w167 hbox hb; have n0_ := Aside0.mk (blk_below (g := gb552) (o := .cells #[.bool a0_0, .string a0_1, .string a0_2] 23 (0, 0)) BK552.out hb); have n1_ := Aside0.mk (blk_below (g := gb553) (o := .cells #[.bool a1_0, .string a1_1, .string a1_2] 23 (0, 0)) BK553.out hb); have n2_ := Aside0.mk (blk_below (g := gb554) (o := .cells #[.bool a2_0, .string a2_1, .string a2_2] 23 (0, 0)) BK554.out hb); have n3_ := Aside0.mk (blk_below (g := gb572) (o := .cells #[.bool t568, .string t569, .string t570] 23 (0, 0)) BK572.out hb); have n4_ := Aside0.mk (blk_below (g := gb589) (o := .cells #[.bool t585, .string t586, .string t587] 23 (0, 0)) BK589.out hb); have n5_ := Aside0.mk (below_step HB.out hb); have n6_ := Aside0.mk (hbox); have n7_ := Aside0.mk ((by rw [hg]; exact (below_size HB.out) : w.heap.size ≤ gb594)); have n8_ := Aside0.mk ((by rw [hg]; exact (below_size HB.out) : w.heap.size ≤ gb594)); have n9_ := Aside0.mk ((by rw [hg]; exact Nat.ne_of_lt (blk_lt (g := gb552) (o := .cells #[.bool a0_0, .string a0_1, .string a0_2] 23 (0, 0)) BK552.out) : gb552 ≠ gb594)); have n10_ := Aside0.mk ((by rw [hg]; exact Nat.ne_of_gt (blk_lt (g := gb552) (o := .cells #[.bool a0_0, .string a0_1, .string a0_2] 23 (0, 0)) BK552.out) : gb594 ≠ gb552)); have n11_ := Aside0.mk ((by rw [hg]; exact Nat.ne_of_lt (blk_lt (g := gb553) (o := .cells #[.bool a1_0, .string a1_1, .string a1_2] 23 (0, 0)) BK553.out) : gb553 ≠ gb594)); have n12_ := Aside0.mk ((by rw [hg]; exact Nat.ne_of_gt (blk_lt (g := gb553) (o := .cells #[.bool a1_0, .string a1_1, .string a1_2] 23 (0, 0)) BK553.out) : gb594 ≠ gb553)); have n13_ := Aside0.mk ((by rw [hg]; exact Nat.ne_of_lt (blk_lt (g := gb554) (o := .cells #[.bool a2_0, .string a2_1, .string a2_2] 23 (0, 0)) BK554.out) : gb554 ≠ gb594)); have n14_ := Aside0.mk ((by rw [hg]; exact Nat.ne_of_gt (blk_lt (g := gb554) (o := .cells #[.bool a2_0, .string a2_1, .string a2_2] 23 (0, 0)) BK554.out) : gb594 ≠ gb554)); have n15_ := Aside0.mk ((by rw [hg]; exact Nat.ne_of_lt (blk_lt (g := gb572) (o := .cells #[.bool t568, .string t569, .string t570] 23 (0, 0)) BK572.out) : gb572 ≠ gb594)); have n16_ := Aside0.mk ((by rw [hg]; exact Nat.ne_of_gt (blk_lt (g := gb572) (o := .cells #[.bool t568, .string t569, .string t570] 23 (0, 0)) BK572.out) : gb594 ≠ gb572)); have n17_ := Aside0.mk ((by rw [hg]; exact Nat.ne_of_lt (blk_lt (g := gb589) (o := .cells #[.bool t585, .string t586, .string t587] 23 (0, 0)) BK589.out) : gb589 ≠ gb594)); have n18_ := Aside0.mk ((by rw [hg]; exact Nat.ne_of_gt (blk_lt (g := gb589) (o := .cells #[.bool t585, .string t586, .string t587] 23 (0, 0)) BK589.out) : gb594 ≠ gb589)); clear BK552; clear BK553; clear BK554; clear BK572; clear BK589; clear HB; have BK552 := n0_; have BK553 := n1_; have BK554 := n2_; have BK572 := n3_; have BK589 := n4_; have HB := n5_; have BK594 := n6_; have GW594 := n7_; have GE594 := n8_; have NB552_594 := n9_; have NB594_552 := n10_; have NB553_594 := n11_; have NB594_553 := n12_; have NB554_594 := n13_; have NB594_554 := n14_; have NB572_594 := n15_; have NB594_572 := n16_; have NB589_594 := n17_; have NB594_589 := n18_; clear n0_ n1_ n2_ n3_ n4_ n5_ n6_ n7_ n8_ n9_ n10_ n11_ n12_ n13_ n14_ n15_ n16_ n17_ n18_; clear hb hbox hg; have hnb168 := NB594_552.out; have hnc168 := NB552_594.out; have hnb169 := NB594_553.out; have hnc169 := NB553_594.out; have hnb170 := NB594_554.out; have hnc170 := NB554_594.out; have hnb171 := NB594_572.out; have hnc171 := NB572_594.out; have hnb172 := NB594_589.out; have hnc172 := NB589_594.out; have hcz173_0 : w167.cell? ⟨gb594, 0, none⟩ = some (.bool false) := (blk_cell BK594.out 0).trans rfl; have hcz173_1 : w167.cell? ⟨gb594, 1, none⟩ = some (.string (⟨#[]⟩ : ByteArray)) := (blk_cell BK594.out 1).trans rfl; have hcz173_2 : w167.cell? ⟨gb594, 2, none⟩ = some (.string (⟨#[]⟩ : ByteArray)) := (blk_cell BK594.out 2).trans rfl; have hfz173_0 := blk_frozen BK594.out 0; have hfz173_1 := blk_frozen BK594.out 1; have hfz173_2 := blk_frozen BK594.out 2; have hcz174_0 : w167.cell? ⟨gb589, 0, none⟩ = some (.bool t585) := (blk_cell BK589.out 0).trans rfl; have hcz174_1 : w167.cell? ⟨gb589, 1, none⟩ = some (.string t586) := (blk_cell BK589.out 1).trans rfl; have hcz174_2 : w167.cell? ⟨gb589, 2, none⟩ = some (.string t587) := (blk_cell BK589.out 2).trans rfl; have hfz174_0 := blk_frozen BK589.out 0; have hfz174_1 := blk_frozen BK589.out 1; have hfz174_2 := blk_frozen BK589.out 2))
            go_ret
            exact ⟨by first | rfl | (simp [errW_none, errW_some] <;> rfl) | (simp [*, errW_none, errW_some] <;> rfl) | (simp [bne_nil_]; done), by repeat (first | (with_reducible first | exact HB.out | apply below_alloc | apply pw_below_drewN | apply below_drew1 | refine below_set ?_ GE552.out | refine below_set ?_ GE553.out | refine below_set ?_ GE554.out | refine below_set ?_ GE572.out | refine below_set ?_ GE589.out | refine below_set ?_ GE594.out) | exact HB.out)⟩
           ·rw [if_neg c145] at H
            have c145b0 : (t593 == 0) = false := beq_eq_false_iff_ne.mpr c145
            have c145b1 : (t593 != 0) = true := bne_iff_ne.mpr c145
            obtain rfl := Option.some.inj H
            have hnb175 := NB552_553.out
            have hnc175 := NB553_552.out
            have hnb176 := NB552_554.out
            have hnc176 := NB554_552.out
            have hcz177_0 : wc.cell? ⟨gb552, 0, none⟩ = some (.bool a0_0) := (blk_cell BK552.out 0).trans rfl
            have hcz177_1 : wc.cell? ⟨gb552, 1, none⟩ = some (.string a0_1) := (blk_cell BK552.out 1).trans rfl
            have hcz177_2 : wc.cell? ⟨gb552, 2, none⟩ = some (.string a0_2) := (blk_cell BK552.out 2).trans rfl
            have hfz177_0 := blk_frozen BK552.out 0
            have hfz177_1 := blk_frozen BK552.out 1
            have hfz177_2 := blk_frozen BK552.out 2
            have hnb178 := NB553_554.out
            have hnc178 := NB554_553.out
            have hcz179_0 : wc.cell? ⟨gb553, 0, none⟩ = some (.bool a1_0) := (blk_cell BK553.out 0).trans rfl
            have hcz179_1 : wc.cell? ⟨gb553, 1, none⟩ = some (.string a1_1) := (blk_cell BK553.out 1).trans rfl
            have hcz179_2 : wc.cell? ⟨gb553, 2, none⟩ = some (.string a1_2) := (blk_cell BK553.out 2).trans rfl
            have hfz179_0 := blk_frozen BK553.out 0
            have hfz179_1 := blk_frozen BK553.out 1
            have hfz179_2 := blk_frozen BK553.out 2
            go_wp2_with (first | ((with_reducible refine gate_callee (f := 29) rfl ?_); refine goesL_ (some 106) rfl rfl Tryd.func29 (by kernel_rfl) rfl #[.agg #[.bool a0_0, .string a0_1, .string a0_2], .agg #[.bool a1_0, .string a1_1, .string a1_2]] rfl (by (try simp only [List.map_toArray, List.map_cons, List.map_nil]); first | done | rfl | (simp only [List.length_drop, List.length_take]; rfl)) ?_; (with_reducible refine (decimal_Sub.calls kj45 a0_0 a0_1 a0_2 a1_0 a1_1 a1_2 t568 t569 t570 t571 _ A53.out).mono ?_); rintro e w180 ⟨rfl, hb⟩; refine ⟨_, rfl, ?_⟩; have n0_ := Aside0.mk (blk_below (g := gb552) (o := .cells #[.bool a0_0, .string a0_1, .string a0_2] 23 (0, 0)) BK552.out hb); have n1_ := Aside0.mk (blk_below (g := gb553) (o := .cells #[.bool a1_0, .string a1_1, .string a1_2] 23 (0, 0)) BK553.out hb); have n2_ := Aside0.mk (blk_below (g := gb554) (o := .cells #[.bool a2_0, .string a2_1, .string a2_2] 23 (0, 0)) BK554.out hb); have n3_ := Aside0.mk (below_step HB.out hb); clear BK552; clear BK553; clear BK554; clear HB; have BK552 := n0_; have BK553 := n1_; have BK554 := n2_; have HB := n3_; clear n0_ n1_ n2_ n3_) | ((with_reducible refine gate_dst (N := 15) rfl ?_); refine box_event ?hg (N := 15) ?hd (cs := #[.bool false, .string (⟨#[]⟩ : ByteArray), .string (⟨#[]⟩ : ByteArray)]) (t := 23) ?hr ?_; (case hd => rfl); (case hg => rfl); (case hr => first | (go_simp; done) | (go_simp; rfl)); intro gb572 hg w181 hbox hb; have n0_ := Aside0.mk (blk_below (g := gb552) (o := .cells #[.bool a0_0, .string a0_1, .string a0_2] 23 (0, 0)) BK552.out hb); have n1_ := Aside0.mk (blk_below (g := gb553) (o := .cells #[.bool a1_0, .string a1_1, .string a1_2] 23 (0, 0)) BK553.out hb); have n2_ := Aside0.mk (blk_below (g := gb554) (o := .cells #[.bool a2_0, .string a2_1, .string a2_2] 23 (0, 0)) BK554.out hb); have n3_ := Aside0.mk (below_step HB.out hb); have n4_ := Aside0.mk (hbox); have n5_ := Aside0.mk ((by rw [hg]; exact (below_size HB.out) : w.heap.size ≤ gb572)); have n6_ := Aside0.mk ((by rw [hg]; exact (below_size HB.out) : w.heap.size ≤ gb572)); have n7_ := Aside0.mk ((by rw [hg]; exact Nat.ne_of_lt (blk_lt (g := gb552) (o := .cells #[.bool a0_0, .string a0_1, .string a0_2] 23 (0, 0)) BK552.out) : gb552 ≠ gb572)); have n8_ := Aside0.mk ((by rw [hg]; exact Nat.ne_of_gt (blk_lt (g := gb552) (o := .cells #[.bool a0_0, .string a0_1, .string a0_2] 23 (0, 0)) BK552.out) : gb572 ≠ gb552)); have n9_ := Aside0.mk ((by rw [hg]; exact Nat.ne_of_lt (blk_lt (g := gb553) (o := .cells #[.bool a1_0, .string a1_1, .string a1_2] 23 (0, 0)) BK553.out) : gb553 ≠ gb572)); have n10_ := Aside0.mk ((by rw [hg]; exact Nat.ne_of_gt (blk_lt (g := gb553) (o := .cells #[.bool a1_0, .string a1_1, .string a1_2] 23 (0, 0)) BK553.out) : gb572 ≠ gb553)); have n11_ := Aside0.mk ((by rw [hg]; exact Nat.ne_of_lt (blk_lt (g := gb554) (o := .cells #[.bool a2_0, .string a2_1, .string a2_2] 23 (0, 0)) BK554.out) : gb554 ≠ gb572)); have n12_ := Aside0.mk ((by rw [hg]; exact Nat.ne_of_gt (blk_lt (g := gb554) (o := .cells #[.bool a2_0, .string a2_1, .string a2_2] 23 (0, 0)) BK554.out) : gb572 ≠ gb554)); clear BK552; clear BK553; clear BK554; clear HB; have BK552 := n0_; have BK553 := n1_; have BK554 := n2_; have HB := n3_; have BK572 := n4_; have GW572 := n5_; have GE572 := n6_; have NB552_572 := n7_; have NB572_552 := n8_; have NB553_572 := n9_; have NB572_553 := n10_; have NB554_572 := n11_; have NB572_554 := n12_; clear n0_ n1_ n2_ n3_ n4_ n5_ n6_ n7_ n8_ n9_ n10_ n11_ n12_; clear hb hbox hg; have hnb182 := NB572_552.out; have hnc182 := NB552_572.out; have hnb183 := NB572_553.out; have hnc183 := NB553_572.out; have hnb184 := NB572_554.out; have hnc184 := NB554_572.out; have hcz185_0 : w181.cell? ⟨gb572, 0, none⟩ = some (.bool false) := (blk_cell BK572.out 0).trans rfl; have hcz185_1 : w181.cell? ⟨gb572, 1, none⟩ = some (.string (⟨#[]⟩ : ByteArray)) := (blk_cell BK572.out 1).trans rfl; have hcz185_2 : w181.cell? ⟨gb572, 2, none⟩ = some (.string (⟨#[]⟩ : ByteArray)) := (blk_cell BK572.out 2).trans rfl; have hfz185_0 := blk_frozen BK572.out 0; have hfz185_1 := blk_frozen BK572.out 1; have hfz185_2 := blk_frozen BK572.out 2; have hcz186_0 : w181.cell? ⟨gb552, 0, none⟩ = some (.bool a0_0) := (blk_cell BK552.out 0).trans rfl; have hcz186_1 : w181.cell? ⟨gb552, 1, none⟩ = some (.string a0_1) := (blk_cell BK552.out 1).trans rfl; have hcz186_2 : w181.cell? ⟨gb552, 2, none⟩ = some (.string a0_2) := (blk_cell BK552.out 2).trans rfl; have hfz186_0 := blk_frozen BK552.out 0; have hfz186_1 := blk_frozen BK552.out 1; have hfz186_2 := blk_frozen BK552.out 2) | ((with_reducible refine gate_callee (f := 30) rfl ?_); refine goesL_ (some 126) rfl rfl Tryd.func30 (by kernel_rfl) rfl #[.agg #[.bool a0_0, .string a0_1, .string a0_2]] rfl (by (try simp only [List.map_toArray, List.map_cons, List.map_nil]); first | done | rfl | (simp only [List.length_drop, List.length_take]; rfl)) ?_; (with_reducible refine (decimal_Trim.calls kj45 a0_0 a0_1 a0_2 t585 t586 t587 t588 _ A142.out).mono ?_); rintro e w187 ⟨rfl, hb⟩; refine ⟨_, rfl, ?_⟩; have n0_ := Aside0.mk (blk_below (g := gb552) (o := .cells #[.bool a0_0, .string a0_1, .string a0_2] 23 (0, 0)) (by refine blk_far ?_ NB552_572.out _; refine blk_far ?_ NB552_572.out _; refine blk_far ?_ NB552_572.out _; exact BK552.out) hb); have n1_ := Aside0.mk (blk_below (g := gb553) (o := .cells #[.bool a1_0, .string a1_1, .string a1_2] 23 (0, 0)) (by refine blk_far ?_ NB553_572.out _; refine blk_far ?_ NB553_572.out _; refine blk_far ?_ NB553_572.out _; exact BK553.out) hb); have n2_ := Aside0.mk (blk_below (g := gb554) (o := .cells #[.bool a2_0, .string a2_1, .string a2_2] 23 (0, 0)) (by refine blk_far ?_ NB554_572.out _; refine blk_far ?_ NB554_572.out _; refine blk_far ?_ NB554_572.out _; exact BK554.out) hb); have n3_ := Aside0.mk (blk_below (g := gb572) (o := .cells #[.bool t568, .string t569, .string t570] 23 (0, 0)) (by refine blk_put (cs := #[.bool t568, .string t569, .string (⟨#[]⟩ : ByteArray)]) ?_ 2 _ rfl; refine blk_put (cs := #[.bool t568, .string (⟨#[]⟩ : ByteArray), .string (⟨#[]⟩ : ByteArray)]) ?_ 1 _ rfl; refine blk_put (cs := #[.bool false, .string (⟨#[]⟩ : ByteArray), .string (⟨#[]⟩ : ByteArray)]) ?_ 0 _ rfl; exact BK572.out) hb); have n4_ := Aside0.mk (below_step (by repeat (first | (with_reducible first | exact HB.out | apply below_alloc | apply pw_below_drewN | apply below_drew1 | refine below_set ?_ GE552.out | refine below_set ?_ GE553.out | refine below_set ?_ GE554.out | refine below_set ?_ GE572.out) | exact HB.out)) hb); clear BK552; clear BK553; clear BK554; clear BK572; clear HB; have BK552 := n0_; have BK553 := n1_; have BK554 := n2_; have BK572 := n3_; have HB := n4_; clear n0_ n1_ n2_ n3_ n4_) | ((with_reducible refine gate_dst (N := 19) rfl ?_); refine box_event ?hg (N := 19) ?hd (cs := #[.bool false, .string (⟨#[]⟩ : ByteArray), .string (⟨#[]⟩ : ByteArray)]) (t := 23) ?hr ?_; (case hd => rfl); (case hg => rfl); (case hr => first | (go_simp; done) | (go_simp; rfl)); intro gb589 hg w188 hbox hb; have n0_ := Aside0.mk (blk_below (g := gb552) (o := .cells #[.bool a0_0, .string a0_1, .string a0_2] 23 (0, 0)) BK552.out hb); have n1_ := Aside0.mk (blk_below (g := gb553) (o := .cells #[.bool a1_0, .string a1_1, .string a1_2] 23 (0, 0)) BK553.out hb); have n2_ := Aside0.mk (blk_below (g := gb554) (o := .cells #[.bool a2_0, .string a2_1, .string a2_2] 23 (0, 0)) BK554.out hb); have n3_ := Aside0.mk (blk_below (g := gb572) (o := .cells #[.bool t568, .string t569, .string t570] 23 (0, 0)) BK572.out hb); have n4_ := Aside0.mk (below_step HB.out hb); have n5_ := Aside0.mk (hbox); have n6_ := Aside0.mk ((by rw [hg]; exact (below_size HB.out) : w.heap.size ≤ gb589)); have n7_ := Aside0.mk ((by rw [hg]; exact (below_size HB.out) : w.heap.size ≤ gb589)); have n8_ := Aside0.mk ((by rw [hg]; exact Nat.ne_of_lt (blk_lt (g := gb552) (o := .cells #[.bool a0_0, .string a0_1, .string a0_2] 23 (0, 0)) BK552.out) : gb552 ≠ gb589)); have n9_ := Aside0.mk ((by rw [hg]; exact Nat.ne_of_gt (blk_lt (g := gb552) (o := .cells #[.bool a0_0, .string a0_1, .string a0_2] 23 (0, 0)) BK552.out) : gb589 ≠ gb552)); have n10_ := Aside0.mk ((by rw [hg]; exact Nat.ne_of_lt (blk_lt (g := gb553) (o := .cells #[.bool a1_0, .string a1_1, .string a1_2] 23 (0, 0)) BK553.out) : gb553 ≠ gb589)); have n11_ := Aside0.mk ((by rw [hg]; exact Nat.ne_of_gt (blk_lt (g := gb553) (o := .cells #[.bool a1_0, .string a1_1, .string a1_2] 23 (0, 0)) BK553.out) : gb589 ≠ gb553)); have n12_ := Aside0.mk ((by rw [hg]; exact Nat.ne_of_lt (blk_lt (g := gb554) (o := .cells #[.bool a2_0, .string a2_1, .string a2_2] 23 (0, 0)) BK554.out) : gb554 ≠ gb589)); have n13_ := Aside0.mk ((by rw [hg]; exact Nat.ne_of_gt (blk_lt (g := gb554) (o := .cells #[.bool a2_0, .string a2_1, .string a2_2] 23 (0, 0)) BK554.out) : gb589 ≠ gb554)); have n14_ := Aside0.mk ((by rw [hg]; exact Nat.ne_of_lt (blk_lt (g := gb572) (o := .cells #[.bool t568, .string t569, .string t570] 23 (0, 0)) BK572.out) : gb572 ≠ gb589)); have n15_ := Aside0.mk ((by rw [hg]; exact Nat.ne_of_gt (blk_lt (g := gb572) (o := .cells #[.bool t568, .string t569, .string t570] 23 (0, 0)) BK572.out) : gb589 ≠ gb572)); clear BK552; clear BK553; clear BK554; clear BK572; clear HB; have BK552 := n0_; have BK553 := n1_; have BK554 := n2_; have BK572 := n3_; have HB := n4_; have BK589 := n5_; have GW589 := n6_; have GE589 := n7_; have NB552_589 := n8_; have NB589_552 := n9_; have NB553_589 := n10_; have NB589_553 := n11_; have NB554_589 := n12_; have NB589_554 := n13_; have NB572_589 := n14_; have NB589_572 := n15_; clear n0_ n1_ n2_ n3_ n4_ n5_ n6_ n7_ n8_ n9_ n10_ n11_ n12_ n13_ n14_ n15_; clear hb hbox hg; have hnb189 := NB589_552.out; have hnc189 := NB552_589.out; have hnb190 := NB589_553.out; have hnc190 := NB553_589.out; have hnb191 := NB589_554.out; have hnc191 := NB554_589.out; have hnb192 := NB589_572.out; have hnc192 := NB572_589.out; have hcz193_0 : w188.cell? ⟨gb589, 0, none⟩ = some (.bool false) := (blk_cell BK589.out 0).trans rfl; have hcz193_1 : w188.cell? ⟨gb589, 1, none⟩ = some (.string (⟨#[]⟩ : ByteArray)) := (blk_cell BK589.out 1).trans rfl; have hcz193_2 : w188.cell? ⟨gb589, 2, none⟩ = some (.string (⟨#[]⟩ : ByteArray)) := (blk_cell BK589.out 2).trans rfl; have hfz193_0 := blk_frozen BK589.out 0; have hfz193_1 := blk_frozen BK589.out 1; have hfz193_2 := blk_frozen BK589.out 2; have hcz194_0 : w188.cell? ⟨gb553, 0, none⟩ = some (.bool a1_0) := (blk_cell BK553.out 0).trans rfl; have hcz194_1 : w188.cell? ⟨gb553, 1, none⟩ = some (.string a1_1) := (blk_cell BK553.out 1).trans rfl; have hcz194_2 : w188.cell? ⟨gb553, 2, none⟩ = some (.string a1_2) := (blk_cell BK553.out 2).trans rfl; have hfz194_0 := blk_frozen BK553.out 0; have hfz194_1 := blk_frozen BK553.out 1; have hfz194_2 := blk_frozen BK553.out 2) | ((with_reducible refine gate_callee (f := 30) rfl ?_); refine goesL_ (some 131) rfl rfl Tryd.func30 (by kernel_rfl) rfl #[.agg #[.bool a1_0, .string a1_1, .string a1_2]] rfl (by (try simp only [List.map_toArray, List.map_cons, List.map_nil]); first | done | rfl | (simp only [List.length_drop, List.length_take]; rfl)) ?_; (with_reducible refine (decimal_Trim.calls kj45 a1_0 a1_1 a1_2 t590 t591 t592 t593 _ A143.out).mono ?_); rintro e w195 ⟨rfl, hb⟩; refine ⟨_, rfl, ?_⟩; have n0_ := Aside0.mk (blk_below (g := gb552) (o := .cells #[.bool a0_0, .string a0_1, .string a0_2] 23 (0, 0)) (by refine blk_far ?_ NB552_589.out _; refine blk_far ?_ NB552_589.out _; refine blk_far ?_ NB552_589.out _; exact BK552.out) hb); have n1_ := Aside0.mk (blk_below (g := gb553) (o := .cells #[.bool a1_0, .string a1_1, .string a1_2] 23 (0, 0)) (by refine blk_far ?_ NB553_589.out _; refine blk_far ?_ NB553_589.out _; refine blk_far ?_ NB553_589.out _; exact BK553.out) hb); have n2_ := Aside0.mk (blk_below (g := gb554) (o := .cells #[.bool a2_0, .string a2_1, .string a2_2] 23 (0, 0)) (by refine blk_far ?_ NB554_589.out _; refine blk_far ?_ NB554_589.out _; refine blk_far ?_ NB554_589.out _; exact BK554.out) hb); have n3_ := Aside0.mk (blk_below (g := gb572) (o := .cells #[.bool t568, .string t569, .string t570] 23 (0, 0)) (by refine blk_far ?_ NB572_589.out _; refine blk_far ?_ NB572_589.out _; refine blk_far ?_ NB572_589.out _; exact BK572.out) hb); have n4_ := Aside0.mk (blk_below (g := gb589) (o := .cells #[.bool t585, .string t586, .string t587] 23 (0, 0)) (by refine blk_put (cs := #[.bool t585, .string t586, .string (⟨#[]⟩ : ByteArray)]) ?_ 2 _ rfl; refine blk_put (cs := #[.bool t585, .string (⟨#[]⟩ : ByteArray), .string (⟨#[]⟩ : ByteArray)]) ?_ 1 _ rfl; refine blk_put (cs := #[.bool false, .string (⟨#[]⟩ : ByteArray), .string (⟨#[]⟩ : ByteArray)]) ?_ 0 _ rfl; exact BK589.out) hb); have n5_ := Aside0.mk (below_step (by repeat (first | (with_reducible first | exact HB.out | apply below_alloc | apply pw_below_drewN | apply below_drew1 | refine below_set ?_ GE552.out | refine below_set ?_ GE553.out | refine below_set ?_ GE554.out | refine below_set ?_ GE572.out | refine below_set ?_ GE589.out) | exact HB.out)) hb); clear BK552; clear BK553; clear BK554; clear BK572; clear BK589; clear HB; have BK552 := n0_; have BK553 := n1_; have BK554 := n2_; have BK572 := n3_; have BK589 := n4_; have HB := n5_; clear n0_ n1_ n2_ n3_ n4_ n5_) | ((with_reducible refine gate_dst (N := 20) rfl ?_); refine box_event ?hg (N := 20) ?hd (cs := #[.bool false, .string (⟨#[]⟩ : ByteArray), .string (⟨#[]⟩ : ByteArray)]) (t := 23) ?hr ?_; (case hd => rfl); (case hg => rfl); (case hr => first | (go_simp; done) | (go_simp; rfl)); intro gb594 hg w196 hbox hb; have n0_ := Aside0.mk (blk_below (g := gb552) (o := .cells #[.bool a0_0, .string a0_1, .string a0_2] 23 (0, 0)) BK552.out hb); have n1_ := Aside0.mk (blk_below (g := gb553) (o := .cells #[.bool a1_0, .string a1_1, .string a1_2] 23 (0, 0)) BK553.out hb); have n2_ := Aside0.mk (blk_below (g := gb554) (o := .cells #[.bool a2_0, .string a2_1, .string a2_2] 23 (0, 0)) BK554.out hb); have n3_ := Aside0.mk (blk_below (g := gb572) (o := .cells #[.bool t568, .string t569, .string t570] 23 (0, 0)) BK572.out hb); have n4_ := Aside0.mk (blk_below (g := gb589) (o := .cells #[.bool t585, .string t586, .string t587] 23 (0, 0)) BK589.out hb); have n5_ := Aside0.mk (below_step HB.out hb); have n6_ := Aside0.mk (hbox); have n7_ := Aside0.mk ((by rw [hg]; exact (below_size HB.out) : w.heap.size ≤ gb594)); have n8_ := Aside0.mk ((by rw [hg]; exact (below_size HB.out) : w.heap.size ≤ gb594)); have n9_ := Aside0.mk ((by rw [hg]; exact Nat.ne_of_lt (blk_lt (g := gb552) (o := .cells #[.bool a0_0, .string a0_1, .string a0_2] 23 (0, 0)) BK552.out) : gb552 ≠ gb594)); have n10_ := Aside0.mk ((by rw [hg]; exact Nat.ne_of_gt (blk_lt (g := gb552) (o := .cells #[.bool a0_0, .string a0_1, .string a0_2] 23 (0, 0)) BK552.out) : gb594 ≠ gb552)); have n11_ := Aside0.mk ((by rw [hg]; exact Nat.ne_of_lt (blk_lt (g := gb553) (o := .cells #[.bool a1_0, .string a1_1, .string a1_2] 23 (0, 0)) BK553.out) : gb553 ≠ gb594)); have n12_ := Aside0.mk ((by rw [hg]; exact Nat.ne_of_gt (blk_lt (g := gb553) (o := .cells #[.bool a1_0, .string a1_1, .string a1_2] 23 (0, 0)) BK553.out) : gb594 ≠ gb553)); have n13_ := Aside0.mk ((by rw [hg]; exact Nat.ne_of_lt (blk_lt (g := gb554) (o := .cells #[.bool a2_0, .string a2_1, .string a2_2] 23 (0, 0)) BK554.out) : gb554 ≠ gb594)); have n14_ := Aside0.mk ((by rw [hg]; exact Nat.ne_of_gt (blk_lt (g := gb554) (o := .cells #[.bool a2_0, .string a2_1, .string a2_2] 23 (0, 0)) BK554.out) : gb594 ≠ gb554)); have n15_ := Aside0.mk ((by rw [hg]; exact Nat.ne_of_lt (blk_lt (g := gb572) (o := .cells #[.bool t568, .string t569, .string t570] 23 (0, 0)) BK572.out) : gb572 ≠ gb594)); have n16_ := Aside0.mk ((by rw [hg]; exact Nat.ne_of_gt (blk_lt (g := gb572) (o := .cells #[.bool t568, .string t569, .string t570] 23 (0, 0)) BK572.out) : gb594 ≠ gb572)); have n17_ := Aside0.mk ((by rw [hg]; exact Nat.ne_of_lt (blk_lt (g := gb589) (o := .cells #[.bool t585, .string t586, .string t587] 23 (0, 0)) BK589.out) : gb589 ≠ gb594)); have n18_ := Aside0.mk ((by rw [hg]; exact Nat.ne_of_gt (blk_lt (g := gb589) (o := .cells #[.bool t585, .string t586, .string t587] 23 (0, 0)) BK589.out) : gb594 ≠ gb589)); clear BK552; clear BK553; clear BK554; clear BK572; clear BK589; clear HB; have BK552 := n0_; have BK553 := n1_; have BK554 := n2_; have BK572 := n3_; have BK589 := n4_; have HB := n5_; have BK594 := n6_; have GW594 := n7_; have GE594 := n8_; have NB552_594 := n9_; have NB594_552 := n10_; have NB553_594 := n11_; have NB594_553 := n12_; have NB554_594 := n13_; have NB594_554 := n14_; have NB572_594 := n15_; have NB594_572 := n16_; have NB589_594 := n17_; have NB594_589 := n18_; clear n0_ n1_ n2_ n3_ n4_ n5_ n6_ n7_ n8_ n9_ n10_ n11_ n12_ n13_ n14_ n15_ n16_ n17_ n18_; clear hb hbox hg; have hnb197 := NB594_552.out; have hnc197 := NB552_594.out; have hnb198 := NB594_553.out; have hnc198 := NB553_594.out; have hnb199 := NB594_554.out; have hnc199 := NB554_594.out; have hnb200 := NB594_572.out; have hnc200 := NB572_594.out; have hnb201 := NB594_589.out; have hnc201 := NB589_594.out; have hcz202_0 : w196.cell? ⟨gb594, 0, none⟩ = some (.bool false) := (blk_cell BK594.out 0).trans rfl; have hcz202_1 : w196.cell? ⟨gb594, 1, none⟩ = some (.string (⟨#[]⟩ : ByteArray)) := (blk_cell BK594.out 1).trans rfl; have hcz202_2 : w196.cell? ⟨gb594, 2, none⟩ = some (.string (⟨#[]⟩ : ByteArray)) := (blk_cell BK594.out 2).trans rfl; have hfz202_0 := blk_frozen BK594.out 0; have hfz202_1 := blk_frozen BK594.out 1; have hfz202_2 := blk_frozen BK594.out 2))
            go_ret
            exact ⟨by first | rfl | (simp [errW_none, errW_some] <;> rfl) | (simp [*, errW_none, errW_some] <;> rfl) | (simp [bne_nil_]; done), by repeat (first | (with_reducible first | exact HB.out | apply below_alloc | apply pw_below_drewN | apply below_drew1 | refine below_set ?_ GE552.out | refine below_set ?_ GE553.out | refine below_set ?_ GE554.out | refine below_set ?_ GE572.out | refine below_set ?_ GE589.out | refine below_set ?_ GE594.out) | exact HB.out)⟩
          ·rw [if_neg c144] at H
           have c144b0 : (t588 == 0) = false := beq_eq_false_iff_ne.mpr c144
           have c144b1 : (t588 != 0) = true := bne_iff_ne.mpr c144
           obtain rfl := Option.some.inj H
           have hnb203 := NB552_553.out
           have hnc203 := NB553_552.out
           have hnb204 := NB552_554.out
           have hnc204 := NB554_552.out
           have hcz205_0 : wc.cell? ⟨gb552, 0, none⟩ = some (.bool a0_0) := (blk_cell BK552.out 0).trans rfl
           have hcz205_1 : wc.cell? ⟨gb552, 1, none⟩ = some (.string a0_1) := (blk_cell BK552.out 1).trans rfl
           have hcz205_2 : wc.cell? ⟨gb552, 2, none⟩ = some (.string a0_2) := (blk_cell BK552.out 2).trans rfl
           have hfz205_0 := blk_frozen BK552.out 0
           have hfz205_1 := blk_frozen BK552.out 1
           have hfz205_2 := blk_frozen BK552.out 2
           have hnb206 := NB553_554.out
           have hnc206 := NB554_553.out
           have hcz207_0 : wc.cell? ⟨gb553, 0, none⟩ = some (.bool a1_0) := (blk_cell BK553.out 0).trans rfl
           have hcz207_1 : wc.cell? ⟨gb553, 1, none⟩ = some (.string a1_1) := (blk_cell BK553.out 1).trans rfl
           have hcz207_2 : wc.cell? ⟨gb553, 2, none⟩ = some (.string a1_2) := (blk_cell BK553.out 2).trans rfl
           have hfz207_0 := blk_frozen BK553.out 0
           have hfz207_1 := blk_frozen BK553.out 1
           have hfz207_2 := blk_frozen BK553.out 2
           go_wp2_with (first | ((with_reducible refine gate_callee (f := 29) rfl ?_); refine goesL_ (some 106) rfl rfl Tryd.func29 (by kernel_rfl) rfl #[.agg #[.bool a0_0, .string a0_1, .string a0_2], .agg #[.bool a1_0, .string a1_1, .string a1_2]] rfl (by (try simp only [List.map_toArray, List.map_cons, List.map_nil]); first | done | rfl | (simp only [List.length_drop, List.length_take]; rfl)) ?_; (with_reducible refine (decimal_Sub.calls kj45 a0_0 a0_1 a0_2 a1_0 a1_1 a1_2 t568 t569 t570 t571 _ A53.out).mono ?_); rintro e w208 ⟨rfl, hb⟩; refine ⟨_, rfl, ?_⟩; have n0_ := Aside0.mk (blk_below (g := gb552) (o := .cells #[.bool a0_0, .string a0_1, .string a0_2] 23 (0, 0)) BK552.out hb); have n1_ := Aside0.mk (blk_below (g := gb553) (o := .cells #[.bool a1_0, .string a1_1, .string a1_2] 23 (0, 0)) BK553.out hb); have n2_ := Aside0.mk (blk_below (g := gb554) (o := .cells #[.bool a2_0, .string a2_1, .string a2_2] 23 (0, 0)) BK554.out hb); have n3_ := Aside0.mk (below_step HB.out hb); clear BK552; clear BK553; clear BK554; clear HB; have BK552 := n0_; have BK553 := n1_; have BK554 := n2_; have HB := n3_; clear n0_ n1_ n2_ n3_) | ((with_reducible refine gate_dst (N := 15) rfl ?_); refine box_event ?hg (N := 15) ?hd (cs := #[.bool false, .string (⟨#[]⟩ : ByteArray), .string (⟨#[]⟩ : ByteArray)]) (t := 23) ?hr ?_; (case hd => rfl); (case hg => rfl); (case hr => first | (go_simp; done) | (go_simp; rfl)); intro gb572 hg w209 hbox hb; have n0_ := Aside0.mk (blk_below (g := gb552) (o := .cells #[.bool a0_0, .string a0_1, .string a0_2] 23 (0, 0)) BK552.out hb); have n1_ := Aside0.mk (blk_below (g := gb553) (o := .cells #[.bool a1_0, .string a1_1, .string a1_2] 23 (0, 0)) BK553.out hb); have n2_ := Aside0.mk (blk_below (g := gb554) (o := .cells #[.bool a2_0, .string a2_1, .string a2_2] 23 (0, 0)) BK554.out hb); have n3_ := Aside0.mk (below_step HB.out hb); have n4_ := Aside0.mk (hbox); have n5_ := Aside0.mk ((by rw [hg]; exact (below_size HB.out) : w.heap.size ≤ gb572)); have n6_ := Aside0.mk ((by rw [hg]; exact (below_size HB.out) : w.heap.size ≤ gb572)); have n7_ := Aside0.mk ((by rw [hg]; exact Nat.ne_of_lt (blk_lt (g := gb552) (o := .cells #[.bool a0_0, .string a0_1, .string a0_2] 23 (0, 0)) BK552.out) : gb552 ≠ gb572)); have n8_ := Aside0.mk ((by rw [hg]; exact Nat.ne_of_gt (blk_lt (g := gb552) (o := .cells #[.bool a0_0, .string a0_1, .string a0_2] 23 (0, 0)) BK552.out) : gb572 ≠ gb552)); have n9_ := Aside0.mk ((by rw [hg]; exact Nat.ne_of_lt (blk_lt (g := gb553) (o := .cells #[.bool a1_0, .string a1_1, .string a1_2] 23 (0, 0)) BK553.out) : gb553 ≠ gb572)); have n10_ := Aside0.mk ((by rw [hg]; exact Nat.ne_of_gt (blk_lt (g := gb553) (o := .cells #[.bool a1_0, .string a1_1, .string a1_2] 23 (0, 0)) BK553.out) : gb572 ≠ gb553)); have n11_ := Aside0.mk ((by rw [hg]; exact Nat.ne_of_lt (blk_lt (g := gb554) (o := .cells #[.bool a2_0, .string a2_1, .string a2_2] 23 (0, 0)) BK554.out) : gb554 ≠ gb572)); have n12_ := Aside0.mk ((by rw [hg]; exact Nat.ne_of_gt (blk_lt (g := gb554) (o := .cells #[.bool a2_0, .string a2_1, .string a2_2] 23 (0, 0)) BK554.out) : gb572 ≠ gb554)); clear BK552; clear BK553; clear BK554; clear HB; have BK552 := n0_; have BK553 := n1_; have BK554 := n2_; have HB := n3_; have BK572 := n4_; have GW572 := n5_; have GE572 := n6_; have NB552_572 := n7_; have NB572_552 := n8_; have NB553_572 := n9_; have NB572_553 := n10_; have NB554_572 := n11_; have NB572_554 := n12_; clear n0_ n1_ n2_ n3_ n4_ n5_ n6_ n7_ n8_ n9_ n10_ n11_ n12_; clear hb hbox hg; have hnb210 := NB572_552.out; have hnc210 := NB552_572.out; have hnb211 := NB572_553.out; have hnc211 := NB553_572.out; have hnb212 := NB572_554.out; have hnc212 := NB554_572.out; have hcz213_0 : w209.cell? ⟨gb572, 0, none⟩ = some (.bool false) := (blk_cell BK572.out 0).trans rfl; have hcz213_1 : w209.cell? ⟨gb572, 1, none⟩ = some (.string (⟨#[]⟩ : ByteArray)) := (blk_cell BK572.out 1).trans rfl; have hcz213_2 : w209.cell? ⟨gb572, 2, none⟩ = some (.string (⟨#[]⟩ : ByteArray)) := (blk_cell BK572.out 2).trans rfl; have hfz213_0 := blk_frozen BK572.out 0; have hfz213_1 := blk_frozen BK572.out 1; have hfz213_2 := blk_frozen BK572.out 2; have hcz214_0 : w209.cell? ⟨gb552, 0, none⟩ = some (.bool a0_0) := (blk_cell BK552.out 0).trans rfl; have hcz214_1 : w209.cell? ⟨gb552, 1, none⟩ = some (.string a0_1) := (blk_cell BK552.out 1).trans rfl; have hcz214_2 : w209.cell? ⟨gb552, 2, none⟩ = some (.string a0_2) := (blk_cell BK552.out 2).trans rfl; have hfz214_0 := blk_frozen BK552.out 0; have hfz214_1 := blk_frozen BK552.out 1; have hfz214_2 := blk_frozen BK552.out 2) | ((with_reducible refine gate_callee (f := 30) rfl ?_); refine goesL_ (some 126) rfl rfl Tryd.func30 (by kernel_rfl) rfl #[.agg #[.bool a0_0, .string a0_1, .string a0_2]] rfl (by (try simp only [List.map_toArray, List.map_cons, List.map_nil]); first | done | rfl | (simp only [List.length_drop, List.length_take]; rfl)) ?_; (with_reducible refine (decimal_Trim.calls kj45 a0_0 a0_1 a0_2 t585 t586 t587 t588 _ A142.out).mono ?_); rintro e w215 ⟨rfl, hb⟩; refine ⟨_, rfl, ?_⟩; have n0_ := Aside0.mk (blk_below (g := gb552) (o := .cells #[.bool a0_0, .string a0_1, .string a0_2] 23 (0, 0)) (by refine blk_far ?_ NB552_572.out _; refine blk_far ?_ NB552_572.out _; refine blk_far ?_ NB552_572.out _; exact BK552.out) hb); have n1_ := Aside0.mk (blk_below (g := gb553) (o := .cells #[.bool a1_0, .string a1_1, .string a1_2] 23 (0, 0)) (by refine blk_far ?_ NB553_572.out _; refine blk_far ?_ NB553_572.out _; refine blk_far ?_ NB553_572.out _; exact BK553.out) hb); have n2_ := Aside0.mk (blk_below (g := gb554) (o := .cells #[.bool a2_0, .string a2_1, .string a2_2] 23 (0, 0)) (by refine blk_far ?_ NB554_572.out _; refine blk_far ?_ NB554_572.out _; refine blk_far ?_ NB554_572.out _; exact BK554.out) hb); have n3_ := Aside0.mk (blk_below (g := gb572) (o := .cells #[.bool t568, .string t569, .string t570] 23 (0, 0)) (by refine blk_put (cs := #[.bool t568, .string t569, .string (⟨#[]⟩ : ByteArray)]) ?_ 2 _ rfl; refine blk_put (cs := #[.bool t568, .string (⟨#[]⟩ : ByteArray), .string (⟨#[]⟩ : ByteArray)]) ?_ 1 _ rfl; refine blk_put (cs := #[.bool false, .string (⟨#[]⟩ : ByteArray), .string (⟨#[]⟩ : ByteArray)]) ?_ 0 _ rfl; exact BK572.out) hb); have n4_ := Aside0.mk (below_step (by repeat (first | (with_reducible first | exact HB.out | apply below_alloc | apply pw_below_drewN | apply below_drew1 | refine below_set ?_ GE552.out | refine below_set ?_ GE553.out | refine below_set ?_ GE554.out | refine below_set ?_ GE572.out) | exact HB.out)) hb); clear BK552; clear BK553; clear BK554; clear BK572; clear HB; have BK552 := n0_; have BK553 := n1_; have BK554 := n2_; have BK572 := n3_; have HB := n4_; clear n0_ n1_ n2_ n3_ n4_) | ((with_reducible refine gate_dst (N := 19) rfl ?_); refine box_event ?hg (N := 19) ?hd (cs := #[.bool false, .string (⟨#[]⟩ : ByteArray), .string (⟨#[]⟩ : ByteArray)]) (t := 23) ?hr ?_; (case hd => rfl); (case hg => rfl); (case hr => first | (go_simp; done) | (go_simp; rfl)); intro gb589 hg w216 hbox hb; have n0_ := Aside0.mk (blk_below (g := gb552) (o := .cells #[.bool a0_0, .string a0_1, .string a0_2] 23 (0, 0)) BK552.out hb); have n1_ := Aside0.mk (blk_below (g := gb553) (o := .cells #[.bool a1_0, .string a1_1, .string a1_2] 23 (0, 0)) BK553.out hb); have n2_ := Aside0.mk (blk_below (g := gb554) (o := .cells #[.bool a2_0, .string a2_1, .string a2_2] 23 (0, 0)) BK554.out hb); have n3_ := Aside0.mk (blk_below (g := gb572) (o := .cells #[.bool t568, .string t569, .string t570] 23 (0, 0)) BK572.out hb); have n4_ := Aside0.mk (below_step HB.out hb); have n5_ := Aside0.mk (hbox); have n6_ := Aside0.mk ((by rw [hg]; exact (below_size HB.out) : w.heap.size ≤ gb589)); have n7_ := Aside0.mk ((by rw [hg]; exact (below_size HB.out) : w.heap.size ≤ gb589)); have n8_ := Aside0.mk ((by rw [hg]; exact Nat.ne_of_lt (blk_lt (g := gb552) (o := .cells #[.bool a0_0, .string a0_1, .string a0_2] 23 (0, 0)) BK552.out) : gb552 ≠ gb589)); have n9_ := Aside0.mk ((by rw [hg]; exact Nat.ne_of_gt (blk_lt (g := gb552) (o := .cells #[.bool a0_0, .string a0_1, .string a0_2] 23 (0, 0)) BK552.out) : gb589 ≠ gb552)); have n10_ := Aside0.mk ((by rw [hg]; exact Nat.ne_of_lt (blk_lt (g := gb553) (o := .cells #[.bool a1_0, .string a1_1, .string a1_2] 23 (0, 0)) BK553.out) : gb553 ≠ gb589)); have n11_ := Aside0.mk ((by rw [hg]; exact Nat.ne_of_gt (blk_lt (g := gb553) (o := .cells #[.bool a1_0, .string a1_1, .string a1_2] 23 (0, 0)) BK553.out) : gb589 ≠ gb553)); have n12_ := Aside0.mk ((by rw [hg]; exact Nat.ne_of_lt (blk_lt (g := gb554) (o := .cells #[.bool a2_0, .string a2_1, .string a2_2] 23 (0, 0)) BK554.out) : gb554 ≠ gb589)); have n13_ := Aside0.mk ((by rw [hg]; exact Nat.ne_of_gt (blk_lt (g := gb554) (o := .cells #[.bool a2_0, .string a2_1, .string a2_2] 23 (0, 0)) BK554.out) : gb589 ≠ gb554)); have n14_ := Aside0.mk ((by rw [hg]; exact Nat.ne_of_lt (blk_lt (g := gb572) (o := .cells #[.bool t568, .string t569, .string t570] 23 (0, 0)) BK572.out) : gb572 ≠ gb589)); have n15_ := Aside0.mk ((by rw [hg]; exact Nat.ne_of_gt (blk_lt (g := gb572) (o := .cells #[.bool t568, .string t569, .string t570] 23 (0, 0)) BK572.out) : gb589 ≠ gb572)); clear BK552; clear BK553; clear BK554; clear BK572; clear HB; have BK552 := n0_; have BK553 := n1_; have BK554 := n2_; have BK572 := n3_; have HB := n4_; have BK589 := n5_; have GW589 := n6_; have GE589 := n7_; have NB552_589 := n8_; have NB589_552 := n9_; have NB553_589 := n10_; have NB589_553 := n11_; have NB554_589 := n12_; have NB589_554 := n13_; have NB572_589 := n14_; have NB589_572 := n15_; clear n0_ n1_ n2_ n3_ n4_ n5_ n6_ n7_ n8_ n9_ n10_ n11_ n12_ n13_ n14_ n15_; clear hb hbox hg; have hnb217 := NB589_552.out; have hnc217 := NB552_589.out; have hnb218 := NB589_553.out; have hnc218 := NB553_589.out; have hnb219 := NB589_554.out; have hnc219 := NB554_589.out; have hnb220 := NB589_572.out; have hnc220 := NB572_589.out; have hcz221_0 : w216.cell? ⟨gb589, 0, none⟩ = some (.bool false) := (blk_cell BK589.out 0).trans rfl; have hcz221_1 : w216.cell? ⟨gb589, 1, none⟩ = some (.string (⟨#[]⟩ : ByteArray)) := (blk_cell BK589.out 1).trans rfl; have hcz221_2 : w216.cell? ⟨gb589, 2, none⟩ = some (.string (⟨#[]⟩ : ByteArray)) := (blk_cell BK589.out 2).trans rfl; have hfz221_0 := blk_frozen BK589.out 0; have hfz221_1 := blk_frozen BK589.out 1; have hfz221_2 := blk_frozen BK589.out 2; have hcz222_0 : w216.cell? ⟨gb553, 0, none⟩ = some (.bool a1_0) := (blk_cell BK553.out 0).trans rfl; have hcz222_1 : w216.cell? ⟨gb553, 1, none⟩ = some (.string a1_1) := (blk_cell BK553.out 1).trans rfl; have hcz222_2 : w216.cell? ⟨gb553, 2, none⟩ = some (.string a1_2) := (blk_cell BK553.out 2).trans rfl; have hfz222_0 := blk_frozen BK553.out 0; have hfz222_1 := blk_frozen BK553.out 1; have hfz222_2 := blk_frozen BK553.out 2) | ((with_reducible refine gate_callee (f := 30) rfl ?_); refine goesL_ (some 131) rfl rfl Tryd.func30 (by kernel_rfl) rfl #[.agg #[.bool a1_0, .string a1_1, .string a1_2]] rfl (by (try simp only [List.map_toArray, List.map_cons, List.map_nil]); first | done | rfl | (simp only [List.length_drop, List.length_take]; rfl)) ?_; (with_reducible refine (decimal_Trim.calls kj45 a1_0 a1_1 a1_2 t590 t591 t592 t593 _ A143.out).mono ?_); rintro e w223 ⟨rfl, hb⟩; refine ⟨_, rfl, ?_⟩; have n0_ := Aside0.mk (blk_below (g := gb552) (o := .cells #[.bool a0_0, .string a0_1, .string a0_2] 23 (0, 0)) (by refine blk_far ?_ NB552_589.out _; refine blk_far ?_ NB552_589.out _; refine blk_far ?_ NB552_589.out _; exact BK552.out) hb); have n1_ := Aside0.mk (blk_below (g := gb553) (o := .cells #[.bool a1_0, .string a1_1, .string a1_2] 23 (0, 0)) (by refine blk_far ?_ NB553_589.out _; refine blk_far ?_ NB553_589.out _; refine blk_far ?_ NB553_589.out _; exact BK553.out) hb); have n2_ := Aside0.mk (blk_below (g := gb554) (o := .cells #[.bool a2_0, .string a2_1, .string a2_2] 23 (0, 0)) (by refine blk_far ?_ NB554_589.out _; refine blk_far ?_ NB554_589.out _; refine blk_far ?_ NB554_589.out _; exact BK554.out) hb); have n3_ := Aside0.mk (blk_below (g := gb572) (o := .cells #[.bool t568, .string t569, .string t570] 23 (0, 0)) (by refine blk_far ?_ NB572_589.out _; refine blk_far ?_ NB572_589.out _; refine blk_far ?_ NB572_589.out _; exact BK572.out) hb); have n4_ := Aside0.mk (blk_below (g := gb589) (o := .cells #[.bool t585, .string t586, .string t587] 23 (0, 0)) (by refine blk_put (cs := #[.bool t585, .string t586, .string (⟨#[]⟩ : ByteArray)]) ?_ 2 _ rfl; refine blk_put (cs := #[.bool t585, .string (⟨#[]⟩ : ByteArray), .string (⟨#[]⟩ : ByteArray)]) ?_ 1 _ rfl; refine blk_put (cs := #[.bool false, .string (⟨#[]⟩ : ByteArray), .string (⟨#[]⟩ : ByteArray)]) ?_ 0 _ rfl; exact BK589.out) hb); have n5_ := Aside0.mk (below_step (by repeat (first | (with_reducible first | exact HB.out | apply below_alloc | apply pw_below_drewN | apply below_drew1 | refine below_set ?_ GE552.out | refine below_set ?_ GE553.out | refine below_set ?_ GE554.out | refine below_set ?_ GE572.out | refine below_set ?_ GE589.out) | exact HB.out)) hb); clear BK552; clear BK553; clear BK554; clear BK572; clear BK589; clear HB; have BK552 := n0_; have BK553 := n1_; have BK554 := n2_; have BK572 := n3_; have BK589 := n4_; have HB := n5_; clear n0_ n1_ n2_ n3_ n4_ n5_) | ((with_reducible refine gate_dst (N := 20) rfl ?_); refine box_event ?hg (N := 20) ?hd (cs := #[.bool false, .string (⟨#[]⟩ : ByteArray), .string (⟨#[]⟩ : ByteArray)]) (t := 23) ?hr ?_; (case hd => rfl); (case hg => rfl); (case hr => first | (go_simp; done) | (go_simp; rfl)); intro gb594 hg w224 hbox hb; have n0_ := Aside0.mk (blk_below (g := gb552) (o := .cells #[.bool a0_0, .string a0_1, .string a0_2] 23 (0, 0)) BK552.out hb); have n1_ := Aside0.mk (blk_below (g := gb553) (o := .cells #[.bool a1_0, .string a1_1, .string a1_2] 23 (0, 0)) BK553.out hb); have n2_ := Aside0.mk (blk_below (g := gb554) (o := .cells #[.bool a2_0, .string a2_1, .string a2_2] 23 (0, 0)) BK554.out hb); have n3_ := Aside0.mk (blk_below (g := gb572) (o := .cells #[.bool t568, .string t569, .string t570] 23 (0, 0)) BK572.out hb); have n4_ := Aside0.mk (blk_below (g := gb589) (o := .cells #[.bool t585, .string t586, .string t587] 23 (0, 0)) BK589.out hb); have n5_ := Aside0.mk (below_step HB.out hb); have n6_ := Aside0.mk (hbox); have n7_ := Aside0.mk ((by rw [hg]; exact (below_size HB.out) : w.heap.size ≤ gb594)); have n8_ := Aside0.mk ((by rw [hg]; exact (below_size HB.out) : w.heap.size ≤ gb594)); have n9_ := Aside0.mk ((by rw [hg]; exact Nat.ne_of_lt (blk_lt (g := gb552) (o := .cells #[.bool a0_0, .string a0_1, .string a0_2] 23 (0, 0)) BK552.out) : gb552 ≠ gb594)); have n10_ := Aside0.mk ((by rw [hg]; exact Nat.ne_of_gt (blk_lt (g := gb552) (o := .cells #[.bool a0_0, .string a0_1, .string a0_2] 23 (0, 0)) BK552.out) : gb594 ≠ gb552)); have n11_ := Aside0.mk ((by rw [hg]; exact Nat.ne_of_lt (blk_lt (g := gb553) (o := .cells #[.bool a1_0, .string a1_1, .string a1_2] 23 (0, 0)) BK553.out) : gb553 ≠ gb594)); have n12_ := Aside0.mk ((by rw [hg]; exact Nat.ne_of_gt (blk_lt (g := gb553) (o := .cells #[.bool a1_0, .string a1_1, .string a1_2] 23 (0, 0)) BK553.out) : gb594 ≠ gb553)); have n13_ := Aside0.mk ((by rw [hg]; exact Nat.ne_of_lt (blk_lt (g := gb554) (o := .cells #[.bool a2_0, .string a2_1, .string a2_2] 23 (0, 0)) BK554.out) : gb554 ≠ gb594)); have n14_ := Aside0.mk ((by rw [hg]; exact Nat.ne_of_gt (blk_lt (g := gb554) (o := .cells #[.bool a2_0, .string a2_1, .string a2_2] 23 (0, 0)) BK554.out) : gb594 ≠ gb554)); have n15_ := Aside0.mk ((by rw [hg]; exact Nat.ne_of_lt (blk_lt (g := gb572) (o := .cells #[.bool t568, .string t569, .string t570] 23 (0, 0)) BK572.out) : gb572 ≠ gb594)); have n16_ := Aside0.mk ((by rw [hg]; exact Nat.ne_of_gt (blk_lt (g := gb572) (o := .cells #[.bool t568, .string t569, .string t570] 23 (0, 0)) BK572.out) : gb594 ≠ gb572)); have n17_ := Aside0.mk ((by rw [hg]; exact Nat.ne_of_lt (blk_lt (g := gb589) (o := .cells #[.bool t585, .string t586, .string t587] 23 (0, 0)) BK589.out) : gb589 ≠ gb594)); have n18_ := Aside0.mk ((by rw [hg]; exact Nat.ne_of_gt (blk_lt (g := gb589) (o := .cells #[.bool t585, .string t586, .string t587] 23 (0, 0)) BK589.out) : gb594 ≠ gb589)); clear BK552; clear BK553; clear BK554; clear BK572; clear BK589; clear HB; have BK552 := n0_; have BK553 := n1_; have BK554 := n2_; have BK572 := n3_; have BK589 := n4_; have HB := n5_; have BK594 := n6_; have GW594 := n7_; have GE594 := n8_; have NB552_594 := n9_; have NB594_552 := n10_; have NB553_594 := n11_; have NB594_553 := n12_; have NB554_594 := n13_; have NB594_554 := n14_; have NB572_594 := n15_; have NB594_572 := n16_; have NB589_594 := n17_; have NB594_589 := n18_; clear n0_ n1_ n2_ n3_ n4_ n5_ n6_ n7_ n8_ n9_ n10_ n11_ n12_ n13_ n14_ n15_ n16_ n17_ n18_; clear hb hbox hg; have hnb225 := NB594_552.out; have hnc225 := NB552_594.out; have hnb226 := NB594_553.out; have hnc226 := NB553_594.out; have hnb227 := NB594_554.out; have hnc227 := NB554_594.out; have hnb228 := NB594_572.out; have hnc228 := NB572_594.out; have hnb229 := NB594_589.out; have hnc229 := NB589_594.out; have hcz230_0 : w224.cell? ⟨gb594, 0, none⟩ = some (.bool false) := (blk_cell BK594.out 0).trans rfl; have hcz230_1 : w224.cell? ⟨gb594, 1, none⟩ = some (.string (⟨#[]⟩ : ByteArray)) := (blk_cell BK594.out 1).trans rfl; have hcz230_2 : w224.cell? ⟨gb594, 2, none⟩ = some (.string (⟨#[]⟩ : ByteArray)) := (blk_cell BK594.out 2).trans rfl; have hfz230_0 := blk_frozen BK594.out 0; have hfz230_1 := blk_frozen BK594.out 1; have hfz230_2 := blk_frozen BK594.out 2))
           go_ret
           exact ⟨by first | rfl | (simp [errW_none, errW_some] <;> rfl) | (simp [*, errW_none, errW_some] <;> rfl) | (simp [bne_nil_]; done), by repeat (first | (with_reducible first | exact HB.out | apply below_alloc | apply pw_below_drewN | apply below_drew1 | refine below_set ?_ GE552.out | refine below_set ?_ GE553.out | refine below_set ?_ GE554.out | refine below_set ?_ GE572.out | refine below_set ?_ GE589.out | refine below_set ?_ GE594.out) | exact HB.out)⟩
  ·replace c7 := Bool.eq_false_iff.mpr c7
   subst c7
   have H1 : (some true) = some r := by rw [if_neg (show ¬ (false = true) by decide)] at H; exact H
   clear H
   have H := H1
   clear H1
   obtain rfl := Option.some.inj H
   go_enter Tryd.func7, Tryd.ntmps7
   go_wp2_with (first | ((with_reducible refine gate_dst (N := 3) rfl ?_); refine box_event ?hg (N := 3) ?hd (cs := #[.bool a0_0, .string a0_1, .string a0_2]) (t := 23) ?hr ?_; (case hd => rfl); (case hg => rfl); (case hr => first | (go_simp; done) | (go_simp; rfl)); intro gb552 hg w231 hbox hb; have n0_ := Aside0.mk (below_step HB.out hb); have n1_ := Aside0.mk (hbox); have n2_ := Aside0.mk ((by rw [hg]; exact (below_size HB.out) : w.heap.size ≤ gb552)); have n3_ := Aside0.mk ((by rw [hg]; exact (below_size HB.out) : w.heap.size ≤ gb552)); clear HB; have HB := n0_; have BK552 := n1_; have GW552 := n2_; have GE552 := n3_; clear n0_ n1_ n2_ n3_; clear hb hbox hg) | ((with_reducible refine gate_dst (N := 4) rfl ?_); refine box_event ?hg (N := 4) ?hd (cs := #[.bool a1_0, .string a1_1, .string a1_2]) (t := 23) ?hr ?_; (case hd => rfl); (case hg => rfl); (case hr => first | (go_simp; done) | (go_simp; rfl)); intro gb553 hg w232 hbox hb; have n0_ := Aside0.mk (blk_below (g := gb552) (o := .cells #[.bool a0_0, .string a0_1, .string a0_2] 23 (0, 0)) BK552.out hb); have n1_ := Aside0.mk (below_step HB.out hb); have n2_ := Aside0.mk (hbox); have n3_ := Aside0.mk ((by rw [hg]; exact (below_size HB.out) : w.heap.size ≤ gb553)); have n4_ := Aside0.mk ((by rw [hg]; exact (below_size HB.out) : w.heap.size ≤ gb553)); have n5_ := Aside0.mk ((by rw [hg]; exact Nat.ne_of_lt (blk_lt (g := gb552) (o := .cells #[.bool a0_0, .string a0_1, .string a0_2] 23 (0, 0)) BK552.out) : gb552 ≠ gb553)); have n6_ := Aside0.mk ((by rw [hg]; exact Nat.ne_of_gt (blk_lt (g := gb552) (o := .cells #[.bool a0_0, .string a0_1, .string a0_2] 23 (0, 0)) BK552.out) : gb553 ≠ gb552)); clear BK552; clear HB; have BK552 := n0_; have HB := n1_; have BK553 := n2_; have GW553 := n3_; have GE553 := n4_; have NB552_553 := n5_; have NB553_552 := n6_; clear n0_ n1_ n2_ n3_ n4_ n5_ n6_; clear hb hbox hg) | ((with_reducible refine gate_dst (N := 5) rfl ?_); refine box_event ?hg (N := 5) ?hd (cs := #[.bool a2_0, .string a2_1, .string a2_2]) (t := 23) ?hr ?_; (case hd => rfl); (case hg => rfl); (case hr => first | (go_simp; done) | (go_simp; rfl)); intro gb554 hg w233 hbox hb; have n0_ := Aside0.mk (blk_below (g := gb552) (o := .cells #[.bool a0_0, .string a0_1, .string a0_2] 23 (0, 0)) BK552.out hb); have n1_ := Aside0.mk (blk_below (g := gb553) (o := .cells #[.bool a1_0, .string a1_1, .string a1_2] 23 (0, 0)) BK553.out hb); have n2_ := Aside0.mk (below_step HB.out hb); have n3_ := Aside0.mk (hbox); have n4_ := Aside0.mk ((by rw [hg]; exact (below_size HB.out) : w.heap.size ≤ gb554)); have n5_ := Aside0.mk ((by rw [hg]; exact (below_size HB.out) : w.heap.size ≤ gb554)); have n6_ := Aside0.mk ((by rw [hg]; exact Nat.ne_of_lt (blk_lt (g := gb552) (o := .cells #[.bool a0_0, .string a0_1, .string a0_2] 23 (0, 0)) BK552.out) : gb552 ≠ gb554)); have n7_ := Aside0.mk ((by rw [hg]; exact Nat.ne_of_gt (blk_lt (g := gb552) (o := .cells #[.bool a0_0, .string a0_1, .string a0_2] 23 (0, 0)) BK552.out) : gb554 ≠ gb552)); have n8_ := Aside0.mk ((by rw [hg]; exact Nat.ne_of_lt (blk_lt (g := gb553) (o := .cells #[.bool a1_0, .string a1_1, .string a1_2] 23 (0, 0)) BK553.out) : gb553 ≠ gb554)); have n9_ := Aside0.mk ((by rw [hg]; exact Nat.ne_of_gt (blk_lt (g := gb553) (o := .cells #[.bool a1_0, .string a1_1, .string a1_2] 23 (0, 0)) BK553.out) : gb554 ≠ gb553)); clear BK552; clear BK553; clear HB; have BK552 := n0_; have BK553 := n1_; have HB := n2_; have BK554 := n3_; have GW554 := n4_; have GE554 := n5_; have NB552_554 := n6_; have NB554_552 := n7_; have NB553_554 := n8_; have NB554_553 := n9_; clear n0_ n1_ n2_ n3_ n4_ n5_ n6_ n7_ n8_ n9_; clear hb hbox hg) | ((with_reducible refine gate_callee (f := 19) rfl ?_); refine goesL_ (some 21) rfl rfl Tryd.func19 (by kernel_rfl) rfl #[] rfl (by simp only [List.map_toArray, List.map_cons, List.map_nil]) ?_; (with_reducible refine (idiomlaw02_awake.calls k  true _ A4.out).mono ?_); rintro e w234 ⟨rfl, hb⟩; refine ⟨_, rfl, ?_⟩; have n0_ := Aside0.mk (blk_below (g := gb552) (o := .cells #[.bool a0_0, .string a0_1, .string a0_2] 23 (0, 0)) BK552.out hb); have n1_ := Aside0.mk (blk_below (g := gb553) (o := .cells #[.bool a1_0, .string a1_1, .string a1_2] 23 (0, 0)) BK553.out hb); have n2_ := Aside0.mk (blk_below (g := gb554) (o := .cells #[.bool a2_0, .string a2_1, .string a2_2] 23 (0, 0)) BK554.out hb); have n3_ := Aside0.mk (below_step HB.out hb); clear BK552; clear BK553; clear BK554; clear HB; have BK552 := n0_; have BK553 := n1_; have BK554 := n2_; have HB := n3_; clear n0_ n1_ n2_ n3_; have hnb235 := NB552_553.out; have hnc235 := NB553_552.out; have hnb236 := NB552_554.out; have hnc236 := NB554_552.out; have hcz237_0 : w234.cell? ⟨gb552, 0, none⟩ = some (.bool a0_0) := (blk_cell BK552.out 0).trans rfl; have hcz237_1 : w234.cell? ⟨gb552, 1, none⟩ = some (.string a0_1) := (blk_cell BK552.out 1).trans rfl; have hcz237_2 : w234.cell? ⟨gb552, 2, none⟩ = some (.string a0_2) := (blk_cell BK552.out 2).trans rfl; have hfz237_0 := blk_frozen BK552.out 0; have hfz237_1 := blk_frozen BK552.out 1; have hfz237_2 := blk_frozen BK552.out 2; have hnb238 := NB553_554.out; have hnc238 := NB554_553.out; have hcz239_0 : w234.cell? ⟨gb553, 0, none⟩ = some (.bool a1_0) := (blk_cell BK553.out 0).trans rfl; have hcz239_1 : w234.cell? ⟨gb553, 1, none⟩ = some (.string a1_1) := (blk_cell BK553.out 1).trans rfl; have hcz239_2 : w234.cell? ⟨gb553, 2, none⟩ = some (.string a1_2) := (blk_cell BK553.out 2).trans rfl; have hfz239_0 := blk_frozen BK553.out 0; have hfz239_1 := blk_frozen BK553.out 1; have hfz239_2 := blk_frozen BK553.out 2; have hcz240_0 : w234.cell? ⟨gb554, 0, none⟩ = some (.bool a2_0) := (blk_cell BK554.out 0).trans rfl; have hcz240_1 : w234.cell? ⟨gb554, 1, none⟩ = some (.string a2_1) := (blk_cell BK554.out 1).trans rfl; have hcz240_2 : w234.cell? ⟨gb554, 2, none⟩ = some (.string a2_2) := (blk_cell BK554.out 2).trans rfl; have hfz240_0 := blk_frozen BK554.out 0; have hfz240_1 := blk_frozen BK554.out 1; have hfz240_2 := blk_frozen BK554.out 2) | ((with_reducible refine gate_dst (N := 26) rfl ?_); refine Kd.R_lit k23 _ 23 ?hg (N := 26) ?hd (xs := ([(⟨a0_0, a0_1, a0_2⟩ : S23), (⟨a1_0, a1_1, a1_2⟩ : S23), (⟨a2_0, a2_1, a2_2⟩ : S23)] : List (S23))) (inner := [.bool a0_0, .string a0_1, .string a0_2, .bool a1_0, .string a1_1, .string a1_2, .bool a2_0, .string a2_1, .string a2_2]) (ok := fun _ => True) (okp := fun _ => True) ?hr ?hp (fun _ hk => hk) trivial (Below.refl _ _) (Nat.le_refl _) (by simp) ?_; (case hd => rfl); (case hg => rfl); (case hr => first | (go_simp; done) | (go_simp; rfl)); (case hp => exact (Reps.c3 (show Kd.M k23 _ _ _ (⟨a0_0, a0_1, a0_2⟩ : S23) [.bool a0_0, .string a0_1, .string a0_2] from (k23_mkM _ _ _ (⟨a0_0, a0_1, a0_2⟩ : S23) )) (Reps.c3 (show Kd.M k23 _ _ _ (⟨a1_0, a1_1, a1_2⟩ : S23) [.bool a1_0, .string a1_1, .string a1_2] from (k23_mkM _ _ _ (⟨a1_0, a1_1, a1_2⟩ : S23) )) (Reps.c3 (show Kd.M k23 _ _ _ (⟨a2_0, a2_1, a2_2⟩ : S23) [.bool a2_0, .string a2_1, .string a2_2] from (k23_mkM _ _ _ (⟨a2_0, a2_1, a2_2⟩ : S23) )) (Reps.none _ _))))); intro v557 w241 ho242 hb hg_ hnew_; clear hg_ hnew_; (first | rw [← Ny556.out] at ho242 | (simp only [Int.reduceToNat] at ho242; rw [← Ny556.out] at ho242)); have n0_ := Aside0.mk (Kd.R_lower (Kd.R_newB (Kd.R_newB (Kd.R_newB ho242 (g := gb552) (o := .cells #[.bool a0_0, .string a0_1, .string a0_2] 23 (0, 0)) BK552.out) (g := gb553) (o := .cells #[.bool a1_0, .string a1_1, .string a1_2] 23 (0, 0)) BK553.out) (g := gb554) (o := .cells #[.bool a2_0, .string a2_1, .string a2_2] 23 (0, 0)) BK554.out) (below_size HB.out)); have n1_ := Aside0.mk (blk_below (g := gb552) (o := .cells #[.bool a0_0, .string a0_1, .string a0_2] 23 (0, 0)) BK552.out hb); have n2_ := Aside0.mk (blk_below (g := gb553) (o := .cells #[.bool a1_0, .string a1_1, .string a1_2] 23 (0, 0)) BK553.out hb); have n3_ := Aside0.mk (blk_below (g := gb554) (o := .cells #[.bool a2_0, .string a2_1, .string a2_2] 23 (0, 0)) BK554.out hb); have n4_ := Aside0.mk (below_step HB.out hb); clear BK552; clear BK553; clear BK554; clear HB; have HO558 := n0_; have BK552 := n1_; have BK553 := n2_; have BK554 := n3_; have HB := n4_; clear n0_ n1_ n2_ n3_ n4_; clear hb ho242; obtain ⟨Ao243, co243, eo243⟩ := Kd.R_slice HO558.out; subst eo243) | ((with_reducible refine gate_callee (f := 27) rfl ?_); refine goesL_ (some 27) rfl rfl Tryd.func27 (by kernel_rfl) rfl #[.slice Ao243 y556.length co243] rfl (by (try simp only [List.map_toArray, List.map_cons, List.map_nil]); first | done | rfl | (simp only [List.length_drop, List.length_take]; rfl)) ?_; (with_reducible refine (idiomlaw02_fine.calls k _ _ y556 false _ ?side1 ?side2 A6.out).mono ?_); (case side1 => repeat (first | exact (Kd.R_reads' HO558.out).2.2 | (with_reducible refine Kd.C_alloc ?_ _) | (with_reducible refine Kd.C_drewN ?_ _) | (with_reducible refine Kd.C_drew ?_))); (case side2 => exact (Kd.R_reads' HO558.out).2.1); rintro e w244 ⟨rfl, hb⟩; refine ⟨_, rfl, ?_⟩; have n0_ := Aside0.mk (Kd.R_below (by (with_reducible repeat (first | apply Kd.R_alloc | apply Kd.R_drewN | apply Kd.R_drew)); exact HO558.out) hb); have n1_ := Aside0.mk (blk_below (g := gb552) (o := .cells #[.bool a0_0, .string a0_1, .string a0_2] 23 (0, 0)) BK552.out hb); have n2_ := Aside0.mk (blk_below (g := gb553) (o := .cells #[.bool a1_0, .string a1_1, .string a1_2] 23 (0, 0)) BK553.out hb); have n3_ := Aside0.mk (blk_below (g := gb554) (o := .cells #[.bool a2_0, .string a2_1, .string a2_2] 23 (0, 0)) BK554.out hb); have n4_ := Aside0.mk (below_step HB.out hb); clear HO558; clear BK552; clear BK553; clear BK554; clear HB; have HO558 := n0_; have BK552 := n1_; have BK553 := n2_; have BK554 := n3_; have HB := n4_; clear n0_ n1_ n2_ n3_ n4_))
   go_ret
   exact ⟨by first | rfl | (simp [errW_none, errW_some] <;> rfl) | (simp [*, errW_none, errW_some] <;> rfl) | (simp [bne_nil_]; done), by repeat (first | (with_reducible first | exact HB.out | apply below_alloc | apply pw_below_drewN | apply below_drew1 | refine below_set ?_ GE552.out | refine below_set ?_ GE553.out | refine below_set ?_ GE554.out) | exact HB.out)⟩
 ·replace c5 := Bool.eq_false_iff.mpr c5
  subst c5
  have H1 : (some false) = some r := by rw [if_neg (show ¬ (false = true) by decide)] at H; exact H
  clear H
  have H := H1
  clear H1
  obtain rfl := Option.some.inj H
  go_enter Tryd.func7, Tryd.ntmps7
  go_wp2_with (first | ((with_reducible refine gate_dst (N := 3) rfl ?_); refine box_event ?hg (N := 3) ?hd (cs := #[.bool a0_0, .string a0_1, .string a0_2]) (t := 23) ?hr ?_; (case hd => rfl); (case hg => rfl); (case hr => first | (go_simp; done) | (go_simp; rfl)); intro gb552 hg w245 hbox hb; have n0_ := Aside0.mk (below_step HB.out hb); have n1_ := Aside0.mk (hbox); have n2_ := Aside0.mk ((by rw [hg]; exact (below_size HB.out) : w.heap.size ≤ gb552)); have n3_ := Aside0.mk ((by rw [hg]; exact (below_size HB.out) : w.heap.size ≤ gb552)); clear HB; have HB := n0_; have BK552 := n1_; have GW552 := n2_; have GE552 := n3_; clear n0_ n1_ n2_ n3_; clear hb hbox hg) | ((with_reducible refine gate_dst (N := 4) rfl ?_); refine box_event ?hg (N := 4) ?hd (cs := #[.bool a1_0, .string a1_1, .string a1_2]) (t := 23) ?hr ?_; (case hd => rfl); (case hg => rfl); (case hr => first | (go_simp; done) | (go_simp; rfl)); intro gb553 hg w246 hbox hb; have n0_ := Aside0.mk (blk_below (g := gb552) (o := .cells #[.bool a0_0, .string a0_1, .string a0_2] 23 (0, 0)) BK552.out hb); have n1_ := Aside0.mk (below_step HB.out hb); have n2_ := Aside0.mk (hbox); have n3_ := Aside0.mk ((by rw [hg]; exact (below_size HB.out) : w.heap.size ≤ gb553)); have n4_ := Aside0.mk ((by rw [hg]; exact (below_size HB.out) : w.heap.size ≤ gb553)); have n5_ := Aside0.mk ((by rw [hg]; exact Nat.ne_of_lt (blk_lt (g := gb552) (o := .cells #[.bool a0_0, .string a0_1, .string a0_2] 23 (0, 0)) BK552.out) : gb552 ≠ gb553)); have n6_ := Aside0.mk ((by rw [hg]; exact Nat.ne_of_gt (blk_lt (g := gb552) (o := .cells #[.bool a0_0, .string a0_1, .string a0_2] 23 (0, 0)) BK552.out) : gb553 ≠ gb552)); clear BK552; clear HB; have BK552 := n0_; have HB := n1_; have BK553 := n2_; have GW553 := n3_; have GE553 := n4_; have NB552_553 := n5_; have NB553_552 := n6_; clear n0_ n1_ n2_ n3_ n4_ n5_ n6_; clear hb hbox hg) | ((with_reducible refine gate_dst (N := 5) rfl ?_); refine box_event ?hg (N := 5) ?hd (cs := #[.bool a2_0, .string a2_1, .string a2_2]) (t := 23) ?hr ?_; (case hd => rfl); (case hg => rfl); (case hr => first | (go_simp; done) | (go_simp; rfl)); intro gb554 hg w247 hbox hb; have n0_ := Aside0.mk (blk_below (g := gb552) (o := .cells #[.bool a0_0, .string a0_1, .string a0_2] 23 (0, 0)) BK552.out hb); have n1_ := Aside0.mk (blk_below (g := gb553) (o := .cells #[.bool a1_0, .string a1_1, .string a1_2] 23 (0, 0)) BK553.out hb); have n2_ := Aside0.mk (below_step HB.out hb); have n3_ := Aside0.mk (hbox); have n4_ := Aside0.mk ((by rw [hg]; exact (below_size HB.out) : w.heap.size ≤ gb554)); have n5_ := Aside0.mk ((by rw [hg]; exact (below_size HB.out) : w.heap.size ≤ gb554)); have n6_ := Aside0.mk ((by rw [hg]; exact Nat.ne_of_lt (blk_lt (g := gb552) (o := .cells #[.bool a0_0, .string a0_1, .string a0_2] 23 (0, 0)) BK552.out) : gb552 ≠ gb554)); have n7_ := Aside0.mk ((by rw [hg]; exact Nat.ne_of_gt (blk_lt (g := gb552) (o := .cells #[.bool a0_0, .string a0_1, .string a0_2] 23 (0, 0)) BK552.out) : gb554 ≠ gb552)); have n8_ := Aside0.mk ((by rw [hg]; exact Nat.ne_of_lt (blk_lt (g := gb553) (o := .cells #[.bool a1_0, .string a1_1, .string a1_2] 23 (0, 0)) BK553.out) : gb553 ≠ gb554)); have n9_ := Aside0.mk ((by rw [hg]; exact Nat.ne_of_gt (blk_lt (g := gb553) (o := .cells #[.bool a1_0, .string a1_1, .string a1_2] 23 (0, 0)) BK553.out) : gb554 ≠ gb553)); clear BK552; clear BK553; clear HB; have BK552 := n0_; have BK553 := n1_; have HB := n2_; have BK554 := n3_; have GW554 := n4_; have GE554 := n5_; have NB552_554 := n6_; have NB554_552 := n7_; have NB553_554 := n8_; have NB554_553 := n9_; clear n0_ n1_ n2_ n3_ n4_ n5_ n6_ n7_ n8_ n9_; clear hb hbox hg) | ((with_reducible refine gate_callee (f := 19) rfl ?_); refine goesL_ (some 21) rfl rfl Tryd.func19 (by kernel_rfl) rfl #[] rfl (by simp only [List.map_toArray, List.map_cons, List.map_nil]) ?_; (with_reducible refine (idiomlaw02_awake.calls k  false _ A4.out).mono ?_); rintro e w248 ⟨rfl, hb⟩; refine ⟨_, rfl, ?_⟩; have n0_ := Aside0.mk (blk_below (g := gb552) (o := .cells #[.bool a0_0, .string a0_1, .string a0_2] 23 (0, 0)) BK552.out hb); have n1_ := Aside0.mk (blk_below (g := gb553) (o := .cells #[.bool a1_0, .string a1_1, .string a1_2] 23 (0, 0)) BK553.out hb); have n2_ := Aside0.mk (blk_below (g := gb554) (o := .cells #[.bool a2_0, .string a2_1, .string a2_2] 23 (0, 0)) BK554.out hb); have n3_ := Aside0.mk (below_step HB.out hb); clear BK552; clear BK553; clear BK554; clear HB; have BK552 := n0_; have BK553 := n1_; have BK554 := n2_; have HB := n3_; clear n0_ n1_ n2_ n3_))
  go_ret
  exact ⟨by first | rfl | (simp [errW_none, errW_some] <;> rfl) | (simp [*, errW_none, errW_some] <;> rfl) | (simp [bne_nil_]; done), by repeat (first | (with_reducible first | exact HB.out | apply below_alloc | apply pw_below_drewN | apply below_drew1 | refine below_set ?_ GE552.out | refine below_set ?_ GE553.out | refine below_set ?_ GE554.out) | exact HB.out)⟩
end Go.Proofs.YtapbdblpdkoacaaDoor.P
