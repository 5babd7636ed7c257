/- A part of the proof. Part 4 of 6; its texts were written by programs, some out of the kit's print. -/
import Derived.Test.YtapbdblpdkoacaaDoorZSh2
import Derived.Shelf.LaysM
import Derived.Shelf.Strings.Repeat
import Derived.Test.YtapbdblpdkoacaaDoorProg
namespace Go.Proofs.YtapbdblpdkoacaaDoor.P
open Go.RowKit Go.Proofs.YtapbdblpdkoacaaDoorW.PrintWords Go.Proofs.YtapbdblpdkoacaaDoorW.PrintLast Go.Proofs.YtapbdblpdkoacaaDoorW.PrintMore
attribute [local go_sem] max2_int max_two
set_option linter.unusedVariables false
set_option linter.unusedSimpArgs false
mutual
def strings_TrimRight.j0 : Nat → ByteArray → ByteArray → Bool → Option (ByteArray)
  | 0, _, _, _ => none
  | k + 1, x0, x1, x12 => if x12 = true then (some x0) else (if (x1.size : Int) = 1 then (if 0 < (x1.size : Int) then (strings_TrimRight.j1 k x0 x1 (decide ((bt x1 0) < 128))) else (none)) else (strings_TrimRight.j1 k x0 x1 false))
def strings_TrimRight.j1 : Nat → ByteArray → ByteArray → Bool → Option (ByteArray)
  | 0, _, _, _ => none
  | k + 1, x0, x1, x21 => if x21 = true then (if 0 < (x1.size : Int) then ((strings_trimRightByte.f k x0 (bt x1 0)).bind fun t547 => (some t547)) else (none)) else (none)
end
def strings_TrimRight.f (k : Nat) (a0 : ByteArray) (a1 : ByteArray) : Option (ByteArray) := if a0.toList = ([] : List UInt8) then (strings_TrimRight.j0 k a0 a1 true) else (strings_TrimRight.j0 k a0 a1 (a1.toList == ([] : List UInt8)))
set_option maxHeartbeats 8000000 in
set_option maxRecDepth 100000 in
theorem strings_TrimRight.calls (k : Nat) (a0 : ByteArray) (a1 : ByteArray) (r : ByteArray) (w : World) (h : strings_TrimRight.f k a0 a1 = some r) :
    Calls Tryd.prog 62 #[.string a0, .string a1] w fun e w' => e = .returned (.string r) ∧ Below w.heap.size w w' := by
 have HB := Aside0.mk (Below.refl w.heap.size w)
 unfold strings_TrimRight.f at h
 have H := h
 clear h
 have HC3 := Aside0.mk H
 clear H
 go_enter Tryd.func62, Tryd.ntmps62
 go_upto_region 1 with (fail)
 go_cut [12] (fun v12 wc => ∃ (kq : Nat) (x12_2 : Bool), v12 = .bool x12_2 ∧ Aside0 (strings_TrimRight.j0 kq a0 a1 x12_2 = some r) ∧ Aside0 (kq ≤ k) ∧ Aside0 (Below w.heap.size w wc))
 case first =>
  have H := HC3.out
  clear HC3
  by_cases c4 : a0.toList = ([] : List UInt8)
  ·rw [if_pos c4] at H
   have c4b0 : (a0.toList == ([] : List UInt8)) = true := beq_iff_eq.mpr c4
   have c4b1 : (a0.toList != ([] : List UInt8)) = false := bne_eq_false_iff_eq.mpr c4
   clear c4
   (first | rw [c4b0] | (simp only [i64_w, i32_w]; rw [c4b0]) | rw [c4b1] | skip)
   have H' := Aside0.mk H
   clear H
   go_wp2
   go_meet
   case rel => exact ⟨_, (true), (by first | rfl | (simp; done) | (simp [*]; done)), H', ⟨by first | omega | exact Nat.le_refl _⟩, ⟨by repeat (first | (with_reducible first | exact HB.out | apply below_alloc | apply pw_below_drewN | apply below_drew1) | exact HB.out)⟩⟩
  ·rw [if_neg c4] at H
   have c4b0 : (a0.toList == ([] : List UInt8)) = false := beq_eq_false_iff_ne.mpr c4
   have c4b1 : (a0.toList != ([] : List UInt8)) = true := bne_iff_ne.mpr c4
   (first | rw [c4b0] | (simp only [i64_w, i32_w]; rw [c4b0]) | rw [c4b1] | skip)
   have H' := Aside0.mk H
   clear H
   go_wp2
   go_meet
   case rel => exact ⟨_, ((a1.toList == ([] : List UInt8))), (by first | rfl | (simp; done) | (simp [*]; done)), H', ⟨by first | omega | exact Nat.le_refl _⟩, ⟨by repeat (first | (with_reducible first | exact HB.out | apply below_alloc | apply pw_below_drewN | apply below_drew1) | exact HB.out)⟩⟩
 case rest =>
  clear HC3
  try clear p2
  try clear c4
  try clear c4b0
  try clear c4b1
  obtain ⟨kq, x12_2, rfl, HA, HJ2, HB⟩ := hcut
  cases kq with
  | zero => exact absurd HA.out (by simp [strings_TrimRight.j0])
  | succ kj2 =>
   have H := HA.out
   clear HA
   simp only [strings_TrimRight.j0] at H
   by_cases c5 : x12_2 = true
   ·subst c5
    have H1 : (some a0) = some r := by rw [if_pos rfl] at H; exact H
    clear H
    have H := H1
    clear H1
    obtain rfl := Option.some.inj H
    go_wp2
    go_ret
    exact ⟨by first | rfl | (simp [errW_none, errW_some] <;> rfl) | (simp [*, errW_none, errW_some] <;> rfl) | (simp [bne_nil_]; done), by repeat (first | (with_reducible first | exact HB.out | apply below_alloc | apply pw_below_drewN | apply below_drew1) | exact HB.out)⟩
   ·replace c5 := Bool.eq_false_iff.mpr c5
    subst c5
    have H1 : (if (a1.size : Int) = 1 then (if 0 < (a1.size : Int) then (strings_TrimRight.j1 kj2 a0 a1 (decide ((bt a1 0) < 128))) else (none)) else (strings_TrimRight.j1 kj2 a0 a1 false)) = some r := by rw [if_neg (show ¬ (false = true) by decide)] at H; exact H
    clear H
    have H := H1
    clear H1
    have HC6 := Aside0.mk H
    clear H
    go_upto_region 3 with (fail)
    go_cut [21] (fun v21 wc => ∃ (kq : Nat) (x21_5 : Bool), v21 = .bool x21_5 ∧ Aside0 (strings_TrimRight.j1 kq a0 a1 x21_5 = some r) ∧ Aside0 (kq ≤ kj2) ∧ Aside0 (Below w.heap.size w wc))
    case first =>
     have H := HC6.out
     clear HC6
     by_cases c7 : (a1.size : Int) = 1
     ·rw [if_pos c7] at H
      have c7b0 : ((a1.size : Int) == 1) = true := beq_iff_eq.mpr c7
      have c7b1 : ((a1.size : Int) != 1) = false := bne_eq_false_iff_eq.mpr c7
      clear c7
      (first | rw [c7b0] | (simp only [i64_w, i32_w]; rw [c7b0]) | rw [c7b1] | skip)
      by_cases c8 : 0 < (a1.size : Int)
      ·rw [if_pos c8] at H
       have c8b0 : decide (0 < (a1.size : Int)) = true := decide_eq_true c8
       have c8b1 : decide (0 < a1.size) = true := decide_eq_true (by omega)
       clear c8
       have H' := Aside0.mk H
       clear H
       have p9 : 0 ≤ (0 : Int) := (by omega)
       have q9 : 0 < a1.size := (by have : (0 : Int) < (a1.size : Int) := of_decide_eq_true (by first | (with_reducible assumption) | assumption); omega)
       have hx9 : ∀ h : 0 < a1.size, ((a1[0]'h).toNat : Int) = bt a1 0 := bt_at a1 0
       clear p9
       have qi9 : (0 < (a1.size : Int)) = True := eq_true (of_decide_eq_true (by first | (with_reducible assumption) | assumption))
       replace q9 := eq_true q9
       go_wp2
       go_meet
       case rel => exact ⟨_, (decide ((bt a1 0) < 128)), (by first | rfl | (simp; done) | (simp [*]; done)), H', ⟨by have := HJ2.out; first | omega | exact Nat.le_refl _⟩, ⟨by repeat (first | (with_reducible first | exact HB.out | apply below_alloc | apply pw_below_drewN | apply below_drew1) | exact HB.out)⟩⟩
      ·rw [if_neg c8] at H
       exact absurd H (by simp)
     ·rw [if_neg c7] at H
      have c7b0 : ((a1.size : Int) == 1) = false := beq_eq_false_iff_ne.mpr c7
      have c7b1 : ((a1.size : Int) != 1) = true := bne_iff_ne.mpr c7
      (first | rw [c7b0] | (simp only [i64_w, i32_w]; rw [c7b0]) | rw [c7b1] | skip)
      have H' := Aside0.mk H
      clear H
      go_wp2
      go_meet
      case rel => exact ⟨_, (false), (by first | rfl | (simp; done) | (simp [*]; done)), H', ⟨by have := HJ2.out; first | omega | exact Nat.le_refl _⟩, ⟨by repeat (first | (with_reducible first | exact HB.out | apply below_alloc | apply pw_below_drewN | apply below_drew1) | exact HB.out)⟩⟩
    case rest =>
     clear HC6
     try clear p2
     try clear c4
     try clear c4b0
     try clear c4b1
     try clear c5
     try clear c6
     try clear c7
     try clear c7b0
     try clear c7b1
     try clear c8
     try clear c8b0
     try clear c8b1
     try clear p9
     try clear q9
     try clear hx9
     try clear qi9
     try clear p2
     try clear p9
     try clear q9
     obtain ⟨kq, x21_5, rfl, HA, HJ5, HB⟩ := hcut
     cases kq with
     | zero => exact absurd HA.out (by simp [strings_TrimRight.j1])
     | succ kj5 =>
      have H := HA.out
      clear HA
      simp only [strings_TrimRight.j1] at H
      by_cases c10 : x21_5 = true
      ·subst c10
       have H1 : (if 0 < (a1.size : Int) then ((strings_trimRightByte.f kj5 a0 (bt a1 0)).bind fun t547 => (some t547)) else (none)) = some r := by rw [if_pos rfl] at H; exact H
       clear H
       have H := H1
       clear H1
       by_cases c11 : 0 < (a1.size : Int)
       ·rw [if_pos c11] at H
        have c11b0 : decide (0 < (a1.size : Int)) = true := decide_eq_true c11
        have c11b1 : decide (0 < a1.size) = true := decide_eq_true (by omega)
        clear c11
        replace H := Option.bind_eq_some_iff.mp H
        obtain ⟨t547, A130, H⟩ := H
        try dsimp only at H
        have A13 := Aside0.mk A130
        clear A130
        obtain rfl := Option.some.inj H
        have p12 : 0 ≤ (0 : Int) := (by omega)
        have q12 : 0 < a1.size := (by have : (0 : Int) < (a1.size : Int) := of_decide_eq_true (by first | (with_reducible assumption) | assumption); omega)
        have hx12 : ∀ h : 0 < a1.size, ((a1[0]'h).toNat : Int) = bt a1 0 := bt_at a1 0
        clear p12
        have qi12 : (0 < (a1.size : Int)) = True := eq_true (of_decide_eq_true (by first | (with_reducible assumption) | assumption))
        replace q12 := eq_true q12
        go_wp2_with (first | ((with_reducible refine gate_callee (f := 87) rfl ?_); refine goesL_ (some 25) rfl rfl Tryd.func87 (by kernel_rfl) rfl #[.string a0, .int .u8 (bt a1 0)] rfl (by (try simp only [List.map_toArray, List.map_cons, List.map_nil]); first | done | rfl | (simp only [List.length_drop, List.length_take]; rfl)) ?_; (with_reducible refine (strings_trimRightByte.calls kj5 a0 (bt a1 0) t547 _ A13.out).mono ?_); rintro e w' ⟨rfl, ⟨nd, rfl⟩⟩; refine ⟨_, rfl, ?_⟩))
        go_ret
        exact ⟨by first | rfl | (simp [errW_none, errW_some] <;> rfl) | (simp [*, errW_none, errW_some] <;> rfl) | (simp [bne_nil_]; done), by repeat (first | (with_reducible first | exact HB.out | apply below_alloc | apply pw_below_drewN | apply below_drew1) | exact HB.out)⟩
       ·rw [if_neg c11] at H
        exact absurd H (by simp)
      ·replace c10 := Bool.eq_false_iff.mpr c10
       subst c10
       have H1 : (none) = some r := by rw [if_neg (show ¬ (false = true) by decide)] at H; exact H
       clear H
       have H := H1
       clear H1
       exact absurd H (by simp)
end Go.Proofs.YtapbdblpdkoacaaDoor.P
namespace Go.Proofs.YtapbdblpdkoacaaDoor.P
open Go.RowKit Go.Proofs.YtapbdblpdkoacaaDoorW.PrintWords Go.Proofs.YtapbdblpdkoacaaDoorW.PrintLast Go.Proofs.YtapbdblpdkoacaaDoorW.PrintMore
attribute [local go_sem] max2_int max_two
set_option linter.unusedVariables false
set_option linter.unusedSimpArgs false
def decimal_Compare.j0 : Nat → List Int → List Int → Bool → Bool → ByteArray → ByteArray → Bool → ByteArray → ByteArray → Option (Int × Int)
  | 0, _, _, _, _, _, _, _, _, _ => none
  | k + 1, x7, x8, x23, x528000, x528001, x528002, x529000, x529001, x529002 => if x23 = true then ((decimal_digits_cmp.f k x8 x7).bind fun t537 => (some (t537, 0))) else (if x528000 = true then (some ((-1), 0)) else (if x529000 = true then (some (1, 0)) else ((decimal_digits_cmp.f k x7 x8).bind fun t538 => (some (t538, 0)))))
def decimal_Compare.f (k : Nat) (a0_0 : Bool) (a0_1 : ByteArray) (a0_2 : ByteArray) (a1_0 : Bool) (a1_1 : ByteArray) (a1_2 : ByteArray) : Option (Int × Int) := (decimal_both.f k a0_0 a0_1 a0_2 a1_0 a1_1 a1_2).bind fun t529 => (if t529 = 0 then ((decimal_aligned.f k a0_0 a0_1 a0_2 a1_0 a1_1 a1_2).bind fun bt530 => (if a0_0 = true then (decimal_Compare.j0 k bt530.1 bt530.2.1 a1_0 a0_0 a0_1 a0_2 a1_0 a1_1 a1_2) else (decimal_Compare.j0 k bt530.1 bt530.2.1 false a0_0 a0_1 a0_2 a1_0 a1_1 a1_2))) else (some (0, t529)))
set_option maxHeartbeats 8000000 in
set_option maxRecDepth 100000 in
theorem decimal_Compare.calls (k : Nat) (a0_0 : Bool) (a0_1 : ByteArray) (a0_2 : ByteArray) (a1_0 : Bool) (a1_1 : ByteArray) (a1_2 : ByteArray) (r1 : Int) (r2 : Int) (w : World) (h : decimal_Compare.f k a0_0 a0_1 a0_2 a1_0 a1_1 a1_2 = some (r1, r2)) :
    Calls Tryd.prog 28 #[.agg #[.bool a0_0, .string a0_1, .string a0_2], .agg #[.bool a1_0, .string a1_1, .string a1_2]] w fun e w' => e = .returned (.tuple #[.int .i64 r1, .int .i64 r2]) ∧ Below w.heap.size w w' := by
 have hu23 := Tryd.underlying23
 have HB := Aside0.mk (Below.refl w.heap.size w)
 unfold decimal_Compare.f at h
 have H := h
 clear h
 replace H := Option.bind_eq_some_iff.mp H
 obtain ⟨t529, A30, H⟩ := H
 try dsimp only at H
 have A3 := Aside0.mk A30
 clear A30
 by_cases c4 : t529 = 0
 ·rw [if_pos c4] at H
  have c4b0 : (t529 == 0) = true := beq_iff_eq.mpr c4
  have c4b1 : (t529 != 0) = false := bne_eq_false_iff_eq.mpr c4
  clear c4
  replace H := Option.bind_eq_some_iff.mp H
  obtain ⟨⟨t530, t533, t536⟩, A50, H⟩ := H
  try dsimp only at H
  have A5 := Aside0.mk A50
  clear A50
  have HC6 := Aside0.mk H
  clear H
  go_enter Tryd.func28, Tryd.ntmps28
  go_upto_region 5 with (first | ((with_reducible refine gate_dst (N := 2) rfl ?_); refine box_event ?hg (N := 2) ?hd (cs := #[.bool a0_0, .string a0_1, .string a0_2]) (t := 23) ?hr ?_; (case hd => rfl); (case hg => rfl); (case hr => first | (go_simp; done) | (go_simp; rfl)); intro gb527 hg w7 hbox hb; have n0_ := Aside0.mk (below_step HB.out hb); have n1_ := Aside0.mk (hbox); have n2_ := Aside0.mk ((by rw [hg]; exact (below_size HB.out) : w.heap.size ≤ gb527)); have n3_ := Aside0.mk ((by rw [hg]; exact (below_size HB.out) : w.heap.size ≤ gb527)); clear HB; have HB := n0_; have BK527 := n1_; have GW527 := n2_; have GE527 := n3_; clear n0_ n1_ n2_ n3_; clear hb hbox hg) | ((with_reducible refine gate_dst (N := 3) rfl ?_); refine box_event ?hg (N := 3) ?hd (cs := #[.bool a1_0, .string a1_1, .string a1_2]) (t := 23) ?hr ?_; (case hd => rfl); (case hg => rfl); (case hr => first | (go_simp; done) | (go_simp; rfl)); intro gb528 hg w8 hbox hb; have n0_ := Aside0.mk (blk_below (g := gb527) (o := .cells #[.bool a0_0, .string a0_1, .string a0_2] 23 (0, 0)) BK527.out hb); have n1_ := Aside0.mk (below_step HB.out hb); have n2_ := Aside0.mk (hbox); have n3_ := Aside0.mk ((by rw [hg]; exact (below_size HB.out) : w.heap.size ≤ gb528)); have n4_ := Aside0.mk ((by rw [hg]; exact (below_size HB.out) : w.heap.size ≤ gb528)); have n5_ := Aside0.mk ((by rw [hg]; exact Nat.ne_of_lt (blk_lt (g := gb527) (o := .cells #[.bool a0_0, .string a0_1, .string a0_2] 23 (0, 0)) BK527.out) : gb527 ≠ gb528)); have n6_ := Aside0.mk ((by rw [hg]; exact Nat.ne_of_gt (blk_lt (g := gb527) (o := .cells #[.bool a0_0, .string a0_1, .string a0_2] 23 (0, 0)) BK527.out) : gb528 ≠ gb527)); clear BK527; clear HB; have BK527 := n0_; have HB := n1_; have BK528 := n2_; have GW528 := n3_; have GE528 := n4_; have NB527_528 := n5_; have NB528_527 := n6_; clear n0_ n1_ n2_ n3_ n4_ n5_ n6_; clear hb hbox hg; have hnb9 := NB527_528.out; have hnc9 := NB528_527.out; have hcz10_0 : w8.cell? ⟨gb527, 0, none⟩ = some (.bool a0_0) := (blk_cell BK527.out 0).trans rfl; have hcz10_1 : w8.cell? ⟨gb527, 1, none⟩ = some (.string a0_1) := (blk_cell BK527.out 1).trans rfl; have hcz10_2 : w8.cell? ⟨gb527, 2, none⟩ = some (.string a0_2) := (blk_cell BK527.out 2).trans rfl; have hfz10_0 := blk_frozen BK527.out 0; have hfz10_1 := blk_frozen BK527.out 1; have hfz10_2 := blk_frozen BK527.out 2; have hcz11_0 : w8.cell? ⟨gb528, 0, none⟩ = some (.bool a1_0) := (blk_cell BK528.out 0).trans rfl; have hcz11_1 : w8.cell? ⟨gb528, 1, none⟩ = some (.string a1_1) := (blk_cell BK528.out 1).trans rfl; have hcz11_2 : w8.cell? ⟨gb528, 2, none⟩ = some (.string a1_2) := (blk_cell BK528.out 2).trans rfl; have hfz11_0 := blk_frozen BK528.out 0; have hfz11_1 := blk_frozen BK528.out 1; have hfz11_2 := blk_frozen BK528.out 2) | ((with_reducible refine gate_callee (f := 58) rfl ?_); refine goesL_ (some 12) rfl rfl Tryd.func58 (by kernel_rfl) rfl #[.agg #[.bool a0_0, .string a0_1, .string a0_2], .agg #[.bool a1_0, .string a1_1, .string a1_2]] rfl (by (try simp only [List.map_toArray, List.map_cons, List.map_nil]); first | done | rfl | (simp only [List.length_drop, List.length_take]; rfl)) ?_; (with_reducible refine (decimal_both.calls k a0_0 a0_1 a0_2 a1_0 a1_1 a1_2 t529 _ A3.out).mono ?_); rintro e w12 ⟨rfl, hb⟩; refine ⟨_, rfl, ?_⟩; have n0_ := Aside0.mk (blk_below (g := gb527) (o := .cells #[.bool a0_0, .string a0_1, .string a0_2] 23 (0, 0)) BK527.out hb); have n1_ := Aside0.mk (blk_below (g := gb528) (o := .cells #[.bool a1_0, .string a1_1, .string a1_2] 23 (0, 0)) BK528.out hb); have n2_ := Aside0.mk (below_step HB.out hb); clear BK527; clear BK528; clear HB; have BK527 := n0_; have BK528 := n1_; have HB := n2_; clear n0_ n1_ n2_; have hcz13_0 : w12.cell? ⟨gb527, 0, none⟩ = some (.bool a0_0) := (blk_cell BK527.out 0).trans rfl; have hcz13_1 : w12.cell? ⟨gb527, 1, none⟩ = some (.string a0_1) := (blk_cell BK527.out 1).trans rfl; have hcz13_2 : w12.cell? ⟨gb527, 2, none⟩ = some (.string a0_2) := (blk_cell BK527.out 2).trans rfl; have hfz13_0 := blk_frozen BK527.out 0; have hfz13_1 := blk_frozen BK527.out 1; have hfz13_2 := blk_frozen BK527.out 2; have hcz14_0 : w12.cell? ⟨gb528, 0, none⟩ = some (.bool a1_0) := (blk_cell BK528.out 0).trans rfl; have hcz14_1 : w12.cell? ⟨gb528, 1, none⟩ = some (.string a1_1) := (blk_cell BK528.out 1).trans rfl; have hcz14_2 : w12.cell? ⟨gb528, 2, none⟩ = some (.string a1_2) := (blk_cell BK528.out 2).trans rfl; have hfz14_0 := blk_frozen BK528.out 0; have hfz14_1 := blk_frozen BK528.out 1; have hfz14_2 := blk_frozen BK528.out 2) | ((with_reducible refine gate_callee (f := 59) rfl ?_); refine goesL_ (some 19) rfl rfl Tryd.func59 (by kernel_rfl) rfl #[.agg #[.bool a0_0, .string a0_1, .string a0_2], .agg #[.bool a1_0, .string a1_1, .string a1_2]] rfl (by (try simp only [List.map_toArray, List.map_cons, List.map_nil]); first | done | rfl | (simp only [List.length_drop, List.length_take]; rfl)) ?_; (with_reducible refine (decimal_aligned.calls k a0_0 a0_1 a0_2 a1_0 a1_1 a1_2 t530 t533 t536 _ A5.out).mono ?_); rintro e w15 ⟨v531, v534, rfl, ho0, ho1, hb⟩; refine ⟨_, rfl, ?_⟩; have n0_ := Aside0.mk (Kd.V_lower (Kd.V_mono (ok' := fun k_ => k_ ≠ gb527 ∧ k_ ≠ gb528) ho0 (fun k_ hk_ => ⟨(Kd.freshB (g := gb527) (o := .cells #[.bool a0_0, .string a0_1, .string a0_2] 23 (0, 0)) BK527.out k_ hk_), (Kd.freshB (g := gb528) (o := .cells #[.bool a1_0, .string a1_1, .string a1_2] 23 (0, 0)) BK528.out k_ hk_)⟩)) (below_size HB.out)); have n1_ := Aside0.mk (Kd.V_lower (Kd.V_mono (ok' := fun k_ => k_ ≠ gb527 ∧ k_ ≠ gb528) ho1 (fun k_ hk_ => ⟨(Kd.freshB (g := gb527) (o := .cells #[.bool a0_0, .string a0_1, .string a0_2] 23 (0, 0)) BK527.out k_ hk_), (Kd.freshB (g := gb528) (o := .cells #[.bool a1_0, .string a1_1, .string a1_2] 23 (0, 0)) BK528.out k_ hk_)⟩)) (below_size HB.out)); have n2_ := Aside0.mk (blk_below (g := gb527) (o := .cells #[.bool a0_0, .string a0_1, .string a0_2] 23 (0, 0)) BK527.out hb); have n3_ := Aside0.mk (blk_below (g := gb528) (o := .cells #[.bool a1_0, .string a1_1, .string a1_2] 23 (0, 0)) BK528.out hb); have n4_ := Aside0.mk (below_step HB.out hb); clear BK527; clear BK528; clear HB; have HO532 := n0_; have HO535 := n1_; have BK527 := n2_; have BK528 := n3_; have HB := n4_; clear n0_ n1_ n2_ n3_ n4_; (try clear ho0); (try clear ho1)))
  (try simp only [Act.put, List.setIfInBounds_toArray, List.set_cons_zero, List.set_cons_succ])
  go_cut [23] (fun v23 wc => ∃ (kq : Nat) (x23_5 : Bool), v23 = .bool x23_5 ∧ Aside0 (decimal_Compare.j0 kq t530 t533 x23_5 a0_0 a0_1 a0_2 a1_0 a1_1 a1_2 = some (r1, r2)) ∧ Aside0 (kq ≤ k) ∧ Aside0 (Kd.V (Kd.int .u8) 5 wc w.heap.size (fun k_ => k_ ≠ gb527 ∧ k_ ≠ gb528) v531 t530) ∧ Aside0 (Kd.V (Kd.int .u8) 5 wc w.heap.size (fun k_ => k_ ≠ gb527 ∧ k_ ≠ gb528) v534 t533) ∧ Aside0 (wc.heap[gb527]? = some (.cells #[.bool a0_0, .string a0_1, .string a0_2] 23 (0, 0))) ∧ Aside0 (wc.heap[gb528]? = some (.cells #[.bool a1_0, .string a1_1, .string a1_2] 23 (0, 0))) ∧ Aside0 (Below w.heap.size w wc))
  case first =>
   have H := HC6.out
   clear HC6
   by_cases c16 : a0_0 = true
   ·subst c16
    have H1 : (decimal_Compare.j0 k t530 t533 a1_0 true a0_1 a0_2 a1_0 a1_1 a1_2) = some (r1, r2) := by rw [if_pos rfl] at H; exact H
    clear H
    have H := H1
    clear H1
    have H' := Aside0.mk H
    clear H
    have hnb17 := NB527_528.out
    have hnc17 := NB528_527.out
    have hcz18_0 : w15.cell? ⟨gb527, 0, none⟩ = some (.bool true) := (blk_cell BK527.out 0).trans rfl
    have hcz18_1 : w15.cell? ⟨gb527, 1, none⟩ = some (.string a0_1) := (blk_cell BK527.out 1).trans rfl
    have hcz18_2 : w15.cell? ⟨gb527, 2, none⟩ = some (.string a0_2) := (blk_cell BK527.out 2).trans rfl
    have hfz18_0 := blk_frozen BK527.out 0
    have hfz18_1 := blk_frozen BK527.out 1
    have hfz18_2 := blk_frozen BK527.out 2
    have hcz19_0 : w15.cell? ⟨gb528, 0, none⟩ = some (.bool a1_0) := (blk_cell BK528.out 0).trans rfl
    have hcz19_1 : w15.cell? ⟨gb528, 1, none⟩ = some (.string a1_1) := (blk_cell BK528.out 1).trans rfl
    have hcz19_2 : w15.cell? ⟨gb528, 2, none⟩ = some (.string a1_2) := (blk_cell BK528.out 2).trans rfl
    have hfz19_0 := blk_frozen BK528.out 0
    have hfz19_1 := blk_frozen BK528.out 1
    have hfz19_2 := blk_frozen BK528.out 2
    go_wp2
    go_meet
    case rel => exact ⟨_, (a1_0), (by first | rfl | (simp; done) | (simp [*]; done)), H', ⟨by first | omega | exact Nat.le_refl _⟩, ⟨by (with_reducible repeat (first | apply Kd.V_alloc | apply Kd.V_drewN | apply Kd.V_drew)); exact HO532.out⟩, ⟨by (with_reducible repeat (first | apply Kd.V_alloc | apply Kd.V_drewN | apply Kd.V_drew)); exact HO535.out⟩, ⟨by exact BK527.out⟩, ⟨by exact BK528.out⟩, ⟨by repeat (first | (with_reducible first | exact HB.out | apply below_alloc | apply pw_below_drewN | apply below_drew1 | refine below_set ?_ GE527.out | refine below_set ?_ GE528.out) | exact HB.out)⟩⟩
   ·replace c16 := Bool.eq_false_iff.mpr c16
    subst c16
    have H1 : (decimal_Compare.j0 k t530 t533 false false a0_1 a0_2 a1_0 a1_1 a1_2) = some (r1, r2) := by rw [if_neg (show ¬ (false = true) by decide)] at H; exact H
    clear H
    have H := H1
    clear H1
    have H' := Aside0.mk H
    clear H
    have hnb20 := NB527_528.out
    have hnc20 := NB528_527.out
    have hcz21_0 : w15.cell? ⟨gb527, 0, none⟩ = some (.bool false) := (blk_cell BK527.out 0).trans rfl
    have hcz21_1 : w15.cell? ⟨gb527, 1, none⟩ = some (.string a0_1) := (blk_cell BK527.out 1).trans rfl
    have hcz21_2 : w15.cell? ⟨gb527, 2, none⟩ = some (.string a0_2) := (blk_cell BK527.out 2).trans rfl
    have hfz21_0 := blk_frozen BK527.out 0
    have hfz21_1 := blk_frozen BK527.out 1
    have hfz21_2 := blk_frozen BK527.out 2
    go_wp2
    go_meet
    case rel => exact ⟨_, (false), (by first | rfl | (simp; done) | (simp [*]; done)), H', ⟨by first | omega | exact Nat.le_refl _⟩, ⟨by (with_reducible repeat (first | apply Kd.V_alloc | apply Kd.V_drewN | apply Kd.V_drew)); exact HO532.out⟩, ⟨by (with_reducible repeat (first | apply Kd.V_alloc | apply Kd.V_drewN | apply Kd.V_drew)); exact HO535.out⟩, ⟨by exact BK527.out⟩, ⟨by exact BK528.out⟩, ⟨by repeat (first | (with_reducible first | exact HB.out | apply below_alloc | apply pw_below_drewN | apply below_drew1 | refine below_set ?_ GE527.out | refine below_set ?_ GE528.out) | exact HB.out)⟩⟩
  case rest =>
   clear HC6
   try clear c1
   try clear c2
   try clear p2
   try clear c4
   try clear c4b0
   try clear c4b1
   try clear c5
   try clear c9
   try clear c16
   try clear c17
   try clear c20
   try clear hcz10_0
   try clear hcz10_1
   try clear hcz10_2
   try clear hcz11_0
   try clear hcz11_1
   try clear hcz11_2
   try clear hcz13_0
   try clear hcz13_1
   try clear hcz13_2
   try clear hcz14_0
   try clear hcz14_1
   try clear hcz14_2
   try clear hcz18_0
   try clear hcz18_1
   try clear hcz18_2
   try clear hcz19_0
   try clear hcz19_1
   try clear hcz19_2
   try clear hcz21_0
   try clear hcz21_1
   try clear hcz21_2
   try clear hfz10_0
   try clear hfz10_1
   try clear hfz10_2
   try clear hfz11_0
   try clear hfz11_1
   try clear hfz11_2
   try clear hfz13_0
   try clear hfz13_1
   try clear hfz13_2
   try clear hfz14_0
   try clear hfz14_1
   try clear hfz14_2
   try clear hfz18_0
   try clear hfz18_1
   try clear hfz18_2
   try clear hfz19_0
   try clear hfz19_1
   try clear hfz19_2
   try clear hfz21_0
   try clear hfz21_1
   try clear hfz21_2
   obtain ⟨kq, x23_5, rfl, HA, HJ5, HO_7, HO_8, BK527, BK528, HB⟩ := hcut
   cases kq with
   | zero => exact absurd HA.out (by simp [decimal_Compare.j0])
   | succ kj5 =>
    have H := HA.out
    clear HA
    simp only [decimal_Compare.j0] at H
    by_cases c22 : x23_5 = true
    ·subst c22
     have H1 : ((decimal_digits_cmp.f kj5 t533 t530).bind fun t537 => (some (t537, 0))) = some (r1, r2) := by rw [if_pos rfl] at H; exact H
     clear H
     have H := H1
     clear H1
     replace H := Option.bind_eq_some_iff.mp H
     obtain ⟨t537, A230, H⟩ := H
     try dsimp only at H
     have A23 := Aside0.mk A230
     clear A230
     simp only [Option.some.injEq, Prod.mk.injEq] at H
     obtain ⟨rfl, rfl⟩ := H
     obtain ⟨Ao24, co24, eo24⟩ := Kd.V_slice HO_8.out
     subst eo24
     obtain ⟨Ao25, co25, eo25⟩ := Kd.V_slice HO_7.out
     subst eo25
     go_wp2_with (first | ((with_reducible refine gate_callee (f := 60) rfl ?_); refine goesL_ (some 32) rfl rfl Tryd.func60 (by kernel_rfl) rfl #[.slice Ao24 t533.length co24, .slice Ao25 t530.length co25] rfl (by (try simp only [List.map_toArray, List.map_cons, List.map_nil]); first | done | rfl | (simp only [List.length_drop, List.length_take]; rfl)) ?_; (with_reducible refine (decimal_digits_cmp.calls kj5 _ _ t533 _ _ t530 t537 _ ?side1 ?side2 ?side3 ?side4 A23.out).mono ?_); (case side1 => repeat (first | exact (Kd.V_reads' HO_8.out).2.2 | (with_reducible refine Kd.C_alloc ?_ _) | (with_reducible refine Kd.C_drewN ?_ _) | (with_reducible refine Kd.C_drew ?_))); (case side2 => exact (Kd.V_reads' HO_8.out).2.1); (case side3 => repeat (first | exact (Kd.V_reads' HO_7.out).2.2 | (with_reducible refine Kd.C_alloc ?_ _) | (with_reducible refine Kd.C_drewN ?_ _) | (with_reducible refine Kd.C_drew ?_))); (case side4 => exact (Kd.V_reads' HO_7.out).2.1); rintro e w' ⟨rfl, ⟨nd, rfl⟩⟩; refine ⟨_, rfl, ?_⟩))
     go_ret2
     exact ⟨by first | rfl | (simp [errW_none, errW_some] <;> rfl) | (simp [*, errW_none, errW_some] <;> rfl) | (simp [bne_nil_]; done), by repeat (first | (with_reducible first | exact HB.out | apply below_alloc | apply pw_below_drewN | apply below_drew1 | refine below_set ?_ GE527.out | refine below_set ?_ GE528.out) | exact HB.out)⟩
    ·replace c22 := Bool.eq_false_iff.mpr c22
     subst c22
     have H1 : (if a0_0 = true then (some ((-1), 0)) else (if a1_0 = true then (some (1, 0)) else ((decimal_digits_cmp.f kj5 t530 t533).bind fun t538 => (some (t538, 0))))) = some (r1, r2) := by rw [if_neg (show ¬ (false = true) by decide)] at H; exact H
     clear H
     have H := H1
     clear H1
     by_cases c26 : a0_0 = true
     ·subst c26
      have H1 : (some ((-1), 0)) = some (r1, r2) := by rw [if_pos rfl] at H; exact H
      clear H
      have H := H1
      clear H1
      simp only [Option.some.injEq, Prod.mk.injEq] at H
      obtain ⟨rfl, rfl⟩ := H
      have hnb27 := NB527_528.out
      have hnc27 := NB528_527.out
      have hcz28_0 : wc.cell? ⟨gb527, 0, none⟩ = some (.bool true) := (blk_cell BK527.out 0).trans rfl
      have hcz28_1 : wc.cell? ⟨gb527, 1, none⟩ = some (.string a0_1) := (blk_cell BK527.out 1).trans rfl
      have hcz28_2 : wc.cell? ⟨gb527, 2, none⟩ = some (.string a0_2) := (blk_cell BK527.out 2).trans rfl
      have hfz28_0 := blk_frozen BK527.out 0
      have hfz28_1 := blk_frozen BK527.out 1
      have hfz28_2 := blk_frozen BK527.out 2
      go_wp2
      go_ret2
      exact ⟨by first | rfl | (simp [errW_none, errW_some] <;> rfl) | (simp [*, errW_none, errW_some] <;> rfl) | (simp [bne_nil_]; done), by repeat (first | (with_reducible first | exact HB.out | apply below_alloc | apply pw_below_drewN | apply below_drew1 | refine below_set ?_ GE527.out | refine below_set ?_ GE528.out) | exact HB.out)⟩
     ·replace c26 := Bool.eq_false_iff.mpr c26
      subst c26
      have H1 : (if a1_0 = true then (some (1, 0)) else ((decimal_digits_cmp.f kj5 t530 t533).bind fun t538 => (some (t538, 0)))) = some (r1, r2) := by rw [if_neg (show ¬ (false = true) by decide)] at H; exact H
      clear H
      have H := H1
      clear H1
      by_cases c29 : a1_0 = true
      ·subst c29
       have H1 : (some (1, 0)) = some (r1, r2) := by rw [if_pos rfl] at H; exact H
       clear H
       have H := H1
       clear H1
       simp only [Option.some.injEq, Prod.mk.injEq] at H
       obtain ⟨rfl, rfl⟩ := H
       have hnb30 := NB527_528.out
       have hnc30 := NB528_527.out
       have hcz31_0 : wc.cell? ⟨gb527, 0, none⟩ = some (.bool false) := (blk_cell BK527.out 0).trans rfl
       have hcz31_1 : wc.cell? ⟨gb527, 1, none⟩ = some (.string a0_1) := (blk_cell BK527.out 1).trans rfl
       have hcz31_2 : wc.cell? ⟨gb527, 2, none⟩ = some (.string a0_2) := (blk_cell BK527.out 2).trans rfl
       have hfz31_0 := blk_frozen BK527.out 0
       have hfz31_1 := blk_frozen BK527.out 1
       have hfz31_2 := blk_frozen BK527.out 2
       have hcz32_0 : wc.cell? ⟨gb528, 0, none⟩ = some (.bool true) := (blk_cell BK528.out 0).trans rfl
       have hcz32_1 : wc.cell? ⟨gb528, 1, none⟩ = some (.string a1_1) := (blk_cell BK528.out 1).trans rfl
       have hcz32_2 : wc.cell? ⟨gb528, 2, none⟩ = some (.string a1_2) := (blk_cell BK528.out 2).trans rfl
       have hfz32_0 := blk_frozen BK528.out 0
       have hfz32_1 := blk_frozen BK528.out 1
       have hfz32_2 := blk_frozen BK528.out 2
       go_wp2
       go_ret2
       exact ⟨by first | rfl | (simp [errW_none, errW_some] <;> rfl) | (simp [*, errW_none, errW_some] <;> rfl) | (simp [bne_nil_]; done), by repeat (first | (with_reducible first | exact HB.out | apply below_alloc | apply pw_below_drewN | apply below_drew1 | refine below_set ?_ GE527.out | refine below_set ?_ GE528.out) | exact HB.out)⟩
      ·replace c29 := Bool.eq_false_iff.mpr c29
       subst c29
       have H1 : ((decimal_digits_cmp.f kj5 t530 t533).bind fun t538 => (some (t538, 0))) = some (r1, r2) := by rw [if_neg (show ¬ (false = true) by decide)] at H; exact H
       clear H
       have H := H1
       clear H1
       replace H := Option.bind_eq_some_iff.mp H
       obtain ⟨t538, A330, H⟩ := H
       try dsimp only at H
       have A33 := Aside0.mk A330
       clear A330
       simp only [Option.some.injEq, Prod.mk.injEq] at H
       obtain ⟨rfl, rfl⟩ := H
       have hnb34 := NB527_528.out
       have hnc34 := NB528_527.out
       have hcz35_0 : wc.cell? ⟨gb527, 0, none⟩ = some (.bool false) := (blk_cell BK527.out 0).trans rfl
       have hcz35_1 : wc.cell? ⟨gb527, 1, none⟩ = some (.string a0_1) := (blk_cell BK527.out 1).trans rfl
       have hcz35_2 : wc.cell? ⟨gb527, 2, none⟩ = some (.string a0_2) := (blk_cell BK527.out 2).trans rfl
       have hfz35_0 := blk_frozen BK527.out 0
       have hfz35_1 := blk_frozen BK527.out 1
       have hfz35_2 := blk_frozen BK527.out 2
       have hcz36_0 : wc.cell? ⟨gb528, 0, none⟩ = some (.bool false) := (blk_cell BK528.out 0).trans rfl
       have hcz36_1 : wc.cell? ⟨gb528, 1, none⟩ = some (.string a1_1) := (blk_cell BK528.out 1).trans rfl
       have hcz36_2 : wc.cell? ⟨gb528, 2, none⟩ = some (.string a1_2) := (blk_cell BK528.out 2).trans rfl
       have hfz36_0 := blk_frozen BK528.out 0
       have hfz36_1 := blk_frozen BK528.out 1
       have hfz36_2 := blk_frozen BK528.out 2
       obtain ⟨Ao37, co37, eo37⟩ := Kd.V_slice HO_7.out
       subst eo37
       obtain ⟨Ao38, co38, eo38⟩ := Kd.V_slice HO_8.out
       subst eo38
       go_wp2_with (first | ((with_reducible refine gate_callee (f := 60) rfl ?_); refine goesL_ (some 41) rfl rfl Tryd.func60 (by kernel_rfl) rfl #[.slice Ao37 t530.length co37, .slice Ao38 t533.length co38] rfl (by (try simp only [List.map_toArray, List.map_cons, List.map_nil]); first | done | rfl | (simp only [List.length_drop, List.length_take]; rfl)) ?_; (with_reducible refine (decimal_digits_cmp.calls kj5 _ _ t530 _ _ t533 t538 _ ?side1 ?side2 ?side3 ?side4 A33.out).mono ?_); (case side1 => repeat (first | exact (Kd.V_reads' HO_7.out).2.2 | (with_reducible refine Kd.C_alloc ?_ _) | (with_reducible refine Kd.C_drewN ?_ _) | (with_reducible refine Kd.C_drew ?_))); (case side2 => exact (Kd.V_reads' HO_7.out).2.1); (case side3 => repeat (first | exact (Kd.V_reads' HO_8.out).2.2 | (with_reducible refine Kd.C_alloc ?_ _) | (with_reducible refine Kd.C_drewN ?_ _) | (with_reducible refine Kd.C_drew ?_))); (case side4 => exact (Kd.V_reads' HO_8.out).2.1); rintro e w' ⟨rfl, ⟨nd, rfl⟩⟩; refine ⟨_, rfl, ?_⟩))
       go_ret2
       exact ⟨by first | rfl | (simp [errW_none, errW_some] <;> rfl) | (simp [*, errW_none, errW_some] <;> rfl) | (simp [bne_nil_]; done), by repeat (first | (with_reducible first | exact HB.out | apply below_alloc | apply pw_below_drewN | apply below_drew1 | refine below_set ?_ GE527.out | refine below_set ?_ GE528.out) | exact HB.out)⟩
 ·rw [if_neg c4] at H
  have c4b0 : (t529 == 0) = false := beq_eq_false_iff_ne.mpr c4
  have c4b1 : (t529 != 0) = true := bne_iff_ne.mpr c4
  simp only [Option.some.injEq, Prod.mk.injEq] at H
  obtain ⟨rfl, rfl⟩ := H
  go_enter Tryd.func28, Tryd.ntmps28
  go_wp2_with (first | ((with_reducible refine gate_dst (N := 2) rfl ?_); refine box_event ?hg (N := 2) ?hd (cs := #[.bool a0_0, .string a0_1, .string a0_2]) (t := 23) ?hr ?_; (case hd => rfl); (case hg => rfl); (case hr => first | (go_simp; done) | (go_simp; rfl)); intro gb527 hg w39 hbox hb; have n0_ := Aside0.mk (below_step HB.out hb); have n1_ := Aside0.mk (hbox); have n2_ := Aside0.mk ((by rw [hg]; exact (below_size HB.out) : w.heap.size ≤ gb527)); have n3_ := Aside0.mk ((by rw [hg]; exact (below_size HB.out) : w.heap.size ≤ gb527)); clear HB; have HB := n0_; have BK527 := n1_; have GW527 := n2_; have GE527 := n3_; clear n0_ n1_ n2_ n3_; clear hb hbox hg) | ((with_reducible refine gate_dst (N := 3) rfl ?_); refine box_event ?hg (N := 3) ?hd (cs := #[.bool a1_0, .string a1_1, .string a1_2]) (t := 23) ?hr ?_; (case hd => rfl); (case hg => rfl); (case hr => first | (go_simp; done) | (go_simp; rfl)); intro gb528 hg w40 hbox hb; have n0_ := Aside0.mk (blk_below (g := gb527) (o := .cells #[.bool a0_0, .string a0_1, .string a0_2] 23 (0, 0)) BK527.out hb); have n1_ := Aside0.mk (below_step HB.out hb); have n2_ := Aside0.mk (hbox); have n3_ := Aside0.mk ((by rw [hg]; exact (below_size HB.out) : w.heap.size ≤ gb528)); have n4_ := Aside0.mk ((by rw [hg]; exact (below_size HB.out) : w.heap.size ≤ gb528)); have n5_ := Aside0.mk ((by rw [hg]; exact Nat.ne_of_lt (blk_lt (g := gb527) (o := .cells #[.bool a0_0, .string a0_1, .string a0_2] 23 (0, 0)) BK527.out) : gb527 ≠ gb528)); have n6_ := Aside0.mk ((by rw [hg]; exact Nat.ne_of_gt (blk_lt (g := gb527) (o := .cells #[.bool a0_0, .string a0_1, .string a0_2] 23 (0, 0)) BK527.out) : gb528 ≠ gb527)); clear BK527; clear HB; have BK527 := n0_; have HB := n1_; have BK528 := n2_; have GW528 := n3_; have GE528 := n4_; have NB527_528 := n5_; have NB528_527 := n6_; clear n0_ n1_ n2_ n3_ n4_ n5_ n6_; clear hb hbox hg; have hnb41 := NB527_528.out; have hnc41 := NB528_527.out; have hcz42_0 : w40.cell? ⟨gb527, 0, none⟩ = some (.bool a0_0) := (blk_cell BK527.out 0).trans rfl; have hcz42_1 : w40.cell? ⟨gb527, 1, none⟩ = some (.string a0_1) := (blk_cell BK527.out 1).trans rfl; have hcz42_2 : w40.cell? ⟨gb527, 2, none⟩ = some (.string a0_2) := (blk_cell BK527.out 2).trans rfl; have hfz42_0 := blk_frozen BK527.out 0; have hfz42_1 := blk_frozen BK527.out 1; have hfz42_2 := blk_frozen BK527.out 2; have hcz43_0 : w40.cell? ⟨gb528, 0, none⟩ = some (.bool a1_0) := (blk_cell BK528.out 0).trans rfl; have hcz43_1 : w40.cell? ⟨gb528, 1, none⟩ = some (.string a1_1) := (blk_cell BK528.out 1).trans rfl; have hcz43_2 : w40.cell? ⟨gb528, 2, none⟩ = some (.string a1_2) := (blk_cell BK528.out 2).trans rfl; have hfz43_0 := blk_frozen BK528.out 0; have hfz43_1 := blk_frozen BK528.out 1; have hfz43_2 := blk_frozen BK528.out 2) | ((with_reducible refine gate_callee (f := 58) rfl ?_); refine goesL_ (some 12) rfl rfl Tryd.func58 (by kernel_rfl) rfl #[.agg #[.bool a0_0, .string a0_1, .string a0_2], .agg #[.bool a1_0, .string a1_1, .string a1_2]] rfl (by (try simp only [List.map_toArray, List.map_cons, List.map_nil]); first | done | rfl | (simp only [List.length_drop, List.length_take]; rfl)) ?_; (with_reducible refine (decimal_both.calls k a0_0 a0_1 a0_2 a1_0 a1_1 a1_2 t529 _ A3.out).mono ?_); rintro e w44 ⟨rfl, hb⟩; refine ⟨_, rfl, ?_⟩; have n0_ := Aside0.mk (blk_below (g := gb527) (o := .cells #[.bool a0_0, .string a0_1, .string a0_2] 23 (0, 0)) BK527.out hb); have n1_ := Aside0.mk (blk_below (g := gb528) (o := .cells #[.bool a1_0, .string a1_1, .string a1_2] 23 (0, 0)) BK528.out hb); have n2_ := Aside0.mk (below_step HB.out hb); clear BK527; clear BK528; clear HB; have BK527 := n0_; have BK528 := n1_; have HB := n2_; clear n0_ n1_ n2_))
  go_ret2
  exact ⟨by first | rfl | (simp [errW_none, errW_some] <;> rfl) | (simp [*, errW_none, errW_some] <;> rfl) | (simp [bne_nil_]; done), by repeat (first | (with_reducible first | exact HB.out | apply below_alloc | apply pw_below_drewN | apply below_drew1 | refine below_set ?_ GE527.out | refine below_set ?_ GE528.out) | exact HB.out)⟩
end Go.Proofs.YtapbdblpdkoacaaDoor.P
namespace Go.Proofs.YtapbdblpdkoacaaDoor.P
open Go.RowKit Go.Proofs.YtapbdblpdkoacaaDoorW.PrintWords Go.Proofs.YtapbdblpdkoacaaDoorW.PrintLast Go.Proofs.YtapbdblpdkoacaaDoorW.PrintMore
attribute [local go_sem] max2_int max_two
set_option linter.unusedVariables false
set_option linter.unusedSimpArgs false
def decimal_Trim.f (k : Nat) (a0_0 : Bool) (a0_1 : ByteArray) (a0_2 : ByteArray) : Option (Bool × ByteArray × ByteArray × Int) := (decimal_Check.f k a0_0 a0_1 a0_2).bind fun t550 => (if t550 = 0 then ((strings_TrimRight.f k a0_2 (⟨#[48]⟩ : ByteArray)).bind fun t551 => (some (a0_0, a0_1, t551, 0))) else (some (false, (⟨#[]⟩ : ByteArray), (⟨#[]⟩ : ByteArray), t550)))
set_option maxHeartbeats 8000000 in
set_option maxRecDepth 100000 in
theorem decimal_Trim.calls (k : Nat) (a0_0 : Bool) (a0_1 : ByteArray) (a0_2 : ByteArray) (r1 : Bool) (r2 : ByteArray) (r3 : ByteArray) (r4 : Int) (w : World) (h : decimal_Trim.f k a0_0 a0_1 a0_2 = some (r1, r2, r3, r4)) :
    Calls Tryd.prog 30 #[.agg #[.bool a0_0, .string a0_1, .string a0_2]] w fun e w' => e = .returned (.tuple #[.agg #[.bool r1, .string r2, .string r3], .int .i64 r4]) ∧ Below w.heap.size w w' := by
 have hu23 := Tryd.underlying23
 have HB := Aside0.mk (Below.refl w.heap.size w)
 unfold decimal_Trim.f at h
 have H := h
 clear h
 replace H := Option.bind_eq_some_iff.mp H
 obtain ⟨t550, A20, H⟩ := H
 try dsimp only at H
 have A2 := Aside0.mk A20
 clear A20
 by_cases c3 : t550 = 0
 ·rw [if_pos c3] at H
  have c3b0 : (t550 == 0) = true := beq_iff_eq.mpr c3
  have c3b1 : (t550 != 0) = false := bne_eq_false_iff_eq.mpr c3
  clear c3
  replace H := Option.bind_eq_some_iff.mp H
  obtain ⟨t551, A40, H⟩ := H
  try dsimp only at H
  have A4 := Aside0.mk A40
  clear A40
  simp only [Option.some.injEq, Prod.mk.injEq] at H
  obtain ⟨rfl, rfl, rfl, rfl⟩ := H
  go_enter Tryd.func30, Tryd.ntmps30
  go_wp2_with (first | ((with_reducible refine gate_dst (N := 1) rfl ?_); refine box_event ?hg (N := 1) ?hd (cs := #[.bool a0_0, .string a0_1, .string a0_2]) (t := 23) ?hr ?_; (case hd => rfl); (case hg => rfl); (case hr => first | (go_simp; done) | (go_simp; rfl)); intro gb548 hg w5 hbox hb; have n0_ := Aside0.mk (below_step HB.out hb); have n1_ := Aside0.mk (hbox); have n2_ := Aside0.mk ((by rw [hg]; exact (below_size HB.out) : w.heap.size ≤ gb548)); have n3_ := Aside0.mk ((by rw [hg]; exact (below_size HB.out) : w.heap.size ≤ gb548)); clear HB; have HB := n0_; have BK548 := n1_; have GW548 := n2_; have GE548 := n3_; clear n0_ n1_ n2_ n3_; clear hb hbox hg) | ((with_reducible refine gate_dst (N := 2) rfl ?_); refine box_event ?hg (N := 2) ?hd (cs := #[.bool false, .string (⟨#[]⟩ : ByteArray), .string (⟨#[]⟩ : ByteArray)]) (t := 23) ?hr ?_; (case hd => rfl); (case hg => rfl); (case hr => first | (go_simp; done) | (go_simp; rfl)); intro gb549 hg w6 hbox hb; have n0_ := Aside0.mk (blk_below (g := gb548) (o := .cells #[.bool a0_0, .string a0_1, .string a0_2] 23 (0, 0)) BK548.out hb); have n1_ := Aside0.mk (below_step HB.out hb); have n2_ := Aside0.mk (hbox); have n3_ := Aside0.mk ((by rw [hg]; exact (below_size HB.out) : w.heap.size ≤ gb549)); have n4_ := Aside0.mk ((by rw [hg]; exact (below_size HB.out) : w.heap.size ≤ gb549)); have n5_ := Aside0.mk ((by rw [hg]; exact Nat.ne_of_lt (blk_lt (g := gb548) (o := .cells #[.bool a0_0, .string a0_1, .string a0_2] 23 (0, 0)) BK548.out) : gb548 ≠ gb549)); have n6_ := Aside0.mk ((by rw [hg]; exact Nat.ne_of_gt (blk_lt (g := gb548) (o := .cells #[.bool a0_0, .string a0_1, .string a0_2] 23 (0, 0)) BK548.out) : gb549 ≠ gb548)); clear BK548; clear HB; have BK548 := n0_; have HB := n1_; have BK549 := n2_; have GW549 := n3_; have GE549 := n4_; have NB548_549 := n5_; have NB549_548 := n6_; clear n0_ n1_ n2_ n3_ n4_ n5_ n6_; clear hb hbox hg; have hnb7 := NB548_549.out; have hnc7 := NB549_548.out; have hcz8_0 : w6.cell? ⟨gb548, 0, none⟩ = some (.bool a0_0) := (blk_cell BK548.out 0).trans rfl; have hcz8_1 : w6.cell? ⟨gb548, 1, none⟩ = some (.string a0_1) := (blk_cell BK548.out 1).trans rfl; have hcz8_2 : w6.cell? ⟨gb548, 2, none⟩ = some (.string a0_2) := (blk_cell BK548.out 2).trans rfl; have hfz8_0 := blk_frozen BK548.out 0; have hfz8_1 := blk_frozen BK548.out 1; have hfz8_2 := blk_frozen BK548.out 2) | ((with_reducible refine gate_callee (f := 17) rfl ?_); refine goesL_ (some 6) rfl rfl Tryd.func17 (by kernel_rfl) rfl #[.agg #[.bool a0_0, .string a0_1, .string a0_2]] rfl (by (try simp only [List.map_toArray, List.map_cons, List.map_nil]); first | done | rfl | (simp only [List.length_drop, List.length_take]; rfl)) ?_; (with_reducible refine (decimal_Check.calls k a0_0 a0_1 a0_2 t550 _ A2.out).mono ?_); rintro e w9 ⟨rfl, hb⟩; refine ⟨_, rfl, ?_⟩; have n0_ := Aside0.mk (blk_below (g := gb548) (o := .cells #[.bool a0_0, .string a0_1, .string a0_2] 23 (0, 0)) BK548.out hb); have n1_ := Aside0.mk (blk_below (g := gb549) (o := .cells #[.bool false, .string (⟨#[]⟩ : ByteArray), .string (⟨#[]⟩ : ByteArray)] 23 (0, 0)) BK549.out hb); have n2_ := Aside0.mk (below_step HB.out hb); clear BK548; clear BK549; clear HB; have BK548 := n0_; have BK549 := n1_; have HB := n2_; clear n0_ n1_ n2_; have hcz10_0 : w9.cell? ⟨gb548, 0, none⟩ = some (.bool a0_0) := (blk_cell BK548.out 0).trans rfl; have hcz10_1 : w9.cell? ⟨gb548, 1, none⟩ = some (.string a0_1) := (blk_cell BK548.out 1).trans rfl; have hcz10_2 : w9.cell? ⟨gb548, 2, none⟩ = some (.string a0_2) := (blk_cell BK548.out 2).trans rfl; have hfz10_0 := blk_frozen BK548.out 0; have hfz10_1 := blk_frozen BK548.out 1; have hfz10_2 := blk_frozen BK548.out 2) | ((with_reducible refine gate_callee (f := 62) rfl ?_); refine goesL_ (some 13) rfl rfl Tryd.func62 (by kernel_rfl) rfl #[.string a0_2, .string (⟨#[48]⟩ : ByteArray)] rfl (by (try simp only [List.map_toArray, List.map_cons, List.map_nil]); first | done | rfl | (simp only [List.length_drop, List.length_take]; rfl)) ?_; (with_reducible refine (strings_TrimRight.calls k a0_2 (⟨#[48]⟩ : ByteArray) t551 _ A4.out).mono ?_); rintro e w11 ⟨rfl, hb⟩; refine ⟨_, rfl, ?_⟩; have n0_ := Aside0.mk (blk_below (g := gb548) (o := .cells #[.bool a0_0, .string a0_1, .string a0_2] 23 (0, 0)) BK548.out hb); have n1_ := Aside0.mk (blk_below (g := gb549) (o := .cells #[.bool false, .string (⟨#[]⟩ : ByteArray), .string (⟨#[]⟩ : ByteArray)] 23 (0, 0)) BK549.out hb); have n2_ := Aside0.mk (below_step HB.out hb); clear BK548; clear BK549; clear HB; have BK548 := n0_; have BK549 := n1_; have HB := n2_; clear n0_ n1_ n2_; have hcz12_0 : w11.cell? ⟨gb548, 0, none⟩ = some (.bool a0_0) := (blk_cell BK548.out 0).trans rfl; have hcz12_1 : w11.cell? ⟨gb548, 1, none⟩ = some (.string a0_1) := (blk_cell BK548.out 1).trans rfl; have hcz12_2 : w11.cell? ⟨gb548, 2, none⟩ = some (.string a0_2) := (blk_cell BK548.out 2).trans rfl; have hfz12_0 := blk_frozen BK548.out 0; have hfz12_1 := blk_frozen BK548.out 1; have hfz12_2 := blk_frozen BK548.out 2; have hcz13_0 : w11.cell? ⟨gb549, 0, none⟩ = some (.bool false) := (blk_cell BK549.out 0).trans rfl; have hcz13_1 : w11.cell? ⟨gb549, 1, none⟩ = some (.string (⟨#[]⟩ : ByteArray)) := (blk_cell BK549.out 1).trans rfl; have hcz13_2 : w11.cell? ⟨gb549, 2, none⟩ = some (.string (⟨#[]⟩ : ByteArray)) := (blk_cell BK549.out 2).trans rfl; have hfz13_0 := blk_frozen BK549.out 0; have hfz13_1 := blk_frozen BK549.out 1; have hfz13_2 := blk_frozen BK549.out 2))
  refine bodyPost_ret (results_ct rfl _ _ gb549 23 #[.bool a0_0, .string a0_1, .string t551] (0, 0) _ rfl (by refine blk_put (cs := #[.bool a0_0, .string a0_1, .string (⟨#[]⟩ : ByteArray)]) ?_ 2 _ rfl; refine blk_put (cs := #[.bool a0_0, .string (⟨#[]⟩ : ByteArray), .string (⟨#[]⟩ : ByteArray)]) ?_ 1 _ rfl; refine blk_put (cs := #[.bool false, .string (⟨#[]⟩ : ByteArray), .string (⟨#[]⟩ : ByteArray)]) ?_ 0 _ rfl; refine blk_far ?_ NB549_548.out _; exact BK549.out) Tryd.underlying23 rfl (by kernel_rfl)) rfl ?_
  exact ⟨by first | rfl | (simp [errW_none, errW_some] <;> rfl) | (simp [*, errW_none, errW_some] <;> rfl) | (simp [bne_nil_]; done), by repeat (first | (with_reducible first | exact HB.out | apply below_alloc | apply pw_below_drewN | apply below_drew1 | refine below_set ?_ GE548.out | refine below_set ?_ GE549.out) | exact HB.out)⟩
 ·rw [if_neg c3] at H
  have c3b0 : (t550 == 0) = false := beq_eq_false_iff_ne.mpr c3
  have c3b1 : (t550 != 0) = true := bne_iff_ne.mpr c3
  simp only [Option.some.injEq, Prod.mk.injEq] at H
  obtain ⟨rfl, rfl, rfl, rfl⟩ := H
  go_enter Tryd.func30, Tryd.ntmps30
  go_wp2_with (first | ((with_reducible refine gate_dst (N := 1) rfl ?_); refine box_event ?hg (N := 1) ?hd (cs := #[.bool a0_0, .string a0_1, .string a0_2]) (t := 23) ?hr ?_; (case hd => rfl); (case hg => rfl); (case hr => first | (go_simp; done) | (go_simp; rfl)); intro gb548 hg w14 hbox hb; have n0_ := Aside0.mk (below_step HB.out hb); have n1_ := Aside0.mk (hbox); have n2_ := Aside0.mk ((by rw [hg]; exact (below_size HB.out) : w.heap.size ≤ gb548)); have n3_ := Aside0.mk ((by rw [hg]; exact (below_size HB.out) : w.heap.size ≤ gb548)); clear HB; have HB := n0_; have BK548 := n1_; have GW548 := n2_; have GE548 := n3_; clear n0_ n1_ n2_ n3_; clear hb hbox hg) | ((with_reducible refine gate_dst (N := 2) rfl ?_); refine box_event ?hg (N := 2) ?hd (cs := #[.bool false, .string (⟨#[]⟩ : ByteArray), .string (⟨#[]⟩ : ByteArray)]) (t := 23) ?hr ?_; (case hd => rfl); (case hg => rfl); (case hr => first | (go_simp; done) | (go_simp; rfl)); intro gb549 hg w15 hbox hb; have n0_ := Aside0.mk (blk_below (g := gb548) (o := .cells #[.bool a0_0, .string a0_1, .string a0_2] 23 (0, 0)) BK548.out hb); have n1_ := Aside0.mk (below_step HB.out hb); have n2_ := Aside0.mk (hbox); have n3_ := Aside0.mk ((by rw [hg]; exact (below_size HB.out) : w.heap.size ≤ gb549)); have n4_ := Aside0.mk ((by rw [hg]; exact (below_size HB.out) : w.heap.size ≤ gb549)); have n5_ := Aside0.mk ((by rw [hg]; exact Nat.ne_of_lt (blk_lt (g := gb548) (o := .cells #[.bool a0_0, .string a0_1, .string a0_2] 23 (0, 0)) BK548.out) : gb548 ≠ gb549)); have n6_ := Aside0.mk ((by rw [hg]; exact Nat.ne_of_gt (blk_lt (g := gb548) (o := .cells #[.bool a0_0, .string a0_1, .string a0_2] 23 (0, 0)) BK548.out) : gb549 ≠ gb548)); clear BK548; clear HB; have BK548 := n0_; have HB := n1_; have BK549 := n2_; have GW549 := n3_; have GE549 := n4_; have NB548_549 := n5_; have NB549_548 := n6_; clear n0_ n1_ n2_ n3_ n4_ n5_ n6_; clear hb hbox hg; have hnb16 := NB548_549.out; have hnc16 := NB549_548.out; have hcz17_0 : w15.cell? ⟨gb548, 0, none⟩ = some (.bool a0_0) := (blk_cell BK548.out 0).trans rfl; have hcz17_1 : w15.cell? ⟨gb548, 1, none⟩ = some (.string a0_1) := (blk_cell BK548.out 1).trans rfl; have hcz17_2 : w15.cell? ⟨gb548, 2, none⟩ = some (.string a0_2) := (blk_cell BK548.out 2).trans rfl; have hfz17_0 := blk_frozen BK548.out 0; have hfz17_1 := blk_frozen BK548.out 1; have hfz17_2 := blk_frozen BK548.out 2) | ((with_reducible refine gate_callee (f := 17) rfl ?_); refine goesL_ (some 6) rfl rfl Tryd.func17 (by kernel_rfl) rfl #[.agg #[.bool a0_0, .string a0_1, .string a0_2]] rfl (by (try simp only [List.map_toArray, List.map_cons, List.map_nil]); first | done | rfl | (simp only [List.length_drop, List.length_take]; rfl)) ?_; (with_reducible refine (decimal_Check.calls k a0_0 a0_1 a0_2 t550 _ A2.out).mono ?_); rintro e w18 ⟨rfl, hb⟩; refine ⟨_, rfl, ?_⟩; have n0_ := Aside0.mk (blk_below (g := gb548) (o := .cells #[.bool a0_0, .string a0_1, .string a0_2] 23 (0, 0)) BK548.out hb); have n1_ := Aside0.mk (blk_below (g := gb549) (o := .cells #[.bool false, .string (⟨#[]⟩ : ByteArray), .string (⟨#[]⟩ : ByteArray)] 23 (0, 0)) BK549.out hb); have n2_ := Aside0.mk (below_step HB.out hb); clear BK548; clear BK549; clear HB; have BK548 := n0_; have BK549 := n1_; have HB := n2_; clear n0_ n1_ n2_; have hcz19_0 : w18.cell? ⟨gb549, 0, none⟩ = some (.bool false) := (blk_cell BK549.out 0).trans rfl; have hcz19_1 : w18.cell? ⟨gb549, 1, none⟩ = some (.string (⟨#[]⟩ : ByteArray)) := (blk_cell BK549.out 1).trans rfl; have hcz19_2 : w18.cell? ⟨gb549, 2, none⟩ = some (.string (⟨#[]⟩ : ByteArray)) := (blk_cell BK549.out 2).trans rfl; have hfz19_0 := blk_frozen BK549.out 0; have hfz19_1 := blk_frozen BK549.out 1; have hfz19_2 := blk_frozen BK549.out 2))
  refine bodyPost_ret (results_ct rfl _ _ gb549 23 #[.bool false, .string (⟨#[]⟩ : ByteArray), .string (⟨#[]⟩ : ByteArray)] (0, 0) _ rfl (by refine blk_put (cs := #[.bool false, .string (⟨#[]⟩ : ByteArray), .string (⟨#[]⟩ : ByteArray)]) ?_ 2 _ rfl; refine blk_put (cs := #[.bool false, .string (⟨#[]⟩ : ByteArray), .string (⟨#[]⟩ : ByteArray)]) ?_ 1 _ rfl; refine blk_put (cs := #[.bool false, .string (⟨#[]⟩ : ByteArray), .string (⟨#[]⟩ : ByteArray)]) ?_ 0 _ rfl; exact BK549.out) Tryd.underlying23 rfl (by kernel_rfl)) rfl ?_
  exact ⟨by first | rfl | (simp [errW_none, errW_some] <;> rfl) | (simp [*, errW_none, errW_some] <;> rfl) | (simp [bne_nil_]; done), by repeat (first | (with_reducible first | exact HB.out | apply below_alloc | apply pw_below_drewN | apply below_drew1 | refine below_set ?_ GE548.out | refine below_set ?_ GE549.out) | exact HB.out)⟩
end Go.Proofs.YtapbdblpdkoacaaDoor.P
namespace Go.Proofs.YtapbdblpdkoacaaDoor.P
open Go.RowKit Go.Proofs.YtapbdblpdkoacaaDoorW.PrintWords Go.Proofs.YtapbdblpdkoacaaDoorW.PrintLast Go.Proofs.YtapbdblpdkoacaaDoorW.PrintMore
attribute [local go_sem] max2_int max_two
set_option linter.unusedVariables false
set_option linter.unusedSimpArgs false
def decimal_Shift.j0 : Nat → Int → Bool → Bool → ByteArray → ByteArray → Option (Bool × ByteArray × ByteArray × Int)
  | 0, _, _, _, _, _ => none
  | k + 1, x1, x20, x872000, x872001, x872002 => if x20 = true then (some (false, (⟨#[]⟩ : ByteArray), (⟨#[]⟩ : ByteArray), 1)) else (if x872001.size + x872002.size ≤ 9223372036854775807 then ((decimal_of.f k (x872001 ++ x872002)).bind fun t874 => (if (wrap64 ((x872002.size : Int) - x1)) < 0 then ((decimal_digits_up.f t874 (wrap64 (-(wrap64 ((x872002.size : Int) - x1))))).bind fun t877 => ((decimal_made.f k x872000 t877 0).bind fun bt880 => (some (bt880.1, bt880.2.1, bt880.2.2.1, bt880.2.2.2)))) else ((decimal_made.f k x872000 t874 (wrap64 ((x872002.size : Int) - x1))).bind fun bt884 => (some (bt884.1, bt884.2.1, bt884.2.2.1, bt884.2.2.2))))) else (none))
def decimal_Shift.f (k : Nat) (a0_0 : Bool) (a0_1 : ByteArray) (a0_2 : ByteArray) (a1 : Int) : Option (Bool × ByteArray × ByteArray × Int) := (decimal_Check.f k a0_0 a0_1 a0_2).bind fun t873 => (if t873 = 0 then (if a1 < (-40) then (decimal_Shift.j0 k a1 true a0_0 a0_1 a0_2) else (decimal_Shift.j0 k a1 (decide (a1 > 40)) a0_0 a0_1 a0_2)) else (some (false, (⟨#[]⟩ : ByteArray), (⟨#[]⟩ : ByteArray), t873)))
def decimal_Shift.T6 : Bool × List (List Nat × List Nat) := (true, [([], []), ([0], [0]), ([], []), ([2], [2]), ([1, 3], [1, 3]), ([4], [4]), ([], []), ([6], [6]), ([7], [7]), ([], []), ([8, 9], [8, 9]), ([5, 5, 0, 1, 2, 3, 4, 5], [5]), ([10, 11, 0, 1, 2, 3, 4, 5, 6, 7, 8, 9, 10, 11], [10])])
def decimal_Shift.B6 : List Nat := [0, 1, 0, 4, 15, 31, 0, 64, 192, 0, 960, 63, 4095]
theorem decimal_Shift.tab6 : rtab .any (opsOf Tryd.f40 6) = decimal_Shift.T6 := by kernel_rfl
theorem decimal_Shift.bits6 : waitsOk decimal_Shift.T6.2 decimal_Shift.B6 = true := by kernel_rfl
set_option maxHeartbeats 8000000 in
set_option maxRecDepth 100000 in
theorem decimal_Shift.calls (k : Nat) (a0_0 : Bool) (a0_1 : ByteArray) (a0_2 : ByteArray) (a1 : Int) (r1 : Bool) (r2 : ByteArray) (r3 : ByteArray) (r4 : Int) (w : World) (h : decimal_Shift.f k a0_0 a0_1 a0_2 a1 = some (r1, r2, r3, r4)) :
    Calls Tryd.prog 40 #[.agg #[.bool a0_0, .string a0_1, .string a0_2], .int .i64 a1] w fun e w' => e = .returned (.tuple #[.agg #[.bool r1, .string r2, .string r3], .int .i64 r4]) ∧ Below w.heap.size w w' := by
 have hu23 := Tryd.underlying23
 have HB := Aside0.mk (Below.refl w.heap.size w)
 unfold decimal_Shift.f at h
 have H := h
 clear h
 replace H := Option.bind_eq_some_iff.mp H
 obtain ⟨t873, A30, H⟩ := H
 try dsimp only at H
 have A3 := Aside0.mk A30
 clear A30
 by_cases c4 : t873 = 0
 ·rw [if_pos c4] at H
  have c4b0 : (t873 == 0) = true := beq_iff_eq.mpr c4
  have c4b1 : (t873 != 0) = false := bne_eq_false_iff_eq.mpr c4
  clear c4
  have HC5 := Aside0.mk H
  clear H
  go_enter Tryd.func40, Tryd.ntmps40
  go_upto_region 4 with (first | ((with_reducible refine gate_dst (N := 2) rfl ?_); refine box_event ?hg (N := 2) ?hd (cs := #[.bool a0_0, .string a0_1, .string a0_2]) (t := 23) ?hr ?_; (case hd => rfl); (case hg => rfl); (case hr => first | (go_simp; done) | (go_simp; rfl)); intro gb871 hg w6 hbox hb; have n0_ := Aside0.mk (below_step HB.out hb); have n1_ := Aside0.mk (hbox); have n2_ := Aside0.mk ((by rw [hg]; exact (below_size HB.out) : w.heap.size ≤ gb871)); have n3_ := Aside0.mk ((by rw [hg]; exact (below_size HB.out) : w.heap.size ≤ gb871)); clear HB; have HB := n0_; have BK871 := n1_; have GW871 := n2_; have GE871 := n3_; clear n0_ n1_ n2_ n3_; clear hb hbox hg) | ((with_reducible refine gate_dst (N := 4) rfl ?_); refine box_event ?hg (N := 4) ?hd (cs := #[.bool false, .string (⟨#[]⟩ : ByteArray), .string (⟨#[]⟩ : ByteArray)]) (t := 23) ?hr ?_; (case hd => rfl); (case hg => rfl); (case hr => first | (go_simp; done) | (go_simp; rfl)); intro gb872 hg w7 hbox hb; have n0_ := Aside0.mk (blk_below (g := gb871) (o := .cells #[.bool a0_0, .string a0_1, .string a0_2] 23 (0, 0)) BK871.out hb); have n1_ := Aside0.mk (below_step HB.out hb); have n2_ := Aside0.mk (hbox); have n3_ := Aside0.mk ((by rw [hg]; exact (below_size HB.out) : w.heap.size ≤ gb872)); have n4_ := Aside0.mk ((by rw [hg]; exact (below_size HB.out) : w.heap.size ≤ gb872)); have n5_ := Aside0.mk ((by rw [hg]; exact Nat.ne_of_lt (blk_lt (g := gb871) (o := .cells #[.bool a0_0, .string a0_1, .string a0_2] 23 (0, 0)) BK871.out) : gb871 ≠ gb872)); have n6_ := Aside0.mk ((by rw [hg]; exact Nat.ne_of_gt (blk_lt (g := gb871) (o := .cells #[.bool a0_0, .string a0_1, .string a0_2] 23 (0, 0)) BK871.out) : gb872 ≠ gb871)); clear BK871; clear HB; have BK871 := n0_; have HB := n1_; have BK872 := n2_; have GW872 := n3_; have GE872 := n4_; have NB871_872 := n5_; have NB872_871 := n6_; clear n0_ n1_ n2_ n3_ n4_ n5_ n6_; clear hb hbox hg; have hnb8 := NB871_872.out; have hnc8 := NB872_871.out; have hcz9_0 : w7.cell? ⟨gb871, 0, none⟩ = some (.bool a0_0) := (blk_cell BK871.out 0).trans rfl; have hcz9_1 : w7.cell? ⟨gb871, 1, none⟩ = some (.string a0_1) := (blk_cell BK871.out 1).trans rfl; have hcz9_2 : w7.cell? ⟨gb871, 2, none⟩ = some (.string a0_2) := (blk_cell BK871.out 2).trans rfl; have hfz9_0 := blk_frozen BK871.out 0; have hfz9_1 := blk_frozen BK871.out 1; have hfz9_2 := blk_frozen BK871.out 2) | ((with_reducible refine gate_callee (f := 17) rfl ?_); refine goesL_ (some 10) rfl rfl Tryd.func17 (by kernel_rfl) rfl #[.agg #[.bool a0_0, .string a0_1, .string a0_2]] rfl (by (try simp only [List.map_toArray, List.map_cons, List.map_nil]); first | done | rfl | (simp only [List.length_drop, List.length_take]; rfl)) ?_; (with_reducible refine (decimal_Check.calls k a0_0 a0_1 a0_2 t873 _ A3.out).mono ?_); rintro e w10 ⟨rfl, hb⟩; refine ⟨_, rfl, ?_⟩; have n0_ := Aside0.mk (blk_below (g := gb871) (o := .cells #[.bool a0_0, .string a0_1, .string a0_2] 23 (0, 0)) BK871.out hb); have n1_ := Aside0.mk (blk_below (g := gb872) (o := .cells #[.bool false, .string (⟨#[]⟩ : ByteArray), .string (⟨#[]⟩ : ByteArray)] 23 (0, 0)) BK872.out hb); have n2_ := Aside0.mk (below_step HB.out hb); clear BK871; clear BK872; clear HB; have BK871 := n0_; have BK872 := n1_; have HB := n2_; clear n0_ n1_ n2_))
  (try simp only [Act.put, List.setIfInBounds_toArray, List.set_cons_zero, List.set_cons_succ])
  go_cut [20] (fun v20 wc => ∃ (kq : Nat) (x20_4 : Bool), v20 = .bool x20_4 ∧ Aside0 (decimal_Shift.j0 kq a1 x20_4 a0_0 a0_1 a0_2 = some (r1, r2, r3, r4)) ∧ Aside0 (kq ≤ k) ∧ Aside0 (wc.heap[gb871]? = some (.cells #[.bool a0_0, .string a0_1, .string a0_2] 23 (0, 0))) ∧ Aside0 (wc.heap[gb872]? = some (.cells #[.bool false, .string (⟨#[]⟩ : ByteArray), .string (⟨#[]⟩ : ByteArray)] 23 (0, 0))) ∧ Aside0 (Below w.heap.size w wc))
  case first =>
   have H := HC5.out
   clear HC5
   by_cases c11 : a1 < (-40)
   ·rw [if_pos c11] at H
    have c11b0 : decide (a1 < (-40)) = true := decide_eq_true c11
    clear c11
    (first | rw [c11b0] | (simp only [i64_w, i32_w]; rw [c11b0]) | skip)
    have H' := Aside0.mk H
    clear H
    go_wp2
    go_meet
    case rel => exact ⟨_, (true), (by first | rfl | (simp; done) | (simp [*]; done)), H', ⟨by first | omega | exact Nat.le_refl _⟩, ⟨by exact BK871.out⟩, ⟨by exact BK872.out⟩, ⟨by repeat (first | (with_reducible first | exact HB.out | apply below_alloc | apply pw_below_drewN | apply below_drew1 | refine below_set ?_ GE871.out | refine below_set ?_ GE872.out) | exact HB.out)⟩⟩
   ·rw [if_neg c11] at H
    have c11b0 : decide (a1 < (-40)) = false := decide_eq_false c11
    clear c11
    (first | rw [c11b0] | (simp only [i64_w, i32_w]; rw [c11b0]) | skip)
    have H' := Aside0.mk H
    clear H
    go_wp2
    go_meet
    case rel => exact ⟨_, (decide (a1 > 40)), (by first | rfl | (simp; done) | (simp [*]; done)), H', ⟨by first | omega | exact Nat.le_refl _⟩, ⟨by exact BK871.out⟩, ⟨by exact BK872.out⟩, ⟨by repeat (first | (with_reducible first | exact HB.out | apply below_alloc | apply pw_below_drewN | apply below_drew1 | refine below_set ?_ GE871.out | refine below_set ?_ GE872.out) | exact HB.out)⟩⟩
  case rest =>
   clear HC5
   try clear c1
   try clear p2
   try clear c4
   try clear c4b0
   try clear c4b1
   try clear c8
   try clear c11
   try clear c11b0
   try clear hcz9_0
   try clear hcz9_1
   try clear hcz9_2
   try clear hfz9_0
   try clear hfz9_1
   try clear hfz9_2
   obtain ⟨kq, x20_4, rfl, HA, HJ4, BK871, BK872, HB⟩ := hcut
   cases kq with
   | zero => exact absurd HA.out (by simp [decimal_Shift.j0])
   | succ kj4 =>
    have H := HA.out
    clear HA
    simp only [decimal_Shift.j0] at H
    by_cases c12 : x20_4 = true
    ·subst c12
     have H1 : (some (false, (⟨#[]⟩ : ByteArray), (⟨#[]⟩ : ByteArray), 1)) = some (r1, r2, r3, r4) := by rw [if_pos rfl] at H; exact H
     clear H
     have H := H1
     clear H1
     simp only [Option.some.injEq, Prod.mk.injEq] at H
     obtain ⟨rfl, rfl, rfl, rfl⟩ := H
     have hnb13 := NB872_871.out
     have hnc13 := NB871_872.out
     have hcz14_0 : wc.cell? ⟨gb872, 0, none⟩ = some (.bool false) := (blk_cell BK872.out 0).trans rfl
     have hcz14_1 : wc.cell? ⟨gb872, 1, none⟩ = some (.string (⟨#[]⟩ : ByteArray)) := (blk_cell BK872.out 1).trans rfl
     have hcz14_2 : wc.cell? ⟨gb872, 2, none⟩ = some (.string (⟨#[]⟩ : ByteArray)) := (blk_cell BK872.out 2).trans rfl
     have hfz14_0 := blk_frozen BK872.out 0
     have hfz14_1 := blk_frozen BK872.out 1
     have hfz14_2 := blk_frozen BK872.out 2
     go_wp2
     refine bodyPost_ret (results_ct rfl _ _ gb872 23 #[.bool false, .string (⟨#[]⟩ : ByteArray), .string (⟨#[]⟩ : ByteArray)] (0, 0) _ rfl (by refine blk_put (cs := #[.bool false, .string (⟨#[]⟩ : ByteArray), .string (⟨#[]⟩ : ByteArray)]) ?_ 2 _ rfl; refine blk_put (cs := #[.bool false, .string (⟨#[]⟩ : ByteArray), .string (⟨#[]⟩ : ByteArray)]) ?_ 1 _ rfl; refine blk_put (cs := #[.bool false, .string (⟨#[]⟩ : ByteArray), .string (⟨#[]⟩ : ByteArray)]) ?_ 0 _ rfl; exact BK872.out) Tryd.underlying23 rfl (by kernel_rfl)) rfl ?_
     exact ⟨by first | rfl | (simp [errW_none, errW_some] <;> rfl) | (simp [*, errW_none, errW_some] <;> rfl) | (simp [bne_nil_]; done), by repeat (first | (with_reducible first | exact HB.out | apply below_alloc | apply pw_below_drewN | apply below_drew1 | refine below_set ?_ GE871.out | refine below_set ?_ GE872.out) | exact HB.out)⟩
    ·replace c12 := Bool.eq_false_iff.mpr c12
     subst c12
     have H1 : (if a0_1.size + a0_2.size ≤ 9223372036854775807 then ((decimal_of.f kj4 (a0_1 ++ a0_2)).bind fun t874 => (if (wrap64 ((a0_2.size : Int) - a1)) < 0 then ((decimal_digits_up.f t874 (wrap64 (-(wrap64 ((a0_2.size : Int) - a1))))).bind fun t877 => ((decimal_made.f kj4 a0_0 t877 0).bind fun bt880 => (some (bt880.1, bt880.2.1, bt880.2.2.1, bt880.2.2.2)))) else ((decimal_made.f kj4 a0_0 t874 (wrap64 ((a0_2.size : Int) - a1))).bind fun bt884 => (some (bt884.1, bt884.2.1, bt884.2.2.1, bt884.2.2.2))))) else (none)) = some (r1, r2, r3, r4) := by rw [if_neg (show ¬ (false = true) by decide)] at H; exact H
     clear H
     have H := H1
     clear H1
     by_cases c15 : a0_1.size + a0_2.size ≤ 9223372036854775807
     ·rw [if_pos c15] at H
      have c15b0 := eq_true c15
      have c15b1 : decide (a0_1.size + a0_2.size ≤ 9223372036854775807) = true := decide_eq_true c15
      try have c15b2 : (9223372036854775807 < a0_1.size + a0_2.size) = False := eq_false (Nat.not_lt.2 c15)
      replace H := Option.bind_eq_some_iff.mp H
      obtain ⟨t874, A160, H⟩ := H
      try dsimp only at H
      have A16 := Aside0.mk A160
      clear A160
      by_cases c17 : (wrap64 ((a0_2.size : Int) - a1)) < 0
      ·rw [if_pos c17] at H
       have c17b0 : decide ((wrap64 ((a0_2.size : Int) - a1)) < 0) = true := decide_eq_true c17
       clear c17
       replace H := Option.bind_eq_some_iff.mp H
       obtain ⟨t877, A180, H⟩ := H
       try dsimp only at H
       have A18 := Aside0.mk A180
       clear A180
       replace H := Option.bind_eq_some_iff.mp H
       obtain ⟨⟨t880, t881, t882, t883⟩, A190, H⟩ := H
       try dsimp only at H
       have A19 := Aside0.mk A190
       clear A190
       simp only [Option.some.injEq, Prod.mk.injEq] at H
       obtain ⟨rfl, rfl, rfl, rfl⟩ := H
       try go_wp2
       have n0_ := Aside0.mk (blk_drew BK871.out)
       have n1_ := Aside0.mk (blk_drew BK872.out)
       have n2_ := Aside0.mk (below_drew1 HB.out)
       clear BK871
       clear BK872
       clear HB
       have BK871 := n0_
       have BK872 := n1_
       have HB := n2_
       clear n0_ n1_ n2_
       refine start_ (n := 13) (S := fun w' => w'.cell? ⟨gb871, 0, none⟩ = some (.bool a0_0) ∧ w'.cell? ⟨gb871, 1, none⟩ = some (.string a0_1) ∧ w'.cell? ⟨gb871, 2, none⟩ = some (.string a0_2)) (ds := []) #[false, false, false, false, false, false, false, false, false, false, false, false, false] (by kernel_rfl) rfl rfl ⟨(blk_cell BK871.out 0).trans rfl, (blk_cell BK871.out 1).trans rfl, (blk_cell BK871.out 2).trans rfl⟩ (fun hHeld => ?_); refine with_tabW decimal_Shift.tab6 decimal_Shift.bits6 (fun HT_ HW_ => ?_)
       generalize wc.drew = w20 at BK871 BK872 HB hHeld ⊢
       refine pure_ (i := 0) (N := some 22) (v := ?_) (a' := ?_) #[true, false, false, false, false, false, false, false, false, false, false, false, false] rfl rfl (any_of HT_.out (by kernel_rfl)) (fun _ _ _ h => h) (Or.inl ⟨by rfl, ?_⟩) ?_ ?_
       rotate_left
       ·intro w'
        go_simp
        with_reducible rfl
       rotate_left
       ·simp only [Act.put, List.setIfInBounds_toArray, List.set_cons_zero, List.set_cons_succ, i64_w, i32_w]
        rfl
       refine pure_ (i := 2) (N := some 24) (v := ?_) (a' := ?_) #[true, false, true, false, false, false, false, false, false, false, false, false, false] rfl rfl (any_of HT_.out (by kernel_rfl)) (fun _ _ _ h => h) (Or.inl ⟨by rfl, ?_⟩) ?_ ?_
       rotate_left
       ·intro w'
        go_simp
        with_reducible rfl
       rotate_left
       ·simp only [Act.put, List.setIfInBounds_toArray, List.set_cons_zero, List.set_cons_succ, i64_w, i32_w]
        rfl
       refine pure_ (i := 6) (N := some 28) (v := ?_) (a' := ?_) #[true, false, true, false, false, false, true, false, false, false, false, false, false] rfl rfl (any_of HT_.out (by kernel_rfl)) (fun _ _ _ h => h) (Or.inl ⟨by rfl, ?_⟩) ?_ ?_
       rotate_left
       ·intro w'
        go_simp
        with_reducible rfl
       rotate_left
       ·simp only [Act.put, List.setIfInBounds_toArray, List.set_cons_zero, List.set_cons_succ, i64_w, i32_w]
        rfl
       refine pure_ (i := 9) (N := some 31) (v := ?_) (a' := ?_) #[true, false, true, false, false, false, true, false, false, true, false, false, false] rfl rfl (any_of HT_.out (by kernel_rfl)) (fun _ _ _ h => h) (Or.inl ⟨by rfl, ?_⟩) ?_ ?_
       rotate_left
       ·intro w'
        go_simp
        with_reducible rfl
       rotate_left
       ·simp only [Act.put, List.setIfInBounds_toArray, List.set_cons_zero, List.set_cons_succ, i64_w, i32_w]
        rfl
       refine take_ (i := 1) (N := some 23) (v := ?_) (a' := ?_) #[true, true, true, false, false, false, true, false, false, true, false, false, false] rfl rfl (take_ofW HT_.out HW_.out (by kernel_rfl)) (fun _ _ _ h => h) (Or.inl ⟨by rfl, ?_⟩) hHeld ?_ ?_
       rotate_left
       ·rintro w' ⟨s0, s1, s2⟩
        go_simp
        with_reducible rfl
       rotate_left
       ·simp only [Act.put, List.setIfInBounds_toArray, List.set_cons_zero, List.set_cons_succ, i64_w, i32_w]
        rfl
       refine take_ (i := 3) (N := some 25) (v := ?_) (a' := ?_) #[true, true, true, true, false, false, true, false, false, true, false, false, false] rfl rfl (take_ofW HT_.out HW_.out (by kernel_rfl)) (fun _ _ _ h => h) (Or.inl ⟨by rfl, ?_⟩) hHeld ?_ ?_
       rotate_left
       ·rintro w' ⟨s0, s1, s2⟩
        go_simp
        with_reducible rfl
       rotate_left
       ·simp only [Act.put, List.setIfInBounds_toArray, List.set_cons_zero, List.set_cons_succ, i64_w, i32_w]
        rfl
       refine pure_ (i := 4) (N := some 26) (v := ?_) (a' := ?_) #[true, true, true, true, true, false, true, false, false, true, false, false, false] rfl rfl (any_of HT_.out (by kernel_rfl)) (fun _ _ _ h => h) (Or.inl ⟨by rfl, ?_⟩) ?_ ?_
       rotate_left
       ·intro w'
        go_simp
        with_reducible rfl
       rotate_left
       ·simp only [Act.put, List.setIfInBounds_toArray, List.set_cons_zero, List.set_cons_succ, i64_w, i32_w]
        rfl
       refine take_ (i := 7) (N := some 29) (v := ?_) (a' := ?_) #[true, true, true, true, true, false, true, true, false, true, false, false, false] rfl rfl (take_ofW HT_.out HW_.out (by kernel_rfl)) (fun _ _ _ h => h) (Or.inl ⟨by rfl, ?_⟩) hHeld ?_ ?_
       rotate_left
       ·rintro w' ⟨s0, s1, s2⟩
        go_simp
        with_reducible rfl
       rotate_left
       ·simp only [Act.put, List.setIfInBounds_toArray, List.set_cons_zero, List.set_cons_succ, i64_w, i32_w]
        rfl
       refine pure_ (i := 8) (N := some 30) (v := ?_) (a' := ?_) #[true, true, true, true, true, false, true, true, true, true, false, false, false] rfl rfl (any_of HT_.out (by kernel_rfl)) (fun _ _ _ h => h) (Or.inl ⟨by rfl, ?_⟩) ?_ ?_
       rotate_left
       ·intro w'
        go_simp
        with_reducible rfl
       rotate_left
       ·simp only [Act.put, List.setIfInBounds_toArray, List.set_cons_zero, List.set_cons_succ, i64_w, i32_w]
        rfl
       refine pure_ (i := 10) (N := some 32) (v := ?_) (a' := ?_) #[true, true, true, true, true, false, true, true, true, true, true, false, false] rfl rfl (any_of HT_.out (by kernel_rfl)) (fun _ _ _ h => h) (Or.inl ⟨by rfl, ?_⟩) ?_ ?_
       rotate_left
       ·intro w'
        go_simp
        with_reducible rfl
       rotate_left
       ·simp only [Act.put, List.setIfInBounds_toArray, List.set_cons_zero, List.set_cons_succ, i64_w, i32_w]
        rfl
       refine one_ (i := 5) (N := some 27) #[true, true, true, true, true, true, true, true, true, true, true, false, false] rfl rfl (one_of HT_.out (by kernel_rfl)) (by decide) (fun K hK => ?_)
       refine goes_ Tryd.func67 (by kernel_rfl) rfl #[.string (a0_1 ++ a0_2)] (by rfl) rfl rfl (by (try simp only [List.map_toArray, List.map_cons, List.map_nil]); first | done | rfl | (simp only [List.length_drop, List.length_take]; rfl)) ?_
       with_reducible refine (decimal_of.calls kj4 (a0_1 ++ a0_2) t874 _ A16.out).mono ?_
       rintro e w21 ⟨v875, rfl, ho0, hb⟩
       refine ⟨_, rfl, ?_⟩
       have n0_ := Aside0.mk (Kd.R_lower ho0 (below_size HB.out))
       have n1_ := Aside0.mk (blk_below (g := gb871) (o := .cells #[.bool a0_0, .string a0_1, .string a0_2] 23 (0, 0)) BK871.out hb)
       have n2_ := Aside0.mk (blk_below (g := gb872) (o := .cells #[.bool false, .string (⟨#[]⟩ : ByteArray), .string (⟨#[]⟩ : ByteArray)] 23 (0, 0)) BK872.out hb)
       have n3_ := Aside0.mk (below_step HB.out hb)
       clear BK871
       clear BK872
       clear HB
       have HO876 := n0_
       have BK871 := n1_
       have BK872 := n2_
       have HB := n3_
       clear n0_ n1_ n2_ n3_
       (try clear hb)
       (try clear hb2)
       (try clear hk)
       (try clear hi)
       (try clear ho0)
       refine hK.out _ _ ⟨(blk_cell BK871.out 0).trans rfl, (blk_cell BK871.out 1).trans rfl, (blk_cell BK871.out 2).trans rfl⟩ (fun hHeld => ?_)
       clear hK K
       refine norm_ (a' := ?_) ?_ ?_
       rotate_left
       ·show Act.put _ (some 27) _ = _
        simp only [Act.put, List.setIfInBounds_toArray, List.set_cons_zero, List.set_cons_succ, i64_w, i32_w]
        rfl
       refine pure_ (i := 11) (N := some 7) (v := ?_) (a' := ?_) #[true, true, true, true, true, true, true, true, true, true, true, true, false] rfl rfl (any_of HT_.out (by kernel_rfl)) (fun _ _ _ h => h) (Or.inl ⟨by rfl, ?_⟩) ?_ ?_
       rotate_left
       ·intro w'
        go_simp
        with_reducible rfl
       rotate_left
       ·simp only [Act.put, List.setIfInBounds_toArray, List.set_cons_zero, List.set_cons_succ, i64_w, i32_w]
        rfl
       refine pure_ (i := 12) (N := some 8) (v := ?_) (a' := ?_) #[true, true, true, true, true, true, true, true, true, true, true, true, true] rfl rfl (any_of HT_.out (by kernel_rfl)) (fun _ _ _ h => h) (Or.inl ⟨by rfl, ?_⟩) ?_ ?_
       rotate_left
       ·intro w'
        go_simp
        with_reducible rfl
       rotate_left
       ·simp only [Act.put, List.setIfInBounds_toArray, List.set_cons_zero, List.set_cons_succ, i64_w, i32_w]
        rfl
       refine done_ (done_of HT_.out (by kernel_rfl)) ?_
       obtain ⟨Ao22, co22, eo22⟩ := Kd.R_slice HO876.out
       subst eo22
       try go_wp2_with (first | ((with_reducible refine gate_callee (f := 72) rfl ?_); refine goesL_ (some 38) rfl rfl Tryd.func72 (by kernel_rfl) rfl #[.slice Ao22 t874.length co22, .int .i64 (wrap64 (-(wrap64 ((a0_2.size : Int) - a1))))] rfl (by (try simp only [List.map_toArray, List.map_cons, List.map_nil]); first | done | rfl | (simp only [List.length_drop, List.length_take]; rfl)) ?_; (with_reducible refine (decimal_digits_up.calls (fun k_ => some k_ = (.slice Ao22 t874.length co22 : Value).ownBlock) _ _ t874 (wrap64 (-(wrap64 ((a0_2.size : Int) - a1)))) t877 _ ?side1 A18.out).mono ?_); (case side1 => exact Kd.R_V (Kd.R_tight rfl (Kd.R_types (Kd.R_types (HO876.out) BK871.out (by decide)) BK872.out (by decide)))); rintro e w23 ⟨v878, rfl, ho0, hb⟩; refine ⟨_, rfl, ?_⟩; have n0_ := Aside0.mk (Kd.R_below (by (with_reducible repeat (first | apply Kd.R_alloc | apply Kd.R_drewN | apply Kd.R_drew)); exact HO876.out) hb); have n1_ := Aside0.mk (Kd.V_lower (Kd.V_mono (ok' := fun k_ => k_ ≠ gb871 ∧ k_ ≠ gb872) ho0 (fun k_ hk_ => ⟨Or.elim hk_ (fun hs_ => ((Kd.R_types (Kd.R_types (HO876.out) BK871.out (by decide)) BK872.out (by decide)).1 k_ hs_.symm).1.2) (fun hn_ => (Kd.freshB (g := gb871) (o := .cells #[.bool a0_0, .string a0_1, .string a0_2] 23 (0, 0)) BK871.out k_ hn_)), Or.elim hk_ (fun hs_ => ((Kd.R_types (Kd.R_types (HO876.out) BK871.out (by decide)) BK872.out (by decide)).1 k_ hs_.symm).2) (fun hn_ => (Kd.freshB (g := gb872) (o := .cells #[.bool false, .string (⟨#[]⟩ : ByteArray), .string (⟨#[]⟩ : ByteArray)] 23 (0, 0)) BK872.out k_ hn_))⟩)) (below_size HB.out)); have n2_ := Aside0.mk (blk_below (g := gb871) (o := .cells #[.bool a0_0, .string a0_1, .string a0_2] 23 (0, 0)) BK871.out hb); have n3_ := Aside0.mk (blk_below (g := gb872) (o := .cells #[.bool false, .string (⟨#[]⟩ : ByteArray), .string (⟨#[]⟩ : ByteArray)] 23 (0, 0)) BK872.out hb); have n4_ := Aside0.mk (below_step HB.out hb); clear HO876; clear BK871; clear BK872; clear HB; have HO876 := n0_; have HO879 := n1_; have BK871 := n2_; have BK872 := n3_; have HB := n4_; clear n0_ n1_ n2_ n3_ n4_; (try clear ho0); have hnb24 := NB871_872.out; have hnc24 := NB872_871.out; have hcz25_0 : w23.cell? ⟨gb871, 0, none⟩ = some (.bool a0_0) := (blk_cell BK871.out 0).trans rfl; have hcz25_1 : w23.cell? ⟨gb871, 1, none⟩ = some (.string a0_1) := (blk_cell BK871.out 1).trans rfl; have hcz25_2 : w23.cell? ⟨gb871, 2, none⟩ = some (.string a0_2) := (blk_cell BK871.out 2).trans rfl; have hfz25_0 := blk_frozen BK871.out 0; have hfz25_1 := blk_frozen BK871.out 1; have hfz25_2 := blk_frozen BK871.out 2; obtain ⟨Ao26, co26, eo26⟩ := Kd.V_slice HO879.out; subst eo26) | ((with_reducible refine gate_callee (f := 55) rfl ?_); refine goesL_ (some 43) rfl rfl Tryd.func55 (by kernel_rfl) rfl #[.bool a0_0, .slice Ao26 t877.length co26, .int .i64 0] rfl (by (try simp only [List.map_toArray, List.map_cons, List.map_nil]); first | done | rfl | (simp only [List.length_drop, List.length_take]; rfl)) ?_; (with_reducible refine (decimal_made.calls kj4 a0_0 _ _ t877 0 t880 t881 t882 t883 _ ?side1 ?side2 A19.out).mono ?_); (case side1 => repeat (first | exact (Kd.V_reads' HO879.out).2.2 | (with_reducible refine Kd.C_alloc ?_ _) | (with_reducible refine Kd.C_drewN ?_ _) | (with_reducible refine Kd.C_drew ?_))); (case side2 => exact (Kd.V_reads' HO879.out).2.1); rintro e w27 ⟨rfl, hb⟩; refine ⟨_, rfl, ?_⟩; have n0_ := Aside0.mk (Kd.R_below (by (with_reducible repeat (first | apply Kd.R_alloc | apply Kd.R_drewN | apply Kd.R_drew)); exact HO876.out) hb); have n1_ := Aside0.mk (Kd.V_below (by (with_reducible repeat (first | apply Kd.V_alloc | apply Kd.V_drewN | apply Kd.V_drew)); exact HO879.out) hb); have n2_ := Aside0.mk (blk_below (g := gb871) (o := .cells #[.bool a0_0, .string a0_1, .string a0_2] 23 (0, 0)) BK871.out hb); have n3_ := Aside0.mk (blk_below (g := gb872) (o := .cells #[.bool false, .string (⟨#[]⟩ : ByteArray), .string (⟨#[]⟩ : ByteArray)] 23 (0, 0)) BK872.out hb); have n4_ := Aside0.mk (below_step HB.out hb); clear HO876; clear HO879; clear BK871; clear BK872; clear HB; have HO876 := n0_; have HO879 := n1_; have BK871 := n2_; have BK872 := n3_; have HB := n4_; clear n0_ n1_ n2_ n3_ n4_; have hcz28_0 : w27.cell? ⟨gb872, 0, none⟩ = some (.bool false) := (blk_cell BK872.out 0).trans rfl; have hcz28_1 : w27.cell? ⟨gb872, 1, none⟩ = some (.string (⟨#[]⟩ : ByteArray)) := (blk_cell BK872.out 1).trans rfl; have hcz28_2 : w27.cell? ⟨gb872, 2, none⟩ = some (.string (⟨#[]⟩ : ByteArray)) := (blk_cell BK872.out 2).trans rfl; have hfz28_0 := blk_frozen BK872.out 0; have hfz28_1 := blk_frozen BK872.out 1; have hfz28_2 := blk_frozen BK872.out 2))
       refine bodyPost_ret (results_ct rfl _ _ gb872 23 #[.bool t880, .string t881, .string t882] (0, 0) _ rfl (by refine blk_put (cs := #[.bool t880, .string t881, .string (⟨#[]⟩ : ByteArray)]) ?_ 2 _ rfl; refine blk_put (cs := #[.bool t880, .string (⟨#[]⟩ : ByteArray), .string (⟨#[]⟩ : ByteArray)]) ?_ 1 _ rfl; refine blk_put (cs := #[.bool false, .string (⟨#[]⟩ : ByteArray), .string (⟨#[]⟩ : ByteArray)]) ?_ 0 _ rfl; exact BK872.out) Tryd.underlying23 rfl (by kernel_rfl)) rfl ?_
       exact ⟨by first | rfl | (simp [errW_none, errW_some] <;> rfl) | (simp [*, errW_none, errW_some] <;> rfl) | (simp [bne_nil_]; done), by repeat (first | (with_reducible first | exact HB.out | apply below_alloc | apply pw_below_drewN | apply below_drew1 | refine below_set ?_ GE871.out | refine below_set ?_ GE872.out) | exact HB.out)⟩
      ·rw [if_neg c17] at H
       have c17b0 : decide ((wrap64 ((a0_2.size : Int) - a1)) < 0) = false := decide_eq_false c17
       clear c17
       replace H := Option.bind_eq_some_iff.mp H
       obtain ⟨⟨t884, t885, t886, t887⟩, A290, H⟩ := H
       try dsimp only at H
       have A29 := Aside0.mk A290
       clear A290
       simp only [Option.some.injEq, Prod.mk.injEq] at H
       obtain ⟨rfl, rfl, rfl, rfl⟩ := H
       try go_wp2
       have n0_ := Aside0.mk (blk_drew BK871.out)
       have n1_ := Aside0.mk (blk_drew BK872.out)
       have n2_ := Aside0.mk (below_drew1 HB.out)
       clear BK871
       clear BK872
       clear HB
       have BK871 := n0_
       have BK872 := n1_
       have HB := n2_
       clear n0_ n1_ n2_
       refine start_ (n := 13) (S := fun w' => w'.cell? ⟨gb871, 0, none⟩ = some (.bool a0_0) ∧ w'.cell? ⟨gb871, 1, none⟩ = some (.string a0_1) ∧ w'.cell? ⟨gb871, 2, none⟩ = some (.string a0_2)) (ds := []) #[false, false, false, false, false, false, false, false, false, false, false, false, false] (by kernel_rfl) rfl rfl ⟨(blk_cell BK871.out 0).trans rfl, (blk_cell BK871.out 1).trans rfl, (blk_cell BK871.out 2).trans rfl⟩ (fun hHeld => ?_); refine with_tabW decimal_Shift.tab6 decimal_Shift.bits6 (fun HT_ HW_ => ?_)
       generalize wc.drew = w30 at BK871 BK872 HB hHeld ⊢
       refine pure_ (i := 0) (N := some 22) (v := ?_) (a' := ?_) #[true, false, false, false, false, false, false, false, false, false, false, false, false] rfl rfl (any_of HT_.out (by kernel_rfl)) (fun _ _ _ h => h) (Or.inl ⟨by rfl, ?_⟩) ?_ ?_
       rotate_left
       ·intro w'
        go_simp
        with_reducible rfl
       rotate_left
       ·simp only [Act.put, List.setIfInBounds_toArray, List.set_cons_zero, List.set_cons_succ, i64_w, i32_w]
        rfl
       refine pure_ (i := 2) (N := some 24) (v := ?_) (a' := ?_) #[true, false, true, false, false, false, false, false, false, false, false, false, false] rfl rfl (any_of HT_.out (by kernel_rfl)) (fun _ _ _ h => h) (Or.inl ⟨by rfl, ?_⟩) ?_ ?_
       rotate_left
       ·intro w'
        go_simp
        with_reducible rfl
       rotate_left
       ·simp only [Act.put, List.setIfInBounds_toArray, List.set_cons_zero, List.set_cons_succ, i64_w, i32_w]
        rfl
       refine pure_ (i := 6) (N := some 28) (v := ?_) (a' := ?_) #[true, false, true, false, false, false, true, false, false, false, false, false, false] rfl rfl (any_of HT_.out (by kernel_rfl)) (fun _ _ _ h => h) (Or.inl ⟨by rfl, ?_⟩) ?_ ?_
       rotate_left
       ·intro w'
        go_simp
        with_reducible rfl
       rotate_left
       ·simp only [Act.put, List.setIfInBounds_toArray, List.set_cons_zero, List.set_cons_succ, i64_w, i32_w]
        rfl
       refine pure_ (i := 9) (N := some 31) (v := ?_) (a' := ?_) #[true, false, true, false, false, false, true, false, false, true, false, false, false] rfl rfl (any_of HT_.out (by kernel_rfl)) (fun _ _ _ h => h) (Or.inl ⟨by rfl, ?_⟩) ?_ ?_
       rotate_left
       ·intro w'
        go_simp
        with_reducible rfl
       rotate_left
       ·simp only [Act.put, List.setIfInBounds_toArray, List.set_cons_zero, List.set_cons_succ, i64_w, i32_w]
        rfl
       refine take_ (i := 1) (N := some 23) (v := ?_) (a' := ?_) #[true, true, true, false, false, false, true, false, false, true, false, false, false] rfl rfl (take_ofW HT_.out HW_.out (by kernel_rfl)) (fun _ _ _ h => h) (Or.inl ⟨by rfl, ?_⟩) hHeld ?_ ?_
       rotate_left
       ·rintro w' ⟨s0, s1, s2⟩
        go_simp
        with_reducible rfl
       rotate_left
       ·simp only [Act.put, List.setIfInBounds_toArray, List.set_cons_zero, List.set_cons_succ, i64_w, i32_w]
        rfl
       refine take_ (i := 3) (N := some 25) (v := ?_) (a' := ?_) #[true, true, true, true, false, false, true, false, false, true, false, false, false] rfl rfl (take_ofW HT_.out HW_.out (by kernel_rfl)) (fun _ _ _ h => h) (Or.inl ⟨by rfl, ?_⟩) hHeld ?_ ?_
       rotate_left
       ·rintro w' ⟨s0, s1, s2⟩
        go_simp
        with_reducible rfl
       rotate_left
       ·simp only [Act.put, List.setIfInBounds_toArray, List.set_cons_zero, List.set_cons_succ, i64_w, i32_w]
        rfl
       refine pure_ (i := 4) (N := some 26) (v := ?_) (a' := ?_) #[true, true, true, true, true, false, true, false, false, true, false, false, false] rfl rfl (any_of HT_.out (by kernel_rfl)) (fun _ _ _ h => h) (Or.inl ⟨by rfl, ?_⟩) ?_ ?_
       rotate_left
       ·intro w'
        go_simp
        with_reducible rfl
       rotate_left
       ·simp only [Act.put, List.setIfInBounds_toArray, List.set_cons_zero, List.set_cons_succ, i64_w, i32_w]
        rfl
       refine take_ (i := 7) (N := some 29) (v := ?_) (a' := ?_) #[true, true, true, true, true, false, true, true, false, true, false, false, false] rfl rfl (take_ofW HT_.out HW_.out (by kernel_rfl)) (fun _ _ _ h => h) (Or.inl ⟨by rfl, ?_⟩) hHeld ?_ ?_
       rotate_left
       ·rintro w' ⟨s0, s1, s2⟩
        go_simp
        with_reducible rfl
       rotate_left
       ·simp only [Act.put, List.setIfInBounds_toArray, List.set_cons_zero, List.set_cons_succ, i64_w, i32_w]
        rfl
       refine pure_ (i := 8) (N := some 30) (v := ?_) (a' := ?_) #[true, true, true, true, true, false, true, true, true, true, false, false, false] rfl rfl (any_of HT_.out (by kernel_rfl)) (fun _ _ _ h => h) (Or.inl ⟨by rfl, ?_⟩) ?_ ?_
       rotate_left
       ·intro w'
        go_simp
        with_reducible rfl
       rotate_left
       ·simp only [Act.put, List.setIfInBounds_toArray, List.set_cons_zero, List.set_cons_succ, i64_w, i32_w]
        rfl
       refine pure_ (i := 10) (N := some 32) (v := ?_) (a' := ?_) #[true, true, true, true, true, false, true, true, true, true, true, false, false] rfl rfl (any_of HT_.out (by kernel_rfl)) (fun _ _ _ h => h) (Or.inl ⟨by rfl, ?_⟩) ?_ ?_
       rotate_left
       ·intro w'
        go_simp
        with_reducible rfl
       rotate_left
       ·simp only [Act.put, List.setIfInBounds_toArray, List.set_cons_zero, List.set_cons_succ, i64_w, i32_w]
        rfl
       refine one_ (i := 5) (N := some 27) #[true, true, true, true, true, true, true, true, true, true, true, false, false] rfl rfl (one_of HT_.out (by kernel_rfl)) (by decide) (fun K hK => ?_)
       refine goes_ Tryd.func67 (by kernel_rfl) rfl #[.string (a0_1 ++ a0_2)] (by rfl) rfl rfl (by (try simp only [List.map_toArray, List.map_cons, List.map_nil]); first | done | rfl | (simp only [List.length_drop, List.length_take]; rfl)) ?_
       with_reducible refine (decimal_of.calls kj4 (a0_1 ++ a0_2) t874 _ A16.out).mono ?_
       rintro e w31 ⟨v875, rfl, ho0, hb⟩
       refine ⟨_, rfl, ?_⟩
       have n0_ := Aside0.mk (Kd.R_lower ho0 (below_size HB.out))
       have n1_ := Aside0.mk (blk_below (g := gb871) (o := .cells #[.bool a0_0, .string a0_1, .string a0_2] 23 (0, 0)) BK871.out hb)
       have n2_ := Aside0.mk (blk_below (g := gb872) (o := .cells #[.bool false, .string (⟨#[]⟩ : ByteArray), .string (⟨#[]⟩ : ByteArray)] 23 (0, 0)) BK872.out hb)
       have n3_ := Aside0.mk (below_step HB.out hb)
       clear BK871
       clear BK872
       clear HB
       have HO876 := n0_
       have BK871 := n1_
       have BK872 := n2_
       have HB := n3_
       clear n0_ n1_ n2_ n3_
       (try clear hb)
       (try clear hb2)
       (try clear hk)
       (try clear hi)
       (try clear ho0)
       refine hK.out _ _ ⟨(blk_cell BK871.out 0).trans rfl, (blk_cell BK871.out 1).trans rfl, (blk_cell BK871.out 2).trans rfl⟩ (fun hHeld => ?_)
       clear hK K
       refine norm_ (a' := ?_) ?_ ?_
       rotate_left
       ·show Act.put _ (some 27) _ = _
        simp only [Act.put, List.setIfInBounds_toArray, List.set_cons_zero, List.set_cons_succ, i64_w, i32_w]
        rfl
       refine pure_ (i := 11) (N := some 7) (v := ?_) (a' := ?_) #[true, true, true, true, true, true, true, true, true, true, true, true, false] rfl rfl (any_of HT_.out (by kernel_rfl)) (fun _ _ _ h => h) (Or.inl ⟨by rfl, ?_⟩) ?_ ?_
       rotate_left
       ·intro w'
        go_simp
        with_reducible rfl
       rotate_left
       ·simp only [Act.put, List.setIfInBounds_toArray, List.set_cons_zero, List.set_cons_succ, i64_w, i32_w]
        rfl
       refine pure_ (i := 12) (N := some 8) (v := ?_) (a' := ?_) #[true, true, true, true, true, true, true, true, true, true, true, true, true] rfl rfl (any_of HT_.out (by kernel_rfl)) (fun _ _ _ h => h) (Or.inl ⟨by rfl, ?_⟩) ?_ ?_
       rotate_left
       ·intro w'
        go_simp
        with_reducible rfl
       rotate_left
       ·simp only [Act.put, List.setIfInBounds_toArray, List.set_cons_zero, List.set_cons_succ, i64_w, i32_w]
        rfl
       refine done_ (done_of HT_.out (by kernel_rfl)) ?_
       have hnb32 := NB871_872.out
       have hnc32 := NB872_871.out
       have hcz33_0 : w31.cell? ⟨gb871, 0, none⟩ = some (.bool a0_0) := (blk_cell BK871.out 0).trans rfl
       have hcz33_1 : w31.cell? ⟨gb871, 1, none⟩ = some (.string a0_1) := (blk_cell BK871.out 1).trans rfl
       have hcz33_2 : w31.cell? ⟨gb871, 2, none⟩ = some (.string a0_2) := (blk_cell BK871.out 2).trans rfl
       have hfz33_0 := blk_frozen BK871.out 0
       have hfz33_1 := blk_frozen BK871.out 1
       have hfz33_2 := blk_frozen BK871.out 2
       obtain ⟨Ao34, co34, eo34⟩ := Kd.R_slice HO876.out
       subst eo34
       try go_wp2_with (first | ((with_reducible refine gate_callee (f := 55) rfl ?_); refine goesL_ (some 43) rfl rfl Tryd.func55 (by kernel_rfl) rfl #[.bool a0_0, .slice Ao34 t874.length co34, .int .i64 (wrap64 ((a0_2.size : Int) - a1))] rfl (by (try simp only [List.map_toArray, List.map_cons, List.map_nil]); first | done | rfl | (simp only [List.length_drop, List.length_take]; rfl)) ?_; (with_reducible refine (decimal_made.calls kj4 a0_0 _ _ t874 (wrap64 ((a0_2.size : Int) - a1)) t884 t885 t886 t887 _ ?side1 ?side2 A29.out).mono ?_); (case side1 => repeat (first | exact (Kd.R_reads' HO876.out).2.2 | (with_reducible refine Kd.C_alloc ?_ _) | (with_reducible refine Kd.C_drewN ?_ _) | (with_reducible refine Kd.C_drew ?_))); (case side2 => exact (Kd.R_reads' HO876.out).2.1); rintro e w35 ⟨rfl, hb⟩; refine ⟨_, rfl, ?_⟩; have n0_ := Aside0.mk (Kd.R_below (by (with_reducible repeat (first | apply Kd.R_alloc | apply Kd.R_drewN | apply Kd.R_drew)); exact HO876.out) hb); have n1_ := Aside0.mk (blk_below (g := gb871) (o := .cells #[.bool a0_0, .string a0_1, .string a0_2] 23 (0, 0)) BK871.out hb); have n2_ := Aside0.mk (blk_below (g := gb872) (o := .cells #[.bool false, .string (⟨#[]⟩ : ByteArray), .string (⟨#[]⟩ : ByteArray)] 23 (0, 0)) BK872.out hb); have n3_ := Aside0.mk (below_step HB.out hb); clear HO876; clear BK871; clear BK872; clear HB; have HO876 := n0_; have BK871 := n1_; have BK872 := n2_; have HB := n3_; clear n0_ n1_ n2_ n3_; have hcz36_0 : w35.cell? ⟨gb872, 0, none⟩ = some (.bool false) := (blk_cell BK872.out 0).trans rfl; have hcz36_1 : w35.cell? ⟨gb872, 1, none⟩ = some (.string (⟨#[]⟩ : ByteArray)) := (blk_cell BK872.out 1).trans rfl; have hcz36_2 : w35.cell? ⟨gb872, 2, none⟩ = some (.string (⟨#[]⟩ : ByteArray)) := (blk_cell BK872.out 2).trans rfl; have hfz36_0 := blk_frozen BK872.out 0; have hfz36_1 := blk_frozen BK872.out 1; have hfz36_2 := blk_frozen BK872.out 2))
       refine bodyPost_ret (results_ct rfl _ _ gb872 23 #[.bool t884, .string t885, .string t886] (0, 0) _ rfl (by refine blk_put (cs := #[.bool t884, .string t885, .string (⟨#[]⟩ : ByteArray)]) ?_ 2 _ rfl; refine blk_put (cs := #[.bool t884, .string (⟨#[]⟩ : ByteArray), .string (⟨#[]⟩ : ByteArray)]) ?_ 1 _ rfl; refine blk_put (cs := #[.bool false, .string (⟨#[]⟩ : ByteArray), .string (⟨#[]⟩ : ByteArray)]) ?_ 0 _ rfl; exact BK872.out) Tryd.underlying23 rfl (by kernel_rfl)) rfl ?_
       exact ⟨by first | rfl | (simp [errW_none, errW_some] <;> rfl) | (simp [*, errW_none, errW_some] <;> rfl) | (simp [bne_nil_]; done), by repeat (first | (with_reducible first | exact HB.out | apply below_alloc | apply pw_below_drewN | apply below_drew1 | refine below_set ?_ GE871.out | refine below_set ?_ GE872.out) | exact HB.out)⟩
     ·rw [if_neg c15] at H
      exact absurd H (by simp)
 ·rw [if_neg c4] at H
  have c4b0 : (t873 == 0) = false := beq_eq_false_iff_ne.mpr c4
  have c4b1 : (t873 != 0) = true := bne_iff_ne.mpr c4
  simp only [Option.some.injEq, Prod.mk.injEq] at H
  obtain ⟨rfl, rfl, rfl, rfl⟩ := H
  go_enter Tryd.func40, Tryd.ntmps40
  go_wp2_with (first | ((with_reducible refine gate_dst (N := 2) rfl ?_); refine box_event ?hg (N := 2) ?hd (cs := #[.bool a0_0, .string a0_1, .string a0_2]) (t := 23) ?hr ?_; (case hd => rfl); (case hg => rfl); (case hr => first | (go_simp; done) | (go_simp; rfl)); intro gb871 hg w37 hbox hb; have n0_ := Aside0.mk (below_step HB.out hb); have n1_ := Aside0.mk (hbox); have n2_ := Aside0.mk ((by rw [hg]; exact (below_size HB.out) : w.heap.size ≤ gb871)); have n3_ := Aside0.mk ((by rw [hg]; exact (below_size HB.out) : w.heap.size ≤ gb871)); clear HB; have HB := n0_; have BK871 := n1_; have GW871 := n2_; have GE871 := n3_; clear n0_ n1_ n2_ n3_; clear hb hbox hg) | ((with_reducible refine gate_dst (N := 4) rfl ?_); refine box_event ?hg (N := 4) ?hd (cs := #[.bool false, .string (⟨#[]⟩ : ByteArray), .string (⟨#[]⟩ : ByteArray)]) (t := 23) ?hr ?_; (case hd => rfl); (case hg => rfl); (case hr => first | (go_simp; done) | (go_simp; rfl)); intro gb872 hg w38 hbox hb; have n0_ := Aside0.mk (blk_below (g := gb871) (o := .cells #[.bool a0_0, .string a0_1, .string a0_2] 23 (0, 0)) BK871.out hb); have n1_ := Aside0.mk (below_step HB.out hb); have n2_ := Aside0.mk (hbox); have n3_ := Aside0.mk ((by rw [hg]; exact (below_size HB.out) : w.heap.size ≤ gb872)); have n4_ := Aside0.mk ((by rw [hg]; exact (below_size HB.out) : w.heap.size ≤ gb872)); have n5_ := Aside0.mk ((by rw [hg]; exact Nat.ne_of_lt (blk_lt (g := gb871) (o := .cells #[.bool a0_0, .string a0_1, .string a0_2] 23 (0, 0)) BK871.out) : gb871 ≠ gb872)); have n6_ := Aside0.mk ((by rw [hg]; exact Nat.ne_of_gt (blk_lt (g := gb871) (o := .cells #[.bool a0_0, .string a0_1, .string a0_2] 23 (0, 0)) BK871.out) : gb872 ≠ gb871)); clear BK871; clear HB; have BK871 := n0_; have HB := n1_; have BK872 := n2_; have GW872 := n3_; have GE872 := n4_; have NB871_872 := n5_; have NB872_871 := n6_; clear n0_ n1_ n2_ n3_ n4_ n5_ n6_; clear hb hbox hg; have hnb39 := NB871_872.out; have hnc39 := NB872_871.out; have hcz40_0 : w38.cell? ⟨gb871, 0, none⟩ = some (.bool a0_0) := (blk_cell BK871.out 0).trans rfl; have hcz40_1 : w38.cell? ⟨gb871, 1, none⟩ = some (.string a0_1) := (blk_cell BK871.out 1).trans rfl; have hcz40_2 : w38.cell? ⟨gb871, 2, none⟩ = some (.string a0_2) := (blk_cell BK871.out 2).trans rfl; have hfz40_0 := blk_frozen BK871.out 0; have hfz40_1 := blk_frozen BK871.out 1; have hfz40_2 := blk_frozen BK871.out 2) | ((with_reducible refine gate_callee (f := 17) rfl ?_); refine goesL_ (some 10) rfl rfl Tryd.func17 (by kernel_rfl) rfl #[.agg #[.bool a0_0, .string a0_1, .string a0_2]] rfl (by (try simp only [List.map_toArray, List.map_cons, List.map_nil]); first | done | rfl | (simp only [List.length_drop, List.length_take]; rfl)) ?_; (with_reducible refine (decimal_Check.calls k a0_0 a0_1 a0_2 t873 _ A3.out).mono ?_); rintro e w41 ⟨rfl, hb⟩; refine ⟨_, rfl, ?_⟩; have n0_ := Aside0.mk (blk_below (g := gb871) (o := .cells #[.bool a0_0, .string a0_1, .string a0_2] 23 (0, 0)) BK871.out hb); have n1_ := Aside0.mk (blk_below (g := gb872) (o := .cells #[.bool false, .string (⟨#[]⟩ : ByteArray), .string (⟨#[]⟩ : ByteArray)] 23 (0, 0)) BK872.out hb); have n2_ := Aside0.mk (below_step HB.out hb); clear BK871; clear BK872; clear HB; have BK871 := n0_; have BK872 := n1_; have HB := n2_; clear n0_ n1_ n2_; have hcz42_0 : w41.cell? ⟨gb872, 0, none⟩ = some (.bool false) := (blk_cell BK872.out 0).trans rfl; have hcz42_1 : w41.cell? ⟨gb872, 1, none⟩ = some (.string (⟨#[]⟩ : ByteArray)) := (blk_cell BK872.out 1).trans rfl; have hcz42_2 : w41.cell? ⟨gb872, 2, none⟩ = some (.string (⟨#[]⟩ : ByteArray)) := (blk_cell BK872.out 2).trans rfl; have hfz42_0 := blk_frozen BK872.out 0; have hfz42_1 := blk_frozen BK872.out 1; have hfz42_2 := blk_frozen BK872.out 2))
  refine bodyPost_ret (results_ct rfl _ _ gb872 23 #[.bool false, .string (⟨#[]⟩ : ByteArray), .string (⟨#[]⟩ : ByteArray)] (0, 0) _ rfl (by refine blk_put (cs := #[.bool false, .string (⟨#[]⟩ : ByteArray), .string (⟨#[]⟩ : ByteArray)]) ?_ 2 _ rfl; refine blk_put (cs := #[.bool false, .string (⟨#[]⟩ : ByteArray), .string (⟨#[]⟩ : ByteArray)]) ?_ 1 _ rfl; refine blk_put (cs := #[.bool false, .string (⟨#[]⟩ : ByteArray), .string (⟨#[]⟩ : ByteArray)]) ?_ 0 _ rfl; exact BK872.out) Tryd.underlying23 rfl (by kernel_rfl)) rfl ?_
  exact ⟨by first | rfl | (simp [errW_none, errW_some] <;> rfl) | (simp [*, errW_none, errW_some] <;> rfl) | (simp [bne_nil_]; done), by repeat (first | (with_reducible first | exact HB.out | apply below_alloc | apply pw_below_drewN | apply below_drew1 | refine below_set ?_ GE871.out | refine below_set ?_ GE872.out) | exact HB.out)⟩
end Go.Proofs.YtapbdblpdkoacaaDoor.P
namespace Go.Proofs
open Go.Shelf
def Tryd.lays105_ren : Go.Shelf.Ren := ⟨fun | 105 => 73 | 212 => 98 | 99 => 99 | 165 => 100 | 166 => 101 | 170 => 102 | 169 => 103 | 263 => 115 | 264 => 116 | 206 => 107 | 240 => 117 | 241 => 118 | 276 => 135 | 277 => 136 | n => n, fun | 9 => 9 | 3 => 3 | 4 => 4 | 20 => 20 | 0 => 0 | 46 => 101 | 109 => 102 | 5 => 5 | 72 => 107 | 76 => 109 | 51 => 119 | 146 => 120 | 53 => 76 | 148 => 122 | 70 => 105 | 37 => 56 | 75 => 82 | 127 => 124 | 164 => 139 | 80 => 112 | n => n, fun | n => n⟩
theorem Tryd.lays105 : Go.Proofs.Lays.n105 Tryd.prog Tryd.lays105_ren := {
  mixed := by kernel_rfl
  f99 := Tryd.func99.trans (congrArg some (by kernel_rfl))
  f105 := Tryd.func73.trans (congrArg some (by kernel_rfl))
  f165 := Tryd.func100.trans (congrArg some (by kernel_rfl))
  f166 := Tryd.func101.trans (congrArg some (by kernel_rfl))
  f169 := Tryd.func103.trans (congrArg some (by kernel_rfl))
  f170 := Tryd.func102.trans (congrArg some (by kernel_rfl))
  f206 := Tryd.func107.trans (congrArg some (by kernel_rfl))
  f212 := Tryd.func98.trans (congrArg some (by kernel_rfl))
  f240 := Tryd.func117.trans (congrArg some (by kernel_rfl))
  f241 := Tryd.func118.trans (congrArg some (by kernel_rfl))
  f263 := Tryd.func115.trans (congrArg some (by kernel_rfl))
  f264 := Tryd.func116.trans (congrArg some (by kernel_rfl))
  f276 := Tryd.func135.trans (congrArg some (by kernel_rfl))
  f277 := Tryd.func136.trans (congrArg some (by kernel_rfl))
  t0 := Tryd.underlying0
  a0 := Tryd.isAgg0
  z0 := Tryd.sizeOf0
  v0 := Tryd.zeroValue0
  t3 := Tryd.underlying3
  a3 := Tryd.isAgg3
  z3 := Tryd.sizeOf3
  v3 := Tryd.zeroValue3
  t4 := Tryd.underlying4
  a4 := Tryd.isAgg4
  z4 := Tryd.sizeOf4
  v4 := Tryd.zeroValue4
  t5 := Tryd.underlying5
  a5 := Tryd.isAgg5
  z5 := Tryd.sizeOf5
  v5 := Tryd.zeroValue5
  t9 := Tryd.underlying9
  a9 := Tryd.isAgg9
  z9 := Tryd.sizeOf9
  v9 := Tryd.zeroValue9
  t20 := Tryd.underlying20
  a20 := Tryd.isAgg20
  z20 := Tryd.sizeOf20
  v20 := Tryd.zeroValue20
  t37 := Tryd.underlying56
  a37 := Tryd.isAgg56
  z37 := Tryd.sizeOf56
  v37 := Tryd.zeroValue56
  t46 := Tryd.underlying101
  a46 := Tryd.isAgg101
  z46 := Tryd.sizeOf101
  v46 := Tryd.zeroValue101
  t51 := Tryd.underlying119
  a51 := Tryd.isAgg119
  z51 := Tryd.sizeOf119
  v51 := Tryd.zeroValue119
  t53 := Tryd.underlying76
  a53 := Tryd.isAgg76
  z53 := Tryd.sizeOf76
  v53 := Tryd.zeroValue76
  t70 := Tryd.underlying105
  a70 := Tryd.isAgg105
  z70 := Tryd.sizeOf105
  v70 := Tryd.zeroValue105
  t72 := Tryd.underlying107
  a72 := Tryd.isAgg107
  z72 := Tryd.sizeOf107
  v72 := Tryd.zeroValue107
  t75 := Tryd.underlying82
  a75 := Tryd.isAgg82
  z75 := Tryd.sizeOf82
  v75 := Tryd.zeroValue82
  t76 := Tryd.underlying109
  a76 := Tryd.isAgg109
  z76 := Tryd.sizeOf109
  v76 := Tryd.zeroValue109
  t109 := Tryd.underlying102
  a109 := Tryd.isAgg102
  z109 := Tryd.sizeOf102
  v109 := Tryd.zeroValue102
  t127 := Tryd.underlying124
  a127 := Tryd.isAgg124
  z127 := Tryd.sizeOf124
  v127 := Tryd.zeroValue124
  t146 := Tryd.underlying120
  a146 := Tryd.isAgg120
  z146 := Tryd.sizeOf120
  v146 := Tryd.zeroValue120
  t148 := Tryd.underlying122
  a148 := Tryd.isAgg122
  z148 := Tryd.sizeOf122
  v148 := Tryd.zeroValue122
  t164 := Tryd.underlying139
  a164 := Tryd.isAgg139
  z164 := Tryd.sizeOf139
  v164 := Tryd.zeroValue139 }
theorem Tryd.Builder_Extra_105 : Builder.Extra Tryd.prog Tryd.lays105_ren := {
  sizeBuilder := by kernel_rfl
  liesBuilder := by kernel_rfl
  t5 := Tryd.underlying5
  a5 := Tryd.isAgg5
  z5 := Tryd.sizeOf5
  v5 := Tryd.zeroValue5
  infoByte := by kernel_rfl
  cellsByte := by kernel_rfl
  sizeByte := by kernel_rfl
  neB5 := by decide }
open Go.RowKit Go.Lib in
theorem Tryd.strings_Repeat (s : ByteArray) (c : Nat) (w : World) (hc : c ≤ 9223372036854775807) (hlen : s.size * c ≤ 140737488355328) :
    Calls Tryd.prog 73 #[.string s, .int .i64 c] w fun e w' => e = .returned (.string ⟨(Lib.repeatL s.data.toList c).toArray⟩) ∧ Below w.heap.size w w' := Any.strings_Repeat Tryd.lays105 Tryd.Builder_Extra_105 s c w hc hlen
end Go.Proofs
namespace Go.Proofs.YtapbdblpdkoacaaDoor.P
open Go.RowKit Go.Proofs.YtapbdblpdkoacaaDoorW.PrintWords Go.Proofs.YtapbdblpdkoacaaDoorW.PrintLast Go.Proofs.YtapbdblpdkoacaaDoorW.PrintMore
def strings_Repeat.f (a0 : ByteArray) (a1 : Int) : Option (ByteArray) :=
  if 0 ≤ a1 ∧ a1 ≤ 1048576 ∧ a0.size ≤ 1048576 then some ⟨(Lib.repeatL a0.data.toList a1.toNat).toArray⟩ else none
theorem strings_Repeat.calls (a0 : ByteArray) (a1 : Int) (r : ByteArray) (w : World) (h : strings_Repeat.f a0 a1 = some r) :
    Calls Tryd.prog 73 #[.string a0, .int .i64 a1] w fun e w' => e = .returned (.string r) ∧ Below w.heap.size w w' := by
  unfold strings_Repeat.f at h
  split at h
  · rename_i hc
    obtain ⟨h0, h1, h2⟩ := hc
    obtain rfl := Option.some.inj h
    obtain ⟨n, rfl⟩ := Int.eq_ofNat_of_zero_le h0
    have hl : a0.size * n ≤ 1048576 * 1048576 := Nat.mul_le_mul h2 (by omega)
    exact Tryd.strings_Repeat a0 n w (by omega) (by omega)
  · cases h
end Go.Proofs.YtapbdblpdkoacaaDoor.P
namespace Go.Proofs.YtapbdblpdkoacaaDoor.P
open Go.RowKit Go.Proofs.YtapbdblpdkoacaaDoorW.PrintWords Go.Proofs.YtapbdblpdkoacaaDoorW.PrintLast Go.Proofs.YtapbdblpdkoacaaDoorW.PrintMore
attribute [local go_sem] max2_int max_two
set_option linter.unusedVariables false
set_option linter.unusedSimpArgs false
def decimal_Pad.j0 : Nat → Int → Bool → Bool → ByteArray → ByteArray → Option (Bool × ByteArray × ByteArray × Int)
  | 0, _, _, _, _, _ => none
  | k + 1, x1, x19, x950000, x950001, x950002 => if x19 = true then (some (false, (⟨#[]⟩ : ByteArray), (⟨#[]⟩ : ByteArray), 1)) else (if (wrap64 (x1 - (x950002.size : Int))) > 0 then (if (wrap64 ((x950001.size : Int) + x1)) > 40 then (some (false, (⟨#[]⟩ : ByteArray), (⟨#[]⟩ : ByteArray), 3)) else ((strings_Repeat.f (⟨#[48]⟩ : ByteArray) (wrap64 (x1 - (x950002.size : Int)))).bind fun t952 => (if x950002.size + t952.size ≤ 9223372036854775807 then (some (x950000, x950001, x950002 ++ t952, 0)) else (none)))) else (some (x950000, x950001, x950002, 0)))
def decimal_Pad.f (k : Nat) (a0_0 : Bool) (a0_1 : ByteArray) (a0_2 : ByteArray) (a1 : Int) : Option (Bool × ByteArray × ByteArray × Int) := (decimal_Check.f k a0_0 a0_1 a0_2).bind fun t951 => (if t951 = 0 then (if a1 < 0 then (decimal_Pad.j0 k a1 true a0_0 a0_1 a0_2) else (decimal_Pad.j0 k a1 (decide (a1 > 40)) a0_0 a0_1 a0_2)) else (some (false, (⟨#[]⟩ : ByteArray), (⟨#[]⟩ : ByteArray), t951)))
set_option maxHeartbeats 8000000 in
set_option maxRecDepth 100000 in
theorem decimal_Pad.calls (k : Nat) (a0_0 : Bool) (a0_1 : ByteArray) (a0_2 : ByteArray) (a1 : Int) (r1 : Bool) (r2 : ByteArray) (r3 : ByteArray) (r4 : Int) (w : World) (h : decimal_Pad.f k a0_0 a0_1 a0_2 a1 = some (r1, r2, r3, r4)) :
    Calls Tryd.prog 42 #[.agg #[.bool a0_0, .string a0_1, .string a0_2], .int .i64 a1] w fun e w' => e = .returned (.tuple #[.agg #[.bool r1, .string r2, .string r3], .int .i64 r4]) ∧ Below w.heap.size w w' := by
 have hu23 := Tryd.underlying23
 have HB := Aside0.mk (Below.refl w.heap.size w)
 unfold decimal_Pad.f at h
 have H := h
 clear h
 replace H := Option.bind_eq_some_iff.mp H
 obtain ⟨t951, A30, H⟩ := H
 try dsimp only at H
 have A3 := Aside0.mk A30
 clear A30
 by_cases c4 : t951 = 0
 ·rw [if_pos c4] at H
  have c4b0 : (t951 == 0) = true := beq_iff_eq.mpr c4
  have c4b1 : (t951 != 0) = false := bne_eq_false_iff_eq.mpr c4
  clear c4
  have HC5 := Aside0.mk H
  clear H
  go_enter Tryd.func42, Tryd.ntmps42
  go_upto_region 4 with (first | ((with_reducible refine gate_dst (N := 2) rfl ?_); refine box_event ?hg (N := 2) ?hd (cs := #[.bool a0_0, .string a0_1, .string a0_2]) (t := 23) ?hr ?_; (case hd => rfl); (case hg => rfl); (case hr => first | (go_simp; done) | (go_simp; rfl)); intro gb949 hg w6 hbox hb; have n0_ := Aside0.mk (below_step HB.out hb); have n1_ := Aside0.mk (hbox); have n2_ := Aside0.mk ((by rw [hg]; exact (below_size HB.out) : w.heap.size ≤ gb949)); have n3_ := Aside0.mk ((by rw [hg]; exact (below_size HB.out) : w.heap.size ≤ gb949)); clear HB; have HB := n0_; have BK949 := n1_; have GW949 := n2_; have GE949 := n3_; clear n0_ n1_ n2_ n3_; clear hb hbox hg) | ((with_reducible refine gate_dst (N := 4) rfl ?_); refine box_event ?hg (N := 4) ?hd (cs := #[.bool false, .string (⟨#[]⟩ : ByteArray), .string (⟨#[]⟩ : ByteArray)]) (t := 23) ?hr ?_; (case hd => rfl); (case hg => rfl); (case hr => first | (go_simp; done) | (go_simp; rfl)); intro gb950 hg w7 hbox hb; have n0_ := Aside0.mk (blk_below (g := gb949) (o := .cells #[.bool a0_0, .string a0_1, .string a0_2] 23 (0, 0)) BK949.out hb); have n1_ := Aside0.mk (below_step HB.out hb); have n2_ := Aside0.mk (hbox); have n3_ := Aside0.mk ((by rw [hg]; exact (below_size HB.out) : w.heap.size ≤ gb950)); have n4_ := Aside0.mk ((by rw [hg]; exact (below_size HB.out) : w.heap.size ≤ gb950)); have n5_ := Aside0.mk ((by rw [hg]; exact Nat.ne_of_lt (blk_lt (g := gb949) (o := .cells #[.bool a0_0, .string a0_1, .string a0_2] 23 (0, 0)) BK949.out) : gb949 ≠ gb950)); have n6_ := Aside0.mk ((by rw [hg]; exact Nat.ne_of_gt (blk_lt (g := gb949) (o := .cells #[.bool a0_0, .string a0_1, .string a0_2] 23 (0, 0)) BK949.out) : gb950 ≠ gb949)); clear BK949; clear HB; have BK949 := n0_; have HB := n1_; have BK950 := n2_; have GW950 := n3_; have GE950 := n4_; have NB949_950 := n5_; have NB950_949 := n6_; clear n0_ n1_ n2_ n3_ n4_ n5_ n6_; clear hb hbox hg; have hnb8 := NB949_950.out; have hnc8 := NB950_949.out; have hcz9_0 : w7.cell? ⟨gb949, 0, none⟩ = some (.bool a0_0) := (blk_cell BK949.out 0).trans rfl; have hcz9_1 : w7.cell? ⟨gb949, 1, none⟩ = some (.string a0_1) := (blk_cell BK949.out 1).trans rfl; have hcz9_2 : w7.cell? ⟨gb949, 2, none⟩ = some (.string a0_2) := (blk_cell BK949.out 2).trans rfl; have hfz9_0 := blk_frozen BK949.out 0; have hfz9_1 := blk_frozen BK949.out 1; have hfz9_2 := blk_frozen BK949.out 2) | ((with_reducible refine gate_callee (f := 17) rfl ?_); refine goesL_ (some 9) rfl rfl Tryd.func17 (by kernel_rfl) rfl #[.agg #[.bool a0_0, .string a0_1, .string a0_2]] rfl (by (try simp only [List.map_toArray, List.map_cons, List.map_nil]); first | done | rfl | (simp only [List.length_drop, List.length_take]; rfl)) ?_; (with_reducible refine (decimal_Check.calls k a0_0 a0_1 a0_2 t951 _ A3.out).mono ?_); rintro e w10 ⟨rfl, hb⟩; refine ⟨_, rfl, ?_⟩; have n0_ := Aside0.mk (blk_below (g := gb949) (o := .cells #[.bool a0_0, .string a0_1, .string a0_2] 23 (0, 0)) BK949.out hb); have n1_ := Aside0.mk (blk_below (g := gb950) (o := .cells #[.bool false, .string (⟨#[]⟩ : ByteArray), .string (⟨#[]⟩ : ByteArray)] 23 (0, 0)) BK950.out hb); have n2_ := Aside0.mk (below_step HB.out hb); clear BK949; clear BK950; clear HB; have BK949 := n0_; have BK950 := n1_; have HB := n2_; clear n0_ n1_ n2_))
  (try simp only [Act.put, List.setIfInBounds_toArray, List.set_cons_zero, List.set_cons_succ])
  go_cut [19] (fun v19 wc => ∃ (kq : Nat) (x19_4 : Bool), v19 = .bool x19_4 ∧ Aside0 (decimal_Pad.j0 kq a1 x19_4 a0_0 a0_1 a0_2 = some (r1, r2, r3, r4)) ∧ Aside0 (kq ≤ k) ∧ Aside0 (wc.heap[gb949]? = some (.cells #[.bool a0_0, .string a0_1, .string a0_2] 23 (0, 0))) ∧ Aside0 (wc.heap[gb950]? = some (.cells #[.bool false, .string (⟨#[]⟩ : ByteArray), .string (⟨#[]⟩ : ByteArray)] 23 (0, 0))) ∧ Aside0 (Below w.heap.size w wc))
  case first =>
   have H := HC5.out
   clear HC5
   by_cases c11 : a1 < 0
   ·rw [if_pos c11] at H
    have c11b0 : decide (a1 < 0) = true := decide_eq_true c11
    clear c11
    (first | rw [c11b0] | (simp only [i64_w, i32_w]; rw [c11b0]) | skip)
    have H' := Aside0.mk H
    clear H
    go_wp2
    go_meet
    case rel => exact ⟨_, (true), (by first | rfl | (simp; done) | (simp [*]; done)), H', ⟨by first | omega | exact Nat.le_refl _⟩, ⟨by exact BK949.out⟩, ⟨by exact BK950.out⟩, ⟨by repeat (first | (with_reducible first | exact HB.out | apply below_alloc | apply pw_below_drewN | apply below_drew1 | refine below_set ?_ GE949.out | refine below_set ?_ GE950.out) | exact HB.out)⟩⟩
   ·rw [if_neg c11] at H
    have c11b0 : decide (a1 < 0) = false := decide_eq_false c11
    clear c11
    (first | rw [c11b0] | (simp only [i64_w, i32_w]; rw [c11b0]) | skip)
    have H' := Aside0.mk H
    clear H
    go_wp2
    go_meet
    case rel => exact ⟨_, (decide (a1 > 40)), (by first | rfl | (simp; done) | (simp [*]; done)), H', ⟨by first | omega | exact Nat.le_refl _⟩, ⟨by exact BK949.out⟩, ⟨by exact BK950.out⟩, ⟨by repeat (first | (with_reducible first | exact HB.out | apply below_alloc | apply pw_below_drewN | apply below_drew1 | refine below_set ?_ GE949.out | refine below_set ?_ GE950.out) | exact HB.out)⟩⟩
  case rest =>
   clear HC5
   try clear c1
   try clear p2
   try clear c4
   try clear c4b0
   try clear c4b1
   try clear c8
   try clear c11
   try clear c11b0
   try clear hcz9_0
   try clear hcz9_1
   try clear hcz9_2
   try clear hfz9_0
   try clear hfz9_1
   try clear hfz9_2
   obtain ⟨kq, x19_4, rfl, HA, HJ4, BK949, BK950, HB⟩ := hcut
   cases kq with
   | zero => exact absurd HA.out (by simp [decimal_Pad.j0])
   | succ kj4 =>
    have H := HA.out
    clear HA
    simp only [decimal_Pad.j0] at H
    by_cases c12 : x19_4 = true
    ·subst c12
     have H1 : (some (false, (⟨#[]⟩ : ByteArray), (⟨#[]⟩ : ByteArray), 1)) = some (r1, r2, r3, r4) := by rw [if_pos rfl] at H; exact H
     clear H
     have H := H1
     clear H1
     simp only [Option.some.injEq, Prod.mk.injEq] at H
     obtain ⟨rfl, rfl, rfl, rfl⟩ := H
     have hnb13 := NB950_949.out
     have hnc13 := NB949_950.out
     have hcz14_0 : wc.cell? ⟨gb950, 0, none⟩ = some (.bool false) := (blk_cell BK950.out 0).trans rfl
     have hcz14_1 : wc.cell? ⟨gb950, 1, none⟩ = some (.string (⟨#[]⟩ : ByteArray)) := (blk_cell BK950.out 1).trans rfl
     have hcz14_2 : wc.cell? ⟨gb950, 2, none⟩ = some (.string (⟨#[]⟩ : ByteArray)) := (blk_cell BK950.out 2).trans rfl
     have hfz14_0 := blk_frozen BK950.out 0
     have hfz14_1 := blk_frozen BK950.out 1
     have hfz14_2 := blk_frozen BK950.out 2
     go_wp2
     refine bodyPost_ret (results_ct rfl _ _ gb950 23 #[.bool false, .string (⟨#[]⟩ : ByteArray), .string (⟨#[]⟩ : ByteArray)] (0, 0) _ rfl (by refine blk_put (cs := #[.bool false, .string (⟨#[]⟩ : ByteArray), .string (⟨#[]⟩ : ByteArray)]) ?_ 2 _ rfl; refine blk_put (cs := #[.bool false, .string (⟨#[]⟩ : ByteArray), .string (⟨#[]⟩ : ByteArray)]) ?_ 1 _ rfl; refine blk_put (cs := #[.bool false, .string (⟨#[]⟩ : ByteArray), .string (⟨#[]⟩ : ByteArray)]) ?_ 0 _ rfl; exact BK950.out) Tryd.underlying23 rfl (by kernel_rfl)) rfl ?_
     exact ⟨by first | rfl | (simp [errW_none, errW_some] <;> rfl) | (simp [*, errW_none, errW_some] <;> rfl) | (simp [bne_nil_]; done), by repeat (first | (with_reducible first | exact HB.out | apply below_alloc | apply pw_below_drewN | apply below_drew1 | refine below_set ?_ GE949.out | refine below_set ?_ GE950.out) | exact HB.out)⟩
    ·replace c12 := Bool.eq_false_iff.mpr c12
     subst c12
     have H1 : (if (wrap64 (a1 - (a0_2.size : Int))) > 0 then (if (wrap64 ((a0_1.size : Int) + a1)) > 40 then (some (false, (⟨#[]⟩ : ByteArray), (⟨#[]⟩ : ByteArray), 3)) else ((strings_Repeat.f (⟨#[48]⟩ : ByteArray) (wrap64 (a1 - (a0_2.size : Int)))).bind fun t952 => (if a0_2.size + t952.size ≤ 9223372036854775807 then (some (a0_0, a0_1, a0_2 ++ t952, 0)) else (none)))) else (some (a0_0, a0_1, a0_2, 0))) = some (r1, r2, r3, r4) := by rw [if_neg (show ¬ (false = true) by decide)] at H; exact H
     clear H
     have H := H1
     clear H1
     by_cases c15 : (wrap64 (a1 - (a0_2.size : Int))) > 0
     ·rw [if_pos c15] at H
      have c15b0 : decide (0 < (wrap64 (a1 - (a0_2.size : Int)))) = true := decide_eq_true c15
      clear c15
      by_cases c16 : (wrap64 ((a0_1.size : Int) + a1)) > 40
      ·rw [if_pos c16] at H
       have c16b0 : decide (40 < (wrap64 ((a0_1.size : Int) + a1))) = true := decide_eq_true c16
       clear c16
       simp only [Option.some.injEq, Prod.mk.injEq] at H
       obtain ⟨rfl, rfl, rfl, rfl⟩ := H
       have hnb17 := NB949_950.out
       have hnc17 := NB950_949.out
       have hcz18_0 : wc.cell? ⟨gb949, 0, none⟩ = some (.bool a0_0) := (blk_cell BK949.out 0).trans rfl
       have hcz18_1 : wc.cell? ⟨gb949, 1, none⟩ = some (.string a0_1) := (blk_cell BK949.out 1).trans rfl
       have hcz18_2 : wc.cell? ⟨gb949, 2, none⟩ = some (.string a0_2) := (blk_cell BK949.out 2).trans rfl
       have hfz18_0 := blk_frozen BK949.out 0
       have hfz18_1 := blk_frozen BK949.out 1
       have hfz18_2 := blk_frozen BK949.out 2
       have hcz19_0 : wc.cell? ⟨gb950, 0, none⟩ = some (.bool false) := (blk_cell BK950.out 0).trans rfl
       have hcz19_1 : wc.cell? ⟨gb950, 1, none⟩ = some (.string (⟨#[]⟩ : ByteArray)) := (blk_cell BK950.out 1).trans rfl
       have hcz19_2 : wc.cell? ⟨gb950, 2, none⟩ = some (.string (⟨#[]⟩ : ByteArray)) := (blk_cell BK950.out 2).trans rfl
       have hfz19_0 := blk_frozen BK950.out 0
       have hfz19_1 := blk_frozen BK950.out 1
       have hfz19_2 := blk_frozen BK950.out 2
       go_wp2
       refine bodyPost_ret (results_ct rfl _ _ gb950 23 #[.bool false, .string (⟨#[]⟩ : ByteArray), .string (⟨#[]⟩ : ByteArray)] (0, 0) _ rfl (by refine blk_put (cs := #[.bool false, .string (⟨#[]⟩ : ByteArray), .string (⟨#[]⟩ : ByteArray)]) ?_ 2 _ rfl; refine blk_put (cs := #[.bool false, .string (⟨#[]⟩ : ByteArray), .string (⟨#[]⟩ : ByteArray)]) ?_ 1 _ rfl; refine blk_put (cs := #[.bool false, .string (⟨#[]⟩ : ByteArray), .string (⟨#[]⟩ : ByteArray)]) ?_ 0 _ rfl; exact BK950.out) Tryd.underlying23 rfl (by kernel_rfl)) rfl ?_
       exact ⟨by first | rfl | (simp [errW_none, errW_some] <;> rfl) | (simp [*, errW_none, errW_some] <;> rfl) | (simp [bne_nil_]; done), by repeat (first | (with_reducible first | exact HB.out | apply below_alloc | apply pw_below_drewN | apply below_drew1 | refine below_set ?_ GE949.out | refine below_set ?_ GE950.out) | exact HB.out)⟩
      ·rw [if_neg c16] at H
       have c16b0 : decide (40 < (wrap64 ((a0_1.size : Int) + a1))) = false := decide_eq_false c16
       clear c16
       replace H := Option.bind_eq_some_iff.mp H
       obtain ⟨t952, A200, H⟩ := H
       try dsimp only at H
       have A20 := Aside0.mk A200
       clear A200
       by_cases c21 : a0_2.size + t952.size ≤ 9223372036854775807
       ·rw [if_pos c21] at H
        have c21b0 := eq_true c21
        have c21b1 : decide (a0_2.size + t952.size ≤ 9223372036854775807) = true := decide_eq_true c21
        try have c21b2 : (9223372036854775807 < a0_2.size + t952.size) = False := eq_false (Nat.not_lt.2 c21)
        simp only [Option.some.injEq, Prod.mk.injEq] at H
        obtain ⟨rfl, rfl, rfl, rfl⟩ := H
        have hnb22 := NB949_950.out
        have hnc22 := NB950_949.out
        have hcz23_0 : wc.cell? ⟨gb949, 0, none⟩ = some (.bool a0_0) := (blk_cell BK949.out 0).trans rfl
        have hcz23_1 : wc.cell? ⟨gb949, 1, none⟩ = some (.string a0_1) := (blk_cell BK949.out 1).trans rfl
        have hcz23_2 : wc.cell? ⟨gb949, 2, none⟩ = some (.string a0_2) := (blk_cell BK949.out 2).trans rfl
        have hfz23_0 := blk_frozen BK949.out 0
        have hfz23_1 := blk_frozen BK949.out 1
        have hfz23_2 := blk_frozen BK949.out 2
        try go_wp2
        have n0_ := Aside0.mk (blk_drew BK949.out)
        have n1_ := Aside0.mk (blk_drew BK950.out)
        have n2_ := Aside0.mk (below_drew1 HB.out)
        clear BK949
        clear BK950
        clear HB
        have BK949 := n0_
        have BK950 := n1_
        have HB := n2_
        clear n0_ n1_ n2_
        refine start_ (n := 7) (S := fun w' => w'.cell? ⟨gb949, 0, none⟩ = some (.bool a0_0) ∧ w'.cell? ⟨gb949, 1, none⟩ = some (.string a0_1) ∧ w'.cell? ⟨gb949, 2, none⟩ = some (.string a0_2)) (ds := [6]) #[false, false, false, false, false, false, false] (by kernel_rfl) rfl rfl ⟨(blk_cell BK949.out 0).trans rfl, (blk_cell BK949.out 1).trans rfl, (blk_cell BK949.out 2).trans rfl⟩ (fun hHeld => ?_)
        generalize wc.drew = w24 at BK949 BK950 HB hHeld ⊢
        refine pure_ (i := 0) (N := some 35) (v := ?_) (a' := ?_) #[true, false, false, false, false, false, false] rfl rfl (by kernel_rfl) (fun _ _ _ h => h) (Or.inl ⟨by rfl, ?_⟩) ?_ ?_
        rotate_left
        ·intro w'
         go_simp
         with_reducible rfl
        rotate_left
        ·simp only [Act.put, List.setIfInBounds_toArray, List.set_cons_zero, List.set_cons_succ, i64_w, i32_w]
         rfl
        refine pure_ (i := 2) (N := some 37) (v := ?_) (a' := ?_) #[true, false, true, false, false, false, false] rfl rfl (by kernel_rfl) (fun _ _ _ h => h) (Or.inl ⟨by rfl, ?_⟩) ?_ ?_
        rotate_left
        ·intro w'
         go_simp
         with_reducible rfl
        rotate_left
        ·simp only [Act.put, List.setIfInBounds_toArray, List.set_cons_zero, List.set_cons_succ, i64_w, i32_w]
         rfl
        refine take_ (i := 1) (N := some 36) (v := ?_) (a' := ?_) #[true, true, true, false, false, false, false] rfl rfl (by kernel_rfl) (fun _ _ _ h => h) (Or.inl ⟨by rfl, ?_⟩) hHeld ?_ ?_
        rotate_left
        ·rintro w' ⟨s0, s1, s2⟩
         go_simp
         with_reducible rfl
        rotate_left
        ·simp only [Act.put, List.setIfInBounds_toArray, List.set_cons_zero, List.set_cons_succ, i64_w, i32_w]
         rfl
        refine one_ (i := 3) (N := some 38) #[true, true, true, true, false, false, false] rfl rfl (by kernel_rfl) (by decide) (fun K hK => ?_)
        refine goes_ Tryd.func73 (by kernel_rfl) rfl #[.string (⟨#[48]⟩ : ByteArray), .int .i64 (wrap64 (a1 - (a0_2.size : Int)))] (by rfl) rfl rfl (by (try simp only [List.map_toArray, List.map_cons, List.map_nil]); first | done | rfl | (simp only [List.length_drop, List.length_take]; rfl)) ?_
        with_reducible refine (strings_Repeat.calls (⟨#[48]⟩ : ByteArray) (wrap64 (a1 - (a0_2.size : Int))) t952 _ A20.out).mono ?_
        rintro e w25 ⟨rfl, hb⟩
        refine ⟨_, rfl, ?_⟩
        have n0_ := Aside0.mk (blk_below (g := gb949) (o := .cells #[.bool a0_0, .string a0_1, .string a0_2] 23 (0, 0)) BK949.out hb)
        have n1_ := Aside0.mk (blk_below (g := gb950) (o := .cells #[.bool false, .string (⟨#[]⟩ : ByteArray), .string (⟨#[]⟩ : ByteArray)] 23 (0, 0)) BK950.out hb)
        have n2_ := Aside0.mk (below_step HB.out hb)
        clear BK949
        clear BK950
        clear HB
        have BK949 := n0_
        have BK950 := n1_
        have HB := n2_
        clear n0_ n1_ n2_
        (try clear hb)
        (try clear hb2)
        (try clear hk)
        (try clear hi)
        refine hK.out _ _ ⟨(blk_cell BK949.out 0).trans rfl, (blk_cell BK949.out 1).trans rfl, (blk_cell BK949.out 2).trans rfl⟩ (fun hHeld => ?_)
        clear hK K
        refine norm_ (a' := ?_) ?_ ?_
        rotate_left
        ·show Act.put _ (some 38) _ = _
         simp only [Act.put, List.setIfInBounds_toArray, List.set_cons_zero, List.set_cons_succ, i64_w, i32_w]
         rfl
        refine pure_ (i := 4) (N := some 39) (v := ?_) (a' := ?_) #[true, true, true, true, true, false, false] rfl rfl (by kernel_rfl) (fun _ _ _ h => h) (Or.inl ⟨by rfl, ?_⟩) ?_ ?_
        rotate_left
        ·intro w'
         go_simp
         with_reducible rfl
        rotate_left
        ·simp only [Act.put, List.setIfInBounds_toArray, List.set_cons_zero, List.set_cons_succ, i64_w, i32_w]
         rfl
        refine pure_ (i := 5) (N := some 40) (v := ?_) (a' := ?_) #[true, true, true, true, true, true, false] rfl rfl (by kernel_rfl) (fun _ _ _ h => h) (Or.inl ⟨by rfl, ?_⟩) ?_ ?_
        rotate_left
        ·intro w'
         go_simp
         with_reducible rfl
        rotate_left
        ·simp only [Act.put, List.setIfInBounds_toArray, List.set_cons_zero, List.set_cons_succ, i64_w, i32_w]
         rfl
        refine last_ (i := 6) (N := none) #[true, true, true, true, true, true, true] rfl rfl (by kernel_rfl) (by decide) (fun K hK => ?_)
        have hs26 : w25.cell? ⟨gb949, 2, none⟩ = some (.string a0_2) := (blk_cell BK949.out 2).trans rfl
        have hfs26 := blk_frozen BK949.out 2
        have hns26_1 := NB950_949.out
        have hms26_1 := NB949_950.out
        refine skip_ (w1 := ?_) (by rfl) rfl ?_ ?_
        rotate_left
        ·go_simp
         rfl
        refine hK.out _ _ ?_
        clear hK K
        refine done_ (by kernel_rfl) ?_
        have hcz27_0 : w25.cell? ⟨gb949, 0, none⟩ = some (.bool a0_0) := (blk_cell BK949.out 0).trans rfl
        have hcz27_1 : w25.cell? ⟨gb949, 1, none⟩ = some (.string a0_1) := (blk_cell BK949.out 1).trans rfl
        have hcz27_2 : w25.cell? ⟨gb949, 2, none⟩ = some (.string a0_2) := (blk_cell BK949.out 2).trans rfl
        have hfz27_0 := blk_frozen BK949.out 0
        have hfz27_1 := blk_frozen BK949.out 1
        have hfz27_2 := blk_frozen BK949.out 2
        have hcz28_0 : w25.cell? ⟨gb950, 0, none⟩ = some (.bool false) := (blk_cell BK950.out 0).trans rfl
        have hcz28_1 : w25.cell? ⟨gb950, 1, none⟩ = some (.string (⟨#[]⟩ : ByteArray)) := (blk_cell BK950.out 1).trans rfl
        have hcz28_2 : w25.cell? ⟨gb950, 2, none⟩ = some (.string (⟨#[]⟩ : ByteArray)) := (blk_cell BK950.out 2).trans rfl
        have hfz28_0 := blk_frozen BK950.out 0
        have hfz28_1 := blk_frozen BK950.out 1
        have hfz28_2 := blk_frozen BK950.out 2
        try go_wp2
        refine bodyPost_ret (results_ct rfl _ _ gb950 23 #[.bool a0_0, .string a0_1, .string (a0_2 ++ t952)] (0, 0) _ rfl (by refine blk_put (cs := #[.bool a0_0, .string a0_1, .string (⟨#[]⟩ : ByteArray)]) ?_ 2 _ rfl; refine blk_put (cs := #[.bool a0_0, .string (⟨#[]⟩ : ByteArray), .string (⟨#[]⟩ : ByteArray)]) ?_ 1 _ rfl; refine blk_put (cs := #[.bool false, .string (⟨#[]⟩ : ByteArray), .string (⟨#[]⟩ : ByteArray)]) ?_ 0 _ rfl; refine blk_far ?_ NB950_949.out _; exact BK950.out) Tryd.underlying23 rfl (by kernel_rfl)) rfl ?_
        exact ⟨by first | rfl | (simp [errW_none, errW_some] <;> rfl) | (simp [*, errW_none, errW_some] <;> rfl) | (simp [bne_nil_]; done), by repeat (first | (with_reducible first | exact HB.out | apply below_alloc | apply pw_below_drewN | apply below_drew1 | refine below_set ?_ GE949.out | refine below_set ?_ GE950.out) | exact HB.out)⟩
       ·rw [if_neg c21] at H
        exact absurd H (by simp)
     ·rw [if_neg c15] at H
      have c15b0 : decide (0 < (wrap64 (a1 - (a0_2.size : Int)))) = false := decide_eq_false c15
      clear c15
      simp only [Option.some.injEq, Prod.mk.injEq] at H
      obtain ⟨rfl, rfl, rfl, rfl⟩ := H
      have hnb29 := NB949_950.out
      have hnc29 := NB950_949.out
      have hcz30_0 : wc.cell? ⟨gb949, 0, none⟩ = some (.bool a0_0) := (blk_cell BK949.out 0).trans rfl
      have hcz30_1 : wc.cell? ⟨gb949, 1, none⟩ = some (.string a0_1) := (blk_cell BK949.out 1).trans rfl
      have hcz30_2 : wc.cell? ⟨gb949, 2, none⟩ = some (.string a0_2) := (blk_cell BK949.out 2).trans rfl
      have hfz30_0 := blk_frozen BK949.out 0
      have hfz30_1 := blk_frozen BK949.out 1
      have hfz30_2 := blk_frozen BK949.out 2
      have hcz31_0 : wc.cell? ⟨gb950, 0, none⟩ = some (.bool false) := (blk_cell BK950.out 0).trans rfl
      have hcz31_1 : wc.cell? ⟨gb950, 1, none⟩ = some (.string (⟨#[]⟩ : ByteArray)) := (blk_cell BK950.out 1).trans rfl
      have hcz31_2 : wc.cell? ⟨gb950, 2, none⟩ = some (.string (⟨#[]⟩ : ByteArray)) := (blk_cell BK950.out 2).trans rfl
      have hfz31_0 := blk_frozen BK950.out 0
      have hfz31_1 := blk_frozen BK950.out 1
      have hfz31_2 := blk_frozen BK950.out 2
      go_wp2
      refine bodyPost_ret (results_ct rfl _ _ gb950 23 #[.bool a0_0, .string a0_1, .string a0_2] (0, 0) _ rfl (by refine blk_put (cs := #[.bool a0_0, .string a0_1, .string (⟨#[]⟩ : ByteArray)]) ?_ 2 _ rfl; refine blk_put (cs := #[.bool a0_0, .string (⟨#[]⟩ : ByteArray), .string (⟨#[]⟩ : ByteArray)]) ?_ 1 _ rfl; refine blk_put (cs := #[.bool false, .string (⟨#[]⟩ : ByteArray), .string (⟨#[]⟩ : ByteArray)]) ?_ 0 _ rfl; exact BK950.out) Tryd.underlying23 rfl (by kernel_rfl)) rfl ?_
      exact ⟨by first | rfl | (simp [errW_none, errW_some] <;> rfl) | (simp [*, errW_none, errW_some] <;> rfl) | (simp [bne_nil_]; done), by repeat (first | (with_reducible first | exact HB.out | apply below_alloc | apply pw_below_drewN | apply below_drew1 | refine below_set ?_ GE949.out | refine below_set ?_ GE950.out) | exact HB.out)⟩
 ·rw [if_neg c4] at H
  have c4b0 : (t951 == 0) = false := beq_eq_false_iff_ne.mpr c4
  have c4b1 : (t951 != 0) = true := bne_iff_ne.mpr c4
  simp only [Option.some.injEq, Prod.mk.injEq] at H
  obtain ⟨rfl, rfl, rfl, rfl⟩ := H
  go_enter Tryd.func42, Tryd.ntmps42
  go_wp2_with (first | ((with_reducible refine gate_dst (N := 2) rfl ?_); refine box_event ?hg (N := 2) ?hd (cs := #[.bool a0_0, .string a0_1, .string a0_2]) (t := 23) ?hr ?_; (case hd => rfl); (case hg => rfl); (case hr => first | (go_simp; done) | (go_simp; rfl)); intro gb949 hg w32 hbox hb; have n0_ := Aside0.mk (below_step HB.out hb); have n1_ := Aside0.mk (hbox); have n2_ := Aside0.mk ((by rw [hg]; exact (below_size HB.out) : w.heap.size ≤ gb949)); have n3_ := Aside0.mk ((by rw [hg]; exact (below_size HB.out) : w.heap.size ≤ gb949)); clear HB; have HB := n0_; have BK949 := n1_; have GW949 := n2_; have GE949 := n3_; clear n0_ n1_ n2_ n3_; clear hb hbox hg) | ((with_reducible refine gate_dst (N := 4) rfl ?_); refine box_event ?hg (N := 4) ?hd (cs := #[.bool false, .string (⟨#[]⟩ : ByteArray), .string (⟨#[]⟩ : ByteArray)]) (t := 23) ?hr ?_; (case hd => rfl); (case hg => rfl); (case hr => first | (go_simp; done) | (go_simp; rfl)); intro gb950 hg w33 hbox hb; have n0_ := Aside0.mk (blk_below (g := gb949) (o := .cells #[.bool a0_0, .string a0_1, .string a0_2] 23 (0, 0)) BK949.out hb); have n1_ := Aside0.mk (below_step HB.out hb); have n2_ := Aside0.mk (hbox); have n3_ := Aside0.mk ((by rw [hg]; exact (below_size HB.out) : w.heap.size ≤ gb950)); have n4_ := Aside0.mk ((by rw [hg]; exact (below_size HB.out) : w.heap.size ≤ gb950)); have n5_ := Aside0.mk ((by rw [hg]; exact Nat.ne_of_lt (blk_lt (g := gb949) (o := .cells #[.bool a0_0, .string a0_1, .string a0_2] 23 (0, 0)) BK949.out) : gb949 ≠ gb950)); have n6_ := Aside0.mk ((by rw [hg]; exact Nat.ne_of_gt (blk_lt (g := gb949) (o := .cells #[.bool a0_0, .string a0_1, .string a0_2] 23 (0, 0)) BK949.out) : gb950 ≠ gb949)); clear BK949; clear HB; have BK949 := n0_; have HB := n1_; have BK950 := n2_; have GW950 := n3_; have GE950 := n4_; have NB949_950 := n5_; have NB950_949 := n6_; clear n0_ n1_ n2_ n3_ n4_ n5_ n6_; clear hb hbox hg; have hnb34 := NB949_950.out; have hnc34 := NB950_949.out; have hcz35_0 : w33.cell? ⟨gb949, 0, none⟩ = some (.bool a0_0) := (blk_cell BK949.out 0).trans rfl; have hcz35_1 : w33.cell? ⟨gb949, 1, none⟩ = some (.string a0_1) := (blk_cell BK949.out 1).trans rfl; have hcz35_2 : w33.cell? ⟨gb949, 2, none⟩ = some (.string a0_2) := (blk_cell BK949.out 2).trans rfl; have hfz35_0 := blk_frozen BK949.out 0; have hfz35_1 := blk_frozen BK949.out 1; have hfz35_2 := blk_frozen BK949.out 2) | ((with_reducible refine gate_callee (f := 17) rfl ?_); refine goesL_ (some 9) rfl rfl Tryd.func17 (by kernel_rfl) rfl #[.agg #[.bool a0_0, .string a0_1, .string a0_2]] rfl (by (try simp only [List.map_toArray, List.map_cons, List.map_nil]); first | done | rfl | (simp only [List.length_drop, List.length_take]; rfl)) ?_; (with_reducible refine (decimal_Check.calls k a0_0 a0_1 a0_2 t951 _ A3.out).mono ?_); rintro e w36 ⟨rfl, hb⟩; refine ⟨_, rfl, ?_⟩; have n0_ := Aside0.mk (blk_below (g := gb949) (o := .cells #[.bool a0_0, .string a0_1, .string a0_2] 23 (0, 0)) BK949.out hb); have n1_ := Aside0.mk (blk_below (g := gb950) (o := .cells #[.bool false, .string (⟨#[]⟩ : ByteArray), .string (⟨#[]⟩ : ByteArray)] 23 (0, 0)) BK950.out hb); have n2_ := Aside0.mk (below_step HB.out hb); clear BK949; clear BK950; clear HB; have BK949 := n0_; have BK950 := n1_; have HB := n2_; clear n0_ n1_ n2_; have hcz37_0 : w36.cell? ⟨gb950, 0, none⟩ = some (.bool false) := (blk_cell BK950.out 0).trans rfl; have hcz37_1 : w36.cell? ⟨gb950, 1, none⟩ = some (.string (⟨#[]⟩ : ByteArray)) := (blk_cell BK950.out 1).trans rfl; have hcz37_2 : w36.cell? ⟨gb950, 2, none⟩ = some (.string (⟨#[]⟩ : ByteArray)) := (blk_cell BK950.out 2).trans rfl; have hfz37_0 := blk_frozen BK950.out 0; have hfz37_1 := blk_frozen BK950.out 1; have hfz37_2 := blk_frozen BK950.out 2))
  refine bodyPost_ret (results_ct rfl _ _ gb950 23 #[.bool false, .string (⟨#[]⟩ : ByteArray), .string (⟨#[]⟩ : ByteArray)] (0, 0) _ rfl (by refine blk_put (cs := #[.bool false, .string (⟨#[]⟩ : ByteArray), .string (⟨#[]⟩ : ByteArray)]) ?_ 2 _ rfl; refine blk_put (cs := #[.bool false, .string (⟨#[]⟩ : ByteArray), .string (⟨#[]⟩ : ByteArray)]) ?_ 1 _ rfl; refine blk_put (cs := #[.bool false, .string (⟨#[]⟩ : ByteArray), .string (⟨#[]⟩ : ByteArray)]) ?_ 0 _ rfl; exact BK950.out) Tryd.underlying23 rfl (by kernel_rfl)) rfl ?_
  exact ⟨by first | rfl | (simp [errW_none, errW_some] <;> rfl) | (simp [*, errW_none, errW_some] <;> rfl) | (simp [bne_nil_]; done), by repeat (first | (with_reducible first | exact HB.out | apply below_alloc | apply pw_below_drewN | apply below_drew1 | refine below_set ?_ GE949.out | refine below_set ?_ GE950.out) | exact HB.out)⟩
end Go.Proofs.YtapbdblpdkoacaaDoor.P
namespace Go.Proofs.YtapbdblpdkoacaaDoor.P
open Go.RowKit Go.Proofs.YtapbdblpdkoacaaDoorW.PrintWords Go.Proofs.YtapbdblpdkoacaaDoorW.PrintLast Go.Proofs.YtapbdblpdkoacaaDoorW.PrintMore
attribute [local go_sem] max2_int max_two
set_option linter.unusedVariables false
set_option linter.unusedSimpArgs false
def idiomlaw02_fine.l0 : Nat → List (S23) → Int → Option (Bool)
  | 0, _, _ => none
  | k + 1, x0, x3 => if x3 < (x0.length : Int) then (if 0 ≤ x3 then ((idiomref02_Check.f k ((rd_T23 x0 x3).f0) ((rd_T23 x0 x3).f1) ((rd_T23 x0 x3).f2)).bind fun t526 => (if t526 = 0 then (idiomlaw02_fine.l0 k x0 (wrap64 (x3 + 1))) else (some false))) else (none)) else (some true)
def idiomlaw02_fine.f (k : Nat) (l0 : List (S23)) : Option (Bool) := idiomlaw02_fine.l0 k l0 0
set_option maxHeartbeats 8000000 in
set_option maxRecDepth 100000 in
theorem idiomlaw02_fine.calls (k : Nat) (A0 : Option Addr) (c0 : Nat) (l0 : List (S23)) (r : Bool) (w : World) (hr0 : Kd.C k23 w A0 l0.length l0) (hc0 : l0.length ≤ c0) (h : idiomlaw02_fine.f k l0 = some r) :
    Calls Tryd.prog 27 #[.slice A0 l0.length c0] w fun e w' => e = .returned (.bool r) ∧ Below w.heap.size w w' := by
 have hu23 := Tryd.underlying23
 have HR0 := Aside0.mk hr0
 have HC0 := Aside0.mk hc0
 clear hr0 hc0
 have HB := Aside0.mk (Below.refl w.heap.size w)
 unfold idiomlaw02_fine.f at h
 have H := h
 clear h
 have H' := Aside0.mk H
 clear H
 go_enter Tryd.func27, Tryd.ntmps27
 go_wp2
 go_loopg [3] k (fun kq v3 w' => ∃ (x3_1 : Int), v3 = .int .i64 x3_1 ∧ Aside0 (idiomlaw02_fine.l0 kq l0 x3_1 = some r) ∧ Aside0 (kq ≤ k) ∧ Aside0 (Below w.heap.size w w'))
 case atStart => exact ⟨(0), (by first | rfl | (simp; done) | (simp [*]; done)), H', ⟨Nat.le_refl _⟩, ⟨by repeat (first | (with_reducible first | exact HB.out | apply below_alloc | apply pw_below_drewN | apply below_drew1) | exact HB.out)⟩⟩
 case round =>
  clear H'
  obtain ⟨x3_1, rfl, HA, HK1, HB⟩ := hrel
  cases gk with
  | zero => exact absurd HA.out (by simp [idiomlaw02_fine.l0])
  | succ k1 =>
   have H := HA.out
   clear HA
   simp only [idiomlaw02_fine.l0] at H
   by_cases c2 : x3_1 < (l0.length : Int)
   ·rw [if_pos c2] at H
    have c2b0 : decide (x3_1 < (l0.length : Int)) = true := decide_eq_true c2
    clear c2
    by_cases c3 : 0 ≤ x3_1
    ·rw [if_pos c3] at H
     have c3b0 : decide (0 ≤ x3_1) = true := decide_eq_true c3
     clear c3
     replace H := Option.bind_eq_some_iff.mp H
     obtain ⟨t526, A40, H⟩ := H
     try dsimp only at H
     have A4 := Aside0.mk A40
     clear A40
     by_cases c5 : t526 = 0
     ·rw [if_pos c5] at H
      have c5b0 : (t526 == 0) = true := beq_iff_eq.mpr c5
      have c5b1 : (t526 != 0) = false := bne_eq_false_iff_eq.mpr c5
      clear c5
      have H' := Aside0.mk H
      clear H
      have p525 : 0 ≤ (x3_1 : Int) := of_decide_eq_true (by first | (with_reducible assumption) | assumption)
      have q525 : x3_1 < (l0.length : Int) := of_decide_eq_true (by first | (with_reducible assumption) | assumption)
      obtain ⟨ad525, e525, hx525_0, hx525_1, hx525_2⟩ := at_T23 HR0.out x3_1 p525 q525
      cases e525
      replace hx525_0 := (HB.out.cell (World.block_lt_of_cell? w _ hx525_0)).trans hx525_0
      replace hx525_1 := (HB.out.cell (World.block_lt_of_cell? w _ hx525_1)).trans hx525_1
      replace hx525_2 := (HB.out.cell (World.block_lt_of_cell? w _ hx525_2)).trans hx525_2
      replace p525 := eq_true p525
      replace q525 := eq_true q525
      go_wp2_with (first | ((with_reducible refine gate_callee (f := 18) rfl ?_); refine goesL_ (some 14) rfl rfl Tryd.func18 (by kernel_rfl) rfl #[.agg #[.bool ((rd_T23 l0 x3_1).f0), .string ((rd_T23 l0 x3_1).f1), .string ((rd_T23 l0 x3_1).f2)]] rfl (by (try simp only [List.map_toArray, List.map_cons, List.map_nil]); first | done | rfl | (simp only [List.length_drop, List.length_take]; rfl)) ?_; (with_reducible refine (idiomref02_Check.calls k1 ((rd_T23 l0 x3_1).f0) ((rd_T23 l0 x3_1).f1) ((rd_T23 l0 x3_1).f2) t526 _ A4.out).mono ?_); rintro e w6 ⟨rfl, hb⟩; refine ⟨_, rfl, ?_⟩; have n0_ := Aside0.mk (below_step HB.out hb); clear HB; have HB := n0_; clear n0_))
      go_roundg k1
      case measure => have := HK1.out; omega
      case rel => exact ⟨(wrap64 (x3_1 + 1)), (by first | rfl | (simp; done) | (simp [*]; done)), H', ⟨by have := HK1.out; omega⟩, ⟨by repeat (first | (with_reducible first | exact HB.out | apply below_alloc | apply pw_below_drewN | apply below_drew1) | exact HB.out)⟩⟩
     ·rw [if_neg c5] at H
      have c5b0 : (t526 == 0) = false := beq_eq_false_iff_ne.mpr c5
      have c5b1 : (t526 != 0) = true := bne_iff_ne.mpr c5
      obtain rfl := Option.some.inj H
      have p525 : 0 ≤ (x3_1 : Int) := of_decide_eq_true (by first | (with_reducible assumption) | assumption)
      have q525 : x3_1 < (l0.length : Int) := of_decide_eq_true (by first | (with_reducible assumption) | assumption)
      obtain ⟨ad525, e525, hx525_0, hx525_1, hx525_2⟩ := at_T23 HR0.out x3_1 p525 q525
      cases e525
      replace hx525_0 := (HB.out.cell (World.block_lt_of_cell? w _ hx525_0)).trans hx525_0
      replace hx525_1 := (HB.out.cell (World.block_lt_of_cell? w _ hx525_1)).trans hx525_1
      replace hx525_2 := (HB.out.cell (World.block_lt_of_cell? w _ hx525_2)).trans hx525_2
      replace p525 := eq_true p525
      replace q525 := eq_true q525
      go_wp2_with (first | ((with_reducible refine gate_callee (f := 18) rfl ?_); refine goesL_ (some 14) rfl rfl Tryd.func18 (by kernel_rfl) rfl #[.agg #[.bool ((rd_T23 l0 x3_1).f0), .string ((rd_T23 l0 x3_1).f1), .string ((rd_T23 l0 x3_1).f2)]] rfl (by (try simp only [List.map_toArray, List.map_cons, List.map_nil]); first | done | rfl | (simp only [List.length_drop, List.length_take]; rfl)) ?_; (with_reducible refine (idiomref02_Check.calls k1 ((rd_T23 l0 x3_1).f0) ((rd_T23 l0 x3_1).f1) ((rd_T23 l0 x3_1).f2) t526 _ A4.out).mono ?_); rintro e w7 ⟨rfl, hb⟩; refine ⟨_, rfl, ?_⟩; have n0_ := Aside0.mk (below_step HB.out hb); clear HB; have HB := n0_; clear n0_))
      go_ret
      exact ⟨by first | rfl | (simp [errW_none, errW_some] <;> rfl) | (simp [*, errW_none, errW_some] <;> rfl) | (simp [bne_nil_]; done), by repeat (first | (with_reducible first | exact HB.out | apply below_alloc | apply pw_below_drewN | apply below_drew1) | exact HB.out)⟩
    ·rw [if_neg c3] at H
     exact absurd H (by simp)
   ·rw [if_neg c2] at H
    have c2b0 : decide (x3_1 < (l0.length : Int)) = false := decide_eq_false c2
    clear c2
    obtain rfl := Option.some.inj H
    go_wp2
    go_ret
    exact ⟨by first | rfl | (simp [errW_none, errW_some] <;> rfl) | (simp [*, errW_none, errW_some] <;> rfl) | (simp [bne_nil_]; done), by repeat (first | (with_reducible first | exact HB.out | apply below_alloc | apply pw_below_drewN | apply below_drew1) | exact HB.out)⟩
end Go.Proofs.YtapbdblpdkoacaaDoor.P
namespace Go.Proofs.YtapbdblpdkoacaaDoor.P
open Go.RowKit Go.Proofs.YtapbdblpdkoacaaDoorW.PrintWords Go.Proofs.YtapbdblpdkoacaaDoorW.PrintLast Go.Proofs.YtapbdblpdkoacaaDoorW.PrintMore
attribute [local go_sem] max2_int max_two
set_option linter.unusedVariables false
set_option linter.unusedSimpArgs false
def idiomlaw02_great.f (k : Nat) (a0_0 : Bool) (a0_1 : ByteArray) (a0_2 : ByteArray) (a1_0 : Bool) (a1_1 : ByteArray) (a1_2 : ByteArray) : Option (Bool) := (decimal_Compare.f k a0_0 a0_1 a0_2 a1_0 a1_1 a1_2).bind fun bt743 => (if bt743.2 = 0 then (some (bt743.1 == 0)) else (some false))
set_option maxHeartbeats 8000000 in
set_option maxRecDepth 100000 in
theorem idiomlaw02_great.calls (k : Nat) (a0_0 : Bool) (a0_1 : ByteArray) (a0_2 : ByteArray) (a1_0 : Bool) (a1_1 : ByteArray) (a1_2 : ByteArray) (r : Bool) (w : World) (h : idiomlaw02_great.f k a0_0 a0_1 a0_2 a1_0 a1_1 a1_2 = some r) :
    Calls Tryd.prog 37 #[.agg #[.bool a0_0, .string a0_1, .string a0_2], .agg #[.bool a1_0, .string a1_1, .string a1_2]] w fun e w' => e = .returned (.bool r) ∧ Below w.heap.size w w' := by
 have hu23 := Tryd.underlying23
 have HB := Aside0.mk (Below.refl w.heap.size w)
 unfold idiomlaw02_great.f at h
 have H := h
 clear h
 replace H := Option.bind_eq_some_iff.mp H
 obtain ⟨⟨t743, t744⟩, A30, H⟩ := H
 try dsimp only at H
 have A3 := Aside0.mk A30
 clear A30
 by_cases c4 : t744 = 0
 ·rw [if_pos c4] at H
  have c4b0 : (t744 == 0) = true := beq_iff_eq.mpr c4
  have c4b1 : (t744 != 0) = false := bne_eq_false_iff_eq.mpr c4
  clear c4
  obtain rfl := Option.some.inj H
  go_enter Tryd.func37, Tryd.ntmps37
  go_wp2_with (first | ((with_reducible refine gate_dst (N := 2) rfl ?_); refine box_event ?hg (N := 2) ?hd (cs := #[.bool a0_0, .string a0_1, .string a0_2]) (t := 23) ?hr ?_; (case hd => rfl); (case hg => rfl); (case hr => first | (go_simp; done) | (go_simp; rfl)); intro gb741 hg w5 hbox hb; have n0_ := Aside0.mk (below_step HB.out hb); have n1_ := Aside0.mk (hbox); have n2_ := Aside0.mk ((by rw [hg]; exact (below_size HB.out) : w.heap.size ≤ gb741)); have n3_ := Aside0.mk ((by rw [hg]; exact (below_size HB.out) : w.heap.size ≤ gb741)); clear HB; have HB := n0_; have BK741 := n1_; have GW741 := n2_; have GE741 := n3_; clear n0_ n1_ n2_ n3_; clear hb hbox hg) | ((with_reducible refine gate_dst (N := 3) rfl ?_); refine box_event ?hg (N := 3) ?hd (cs := #[.bool a1_0, .string a1_1, .string a1_2]) (t := 23) ?hr ?_; (case hd => rfl); (case hg => rfl); (case hr => first | (go_simp; done) | (go_simp; rfl)); intro gb742 hg w6 hbox hb; have n0_ := Aside0.mk (blk_below (g := gb741) (o := .cells #[.bool a0_0, .string a0_1, .string a0_2] 23 (0, 0)) BK741.out hb); have n1_ := Aside0.mk (below_step HB.out hb); have n2_ := Aside0.mk (hbox); have n3_ := Aside0.mk ((by rw [hg]; exact (below_size HB.out) : w.heap.size ≤ gb742)); have n4_ := Aside0.mk ((by rw [hg]; exact (below_size HB.out) : w.heap.size ≤ gb742)); have n5_ := Aside0.mk ((by rw [hg]; exact Nat.ne_of_lt (blk_lt (g := gb741) (o := .cells #[.bool a0_0, .string a0_1, .string a0_2] 23 (0, 0)) BK741.out) : gb741 ≠ gb742)); have n6_ := Aside0.mk ((by rw [hg]; exact Nat.ne_of_gt (blk_lt (g := gb741) (o := .cells #[.bool a0_0, .string a0_1, .string a0_2] 23 (0, 0)) BK741.out) : gb742 ≠ gb741)); clear BK741; clear HB; have BK741 := n0_; have HB := n1_; have BK742 := n2_; have GW742 := n3_; have GE742 := n4_; have NB741_742 := n5_; have NB742_741 := n6_; clear n0_ n1_ n2_ n3_ n4_ n5_ n6_; clear hb hbox hg; have hnb7 := NB741_742.out; have hnc7 := NB742_741.out; have hcz8_0 : w6.cell? ⟨gb741, 0, none⟩ = some (.bool a0_0) := (blk_cell BK741.out 0).trans rfl; have hcz8_1 : w6.cell? ⟨gb741, 1, none⟩ = some (.string a0_1) := (blk_cell BK741.out 1).trans rfl; have hcz8_2 : w6.cell? ⟨gb741, 2, none⟩ = some (.string a0_2) := (blk_cell BK741.out 2).trans rfl; have hfz8_0 := blk_frozen BK741.out 0; have hfz8_1 := blk_frozen BK741.out 1; have hfz8_2 := blk_frozen BK741.out 2; have hcz9_0 : w6.cell? ⟨gb742, 0, none⟩ = some (.bool a1_0) := (blk_cell BK742.out 0).trans rfl; have hcz9_1 : w6.cell? ⟨gb742, 1, none⟩ = some (.string a1_1) := (blk_cell BK742.out 1).trans rfl; have hcz9_2 : w6.cell? ⟨gb742, 2, none⟩ = some (.string a1_2) := (blk_cell BK742.out 2).trans rfl; have hfz9_0 := blk_frozen BK742.out 0; have hfz9_1 := blk_frozen BK742.out 1; have hfz9_2 := blk_frozen BK742.out 2) | ((with_reducible refine gate_callee (f := 28) rfl ?_); refine goesL_ (some 10) rfl rfl Tryd.func28 (by kernel_rfl) rfl #[.agg #[.bool a0_0, .string a0_1, .string a0_2], .agg #[.bool a1_0, .string a1_1, .string a1_2]] rfl (by (try simp only [List.map_toArray, List.map_cons, List.map_nil]); first | done | rfl | (simp only [List.length_drop, List.length_take]; rfl)) ?_; (with_reducible refine (decimal_Compare.calls k a0_0 a0_1 a0_2 a1_0 a1_1 a1_2 t743 t744 _ A3.out).mono ?_); rintro e w10 ⟨rfl, hb⟩; refine ⟨_, rfl, ?_⟩; have n0_ := Aside0.mk (blk_below (g := gb741) (o := .cells #[.bool a0_0, .string a0_1, .string a0_2] 23 (0, 0)) BK741.out hb); have n1_ := Aside0.mk (blk_below (g := gb742) (o := .cells #[.bool a1_0, .string a1_1, .string a1_2] 23 (0, 0)) BK742.out hb); have n2_ := Aside0.mk (below_step HB.out hb); clear BK741; clear BK742; clear HB; have BK741 := n0_; have BK742 := n1_; have HB := n2_; clear n0_ n1_ n2_))
  go_ret
  exact ⟨by first | rfl | (simp [errW_none, errW_some] <;> rfl) | (simp [*, errW_none, errW_some] <;> rfl) | (simp [bne_nil_]; done), by repeat (first | (with_reducible first | exact HB.out | apply below_alloc | apply pw_below_drewN | apply below_drew1 | refine below_set ?_ GE741.out | refine below_set ?_ GE742.out) | exact HB.out)⟩
 ·rw [if_neg c4] at H
  have c4b0 : (t744 == 0) = false := beq_eq_false_iff_ne.mpr c4
  have c4b1 : (t744 != 0) = true := bne_iff_ne.mpr c4
  obtain rfl := Option.some.inj H
  go_enter Tryd.func37, Tryd.ntmps37
  go_wp2_with (first | ((with_reducible refine gate_dst (N := 2) rfl ?_); refine box_event ?hg (N := 2) ?hd (cs := #[.bool a0_0, .string a0_1, .string a0_2]) (t := 23) ?hr ?_; (case hd => rfl); (case hg => rfl); (case hr => first | (go_simp; done) | (go_simp; rfl)); intro gb741 hg w11 hbox hb; have n0_ := Aside0.mk (below_step HB.out hb); have n1_ := Aside0.mk (hbox); have n2_ := Aside0.mk ((by rw [hg]; exact (below_size HB.out) : w.heap.size ≤ gb741)); have n3_ := Aside0.mk ((by rw [hg]; exact (below_size HB.out) : w.heap.size ≤ gb741)); clear HB; have HB := n0_; have BK741 := n1_; have GW741 := n2_; have GE741 := n3_; clear n0_ n1_ n2_ n3_; clear hb hbox hg) | ((with_reducible refine gate_dst (N := 3) rfl ?_); refine box_event ?hg (N := 3) ?hd (cs := #[.bool a1_0, .string a1_1, .string a1_2]) (t := 23) ?hr ?_; (case hd => rfl); (case hg => rfl); (case hr => first | (go_simp; done) | (go_simp; rfl)); intro gb742 hg w12 hbox hb; have n0_ := Aside0.mk (blk_below (g := gb741) (o := .cells #[.bool a0_0, .string a0_1, .string a0_2] 23 (0, 0)) BK741.out hb); have n1_ := Aside0.mk (below_step HB.out hb); have n2_ := Aside0.mk (hbox); have n3_ := Aside0.mk ((by rw [hg]; exact (below_size HB.out) : w.heap.size ≤ gb742)); have n4_ := Aside0.mk ((by rw [hg]; exact (below_size HB.out) : w.heap.size ≤ gb742)); have n5_ := Aside0.mk ((by rw [hg]; exact Nat.ne_of_lt (blk_lt (g := gb741) (o := .cells #[.bool a0_0, .string a0_1, .string a0_2] 23 (0, 0)) BK741.out) : gb741 ≠ gb742)); have n6_ := Aside0.mk ((by rw [hg]; exact Nat.ne_of_gt (blk_lt (g := gb741) (o := .cells #[.bool a0_0, .string a0_1, .string a0_2] 23 (0, 0)) BK741.out) : gb742 ≠ gb741)); clear BK741; clear HB; have BK741 := n0_; have HB := n1_; have BK742 := n2_; have GW742 := n3_; have GE742 := n4_; have NB741_742 := n5_; have NB742_741 := n6_; clear n0_ n1_ n2_ n3_ n4_ n5_ n6_; clear hb hbox hg; have hnb13 := NB741_742.out; have hnc13 := NB742_741.out; have hcz14_0 : w12.cell? ⟨gb741, 0, none⟩ = some (.bool a0_0) := (blk_cell BK741.out 0).trans rfl; have hcz14_1 : w12.cell? ⟨gb741, 1, none⟩ = some (.string a0_1) := (blk_cell BK741.out 1).trans rfl; have hcz14_2 : w12.cell? ⟨gb741, 2, none⟩ = some (.string a0_2) := (blk_cell BK741.out 2).trans rfl; have hfz14_0 := blk_frozen BK741.out 0; have hfz14_1 := blk_frozen BK741.out 1; have hfz14_2 := blk_frozen BK741.out 2; have hcz15_0 : w12.cell? ⟨gb742, 0, none⟩ = some (.bool a1_0) := (blk_cell BK742.out 0).trans rfl; have hcz15_1 : w12.cell? ⟨gb742, 1, none⟩ = some (.string a1_1) := (blk_cell BK742.out 1).trans rfl; have hcz15_2 : w12.cell? ⟨gb742, 2, none⟩ = some (.string a1_2) := (blk_cell BK742.out 2).trans rfl; have hfz15_0 := blk_frozen BK742.out 0; have hfz15_1 := blk_frozen BK742.out 1; have hfz15_2 := blk_frozen BK742.out 2) | ((with_reducible refine gate_callee (f := 28) rfl ?_); refine goesL_ (some 10) rfl rfl Tryd.func28 (by kernel_rfl) rfl #[.agg #[.bool a0_0, .string a0_1, .string a0_2], .agg #[.bool a1_0, .string a1_1, .string a1_2]] rfl (by (try simp only [List.map_toArray, List.map_cons, List.map_nil]); first | done | rfl | (simp only [List.length_drop, List.length_take]; rfl)) ?_; (with_reducible refine (decimal_Compare.calls k a0_0 a0_1 a0_2 a1_0 a1_1 a1_2 t743 t744 _ A3.out).mono ?_); rintro e w16 ⟨rfl, hb⟩; refine ⟨_, rfl, ?_⟩; have n0_ := Aside0.mk (blk_below (g := gb741) (o := .cells #[.bool a0_0, .string a0_1, .string a0_2] 23 (0, 0)) BK741.out hb); have n1_ := Aside0.mk (blk_below (g := gb742) (o := .cells #[.bool a1_0, .string a1_1, .string a1_2] 23 (0, 0)) BK742.out hb); have n2_ := Aside0.mk (below_step HB.out hb); clear BK741; clear BK742; clear HB; have BK741 := n0_; have BK742 := n1_; have HB := n2_; clear n0_ n1_ n2_))
  go_ret
  exact ⟨by first | rfl | (simp [errW_none, errW_some] <;> rfl) | (simp [*, errW_none, errW_some] <;> rfl) | (simp [bne_nil_]; done), by repeat (first | (with_reducible first | exact HB.out | apply below_alloc | apply pw_below_drewN | apply below_drew1 | refine below_set ?_ GE741.out | refine below_set ?_ GE742.out) | exact HB.out)⟩
end Go.Proofs.YtapbdblpdkoacaaDoor.P
namespace Go.Proofs.YtapbdblpdkoacaaDoor.P
open Go.RowKit Go.Proofs.YtapbdblpdkoacaaDoorW.PrintWords Go.Proofs.YtapbdblpdkoacaaDoorW.PrintLast Go.Proofs.YtapbdblpdkoacaaDoorW.PrintMore
attribute [local go_sem] max2_int max_two
set_option linter.unusedVariables false
set_option linter.unusedSimpArgs false
attribute [local go_sem high] eqA23
mutual
def idiomlaw02_DecimalShifts.j0 : Nat → Int → Int → Bool → Bool → ByteArray → ByteArray → Option (Bool)
  | 0, _, _, _, _, _, _ => none
  | k + 1, x1, x2, x45, x1022000, x1022001, x1022002 => if x45 = true then (some false) else ((decimal_Pad.f k x1022000 x1022001 x1022002 x2).bind fun bt1038 => (if bt1038.2.2.2 = 0 then ((idiomlaw02_great.f k bt1038.1 bt1038.2.1 bt1038.2.2.1 x1022000 x1022001 x1022002).bind fun t1043 => (if t1043 = true then (idiomlaw02_DecimalShifts.j1 k x1 ((bt1038.2.2.1.size : Int) != (mx x2 (x1022002.size : Int))) x1022000 x1022001 x1022002) else (idiomlaw02_DecimalShifts.j1 k x1 true x1022000 x1022001 x1022002))) else (idiomlaw02_DecimalShifts.j1 k x1 false x1022000 x1022001 x1022002)))
def idiomlaw02_DecimalShifts.j1 : Nat → Int → Bool → Bool → ByteArray → ByteArray → Option (Bool)
  | 0, _, _, _, _, _ => none
  | k + 1, x1, x70, x1022000, x1022001, x1022002 => if x70 = true then (some false) else ((decimal_Shift.f k x1022000 x1022001 x1022002 x1).bind fun bt1044 => (if bt1044.2.2.2 = 0 then ((decimal_Shift.f k bt1044.1 bt1044.2.1 bt1044.2.2.1 (wrap64 (-x1))).bind fun bt1049 => (if bt1049.2.2.2 = 0 then ((idiomlaw02_great.f k bt1049.1 bt1049.2.1 bt1049.2.2.1 x1022000 x1022001 x1022002).bind fun t1054 => (some t1054)) else (some true))) else (some true)))
end
def idiomlaw02_DecimalShifts.f (k : Nat) (a0_0 : Bool) (a0_1 : ByteArray) (a0_2 : ByteArray) (a1 : Int) (a2 : Int) : Option (Bool) := (idiomlaw02_awake.f k).bind fun t1022 => (if t1022 = true then ((decimal_Trim.f k a0_0 a0_1 a0_2).bind fun bt1023 => (if bt1023.2.2.2 = 0 then ((decimal_Trim.f k bt1023.1 bt1023.2.1 bt1023.2.2.1).bind fun bt1032 => (if bt1032.2.2.2 = 0 then (if (!(bt1032.1 == bt1023.1) || (!(bt1032.2.1.toList == bt1023.2.1.toList) || (!(bt1032.2.2.1.toList == bt1023.2.2.1.toList)))) = true then (idiomlaw02_DecimalShifts.j0 k a1 a2 true a0_0 a0_1 a0_2) else ((idiomlaw02_great.f k bt1023.1 bt1023.2.1 bt1023.2.2.1 a0_0 a0_1 a0_2).bind fun t1037 => (idiomlaw02_DecimalShifts.j0 k a1 a2 (!t1037) a0_0 a0_1 a0_2))) else (idiomlaw02_DecimalShifts.j0 k a1 a2 true a0_0 a0_1 a0_2))) else ((idiomlaw02_fine.f k (([(⟨a0_0, a0_1, a0_2⟩ : S23)] : List (S23)))).bind fun t1031 => (some (!t1031))))) else (some false))
set_option maxHeartbeats 8000000 in
set_option maxRecDepth 100000 in
theorem idiomlaw02_DecimalShifts.calls (k : Nat) (a0_0 : Bool) (a0_1 : ByteArray) (a0_2 : ByteArray) (a1 : Int) (a2 : Int) (r : Bool) (w : World) (h : idiomlaw02_DecimalShifts.f k a0_0 a0_1 a0_2 a1 a2 = some r) :
    Calls Tryd.prog 13 #[.agg #[.bool a0_0, .string a0_1, .string a0_2], .int .i64 a1, .int .i64 a2] w fun e w' => e = .returned (.bool r) ∧ Below w.heap.size w w' := by
 have hu23 := Tryd.underlying23
 have HB := Aside0.mk (Below.refl w.heap.size w)
 unfold idiomlaw02_DecimalShifts.f at h
 have H := h
 clear h
 replace H := Option.bind_eq_some_iff.mp H
 obtain ⟨t1022, A40, H⟩ := H
 try dsimp only at H
 have A4 := Aside0.mk A40
 clear A40
 by_cases c5 : t1022 = true
 ·subst c5
  have H1 : ((decimal_Trim.f k a0_0 a0_1 a0_2).bind fun bt1023 => (if bt1023.2.2.2 = 0 then ((decimal_Trim.f k bt1023.1 bt1023.2.1 bt1023.2.2.1).bind fun bt1032 => (if bt1032.2.2.2 = 0 then (if (!(bt1032.1 == bt1023.1) || (!(bt1032.2.1.toList == bt1023.2.1.toList) || (!(bt1032.2.2.1.toList == bt1023.2.2.1.toList)))) = true then (idiomlaw02_DecimalShifts.j0 k a1 a2 true a0_0 a0_1 a0_2) else ((idiomlaw02_great.f k bt1023.1 bt1023.2.1 bt1023.2.2.1 a0_0 a0_1 a0_2).bind fun t1037 => (idiomlaw02_DecimalShifts.j0 k a1 a2 (!t1037) a0_0 a0_1 a0_2))) else (idiomlaw02_DecimalShifts.j0 k a1 a2 true a0_0 a0_1 a0_2))) else ((idiomlaw02_fine.f k (([(⟨a0_0, a0_1, a0_2⟩ : S23)] : List (S23)))).bind fun t1031 => (some (!t1031))))) = some r := by rw [if_pos rfl] at H; exact H
  clear H
  have H := H1
  clear H1
  replace H := Option.bind_eq_some_iff.mp H
  obtain ⟨⟨t1023, t1024, t1025, t1026⟩, A60, H⟩ := H
  try dsimp only at H
  have A6 := Aside0.mk A60
  clear A60
  by_cases c7 : t1026 = 0
  ·rw [if_pos c7] at H
   have c7b0 : (t1026 == 0) = true := beq_iff_eq.mpr c7
   have c7b1 : (t1026 != 0) = false := bne_eq_false_iff_eq.mpr c7
   clear c7
   replace H := Option.bind_eq_some_iff.mp H
   obtain ⟨⟨t1032, t1033, t1034, t1035⟩, A80, H⟩ := H
   try dsimp only at H
   have A8 := Aside0.mk A80
   clear A80
   have HC9 := Aside0.mk H
   clear H
   go_enter Tryd.func13, Tryd.ntmps13
   go_upto_region 7 with (first | ((with_reducible refine gate_dst (N := 3) rfl ?_); (try (refine gate_guard (by rfl) ?_; dsimp only)); refine box_event ?hg (N := 3) ?hd (cs := #[.bool a0_0, .string a0_1, .string a0_2]) (t := 23) ?hr ?_; (case hd => rfl); (case hg => rfl); (case hr => first | (go_simp; done) | (go_simp; rfl)); intro gb1021 hg w10 hbox hb; have n0_ := Aside0.mk (below_step HB.out hb); have n1_ := Aside0.mk (hbox); have n2_ := Aside0.mk ((by rw [hg]; exact (below_size HB.out) : w.heap.size ≤ gb1021)); have n3_ := Aside0.mk ((by rw [hg]; exact (below_size HB.out) : w.heap.size ≤ gb1021)); clear HB; have HB := n0_; have BK1021 := n1_; have GW1021 := n2_; have GE1021 := n3_; clear n0_ n1_ n2_ n3_; clear hb hbox hg) | ((with_reducible refine gate_callee (f := 19) rfl ?_); refine goesL_ (some 15) rfl rfl Tryd.func19 (by kernel_rfl) rfl #[] rfl (by simp only [List.map_toArray, List.map_cons, List.map_nil]) ?_; (with_reducible refine (idiomlaw02_awake.calls k  true _ A4.out).mono ?_); rintro e w11 ⟨rfl, hb⟩; refine ⟨_, rfl, ?_⟩; have n0_ := Aside0.mk (blk_below (g := gb1021) (o := .cells #[.bool a0_0, .string a0_1, .string a0_2] 23 (0, 0)) BK1021.out hb); have n1_ := Aside0.mk (below_step HB.out hb); clear BK1021; clear HB; have BK1021 := n0_; have HB := n1_; clear n0_ n1_; have hcz12_0 : w11.cell? ⟨gb1021, 0, none⟩ = some (.bool a0_0) := (blk_cell BK1021.out 0).trans rfl; have hcz12_1 : w11.cell? ⟨gb1021, 1, none⟩ = some (.string a0_1) := (blk_cell BK1021.out 1).trans rfl; have hcz12_2 : w11.cell? ⟨gb1021, 2, none⟩ = some (.string a0_2) := (blk_cell BK1021.out 2).trans rfl; have hfz12_0 := blk_frozen BK1021.out 0; have hfz12_1 := blk_frozen BK1021.out 1; have hfz12_2 := blk_frozen BK1021.out 2) | ((with_reducible refine gate_callee (f := 30) rfl ?_); refine goesL_ (some 19) rfl rfl Tryd.func30 (by kernel_rfl) rfl #[.agg #[.bool a0_0, .string a0_1, .string a0_2]] rfl (by (try simp only [List.map_toArray, List.map_cons, List.map_nil]); first | done | rfl | (simp only [List.length_drop, List.length_take]; rfl)) ?_; (with_reducible refine (decimal_Trim.calls k a0_0 a0_1 a0_2 t1023 t1024 t1025 t1026 _ A6.out).mono ?_); rintro e w13 ⟨rfl, hb⟩; refine ⟨_, rfl, ?_⟩; have n0_ := Aside0.mk (blk_below (g := gb1021) (o := .cells #[.bool a0_0, .string a0_1, .string a0_2] 23 (0, 0)) BK1021.out hb); have n1_ := Aside0.mk (below_step HB.out hb); clear BK1021; clear HB; have BK1021 := n0_; have HB := n1_; clear n0_ n1_) | ((with_reducible refine gate_dst (N := 7) rfl ?_); (try (refine gate_guard (by rfl) ?_; dsimp only)); refine box_event ?hg (N := 7) ?hd (cs := #[.bool false, .string (⟨#[]⟩ : ByteArray), .string (⟨#[]⟩ : ByteArray)]) (t := 23) ?hr ?_; (case hd => rfl); (case hg => rfl); (case hr => first | (go_simp; done) | (go_simp; rfl)); intro gb1027 hg w14 hbox hb; have n0_ := Aside0.mk (blk_below (g := gb1021) (o := .cells #[.bool a0_0, .string a0_1, .string a0_2] 23 (0, 0)) BK1021.out hb); have n1_ := Aside0.mk (below_step HB.out hb); have n2_ := Aside0.mk (hbox); have n3_ := Aside0.mk ((by rw [hg]; exact (below_size HB.out) : w.heap.size ≤ gb1027)); have n4_ := Aside0.mk ((by rw [hg]; exact (below_size HB.out) : w.heap.size ≤ gb1027)); have n5_ := Aside0.mk ((by rw [hg]; exact Nat.ne_of_lt (blk_lt (g := gb1021) (o := .cells #[.bool a0_0, .string a0_1, .string a0_2] 23 (0, 0)) BK1021.out) : gb1021 ≠ gb1027)); have n6_ := Aside0.mk ((by rw [hg]; exact Nat.ne_of_gt (blk_lt (g := gb1021) (o := .cells #[.bool a0_0, .string a0_1, .string a0_2] 23 (0, 0)) BK1021.out) : gb1027 ≠ gb1021)); clear BK1021; clear HB; have BK1021 := n0_; have HB := n1_; have BK1027 := n2_; have GW1027 := n3_; have GE1027 := n4_; have NB1021_1027 := n5_; have NB1027_1021 := n6_; clear n0_ n1_ n2_ n3_ n4_ n5_ n6_; clear hb hbox hg; have hnb15 := NB1027_1021.out; have hnc15 := NB1021_1027.out; have hcz16_0 : w14.cell? ⟨gb1027, 0, none⟩ = some (.bool false) := (blk_cell BK1027.out 0).trans rfl; have hcz16_1 : w14.cell? ⟨gb1027, 1, none⟩ = some (.string (⟨#[]⟩ : ByteArray)) := (blk_cell BK1027.out 1).trans rfl; have hcz16_2 : w14.cell? ⟨gb1027, 2, none⟩ = some (.string (⟨#[]⟩ : ByteArray)) := (blk_cell BK1027.out 2).trans rfl; have hfz16_0 := blk_frozen BK1027.out 0; have hfz16_1 := blk_frozen BK1027.out 1; have hfz16_2 := blk_frozen BK1027.out 2) | ((with_reducible refine gate_callee (f := 30) rfl ?_); refine goesL_ (some 30) rfl rfl Tryd.func30 (by kernel_rfl) rfl #[.agg #[.bool t1023, .string t1024, .string t1025]] rfl (by (try simp only [List.map_toArray, List.map_cons, List.map_nil]); first | done | rfl | (simp only [List.length_drop, List.length_take]; rfl)) ?_; (with_reducible refine (decimal_Trim.calls k t1023 t1024 t1025 t1032 t1033 t1034 t1035 _ A8.out).mono ?_); rintro e w17 ⟨rfl, hb⟩; refine ⟨_, rfl, ?_⟩; have n0_ := Aside0.mk (blk_below (g := gb1021) (o := .cells #[.bool a0_0, .string a0_1, .string a0_2] 23 (0, 0)) (by refine blk_far ?_ NB1021_1027.out _; refine blk_far ?_ NB1021_1027.out _; refine blk_far ?_ NB1021_1027.out _; exact BK1021.out) hb); have n1_ := Aside0.mk (blk_below (g := gb1027) (o := .cells #[.bool t1023, .string t1024, .string t1025] 23 (0, 0)) (by refine blk_put (cs := #[.bool t1023, .string t1024, .string (⟨#[]⟩ : ByteArray)]) ?_ 2 _ rfl; refine blk_put (cs := #[.bool t1023, .string (⟨#[]⟩ : ByteArray), .string (⟨#[]⟩ : ByteArray)]) ?_ 1 _ rfl; refine blk_put (cs := #[.bool false, .string (⟨#[]⟩ : ByteArray), .string (⟨#[]⟩ : ByteArray)]) ?_ 0 _ rfl; exact BK1027.out) hb); have n2_ := Aside0.mk (below_step (by repeat (first | (with_reducible first | exact HB.out | apply below_alloc | apply pw_below_drewN | apply below_drew1 | refine below_set ?_ GE1021.out | refine below_set ?_ GE1027.out) | exact HB.out)) hb); clear BK1021; clear BK1027; clear HB; have BK1021 := n0_; have BK1027 := n1_; have HB := n2_; clear n0_ n1_ n2_) | ((with_reducible refine gate_dst (N := 9) rfl ?_); (try (refine gate_guard (by rfl) ?_; dsimp only)); refine box_event ?hg (N := 9) ?hd (cs := #[.bool false, .string (⟨#[]⟩ : ByteArray), .string (⟨#[]⟩ : ByteArray)]) (t := 23) ?hr ?_; (case hd => rfl); (case hg => rfl); (case hr => first | (go_simp; done) | (go_simp; rfl)); intro gb1036 hg w18 hbox hb; have n0_ := Aside0.mk (blk_below (g := gb1021) (o := .cells #[.bool a0_0, .string a0_1, .string a0_2] 23 (0, 0)) BK1021.out hb); have n1_ := Aside0.mk (blk_below (g := gb1027) (o := .cells #[.bool t1023, .string t1024, .string t1025] 23 (0, 0)) BK1027.out hb); have n2_ := Aside0.mk (below_step HB.out hb); have n3_ := Aside0.mk (hbox); have n4_ := Aside0.mk ((by rw [hg]; exact (below_size HB.out) : w.heap.size ≤ gb1036)); have n5_ := Aside0.mk ((by rw [hg]; exact (below_size HB.out) : w.heap.size ≤ gb1036)); have n6_ := Aside0.mk ((by rw [hg]; exact Nat.ne_of_lt (blk_lt (g := gb1021) (o := .cells #[.bool a0_0, .string a0_1, .string a0_2] 23 (0, 0)) BK1021.out) : gb1021 ≠ gb1036)); have n7_ := Aside0.mk ((by rw [hg]; exact Nat.ne_of_gt (blk_lt (g := gb1021) (o := .cells #[.bool a0_0, .string a0_1, .string a0_2] 23 (0, 0)) BK1021.out) : gb1036 ≠ gb1021)); have n8_ := Aside0.mk ((by rw [hg]; exact Nat.ne_of_lt (blk_lt (g := gb1027) (o := .cells #[.bool t1023, .string t1024, .string t1025] 23 (0, 0)) BK1027.out) : gb1027 ≠ gb1036)); have n9_ := Aside0.mk ((by rw [hg]; exact Nat.ne_of_gt (blk_lt (g := gb1027) (o := .cells #[.bool t1023, .string t1024, .string t1025] 23 (0, 0)) BK1027.out) : gb1036 ≠ gb1027)); clear BK1021; clear BK1027; clear HB; have BK1021 := n0_; have BK1027 := n1_; have HB := n2_; have BK1036 := n3_; have GW1036 := n4_; have GE1036 := n5_; have NB1021_1036 := n6_; have NB1036_1021 := n7_; have NB1027_1036 := n8_; have NB1036_1027 := n9_; clear n0_ n1_ n2_ n3_ n4_ n5_ n6_ n7_ n8_ n9_; clear hb hbox hg; have hnb19 := NB1036_1021.out; have hnc19 := NB1021_1036.out; have hnb20 := NB1036_1027.out; have hnc20 := NB1027_1036.out; have hcz21_0 : w18.cell? ⟨gb1036, 0, none⟩ = some (.bool false) := (blk_cell BK1036.out 0).trans rfl; have hcz21_1 : w18.cell? ⟨gb1036, 1, none⟩ = some (.string (⟨#[]⟩ : ByteArray)) := (blk_cell BK1036.out 1).trans rfl; have hcz21_2 : w18.cell? ⟨gb1036, 2, none⟩ = some (.string (⟨#[]⟩ : ByteArray)) := (blk_cell BK1036.out 2).trans rfl; have hfz21_0 := blk_frozen BK1036.out 0; have hfz21_1 := blk_frozen BK1036.out 1; have hfz21_2 := blk_frozen BK1036.out 2))
   (try simp only [Act.put, List.setIfInBounds_toArray, List.set_cons_zero, List.set_cons_succ])
   go_cut [45] (fun v45 wc => ∃ (kq : Nat) (x45_8 : Bool), v45 = .bool x45_8 ∧ Aside0 (idiomlaw02_DecimalShifts.j0 kq a1 a2 x45_8 a0_0 a0_1 a0_2 = some r) ∧ Aside0 (kq ≤ k) ∧ Aside0 (wc.heap[gb1021]? = some (.cells #[.bool a0_0, .string a0_1, .string a0_2] 23 (0, 0))) ∧ Aside0 (wc.heap[gb1027]? = some (.cells #[.bool t1023, .string t1024, .string t1025] 23 (0, 0))) ∧ Aside0 (wc.heap[gb1036]? = some (.cells #[.bool t1032, .string t1033, .string t1034] 23 (0, 0))) ∧ Aside0 (Below w.heap.size w wc))
   case first =>
    have H := HC9.out
    clear HC9
    by_cases c22 : t1035 = 0
    ·rw [if_pos c22] at H
     have c22b0 : (t1035 == 0) = true := beq_iff_eq.mpr c22
     have c22b1 : (t1035 != 0) = false := bne_eq_false_iff_eq.mpr c22
     clear c22
     (first | rw [c22b0] | (simp only [i64_w, i32_w]; rw [c22b0]) | rw [c22b1] | skip)
     by_cases c23 : (!(t1032 == t1023) || (!(t1033.toList == t1024.toList) || (!(t1034.toList == t1025.toList)))) = true
     ·rw [if_pos c23] at H
      have c23b0 : (!(t1032 == t1023) || (!(t1033.toList == t1024.toList) || (!(t1034.toList == t1025.toList)))) = true := c23
      clear c23
      have H' := Aside0.mk H
      clear H
      have hnb24 := NB1036_1021.out
      have hnc24 := NB1021_1036.out
      have hnb25 := NB1036_1027.out
      have hnc25 := NB1027_1036.out
      have hcz26_0 : w18.cell? ⟨gb1036, 0, none⟩ = some (.bool false) := (blk_cell BK1036.out 0).trans rfl
      have hcz26_1 : w18.cell? ⟨gb1036, 1, none⟩ = some (.string (⟨#[]⟩ : ByteArray)) := (blk_cell BK1036.out 1).trans rfl
      have hcz26_2 : w18.cell? ⟨gb1036, 2, none⟩ = some (.string (⟨#[]⟩ : ByteArray)) := (blk_cell BK1036.out 2).trans rfl
      have hfz26_0 := blk_frozen BK1036.out 0
      have hfz26_1 := blk_frozen BK1036.out 1
      have hfz26_2 := blk_frozen BK1036.out 2
      have hnb27 := NB1027_1021.out
      have hnc27 := NB1021_1027.out
      have hcz28_0 : w18.cell? ⟨gb1027, 0, none⟩ = some (.bool t1023) := (blk_cell BK1027.out 0).trans rfl
      have hcz28_1 : w18.cell? ⟨gb1027, 1, none⟩ = some (.string t1024) := (blk_cell BK1027.out 1).trans rfl
      have hcz28_2 : w18.cell? ⟨gb1027, 2, none⟩ = some (.string t1025) := (blk_cell BK1027.out 2).trans rfl
      have hfz28_0 := blk_frozen BK1027.out 0
      have hfz28_1 := blk_frozen BK1027.out 1
      have hfz28_2 := blk_frozen BK1027.out 2
      go_wp2
      go_meet
      case rel => exact ⟨_, (true), (by first | rfl | (simp; done) | (simp [*]; done)), H', ⟨by first | omega | exact Nat.le_refl _⟩, ⟨by refine blk_far ?_ NB1021_1036.out _; refine blk_far ?_ NB1021_1036.out _; refine blk_far ?_ NB1021_1036.out _; exact BK1021.out⟩, ⟨by refine blk_far ?_ NB1027_1036.out _; refine blk_far ?_ NB1027_1036.out _; refine blk_far ?_ NB1027_1036.out _; exact BK1027.out⟩, ⟨by refine blk_put (cs := #[.bool t1032, .string t1033, .string (⟨#[]⟩ : ByteArray)]) ?_ 2 _ rfl; refine blk_put (cs := #[.bool t1032, .string (⟨#[]⟩ : ByteArray), .string (⟨#[]⟩ : ByteArray)]) ?_ 1 _ rfl; refine blk_put (cs := #[.bool false, .string (⟨#[]⟩ : ByteArray), .string (⟨#[]⟩ : ByteArray)]) ?_ 0 _ rfl; exact BK1036.out⟩, ⟨by repeat (first | (with_reducible first | exact HB.out | apply below_alloc | apply pw_below_drewN | apply below_drew1 | refine below_set ?_ GE1021.out | refine below_set ?_ GE1027.out | refine below_set ?_ GE1036.out) | exact HB.out)⟩⟩
     ·rw [if_neg c23] at H
      have c23b0 : (!(t1032 == t1023) || (!(t1033.toList == t1024.toList) || (!(t1034.toList == t1025.toList)))) = false := by simpa using c23
      clear c23
      replace H := Option.bind_eq_some_iff.mp H
      obtain ⟨t1037, A290, H⟩ := H
      try dsimp only at H
      have A29 := Aside0.mk A290
      clear A290
      have H' := Aside0.mk H
      clear H
      have hnb30 := NB1036_1021.out
      have hnc30 := NB1021_1036.out
      have hnb31 := NB1036_1027.out
      have hnc31 := NB1027_1036.out
      have hcz32_0 : w18.cell? ⟨gb1036, 0, none⟩ = some (.bool false) := (blk_cell BK1036.out 0).trans rfl
      have hcz32_1 : w18.cell? ⟨gb1036, 1, none⟩ = some (.string (⟨#[]⟩ : ByteArray)) := (blk_cell BK1036.out 1).trans rfl
      have hcz32_2 : w18.cell? ⟨gb1036, 2, none⟩ = some (.string (⟨#[]⟩ : ByteArray)) := (blk_cell BK1036.out 2).trans rfl
      have hfz32_0 := blk_frozen BK1036.out 0
      have hfz32_1 := blk_frozen BK1036.out 1
      have hfz32_2 := blk_frozen BK1036.out 2
      have hnb33 := NB1027_1021.out
      have hnc33 := NB1021_1027.out
      have hcz34_0 : w18.cell? ⟨gb1027, 0, none⟩ = some (.bool t1023) := (blk_cell BK1027.out 0).trans rfl
      have hcz34_1 : w18.cell? ⟨gb1027, 1, none⟩ = some (.string t1024) := (blk_cell BK1027.out 1).trans rfl
      have hcz34_2 : w18.cell? ⟨gb1027, 2, none⟩ = some (.string t1025) := (blk_cell BK1027.out 2).trans rfl
      have hfz34_0 := blk_frozen BK1027.out 0
      have hfz34_1 := blk_frozen BK1027.out 1
      have hfz34_2 := blk_frozen BK1027.out 2
      have hcz35_0 : w18.cell? ⟨gb1021, 0, none⟩ = some (.bool a0_0) := (blk_cell BK1021.out 0).trans rfl
      have hcz35_1 : w18.cell? ⟨gb1021, 1, none⟩ = some (.string a0_1) := (blk_cell BK1021.out 1).trans rfl
      have hcz35_2 : w18.cell? ⟨gb1021, 2, none⟩ = some (.string a0_2) := (blk_cell BK1021.out 2).trans rfl
      have hfz35_0 := blk_frozen BK1021.out 0
      have hfz35_1 := blk_frozen BK1021.out 1
      have hfz35_2 := blk_frozen BK1021.out 2
      go_wp2_with (first | (go_at_call 37; (with_reducible refine (idiomlaw02_great.calls k t1023 t1024 t1025 a0_0 a0_1 a0_2 t1037 _ A29.out).mono ?_); rintro e w36 ⟨rfl, hb⟩; have n0_ := Aside0.mk (blk_below (g := gb1021) (o := .cells #[.bool a0_0, .string a0_1, .string a0_2] 23 (0, 0)) (by refine blk_far ?_ NB1021_1036.out _; refine blk_far ?_ NB1021_1036.out _; refine blk_far ?_ NB1021_1036.out _; exact BK1021.out) hb); have n1_ := Aside0.mk (blk_below (g := gb1027) (o := .cells #[.bool t1023, .string t1024, .string t1025] 23 (0, 0)) (by refine blk_far ?_ NB1027_1036.out _; refine blk_far ?_ NB1027_1036.out _; refine blk_far ?_ NB1027_1036.out _; exact BK1027.out) hb); have n2_ := Aside0.mk (blk_below (g := gb1036) (o := .cells #[.bool t1032, .string t1033, .string t1034] 23 (0, 0)) (by refine blk_put (cs := #[.bool t1032, .string t1033, .string (⟨#[]⟩ : ByteArray)]) ?_ 2 _ rfl; refine blk_put (cs := #[.bool t1032, .string (⟨#[]⟩ : ByteArray), .string (⟨#[]⟩ : ByteArray)]) ?_ 1 _ rfl; refine blk_put (cs := #[.bool false, .string (⟨#[]⟩ : ByteArray), .string (⟨#[]⟩ : ByteArray)]) ?_ 0 _ rfl; exact BK1036.out) hb); have n3_ := Aside0.mk (below_step (by repeat (first | (with_reducible first | exact HB.out | apply below_alloc | apply pw_below_drewN | apply below_drew1 | refine below_set ?_ GE1021.out | refine below_set ?_ GE1027.out | refine below_set ?_ GE1036.out) | exact HB.out)) hb); clear BK1021; clear BK1027; clear BK1036; clear HB; have BK1021 := n0_; have BK1027 := n1_; have BK1036 := n2_; have HB := n3_; clear n0_ n1_ n2_ n3_))
      go_meet
      case rel => exact ⟨_, (!t1037), (by first | rfl | (simp; done) | (simp [*]; done)), H', ⟨by first | omega | exact Nat.le_refl _⟩, ⟨by exact BK1021.out⟩, ⟨by exact BK1027.out⟩, ⟨by exact BK1036.out⟩, ⟨by repeat (first | (with_reducible first | exact HB.out | apply below_alloc | apply pw_below_drewN | apply below_drew1 | refine below_set ?_ GE1021.out | refine below_set ?_ GE1027.out | refine below_set ?_ GE1036.out) | exact HB.out)⟩⟩
    ·rw [if_neg c22] at H
     have c22b0 : (t1035 == 0) = false := beq_eq_false_iff_ne.mpr c22
     have c22b1 : (t1035 != 0) = true := bne_iff_ne.mpr c22
     (first | rw [c22b0] | (simp only [i64_w, i32_w]; rw [c22b0]) | rw [c22b1] | skip)
     have H' := Aside0.mk H
     clear H
     go_wp2
     go_meet
     case rel => exact ⟨_, (true), (by first | rfl | (simp; done) | (simp [*]; done)), H', ⟨by first | omega | exact Nat.le_refl _⟩, ⟨by refine blk_far ?_ NB1021_1036.out _; refine blk_far ?_ NB1021_1036.out _; refine blk_far ?_ NB1021_1036.out _; exact BK1021.out⟩, ⟨by refine blk_far ?_ NB1027_1036.out _; refine blk_far ?_ NB1027_1036.out _; refine blk_far ?_ NB1027_1036.out _; exact BK1027.out⟩, ⟨by refine blk_put (cs := #[.bool t1032, .string t1033, .string (⟨#[]⟩ : ByteArray)]) ?_ 2 _ rfl; refine blk_put (cs := #[.bool t1032, .string (⟨#[]⟩ : ByteArray), .string (⟨#[]⟩ : ByteArray)]) ?_ 1 _ rfl; refine blk_put (cs := #[.bool false, .string (⟨#[]⟩ : ByteArray), .string (⟨#[]⟩ : ByteArray)]) ?_ 0 _ rfl; exact BK1036.out⟩, ⟨by repeat (first | (with_reducible first | exact HB.out | apply below_alloc | apply pw_below_drewN | apply below_drew1 | refine below_set ?_ GE1021.out | refine below_set ?_ GE1027.out | refine below_set ?_ GE1036.out) | exact HB.out)⟩⟩
   case rest =>
    clear HC9
    try clear c1
    try clear c2
    try clear p2
    try clear c3
    try clear c5
    try clear c7
    try clear c7b0
    try clear c7b1
    try clear c13
    try clear c15
    try clear c19
    try clear c20
    try clear c22
    try clear c22b0
    try clear c22b1
    try clear c23
    try clear c23b0
    try clear c24
    try clear c25
    try clear c27
    try clear c30
    try clear c31
    try clear c33
    try clear hcz12_0
    try clear hcz12_1
    try clear hcz12_2
    try clear hcz16_0
    try clear hcz16_1
    try clear hcz16_2
    try clear hcz21_0
    try clear hcz21_1
    try clear hcz21_2
    try clear hcz26_0
    try clear hcz26_1
    try clear hcz26_2
    try clear hcz28_0
    try clear hcz28_1
    try clear hcz28_2
    try clear hcz32_0
    try clear hcz32_1
    try clear hcz32_2
    try clear hcz34_0
    try clear hcz34_1
    try clear hcz34_2
    try clear hcz35_0
    try clear hcz35_1
    try clear hcz35_2
    try clear hfz12_0
    try clear hfz12_1
    try clear hfz12_2
    try clear hfz16_0
    try clear hfz16_1
    try clear hfz16_2
    try clear hfz21_0
    try clear hfz21_1
    try clear hfz21_2
    try clear hfz26_0
    try clear hfz26_1
    try clear hfz26_2
    try clear hfz28_0
    try clear hfz28_1
    try clear hfz28_2
    try clear hfz32_0
    try clear hfz32_1
    try clear hfz32_2
    try clear hfz34_0
    try clear hfz34_1
    try clear hfz34_2
    try clear hfz35_0
    try clear hfz35_1
    try clear hfz35_2
    obtain ⟨kq, x45_8, rfl, HA, HJ8, BK1021, BK1027, BK1036, HB⟩ := hcut
    cases kq with
    | zero => exact absurd HA.out (by simp [idiomlaw02_DecimalShifts.j0])
    | succ kj8 =>
     have H := HA.out
     clear HA
     simp only [idiomlaw02_DecimalShifts.j0] at H
     by_cases c37 : x45_8 = true
     ·subst c37
      have H1 : (some false) = some r := by rw [if_pos rfl] at H; exact H
      clear H
      have H := H1
      clear H1
      obtain rfl := Option.some.inj H
      go_wp2
      go_ret
      exact ⟨by first | rfl | (simp [errW_none, errW_some] <;> rfl) | (simp [*, errW_none, errW_some] <;> rfl) | (simp [bne_nil_]; done), by repeat (first | (with_reducible first | exact HB.out | apply below_alloc | apply pw_below_drewN | apply below_drew1 | refine below_set ?_ GE1021.out | refine below_set ?_ GE1027.out | refine below_set ?_ GE1036.out) | exact HB.out)⟩
     ·replace c37 := Bool.eq_false_iff.mpr c37
      subst c37
      have H1 : ((decimal_Pad.f kj8 a0_0 a0_1 a0_2 a2).bind fun bt1038 => (if bt1038.2.2.2 = 0 then ((idiomlaw02_great.f kj8 bt1038.1 bt1038.2.1 bt1038.2.2.1 a0_0 a0_1 a0_2).bind fun t1043 => (if t1043 = true then (idiomlaw02_DecimalShifts.j1 kj8 a1 ((bt1038.2.2.1.size : Int) != (mx a2 (a0_2.size : Int))) a0_0 a0_1 a0_2) else (idiomlaw02_DecimalShifts.j1 kj8 a1 true a0_0 a0_1 a0_2))) else (idiomlaw02_DecimalShifts.j1 kj8 a1 false a0_0 a0_1 a0_2))) = some r := by rw [if_neg (show ¬ (false = true) by decide)] at H; exact H
      clear H
      have H := H1
      clear H1
      replace H := Option.bind_eq_some_iff.mp H
      obtain ⟨⟨t1038, t1039, t1040, t1041⟩, A380, H⟩ := H
      try dsimp only at H
      have A38 := Aside0.mk A380
      clear A380
      have HC39 := Aside0.mk H
      clear H
      have hnb40 := NB1021_1027.out
      have hnc40 := NB1027_1021.out
      have hnb41 := NB1021_1036.out
      have hnc41 := NB1036_1021.out
      have hcz42_0 : wc.cell? ⟨gb1021, 0, none⟩ = some (.bool a0_0) := (blk_cell BK1021.out 0).trans rfl
      have hcz42_1 : wc.cell? ⟨gb1021, 1, none⟩ = some (.string a0_1) := (blk_cell BK1021.out 1).trans rfl
      have hcz42_2 : wc.cell? ⟨gb1021, 2, none⟩ = some (.string a0_2) := (blk_cell BK1021.out 2).trans rfl
      have hfz42_0 := blk_frozen BK1021.out 0
      have hfz42_1 := blk_frozen BK1021.out 1
      have hfz42_2 := blk_frozen BK1021.out 2
      go_upto_region 10 with (first | ((with_reducible refine gate_callee (f := 42) rfl ?_); refine goesL_ (some 49) rfl rfl Tryd.func42 (by kernel_rfl) rfl #[.agg #[.bool a0_0, .string a0_1, .string a0_2], .int .i64 a2] rfl (by (try simp only [List.map_toArray, List.map_cons, List.map_nil]); first | done | rfl | (simp only [List.length_drop, List.length_take]; rfl)) ?_; (with_reducible refine (decimal_Pad.calls kj8 a0_0 a0_1 a0_2 a2 t1038 t1039 t1040 t1041 _ A38.out).mono ?_); rintro e w43 ⟨rfl, hb⟩; refine ⟨_, rfl, ?_⟩; have n0_ := Aside0.mk (blk_below (g := gb1021) (o := .cells #[.bool a0_0, .string a0_1, .string a0_2] 23 (0, 0)) BK1021.out hb); have n1_ := Aside0.mk (blk_below (g := gb1027) (o := .cells #[.bool t1023, .string t1024, .string t1025] 23 (0, 0)) BK1027.out hb); have n2_ := Aside0.mk (blk_below (g := gb1036) (o := .cells #[.bool t1032, .string t1033, .string t1034] 23 (0, 0)) BK1036.out hb); have n3_ := Aside0.mk (below_step HB.out hb); clear BK1021; clear BK1027; clear BK1036; clear HB; have BK1021 := n0_; have BK1027 := n1_; have BK1036 := n2_; have HB := n3_; clear n0_ n1_ n2_ n3_) | ((with_reducible refine gate_dst (N := 11) rfl ?_); (try (refine gate_guard (by rfl) ?_; dsimp only)); refine box_event ?hg (N := 11) ?hd (cs := #[.bool false, .string (⟨#[]⟩ : ByteArray), .string (⟨#[]⟩ : ByteArray)]) (t := 23) ?hr ?_; (case hd => rfl); (case hg => rfl); (case hr => first | (go_simp; done) | (go_simp; rfl)); intro gb1042 hg w44 hbox hb; have n0_ := Aside0.mk (blk_below (g := gb1021) (o := .cells #[.bool a0_0, .string a0_1, .string a0_2] 23 (0, 0)) BK1021.out hb); have n1_ := Aside0.mk (blk_below (g := gb1027) (o := .cells #[.bool t1023, .string t1024, .string t1025] 23 (0, 0)) BK1027.out hb); have n2_ := Aside0.mk (blk_below (g := gb1036) (o := .cells #[.bool t1032, .string t1033, .string t1034] 23 (0, 0)) BK1036.out hb); have n3_ := Aside0.mk (below_step HB.out hb); have n4_ := Aside0.mk (hbox); have n5_ := Aside0.mk ((by rw [hg]; exact (below_size HB.out) : w.heap.size ≤ gb1042)); have n6_ := Aside0.mk ((by rw [hg]; exact (below_size HB.out) : w.heap.size ≤ gb1042)); have n7_ := Aside0.mk ((by rw [hg]; exact Nat.ne_of_lt (blk_lt (g := gb1021) (o := .cells #[.bool a0_0, .string a0_1, .string a0_2] 23 (0, 0)) BK1021.out) : gb1021 ≠ gb1042)); have n8_ := Aside0.mk ((by rw [hg]; exact Nat.ne_of_gt (blk_lt (g := gb1021) (o := .cells #[.bool a0_0, .string a0_1, .string a0_2] 23 (0, 0)) BK1021.out) : gb1042 ≠ gb1021)); have n9_ := Aside0.mk ((by rw [hg]; exact Nat.ne_of_lt (blk_lt (g := gb1027) (o := .cells #[.bool t1023, .string t1024, .string t1025] 23 (0, 0)) BK1027.out) : gb1027 ≠ gb1042)); have n10_ := Aside0.mk ((by rw [hg]; exact Nat.ne_of_gt (blk_lt (g := gb1027) (o := .cells #[.bool t1023, .string t1024, .string t1025] 23 (0, 0)) BK1027.out) : gb1042 ≠ gb1027)); have n11_ := Aside0.mk ((by rw [hg]; exact Nat.ne_of_lt (blk_lt (g := gb1036) (o := .cells #[.bool t1032, .string t1033, .string t1034] 23 (0, 0)) BK1036.out) : gb1036 ≠ gb1042)); have n12_ := Aside0.mk ((by rw [hg]; exact Nat.ne_of_gt (blk_lt (g := gb1036) (o := .cells #[.bool t1032, .string t1033, .string t1034] 23 (0, 0)) BK1036.out) : gb1042 ≠ gb1036)); clear BK1021; clear BK1027; clear BK1036; clear HB; have BK1021 := n0_; have BK1027 := n1_; have BK1036 := n2_; have HB := n3_; have BK1042 := n4_; have GW1042 := n5_; have GE1042 := n6_; have NB1021_1042 := n7_; have NB1042_1021 := n8_; have NB1027_1042 := n9_; have NB1042_1027 := n10_; have NB1036_1042 := n11_; have NB1042_1036 := n12_; clear n0_ n1_ n2_ n3_ n4_ n5_ n6_ n7_ n8_ n9_ n10_ n11_ n12_; clear hb hbox hg; have hnb45 := NB1042_1021.out; have hnc45 := NB1021_1042.out; have hnb46 := NB1042_1027.out; have hnc46 := NB1027_1042.out; have hnb47 := NB1042_1036.out; have hnc47 := NB1036_1042.out; have hcz48_0 : w44.cell? ⟨gb1042, 0, none⟩ = some (.bool false) := (blk_cell BK1042.out 0).trans rfl; have hcz48_1 : w44.cell? ⟨gb1042, 1, none⟩ = some (.string (⟨#[]⟩ : ByteArray)) := (blk_cell BK1042.out 1).trans rfl; have hcz48_2 : w44.cell? ⟨gb1042, 2, none⟩ = some (.string (⟨#[]⟩ : ByteArray)) := (blk_cell BK1042.out 2).trans rfl; have hfz48_0 := blk_frozen BK1042.out 0; have hfz48_1 := blk_frozen BK1042.out 1; have hfz48_2 := blk_frozen BK1042.out 2))
      (try simp only [Act.put, List.setIfInBounds_toArray, List.set_cons_zero, List.set_cons_succ])
      go_cut [70] (fun v70 wc => ∃ (kq : Nat) (x70_38 : Bool), v70 = .bool x70_38 ∧ Aside0 (idiomlaw02_DecimalShifts.j1 kq a1 x70_38 a0_0 a0_1 a0_2 = some r) ∧ Aside0 (kq ≤ kj8) ∧ Aside0 (wc.heap[gb1021]? = some (.cells #[.bool a0_0, .string a0_1, .string a0_2] 23 (0, 0))) ∧ Aside0 (wc.heap[gb1027]? = some (.cells #[.bool t1023, .string t1024, .string t1025] 23 (0, 0))) ∧ Aside0 (wc.heap[gb1036]? = some (.cells #[.bool t1032, .string t1033, .string t1034] 23 (0, 0))) ∧ Aside0 (wc.heap[gb1042]? = some (.cells #[.bool t1038, .string t1039, .string t1040] 23 (0, 0))) ∧ Aside0 (Below w.heap.size w wc))
      case first =>
       have H := HC39.out
       clear HC39
       by_cases c49 : t1041 = 0
       ·rw [if_pos c49] at H
        have c49b0 : (t1041 == 0) = true := beq_iff_eq.mpr c49
        have c49b1 : (t1041 != 0) = false := bne_eq_false_iff_eq.mpr c49
        clear c49
        (first | rw [c49b0] | (simp only [i64_w, i32_w]; rw [c49b0]) | rw [c49b1] | skip)
        replace H := Option.bind_eq_some_iff.mp H
        obtain ⟨t1043, A500, H⟩ := H
        try dsimp only at H
        have A50 := Aside0.mk A500
        clear A500
        by_cases c51 : t1043 = true
        ·subst c51
         have H1 : (idiomlaw02_DecimalShifts.j1 kj8 a1 ((t1040.size : Int) != (mx a2 (a0_2.size : Int))) a0_0 a0_1 a0_2) = some r := by rw [if_pos rfl] at H; exact H
         clear H
         have H := H1
         clear H1
         obtain ⟨ji52, hji52⟩ : ∃ j_ : Int, (mx a2 (a0_2.size : Int)) = j_ := ⟨_, rfl⟩
         replace H : (idiomlaw02_DecimalShifts.j1 kj8 a1 ((t1040.size : Int) != (ji52)) a0_0 a0_1 a0_2) = some r := by first | (rw [hji52] at H; exact H) | (simp only [hji52] at H ⊢; exact H)
         (try rw [hji52] at A50)
         have hji52_ : (if a2 < (a0_2.size : Int) then (a0_2.size : Int) else a2) = ji52 := hji52
         (try (have hji52n := hji52_; simp only [Int.ofNat_lt] at hji52n))
         have H' := Aside0.mk H
         clear H
         have hnb53 := NB1042_1021.out
         have hnc53 := NB1021_1042.out
         have hnb54 := NB1042_1027.out
         have hnc54 := NB1027_1042.out
         have hnb55 := NB1042_1036.out
         have hnc55 := NB1036_1042.out
         have hcz56_0 : w44.cell? ⟨gb1042, 0, none⟩ = some (.bool false) := (blk_cell BK1042.out 0).trans rfl
         have hcz56_1 : w44.cell? ⟨gb1042, 1, none⟩ = some (.string (⟨#[]⟩ : ByteArray)) := (blk_cell BK1042.out 1).trans rfl
         have hcz56_2 : w44.cell? ⟨gb1042, 2, none⟩ = some (.string (⟨#[]⟩ : ByteArray)) := (blk_cell BK1042.out 2).trans rfl
         have hfz56_0 := blk_frozen BK1042.out 0
         have hfz56_1 := blk_frozen BK1042.out 1
         have hfz56_2 := blk_frozen BK1042.out 2
         have hnb57 := NB1021_1027.out
         have hnc57 := NB1027_1021.out
         have hnb58 := NB1021_1036.out
         have hnc58 := NB1036_1021.out
         have hcz59_0 : w44.cell? ⟨gb1021, 0, none⟩ = some (.bool a0_0) := (blk_cell BK1021.out 0).trans rfl
         have hcz59_1 : w44.cell? ⟨gb1021, 1, none⟩ = some (.string a0_1) := (blk_cell BK1021.out 1).trans rfl
         have hcz59_2 : w44.cell? ⟨gb1021, 2, none⟩ = some (.string a0_2) := (blk_cell BK1021.out 2).trans rfl
         have hfz59_0 := blk_frozen BK1021.out 0
         have hfz59_1 := blk_frozen BK1021.out 1
         have hfz59_2 := blk_frozen BK1021.out 2
         go_wp2_with (first | (go_at_call 37; (with_reducible refine (idiomlaw02_great.calls kj8 t1038 t1039 t1040 a0_0 a0_1 a0_2 true _ A50.out).mono ?_); rintro e w60 ⟨rfl, hb⟩; have n0_ := Aside0.mk (blk_below (g := gb1021) (o := .cells #[.bool a0_0, .string a0_1, .string a0_2] 23 (0, 0)) (by refine blk_far ?_ NB1021_1042.out _; refine blk_far ?_ NB1021_1042.out _; refine blk_far ?_ NB1021_1042.out _; exact BK1021.out) hb); have n1_ := Aside0.mk (blk_below (g := gb1027) (o := .cells #[.bool t1023, .string t1024, .string t1025] 23 (0, 0)) (by refine blk_far ?_ NB1027_1042.out _; refine blk_far ?_ NB1027_1042.out _; refine blk_far ?_ NB1027_1042.out _; exact BK1027.out) hb); have n2_ := Aside0.mk (blk_below (g := gb1036) (o := .cells #[.bool t1032, .string t1033, .string t1034] 23 (0, 0)) (by refine blk_far ?_ NB1036_1042.out _; refine blk_far ?_ NB1036_1042.out _; refine blk_far ?_ NB1036_1042.out _; exact BK1036.out) hb); have n3_ := Aside0.mk (blk_below (g := gb1042) (o := .cells #[.bool t1038, .string t1039, .string t1040] 23 (0, 0)) (by refine blk_put (cs := #[.bool t1038, .string t1039, .string (⟨#[]⟩ : ByteArray)]) ?_ 2 _ rfl; refine blk_put (cs := #[.bool t1038, .string (⟨#[]⟩ : ByteArray), .string (⟨#[]⟩ : ByteArray)]) ?_ 1 _ rfl; refine blk_put (cs := #[.bool false, .string (⟨#[]⟩ : ByteArray), .string (⟨#[]⟩ : ByteArray)]) ?_ 0 _ rfl; exact BK1042.out) hb); have n4_ := Aside0.mk (below_step (by repeat (first | (with_reducible first | exact HB.out | apply below_alloc | apply pw_below_drewN | apply below_drew1 | refine below_set ?_ GE1021.out | refine below_set ?_ GE1027.out | refine below_set ?_ GE1036.out | refine below_set ?_ GE1042.out) | exact HB.out)) hb); clear BK1021; clear BK1027; clear BK1036; clear BK1042; clear HB; have BK1021 := n0_; have BK1027 := n1_; have BK1036 := n2_; have BK1042 := n3_; have HB := n4_; clear n0_ n1_ n2_ n3_ n4_; have hcz61_0 : w60.cell? ⟨gb1042, 0, none⟩ = some (.bool t1038) := (blk_cell BK1042.out 0).trans rfl; have hcz61_1 : w60.cell? ⟨gb1042, 1, none⟩ = some (.string t1039) := (blk_cell BK1042.out 1).trans rfl; have hcz61_2 : w60.cell? ⟨gb1042, 2, none⟩ = some (.string t1040) := (blk_cell BK1042.out 2).trans rfl; have hfz61_0 := blk_frozen BK1042.out 0; have hfz61_1 := blk_frozen BK1042.out 1; have hfz61_2 := blk_frozen BK1042.out 2; have hcz62_0 : w60.cell? ⟨gb1021, 0, none⟩ = some (.bool a0_0) := (blk_cell BK1021.out 0).trans rfl; have hcz62_1 : w60.cell? ⟨gb1021, 1, none⟩ = some (.string a0_1) := (blk_cell BK1021.out 1).trans rfl; have hcz62_2 : w60.cell? ⟨gb1021, 2, none⟩ = some (.string a0_2) := (blk_cell BK1021.out 2).trans rfl; have hfz62_0 := blk_frozen BK1021.out 0; have hfz62_1 := blk_frozen BK1021.out 1; have hfz62_2 := blk_frozen BK1021.out 2))
         go_meet
         case rel => exact ⟨_, (((t1040.size : Int) != (ji52))), (by first | rfl | (simp; done) | (simp only [← hji52] <;> (first | rfl | simp)) | (simp [*]; done)), H', ⟨by have := HJ8.out; first | omega | exact Nat.le_refl _⟩, ⟨by exact BK1021.out⟩, ⟨by exact BK1027.out⟩, ⟨by exact BK1036.out⟩, ⟨by exact BK1042.out⟩, ⟨by repeat (first | (with_reducible first | exact HB.out | apply below_alloc | apply pw_below_drewN | apply below_drew1 | refine below_set ?_ GE1021.out | refine below_set ?_ GE1027.out | refine below_set ?_ GE1036.out | refine below_set ?_ GE1042.out) | exact HB.out)⟩⟩
        ·replace c51 := Bool.eq_false_iff.mpr c51
         subst c51
         have H1 : (idiomlaw02_DecimalShifts.j1 kj8 a1 true a0_0 a0_1 a0_2) = some r := by rw [if_neg (show ¬ (false = true) by decide)] at H; exact H
         clear H
         have H := H1
         clear H1
         have H' := Aside0.mk H
         clear H
         have hnb63 := NB1042_1021.out
         have hnc63 := NB1021_1042.out
         have hnb64 := NB1042_1027.out
         have hnc64 := NB1027_1042.out
         have hnb65 := NB1042_1036.out
         have hnc65 := NB1036_1042.out
         have hcz66_0 : w44.cell? ⟨gb1042, 0, none⟩ = some (.bool false) := (blk_cell BK1042.out 0).trans rfl
         have hcz66_1 : w44.cell? ⟨gb1042, 1, none⟩ = some (.string (⟨#[]⟩ : ByteArray)) := (blk_cell BK1042.out 1).trans rfl
         have hcz66_2 : w44.cell? ⟨gb1042, 2, none⟩ = some (.string (⟨#[]⟩ : ByteArray)) := (blk_cell BK1042.out 2).trans rfl
         have hfz66_0 := blk_frozen BK1042.out 0
         have hfz66_1 := blk_frozen BK1042.out 1
         have hfz66_2 := blk_frozen BK1042.out 2
         have hnb67 := NB1021_1027.out
         have hnc67 := NB1027_1021.out
         have hnb68 := NB1021_1036.out
         have hnc68 := NB1036_1021.out
         have hcz69_0 : w44.cell? ⟨gb1021, 0, none⟩ = some (.bool a0_0) := (blk_cell BK1021.out 0).trans rfl
         have hcz69_1 : w44.cell? ⟨gb1021, 1, none⟩ = some (.string a0_1) := (blk_cell BK1021.out 1).trans rfl
         have hcz69_2 : w44.cell? ⟨gb1021, 2, none⟩ = some (.string a0_2) := (blk_cell BK1021.out 2).trans rfl
         have hfz69_0 := blk_frozen BK1021.out 0
         have hfz69_1 := blk_frozen BK1021.out 1
         have hfz69_2 := blk_frozen BK1021.out 2
         go_wp2_with (first | (go_at_call 37; (with_reducible refine (idiomlaw02_great.calls kj8 t1038 t1039 t1040 a0_0 a0_1 a0_2 false _ A50.out).mono ?_); rintro e w70 ⟨rfl, hb⟩; have n0_ := Aside0.mk (blk_below (g := gb1021) (o := .cells #[.bool a0_0, .string a0_1, .string a0_2] 23 (0, 0)) (by refine blk_far ?_ NB1021_1042.out _; refine blk_far ?_ NB1021_1042.out _; refine blk_far ?_ NB1021_1042.out _; exact BK1021.out) hb); have n1_ := Aside0.mk (blk_below (g := gb1027) (o := .cells #[.bool t1023, .string t1024, .string t1025] 23 (0, 0)) (by refine blk_far ?_ NB1027_1042.out _; refine blk_far ?_ NB1027_1042.out _; refine blk_far ?_ NB1027_1042.out _; exact BK1027.out) hb); have n2_ := Aside0.mk (blk_below (g := gb1036) (o := .cells #[.bool t1032, .string t1033, .string t1034] 23 (0, 0)) (by refine blk_far ?_ NB1036_1042.out _; refine blk_far ?_ NB1036_1042.out _; refine blk_far ?_ NB1036_1042.out _; exact BK1036.out) hb); have n3_ := Aside0.mk (blk_below (g := gb1042) (o := .cells #[.bool t1038, .string t1039, .string t1040] 23 (0, 0)) (by refine blk_put (cs := #[.bool t1038, .string t1039, .string (⟨#[]⟩ : ByteArray)]) ?_ 2 _ rfl; refine blk_put (cs := #[.bool t1038, .string (⟨#[]⟩ : ByteArray), .string (⟨#[]⟩ : ByteArray)]) ?_ 1 _ rfl; refine blk_put (cs := #[.bool false, .string (⟨#[]⟩ : ByteArray), .string (⟨#[]⟩ : ByteArray)]) ?_ 0 _ rfl; exact BK1042.out) hb); have n4_ := Aside0.mk (below_step (by repeat (first | (with_reducible first | exact HB.out | apply below_alloc | apply pw_below_drewN | apply below_drew1 | refine below_set ?_ GE1021.out | refine below_set ?_ GE1027.out | refine below_set ?_ GE1036.out | refine below_set ?_ GE1042.out) | exact HB.out)) hb); clear BK1021; clear BK1027; clear BK1036; clear BK1042; clear HB; have BK1021 := n0_; have BK1027 := n1_; have BK1036 := n2_; have BK1042 := n3_; have HB := n4_; clear n0_ n1_ n2_ n3_ n4_))
         go_meet
         case rel => exact ⟨_, (true), (by first | rfl | (simp; done) | (simp [*]; done)), H', ⟨by have := HJ8.out; first | omega | exact Nat.le_refl _⟩, ⟨by exact BK1021.out⟩, ⟨by exact BK1027.out⟩, ⟨by exact BK1036.out⟩, ⟨by exact BK1042.out⟩, ⟨by repeat (first | (with_reducible first | exact HB.out | apply below_alloc | apply pw_below_drewN | apply below_drew1 | refine below_set ?_ GE1021.out | refine below_set ?_ GE1027.out | refine below_set ?_ GE1036.out | refine below_set ?_ GE1042.out) | exact HB.out)⟩⟩
       ·rw [if_neg c49] at H
        have c49b0 : (t1041 == 0) = false := beq_eq_false_iff_ne.mpr c49
        have c49b1 : (t1041 != 0) = true := bne_iff_ne.mpr c49
        (first | rw [c49b0] | (simp only [i64_w, i32_w]; rw [c49b0]) | rw [c49b1] | skip)
        have H' := Aside0.mk H
        clear H
        go_wp2
        go_meet
        case rel => exact ⟨_, (false), (by first | rfl | (simp; done) | (simp [*]; done)), H', ⟨by have := HJ8.out; first | omega | exact Nat.le_refl _⟩, ⟨by refine blk_far ?_ NB1021_1042.out _; refine blk_far ?_ NB1021_1042.out _; refine blk_far ?_ NB1021_1042.out _; exact BK1021.out⟩, ⟨by refine blk_far ?_ NB1027_1042.out _; refine blk_far ?_ NB1027_1042.out _; refine blk_far ?_ NB1027_1042.out _; exact BK1027.out⟩, ⟨by refine blk_far ?_ NB1036_1042.out _; refine blk_far ?_ NB1036_1042.out _; refine blk_far ?_ NB1036_1042.out _; exact BK1036.out⟩, ⟨by refine blk_put (cs := #[.bool t1038, .string t1039, .string (⟨#[]⟩ : ByteArray)]) ?_ 2 _ rfl; refine blk_put (cs := #[.bool t1038, .string (⟨#[]⟩ : ByteArray), .string (⟨#[]⟩ : ByteArray)]) ?_ 1 _ rfl; refine blk_put (cs := #[.bool false, .string (⟨#[]⟩ : ByteArray), .string (⟨#[]⟩ : ByteArray)]) ?_ 0 _ rfl; exact BK1042.out⟩, ⟨by repeat (first | (with_reducible first | exact HB.out | apply below_alloc | apply pw_below_drewN | apply below_drew1 | refine below_set ?_ GE1021.out | refine below_set ?_ GE1027.out | refine below_set ?_ GE1036.out | refine below_set ?_ GE1042.out) | exact HB.out)⟩⟩
      case rest =>
       clear HC39
       try clear c1
       try clear c2
       try clear p2
       try clear c3
       try clear c4
       try clear c5
       try clear c6
       try clear c7
       try clear c7b0
       try clear c7b1
       try clear c13
       try clear c15
       try clear c19
       try clear c20
       try clear c22
       try clear c22b0
       try clear c22b1
       try clear c23
       try clear c23b0
       try clear c24
       try clear c25
       try clear c27
       try clear c30
       try clear c31
       try clear c33
       try clear c37
       try clear c40
       try clear c41
       try clear c42
       try clear c45
       try clear c46
       try clear c47
       try clear c49
       try clear c49b0
       try clear c49b1
       try clear c51
       try clear c53
       try clear c54
       try clear c55
       try clear c57
       try clear c58
       try clear c63
       try clear c64
       try clear c65
       try clear c67
       try clear c68
       try clear hcz12_0
       try clear hcz12_1
       try clear hcz12_2
       try clear hcz16_0
       try clear hcz16_1
       try clear hcz16_2
       try clear hcz21_0
       try clear hcz21_1
       try clear hcz21_2
       try clear hcz26_0
       try clear hcz26_1
       try clear hcz26_2
       try clear hcz28_0
       try clear hcz28_1
       try clear hcz28_2
       try clear hcz32_0
       try clear hcz32_1
       try clear hcz32_2
       try clear hcz34_0
       try clear hcz34_1
       try clear hcz34_2
       try clear hcz35_0
       try clear hcz35_1
       try clear hcz35_2
       try clear hcz42_0
       try clear hcz42_1
       try clear hcz42_2
       try clear hcz48_0
       try clear hcz48_1
       try clear hcz48_2
       try clear hcz56_0
       try clear hcz56_1
       try clear hcz56_2
       try clear hcz59_0
       try clear hcz59_1
       try clear hcz59_2
       try clear hcz61_0
       try clear hcz61_1
       try clear hcz61_2
       try clear hcz62_0
       try clear hcz62_1
       try clear hcz62_2
       try clear hcz66_0
       try clear hcz66_1
       try clear hcz66_2
       try clear hcz69_0
       try clear hcz69_1
       try clear hcz69_2
       try clear hfz12_0
       try clear hfz12_1
       try clear hfz12_2
       try clear hfz16_0
       try clear hfz16_1
       try clear hfz16_2
       try clear hfz21_0
       try clear hfz21_1
       try clear hfz21_2
       try clear hfz26_0
       try clear hfz26_1
       try clear hfz26_2
       try clear hfz28_0
       try clear hfz28_1
       try clear hfz28_2
       try clear hfz32_0
       try clear hfz32_1
       try clear hfz32_2
       try clear hfz34_0
       try clear hfz34_1
       try clear hfz34_2
       try clear hfz35_0
       try clear hfz35_1
       try clear hfz35_2
       try clear hfz42_0
       try clear hfz42_1
       try clear hfz42_2
       try clear hfz48_0
       try clear hfz48_1
       try clear hfz48_2
       try clear hfz56_0
       try clear hfz56_1
       try clear hfz56_2
       try clear hfz59_0
       try clear hfz59_1
       try clear hfz59_2
       try clear hfz61_0
       try clear hfz61_1
       try clear hfz61_2
       try clear hfz62_0
       try clear hfz62_1
       try clear hfz62_2
       try clear hfz66_0
       try clear hfz66_1
       try clear hfz66_2
       try clear hfz69_0
       try clear hfz69_1
       try clear hfz69_2
       try clear p2
       obtain ⟨kq, x70_38, rfl, HA, HJ38, BK1021, BK1027, BK1036, BK1042, HB⟩ := hcut
       cases kq with
       | zero => exact absurd HA.out (by simp [idiomlaw02_DecimalShifts.j1])
       | succ kj38 =>
        have H := HA.out
        clear HA
        simp only [idiomlaw02_DecimalShifts.j1] at H
        by_cases c71 : x70_38 = true
        ·subst c71
         have H1 : (some false) = some r := by rw [if_pos rfl] at H; exact H
         clear H
         have H := H1
         clear H1
         obtain rfl := Option.some.inj H
         go_wp2
         go_ret
         exact ⟨by first | rfl | (simp [errW_none, errW_some] <;> rfl) | (simp [*, errW_none, errW_some] <;> rfl) | (simp [bne_nil_]; done), by repeat (first | (with_reducible first | exact HB.out | apply below_alloc | apply pw_below_drewN | apply below_drew1 | refine below_set ?_ GE1021.out | refine below_set ?_ GE1027.out | refine below_set ?_ GE1036.out | refine below_set ?_ GE1042.out) | exact HB.out)⟩
        ·replace c71 := Bool.eq_false_iff.mpr c71
         subst c71
         have H1 : ((decimal_Shift.f kj38 a0_0 a0_1 a0_2 a1).bind fun bt1044 => (if bt1044.2.2.2 = 0 then ((decimal_Shift.f kj38 bt1044.1 bt1044.2.1 bt1044.2.2.1 (wrap64 (-a1))).bind fun bt1049 => (if bt1049.2.2.2 = 0 then ((idiomlaw02_great.f kj38 bt1049.1 bt1049.2.1 bt1049.2.2.1 a0_0 a0_1 a0_2).bind fun t1054 => (some t1054)) else (some true))) else (some true))) = some r := by rw [if_neg (show ¬ (false = true) by decide)] at H; exact H
         clear H
         have H := H1
         clear H1
         replace H := Option.bind_eq_some_iff.mp H
         obtain ⟨⟨t1044, t1045, t1046, t1047⟩, A720, H⟩ := H
         try dsimp only at H
         have A72 := Aside0.mk A720
         clear A720
         by_cases c73 : t1047 = 0
         ·rw [if_pos c73] at H
          have c73b0 : (t1047 == 0) = true := beq_iff_eq.mpr c73
          have c73b1 : (t1047 != 0) = false := bne_eq_false_iff_eq.mpr c73
          clear c73
          replace H := Option.bind_eq_some_iff.mp H
          obtain ⟨⟨t1049, t1050, t1051, t1052⟩, A740, H⟩ := H
          try dsimp only at H
          have A74 := Aside0.mk A740
          clear A740
          by_cases c75 : t1052 = 0
          ·rw [if_pos c75] at H
           have c75b0 : (t1052 == 0) = true := beq_iff_eq.mpr c75
           have c75b1 : (t1052 != 0) = false := bne_eq_false_iff_eq.mpr c75
           clear c75
           replace H := Option.bind_eq_some_iff.mp H
           obtain ⟨t1054, A760, H⟩ := H
           try dsimp only at H
           have A76 := Aside0.mk A760
           clear A760
           obtain rfl := Option.some.inj H
           have hnb77 := NB1021_1027.out
           have hnc77 := NB1027_1021.out
           have hnb78 := NB1021_1036.out
           have hnc78 := NB1036_1021.out
           have hnb79 := NB1021_1042.out
           have hnc79 := NB1042_1021.out
           have hcz80_0 : wc.cell? ⟨gb1021, 0, none⟩ = some (.bool a0_0) := (blk_cell BK1021.out 0).trans rfl
           have hcz80_1 : wc.cell? ⟨gb1021, 1, none⟩ = some (.string a0_1) := (blk_cell BK1021.out 1).trans rfl
           have hcz80_2 : wc.cell? ⟨gb1021, 2, none⟩ = some (.string a0_2) := (blk_cell BK1021.out 2).trans rfl
           have hfz80_0 := blk_frozen BK1021.out 0
           have hfz80_1 := blk_frozen BK1021.out 1
           have hfz80_2 := blk_frozen BK1021.out 2
           go_wp2_with (first | ((with_reducible refine gate_callee (f := 40) rfl ?_); refine goesL_ (some 74) rfl rfl Tryd.func40 (by kernel_rfl) rfl #[.agg #[.bool a0_0, .string a0_1, .string a0_2], .int .i64 a1] rfl (by (try simp only [List.map_toArray, List.map_cons, List.map_nil]); first | done | rfl | (simp only [List.length_drop, List.length_take]; rfl)) ?_; (with_reducible refine (decimal_Shift.calls kj38 a0_0 a0_1 a0_2 a1 t1044 t1045 t1046 t1047 _ A72.out).mono ?_); rintro e w81 ⟨rfl, hb⟩; refine ⟨_, rfl, ?_⟩; have n0_ := Aside0.mk (blk_below (g := gb1021) (o := .cells #[.bool a0_0, .string a0_1, .string a0_2] 23 (0, 0)) BK1021.out hb); have n1_ := Aside0.mk (blk_below (g := gb1027) (o := .cells #[.bool t1023, .string t1024, .string t1025] 23 (0, 0)) BK1027.out hb); have n2_ := Aside0.mk (blk_below (g := gb1036) (o := .cells #[.bool t1032, .string t1033, .string t1034] 23 (0, 0)) BK1036.out hb); have n3_ := Aside0.mk (blk_below (g := gb1042) (o := .cells #[.bool t1038, .string t1039, .string t1040] 23 (0, 0)) BK1042.out hb); have n4_ := Aside0.mk (below_step HB.out hb); clear BK1021; clear BK1027; clear BK1036; clear BK1042; clear HB; have BK1021 := n0_; have BK1027 := n1_; have BK1036 := n2_; have BK1042 := n3_; have HB := n4_; clear n0_ n1_ n2_ n3_ n4_) | ((with_reducible refine gate_dst (N := 13) rfl ?_); (try (refine gate_guard (by rfl) ?_; dsimp only)); refine box_event ?hg (N := 13) ?hd (cs := #[.bool false, .string (⟨#[]⟩ : ByteArray), .string (⟨#[]⟩ : ByteArray)]) (t := 23) ?hr ?_; (case hd => rfl); (case hg => rfl); (case hr => first | (go_simp; done) | (go_simp; rfl)); intro gb1048 hg w82 hbox hb; have n0_ := Aside0.mk (blk_below (g := gb1021) (o := .cells #[.bool a0_0, .string a0_1, .string a0_2] 23 (0, 0)) BK1021.out hb); have n1_ := Aside0.mk (blk_below (g := gb1027) (o := .cells #[.bool t1023, .string t1024, .string t1025] 23 (0, 0)) BK1027.out hb); have n2_ := Aside0.mk (blk_below (g := gb1036) (o := .cells #[.bool t1032, .string t1033, .string t1034] 23 (0, 0)) BK1036.out hb); have n3_ := Aside0.mk (blk_below (g := gb1042) (o := .cells #[.bool t1038, .string t1039, .string t1040] 23 (0, 0)) BK1042.out hb); have n4_ := Aside0.mk (below_step HB.out hb); have n5_ := Aside0.mk (hbox); have n6_ := Aside0.mk ((by rw [hg]; exact (below_size HB.out) : w.heap.size ≤ gb1048)); have n7_ := Aside0.mk ((by rw [hg]; exact (below_size HB.out) : w.heap.size ≤ gb1048)); have n8_ := Aside0.mk ((by rw [hg]; exact Nat.ne_of_lt (blk_lt (g := gb1021) (o := .cells #[.bool a0_0, .string a0_1, .string a0_2] 23 (0, 0)) BK1021.out) : gb1021 ≠ gb1048)); have n9_ := Aside0.mk ((by rw [hg]; exact Nat.ne_of_gt (blk_lt (g := gb1021) (o := .cells #[.bool a0_0, .string a0_1, .string a0_2] 23 (0, 0)) BK1021.out) : gb1048 ≠ gb1021)); have n10_ := Aside0.mk ((by rw [hg]; exact Nat.ne_of_lt (blk_lt (g := gb1027) (o := .cells #[.bool t1023, .string t1024, .string t1025] 23 (0, 0)) BK1027.out) : gb1027 ≠ gb1048)); have n11_ := Aside0.mk ((by rw [hg]; exact Nat.ne_of_gt (blk_lt (g := gb1027) (o := .cells #[.bool t1023, .string t1024, .string t1025] 23 (0, 0)) BK1027.out) : gb1048 ≠ gb1027)); have n12_ := Aside0.mk ((by rw [hg]; exact Nat.ne_of_lt (blk_lt (g := gb1036) (o := .cells #[.bool t1032, .string t1033, .string t1034] 23 (0, 0)) BK1036.out) : gb1036 ≠ gb1048)); have n13_ := Aside0.mk ((by rw [hg]; exact Nat.ne_of_gt (blk_lt (g := gb1036) (o := .cells #[.bool t1032, .string t1033, .string t1034] 23 (0, 0)) BK1036.out) : gb1048 ≠ gb1036)); have n14_ := Aside0.mk ((by rw [hg]; exact Nat.ne_of_lt (blk_lt (g := gb1042) (o := .cells #[.bool t1038, .string t1039, .string t1040] 23 (0, 0)) BK1042.out) : gb1042 ≠ gb1048)); have n15_ := Aside0.mk ((by rw [hg]; exact Nat.ne_of_gt (blk_lt (g := gb1042) (o := .cells #[.bool t1038, .string t1039, .string t1040] 23 (0, 0)) BK1042.out) : gb1048 ≠ gb1042)); clear BK1021; clear BK1027; clear BK1036; clear BK1042; clear HB; have BK1021 := n0_; have BK1027 := n1_; have BK1036 := n2_; have BK1042 := n3_; have HB := n4_; have BK1048 := n5_; have GW1048 := n6_; have GE1048 := n7_; have NB1021_1048 := n8_; have NB1048_1021 := n9_; have NB1027_1048 := n10_; have NB1048_1027 := n11_; have NB1036_1048 := n12_; have NB1048_1036 := n13_; have NB1042_1048 := n14_; have NB1048_1042 := n15_; clear n0_ n1_ n2_ n3_ n4_ n5_ n6_ n7_ n8_ n9_ n10_ n11_ n12_ n13_ n14_ n15_; clear hb hbox hg; have hnb83 := NB1048_1021.out; have hnc83 := NB1021_1048.out; have hnb84 := NB1048_1027.out; have hnc84 := NB1027_1048.out; have hnb85 := NB1048_1036.out; have hnc85 := NB1036_1048.out; have hnb86 := NB1048_1042.out; have hnc86 := NB1042_1048.out; have hcz87_0 : w82.cell? ⟨gb1048, 0, none⟩ = some (.bool false) := (blk_cell BK1048.out 0).trans rfl; have hcz87_1 : w82.cell? ⟨gb1048, 1, none⟩ = some (.string (⟨#[]⟩ : ByteArray)) := (blk_cell BK1048.out 1).trans rfl; have hcz87_2 : w82.cell? ⟨gb1048, 2, none⟩ = some (.string (⟨#[]⟩ : ByteArray)) := (blk_cell BK1048.out 2).trans rfl; have hfz87_0 := blk_frozen BK1048.out 0; have hfz87_1 := blk_frozen BK1048.out 1; have hfz87_2 := blk_frozen BK1048.out 2) | ((with_reducible refine gate_callee (f := 40) rfl ?_); refine goesL_ (some 83) rfl rfl Tryd.func40 (by kernel_rfl) rfl #[.agg #[.bool t1044, .string t1045, .string t1046], .int .i64 (wrap64 (-a1))] rfl (by (try simp only [List.map_toArray, List.map_cons, List.map_nil]); first | done | rfl | (simp only [List.length_drop, List.length_take]; rfl)) ?_; (with_reducible refine (decimal_Shift.calls kj38 t1044 t1045 t1046 (wrap64 (-a1)) t1049 t1050 t1051 t1052 _ A74.out).mono ?_); rintro e w88 ⟨rfl, hb⟩; refine ⟨_, rfl, ?_⟩; have n0_ := Aside0.mk (blk_below (g := gb1021) (o := .cells #[.bool a0_0, .string a0_1, .string a0_2] 23 (0, 0)) (by refine blk_far ?_ NB1021_1048.out _; refine blk_far ?_ NB1021_1048.out _; refine blk_far ?_ NB1021_1048.out _; exact BK1021.out) hb); have n1_ := Aside0.mk (blk_below (g := gb1027) (o := .cells #[.bool t1023, .string t1024, .string t1025] 23 (0, 0)) (by refine blk_far ?_ NB1027_1048.out _; refine blk_far ?_ NB1027_1048.out _; refine blk_far ?_ NB1027_1048.out _; exact BK1027.out) hb); have n2_ := Aside0.mk (blk_below (g := gb1036) (o := .cells #[.bool t1032, .string t1033, .string t1034] 23 (0, 0)) (by refine blk_far ?_ NB1036_1048.out _; refine blk_far ?_ NB1036_1048.out _; refine blk_far ?_ NB1036_1048.out _; exact BK1036.out) hb); have n3_ := Aside0.mk (blk_below (g := gb1042) (o := .cells #[.bool t1038, .string t1039, .string t1040] 23 (0, 0)) (by refine blk_far ?_ NB1042_1048.out _; refine blk_far ?_ NB1042_1048.out _; refine blk_far ?_ NB1042_1048.out _; exact BK1042.out) hb); have n4_ := Aside0.mk (blk_below (g := gb1048) (o := .cells #[.bool t1044, .string t1045, .string t1046] 23 (0, 0)) (by refine blk_put (cs := #[.bool t1044, .string t1045, .string (⟨#[]⟩ : ByteArray)]) ?_ 2 _ rfl; refine blk_put (cs := #[.bool t1044, .string (⟨#[]⟩ : ByteArray), .string (⟨#[]⟩ : ByteArray)]) ?_ 1 _ rfl; refine blk_put (cs := #[.bool false, .string (⟨#[]⟩ : ByteArray), .string (⟨#[]⟩ : ByteArray)]) ?_ 0 _ rfl; exact BK1048.out) hb); have n5_ := Aside0.mk (below_step (by repeat (first | (with_reducible first | exact HB.out | apply below_alloc | apply pw_below_drewN | apply below_drew1 | refine below_set ?_ GE1021.out | refine below_set ?_ GE1027.out | refine below_set ?_ GE1036.out | refine below_set ?_ GE1042.out | refine below_set ?_ GE1048.out) | exact HB.out)) hb); clear BK1021; clear BK1027; clear BK1036; clear BK1042; clear BK1048; clear HB; have BK1021 := n0_; have BK1027 := n1_; have BK1036 := n2_; have BK1042 := n3_; have BK1048 := n4_; have HB := n5_; clear n0_ n1_ n2_ n3_ n4_ n5_) | ((with_reducible refine gate_dst (N := 14) rfl ?_); (try (refine gate_guard (by rfl) ?_; dsimp only)); refine box_event ?hg (N := 14) ?hd (cs := #[.bool false, .string (⟨#[]⟩ : ByteArray), .string (⟨#[]⟩ : ByteArray)]) (t := 23) ?hr ?_; (case hd => rfl); (case hg => rfl); (case hr => first | (go_simp; done) | (go_simp; rfl)); intro gb1053 hg w89 hbox hb; have n0_ := Aside0.mk (blk_below (g := gb1021) (o := .cells #[.bool a0_0, .string a0_1, .string a0_2] 23 (0, 0)) BK1021.out hb); have n1_ := Aside0.mk (blk_below (g := gb1027) (o := .cells #[.bool t1023, .string t1024, .string t1025] 23 (0, 0)) BK1027.out hb); have n2_ := Aside0.mk (blk_below (g := gb1036) (o := .cells #[.bool t1032, .string t1033, .string t1034] 23 (0, 0)) BK1036.out hb); have n3_ := Aside0.mk (blk_below (g := gb1042) (o := .cells #[.bool t1038, .string t1039, .string t1040] 23 (0, 0)) BK1042.out hb); have n4_ := Aside0.mk (blk_below (g := gb1048) (o := .cells #[.bool t1044, .string t1045, .string t1046] 23 (0, 0)) BK1048.out hb); have n5_ := Aside0.mk (below_step HB.out hb); have n6_ := Aside0.mk (hbox); have n7_ := Aside0.mk ((by rw [hg]; exact (below_size HB.out) : w.heap.size ≤ gb1053)); have n8_ := Aside0.mk ((by rw [hg]; exact (below_size HB.out) : w.heap.size ≤ gb1053)); have n9_ := Aside0.mk ((by rw [hg]; exact Nat.ne_of_lt (blk_lt (g := gb1021) (o := .cells #[.bool a0_0, .string a0_1, .string a0_2] 23 (0, 0)) BK1021.out) : gb1021 ≠ gb1053)); have n10_ := Aside0.mk ((by rw [hg]; exact Nat.ne_of_gt (blk_lt (g := gb1021) (o := .cells #[.bool a0_0, .string a0_1, .string a0_2] 23 (0, 0)) BK1021.out) : gb1053 ≠ gb1021)); have n11_ := Aside0.mk ((by rw [hg]; exact Nat.ne_of_lt (blk_lt (g := gb1027) (o := .cells #[.bool t1023, .string t1024, .string t1025] 23 (0, 0)) BK1027.out) : gb1027 ≠ gb1053)); have n12_ := Aside0.mk ((by rw [hg]; exact Nat.ne_of_gt (blk_lt (g := gb1027) (o := .cells #[.bool t1023, .string t1024, .string t1025] 23 (0, 0)) BK1027.out) : gb1053 ≠ gb1027)); have n13_ := Aside0.mk ((by rw [hg]; exact Nat.ne_of_lt (blk_lt (g := gb1036) (o := .cells #[.bool t1032, .string t1033, .string t1034] 23 (0, 0)) BK1036.out) : gb1036 ≠ gb1053)); have n14_ := Aside0.mk ((by rw [hg]; exact Nat.ne_of_gt (blk_lt (g := gb1036) (o := .cells #[.bool t1032, .string t1033, .string t1034] 23 (0, 0)) BK1036.out) : gb1053 ≠ gb1036)); have n15_ := Aside0.mk ((by rw [hg]; exact Nat.ne_of_lt (blk_lt (g := gb1042) (o := .cells #[.bool t1038, .string t1039, .string t1040] 23 (0, 0)) BK1042.out) : gb1042 ≠ gb1053)); have n16_ := Aside0.mk ((by rw [hg]; exact Nat.ne_of_gt (blk_lt (g := gb1042) (o := .cells #[.bool t1038, .string t1039, .string t1040] 23 (0, 0)) BK1042.out) : gb1053 ≠ gb1042)); have n17_ := Aside0.mk ((by rw [hg]; exact Nat.ne_of_lt (blk_lt (g := gb1048) (o := .cells #[.bool t1044, .string t1045, .string t1046] 23 (0, 0)) BK1048.out) : gb1048 ≠ gb1053)); have n18_ := Aside0.mk ((by rw [hg]; exact Nat.ne_of_gt (blk_lt (g := gb1048) (o := .cells #[.bool t1044, .string t1045, .string t1046] 23 (0, 0)) BK1048.out) : gb1053 ≠ gb1048)); clear BK1021; clear BK1027; clear BK1036; clear BK1042; clear BK1048; clear HB; have BK1021 := n0_; have BK1027 := n1_; have BK1036 := n2_; have BK1042 := n3_; have BK1048 := n4_; have HB := n5_; have BK1053 := n6_; have GW1053 := n7_; have GE1053 := n8_; have NB1021_1053 := n9_; have NB1053_1021 := n10_; have NB1027_1053 := n11_; have NB1053_1027 := n12_; have NB1036_1053 := n13_; have NB1053_1036 := n14_; have NB1042_1053 := n15_; have NB1053_1042 := n16_; have NB1048_1053 := n17_; have NB1053_1048 := n18_; clear n0_ n1_ n2_ n3_ n4_ n5_ n6_ n7_ n8_ n9_ n10_ n11_ n12_ n13_ n14_ n15_ n16_ n17_ n18_; clear hb hbox hg; have hnb90 := NB1053_1021.out; have hnc90 := NB1021_1053.out; have hnb91 := NB1053_1027.out; have hnc91 := NB1027_1053.out; have hnb92 := NB1053_1036.out; have hnc92 := NB1036_1053.out; have hnb93 := NB1053_1042.out; have hnc93 := NB1042_1053.out; have hnb94 := NB1053_1048.out; have hnc94 := NB1048_1053.out; have hcz95_0 : w89.cell? ⟨gb1053, 0, none⟩ = some (.bool false) := (blk_cell BK1053.out 0).trans rfl; have hcz95_1 : w89.cell? ⟨gb1053, 1, none⟩ = some (.string (⟨#[]⟩ : ByteArray)) := (blk_cell BK1053.out 1).trans rfl; have hcz95_2 : w89.cell? ⟨gb1053, 2, none⟩ = some (.string (⟨#[]⟩ : ByteArray)) := (blk_cell BK1053.out 2).trans rfl; have hfz95_0 := blk_frozen BK1053.out 0; have hfz95_1 := blk_frozen BK1053.out 1; have hfz95_2 := blk_frozen BK1053.out 2; have hcz96_0 : w89.cell? ⟨gb1021, 0, none⟩ = some (.bool a0_0) := (blk_cell BK1021.out 0).trans rfl; have hcz96_1 : w89.cell? ⟨gb1021, 1, none⟩ = some (.string a0_1) := (blk_cell BK1021.out 1).trans rfl; have hcz96_2 : w89.cell? ⟨gb1021, 2, none⟩ = some (.string a0_2) := (blk_cell BK1021.out 2).trans rfl; have hfz96_0 := blk_frozen BK1021.out 0; have hfz96_1 := blk_frozen BK1021.out 1; have hfz96_2 := blk_frozen BK1021.out 2) | (go_at_call 37; (with_reducible refine (idiomlaw02_great.calls kj38 t1049 t1050 t1051 a0_0 a0_1 a0_2 t1054 _ A76.out).mono ?_); rintro e w97 ⟨rfl, hb⟩; have n0_ := Aside0.mk (blk_below (g := gb1021) (o := .cells #[.bool a0_0, .string a0_1, .string a0_2] 23 (0, 0)) (by refine blk_far ?_ NB1021_1053.out _; refine blk_far ?_ NB1021_1053.out _; refine blk_far ?_ NB1021_1053.out _; exact BK1021.out) hb); have n1_ := Aside0.mk (blk_below (g := gb1027) (o := .cells #[.bool t1023, .string t1024, .string t1025] 23 (0, 0)) (by refine blk_far ?_ NB1027_1053.out _; refine blk_far ?_ NB1027_1053.out _; refine blk_far ?_ NB1027_1053.out _; exact BK1027.out) hb); have n2_ := Aside0.mk (blk_below (g := gb1036) (o := .cells #[.bool t1032, .string t1033, .string t1034] 23 (0, 0)) (by refine blk_far ?_ NB1036_1053.out _; refine blk_far ?_ NB1036_1053.out _; refine blk_far ?_ NB1036_1053.out _; exact BK1036.out) hb); have n3_ := Aside0.mk (blk_below (g := gb1042) (o := .cells #[.bool t1038, .string t1039, .string t1040] 23 (0, 0)) (by refine blk_far ?_ NB1042_1053.out _; refine blk_far ?_ NB1042_1053.out _; refine blk_far ?_ NB1042_1053.out _; exact BK1042.out) hb); have n4_ := Aside0.mk (blk_below (g := gb1048) (o := .cells #[.bool t1044, .string t1045, .string t1046] 23 (0, 0)) (by refine blk_far ?_ NB1048_1053.out _; refine blk_far ?_ NB1048_1053.out _; refine blk_far ?_ NB1048_1053.out _; exact BK1048.out) hb); have n5_ := Aside0.mk (blk_below (g := gb1053) (o := .cells #[.bool t1049, .string t1050, .string t1051] 23 (0, 0)) (by refine blk_put (cs := #[.bool t1049, .string t1050, .string (⟨#[]⟩ : ByteArray)]) ?_ 2 _ rfl; refine blk_put (cs := #[.bool t1049, .string (⟨#[]⟩ : ByteArray), .string (⟨#[]⟩ : ByteArray)]) ?_ 1 _ rfl; refine blk_put (cs := #[.bool false, .string (⟨#[]⟩ : ByteArray), .string (⟨#[]⟩ : ByteArray)]) ?_ 0 _ rfl; exact BK1053.out) hb); have n6_ := Aside0.mk (below_step (by repeat (first | (with_reducible first | exact HB.out | apply below_alloc | apply pw_below_drewN | apply below_drew1 | refine below_set ?_ GE1021.out | refine below_set ?_ GE1027.out | refine below_set ?_ GE1036.out | refine below_set ?_ GE1042.out | refine below_set ?_ GE1048.out | refine below_set ?_ GE1053.out) | exact HB.out)) hb); clear BK1021; clear BK1027; clear BK1036; clear BK1042; clear BK1048; clear BK1053; clear HB; have BK1021 := n0_; have BK1027 := n1_; have BK1036 := n2_; have BK1042 := n3_; have BK1048 := n4_; have BK1053 := n5_; have HB := n6_; clear n0_ n1_ n2_ n3_ n4_ n5_ n6_))
           go_ret
           exact ⟨by first | rfl | (simp [errW_none, errW_some] <;> rfl) | (simp [*, errW_none, errW_some] <;> rfl) | (simp [bne_nil_]; done), by repeat (first | (with_reducible first | exact HB.out | apply below_alloc | apply pw_below_drewN | apply below_drew1 | refine below_set ?_ GE1021.out | refine below_set ?_ GE1027.out | refine below_set ?_ GE1036.out | refine below_set ?_ GE1042.out | refine below_set ?_ GE1048.out | refine below_set ?_ GE1053.out) | exact HB.out)⟩
          ·rw [if_neg c75] at H
           have c75b0 : (t1052 == 0) = false := beq_eq_false_iff_ne.mpr c75
           have c75b1 : (t1052 != 0) = true := bne_iff_ne.mpr c75
           obtain rfl := Option.some.inj H
           have hnb98 := NB1021_1027.out
           have hnc98 := NB1027_1021.out
           have hnb99 := NB1021_1036.out
           have hnc99 := NB1036_1021.out
           have hnb100 := NB1021_1042.out
           have hnc100 := NB1042_1021.out
           have hcz101_0 : wc.cell? ⟨gb1021, 0, none⟩ = some (.bool a0_0) := (blk_cell BK1021.out 0).trans rfl
           have hcz101_1 : wc.cell? ⟨gb1021, 1, none⟩ = some (.string a0_1) := (blk_cell BK1021.out 1).trans rfl
           have hcz101_2 : wc.cell? ⟨gb1021, 2, none⟩ = some (.string a0_2) := (blk_cell BK1021.out 2).trans rfl
           have hfz101_0 := blk_frozen BK1021.out 0
           have hfz101_1 := blk_frozen BK1021.out 1
           have hfz101_2 := blk_frozen BK1021.out 2
           go_wp2_with (first | ((with_reducible refine gate_callee (f := 40) rfl ?_); refine goesL_ (some 74) rfl rfl Tryd.func40 (by kernel_rfl) rfl #[.agg #[.bool a0_0, .string a0_1, .string a0_2], .int .i64 a1] rfl (by (try simp only [List.map_toArray, List.map_cons, List.map_nil]); first | done | rfl | (simp only [List.length_drop, List.length_take]; rfl)) ?_; (with_reducible refine (decimal_Shift.calls kj38 a0_0 a0_1 a0_2 a1 t1044 t1045 t1046 t1047 _ A72.out).mono ?_); rintro e w102 ⟨rfl, hb⟩; refine ⟨_, rfl, ?_⟩; have n0_ := Aside0.mk (blk_below (g := gb1021) (o := .cells #[.bool a0_0, .string a0_1, .string a0_2] 23 (0, 0)) BK1021.out hb); have n1_ := Aside0.mk (blk_below (g := gb1027) (o := .cells #[.bool t1023, .string t1024, .string t1025] 23 (0, 0)) BK1027.out hb); have n2_ := Aside0.mk (blk_below (g := gb1036) (o := .cells #[.bool t1032, .string t1033, .string t1034] 23 (0, 0)) BK1036.out hb); have n3_ := Aside0.mk (blk_below (g := gb1042) (o := .cells #[.bool t1038, .string t1039, .string t1040] 23 (0, 0)) BK1042.out hb); have n4_ := Aside0.mk (below_step HB.out hb); clear BK1021; clear BK1027; clear BK1036; clear BK1042; clear HB; have BK1021 := n0_; have BK1027 := n1_; have BK1036 := n2_; have BK1042 := n3_; have HB := n4_; clear n0_ n1_ n2_ n3_ n4_) | ((with_reducible refine gate_dst (N := 13) rfl ?_); (try (refine gate_guard (by rfl) ?_; dsimp only)); refine box_event ?hg (N := 13) ?hd (cs := #[.bool false, .string (⟨#[]⟩ : ByteArray), .string (⟨#[]⟩ : ByteArray)]) (t := 23) ?hr ?_; (case hd => rfl); (case hg => rfl); (case hr => first | (go_simp; done) | (go_simp; rfl)); intro gb1048 hg w103 hbox hb; have n0_ := Aside0.mk (blk_below (g := gb1021) (o := .cells #[.bool a0_0, .string a0_1, .string a0_2] 23 (0, 0)) BK1021.out hb); have n1_ := Aside0.mk (blk_below (g := gb1027) (o := .cells #[.bool t1023, .string t1024, .string t1025] 23 (0, 0)) BK1027.out hb); have n2_ := Aside0.mk (blk_below (g := gb1036) (o := .cells #[.bool t1032, .string t1033, .string t1034] 23 (0, 0)) BK1036.out hb); have n3_ := Aside0.mk (blk_below (g := gb1042) (o := .cells #[.bool t1038, .string t1039, .string t1040] 23 (0, 0)) BK1042.out hb); have n4_ := Aside0.mk (below_step HB.out hb); have n5_ := Aside0.mk (hbox); have n6_ := Aside0.mk ((by rw [hg]; exact (below_size HB.out) : w.heap.size ≤ gb1048)); have n7_ := Aside0.mk ((by rw [hg]; exact (below_size HB.out) : w.heap.size ≤ gb1048)); have n8_ := Aside0.mk ((by rw [hg]; exact Nat.ne_of_lt (blk_lt (g := gb1021) (o := .cells #[.bool a0_0, .string a0_1, .string a0_2] 23 (0, 0)) BK1021.out) : gb1021 ≠ gb1048)); have n9_ := Aside0.mk ((by rw [hg]; exact Nat.ne_of_gt (blk_lt (g := gb1021) (o := .cells #[.bool a0_0, .string a0_1, .string a0_2] 23 (0, 0)) BK1021.out) : gb1048 ≠ gb1021)); have n10_ := Aside0.mk ((by rw [hg]; exact Nat.ne_of_lt (blk_lt (g := gb1027) (o := .cells #[.bool t1023, .string t1024, .string t1025] 23 (0, 0)) BK1027.out) : gb1027 ≠ gb1048)); have n11_ := Aside0.mk ((by rw [hg]; exact Nat.ne_of_gt (blk_lt (g := gb1027) (o := .cells #[.bool t1023, .string t1024, .string t1025] 23 (0, 0)) BK1027.out) : gb1048 ≠ gb1027)); have n12_ := Aside0.mk ((by rw [hg]; exact Nat.ne_of_lt (blk_lt (g := gb1036) (o := .cells #[.bool t1032, .string t1033, .string t1034] 23 (0, 0)) BK1036.out) : gb1036 ≠ gb1048)); have n13_ := Aside0.mk ((by rw [hg]; exact Nat.ne_of_gt (blk_lt (g := gb1036) (o := .cells #[.bool t1032, .string t1033, .string t1034] 23 (0, 0)) BK1036.out) : gb1048 ≠ gb1036)); have n14_ := Aside0.mk ((by rw [hg]; exact Nat.ne_of_lt (blk_lt (g := gb1042) (o := .cells #[.bool t1038, .string t1039, .string t1040] 23 (0, 0)) BK1042.out) : gb1042 ≠ gb1048)); have n15_ := Aside0.mk ((by rw [hg]; exact Nat.ne_of_gt (blk_lt (g := gb1042) (o := .cells #[.bool t1038, .string t1039, .string t1040] 23 (0, 0)) BK1042.out) : gb1048 ≠ gb1042)); clear BK1021; clear BK1027; clear BK1036; clear BK1042; clear HB; have BK1021 := n0_; have BK1027 := n1_; have BK1036 := n2_; have BK1042 := n3_; have HB := n4_; have BK1048 := n5_; have GW1048 := n6_; have GE1048 := n7_; have NB1021_1048 := n8_; have NB1048_1021 := n9_; have NB1027_1048 := n10_; have NB1048_1027 := n11_; have NB1036_1048 := n12_; have NB1048_1036 := n13_; have NB1042_1048 := n14_; have NB1048_1042 := n15_; clear n0_ n1_ n2_ n3_ n4_ n5_ n6_ n7_ n8_ n9_ n10_ n11_ n12_ n13_ n14_ n15_; clear hb hbox hg; have hnb104 := NB1048_1021.out; have hnc104 := NB1021_1048.out; have hnb105 := NB1048_1027.out; have hnc105 := NB1027_1048.out; have hnb106 := NB1048_1036.out; have hnc106 := NB1036_1048.out; have hnb107 := NB1048_1042.out; have hnc107 := NB1042_1048.out; have hcz108_0 : w103.cell? ⟨gb1048, 0, none⟩ = some (.bool false) := (blk_cell BK1048.out 0).trans rfl; have hcz108_1 : w103.cell? ⟨gb1048, 1, none⟩ = some (.string (⟨#[]⟩ : ByteArray)) := (blk_cell BK1048.out 1).trans rfl; have hcz108_2 : w103.cell? ⟨gb1048, 2, none⟩ = some (.string (⟨#[]⟩ : ByteArray)) := (blk_cell BK1048.out 2).trans rfl; have hfz108_0 := blk_frozen BK1048.out 0; have hfz108_1 := blk_frozen BK1048.out 1; have hfz108_2 := blk_frozen BK1048.out 2) | ((with_reducible refine gate_callee (f := 40) rfl ?_); refine goesL_ (some 83) rfl rfl Tryd.func40 (by kernel_rfl) rfl #[.agg #[.bool t1044, .string t1045, .string t1046], .int .i64 (wrap64 (-a1))] rfl (by (try simp only [List.map_toArray, List.map_cons, List.map_nil]); first | done | rfl | (simp only [List.length_drop, List.length_take]; rfl)) ?_; (with_reducible refine (decimal_Shift.calls kj38 t1044 t1045 t1046 (wrap64 (-a1)) t1049 t1050 t1051 t1052 _ A74.out).mono ?_); rintro e w109 ⟨rfl, hb⟩; refine ⟨_, rfl, ?_⟩; have n0_ := Aside0.mk (blk_below (g := gb1021) (o := .cells #[.bool a0_0, .string a0_1, .string a0_2] 23 (0, 0)) (by refine blk_far ?_ NB1021_1048.out _; refine blk_far ?_ NB1021_1048.out _; refine blk_far ?_ NB1021_1048.out _; exact BK1021.out) hb); have n1_ := Aside0.mk (blk_below (g := gb1027) (o := .cells #[.bool t1023, .string t1024, .string t1025] 23 (0, 0)) (by refine blk_far ?_ NB1027_1048.out _; refine blk_far ?_ NB1027_1048.out _; refine blk_far ?_ NB1027_1048.out _; exact BK1027.out) hb); have n2_ := Aside0.mk (blk_below (g := gb1036) (o := .cells #[.bool t1032, .string t1033, .string t1034] 23 (0, 0)) (by refine blk_far ?_ NB1036_1048.out _; refine blk_far ?_ NB1036_1048.out _; refine blk_far ?_ NB1036_1048.out _; exact BK1036.out) hb); have n3_ := Aside0.mk (blk_below (g := gb1042) (o := .cells #[.bool t1038, .string t1039, .string t1040] 23 (0, 0)) (by refine blk_far ?_ NB1042_1048.out _; refine blk_far ?_ NB1042_1048.out _; refine blk_far ?_ NB1042_1048.out _; exact BK1042.out) hb); have n4_ := Aside0.mk (blk_below (g := gb1048) (o := .cells #[.bool t1044, .string t1045, .string t1046] 23 (0, 0)) (by refine blk_put (cs := #[.bool t1044, .string t1045, .string (⟨#[]⟩ : ByteArray)]) ?_ 2 _ rfl; refine blk_put (cs := #[.bool t1044, .string (⟨#[]⟩ : ByteArray), .string (⟨#[]⟩ : ByteArray)]) ?_ 1 _ rfl; refine blk_put (cs := #[.bool false, .string (⟨#[]⟩ : ByteArray), .string (⟨#[]⟩ : ByteArray)]) ?_ 0 _ rfl; exact BK1048.out) hb); have n5_ := Aside0.mk (below_step (by repeat (first | (with_reducible first | exact HB.out | apply below_alloc | apply pw_below_drewN | apply below_drew1 | refine below_set ?_ GE1021.out | refine below_set ?_ GE1027.out | refine below_set ?_ GE1036.out | refine below_set ?_ GE1042.out | refine below_set ?_ GE1048.out) | exact HB.out)) hb); clear BK1021; clear BK1027; clear BK1036; clear BK1042; clear BK1048; clear HB; have BK1021 := n0_; have BK1027 := n1_; have BK1036 := n2_; have BK1042 := n3_; have BK1048 := n4_; have HB := n5_; clear n0_ n1_ n2_ n3_ n4_ n5_) | ((with_reducible refine gate_dst (N := 14) rfl ?_); (try (refine gate_guard (by rfl) ?_; dsimp only)); refine box_event ?hg (N := 14) ?hd (cs := #[.bool false, .string (⟨#[]⟩ : ByteArray), .string (⟨#[]⟩ : ByteArray)]) (t := 23) ?hr ?_; (case hd => rfl); (case hg => rfl); (case hr => first | (go_simp; done) | (go_simp; rfl)); intro gb1053 hg w110 hbox hb; have n0_ := Aside0.mk (blk_below (g := gb1021) (o := .cells #[.bool a0_0, .string a0_1, .string a0_2] 23 (0, 0)) BK1021.out hb); have n1_ := Aside0.mk (blk_below (g := gb1027) (o := .cells #[.bool t1023, .string t1024, .string t1025] 23 (0, 0)) BK1027.out hb); have n2_ := Aside0.mk (blk_below (g := gb1036) (o := .cells #[.bool t1032, .string t1033, .string t1034] 23 (0, 0)) BK1036.out hb); have n3_ := Aside0.mk (blk_below (g := gb1042) (o := .cells #[.bool t1038, .string t1039, .string t1040] 23 (0, 0)) BK1042.out hb); have n4_ := Aside0.mk (blk_below (g := gb1048) (o := .cells #[.bool t1044, .string t1045, .string t1046] 23 (0, 0)) BK1048.out hb); have n5_ := Aside0.mk (below_step HB.out hb); have n6_ := Aside0.mk (hbox); have n7_ := Aside0.mk ((by rw [hg]; exact (below_size HB.out) : w.heap.size ≤ gb1053)); have n8_ := Aside0.mk ((by rw [hg]; exact (below_size HB.out) : w.heap.size ≤ gb1053)); have n9_ := Aside0.mk ((by rw [hg]; exact Nat.ne_of_lt (blk_lt (g := gb1021) (o := .cells #[.bool a0_0, .string a0_1, .string a0_2] 23 (0, 0)) BK1021.out) : gb1021 ≠ gb1053)); have n10_ := Aside0.mk ((by rw [hg]; exact Nat.ne_of_gt (blk_lt (g := gb1021) (o := .cells #[.bool a0_0, .string a0_1, .string a0_2] 23 (0, 0)) BK1021.out) : gb1053 ≠ gb1021)); have n11_ := Aside0.mk ((by rw [hg]; exact Nat.ne_of_lt (blk_lt (g := gb1027) (o := .cells #[.bool t1023, .string t1024, .string t1025] 23 (0, 0)) BK1027.out) : gb1027 ≠ gb1053)); have n12_ := Aside0.mk ((by rw [hg]; exact Nat.ne_of_gt (blk_lt (g := gb1027) (o := .cells #[.bool t1023, .string t1024, .string t1025] 23 (0, 0)) BK1027.out) : gb1053 ≠ gb1027)); have n13_ := Aside0.mk ((by rw [hg]; exact Nat.ne_of_lt (blk_lt (g := gb1036) (o := .cells #[.bool t1032, .string t1033, .string t1034] 23 (0, 0)) BK1036.out) : gb1036 ≠ gb1053)); have n14_ := Aside0.mk ((by rw [hg]; exact Nat.ne_of_gt (blk_lt (g := gb1036) (o := .cells #[.bool t1032, .string t1033, .string t1034] 23 (0, 0)) BK1036.out) : gb1053 ≠ gb1036)); have n15_ := Aside0.mk ((by rw [hg]; exact Nat.ne_of_lt (blk_lt (g := gb1042) (o := .cells #[.bool t1038, .string t1039, .string t1040] 23 (0, 0)) BK1042.out) : gb1042 ≠ gb1053)); have n16_ := Aside0.mk ((by rw [hg]; exact Nat.ne_of_gt (blk_lt (g := gb1042) (o := .cells #[.bool t1038, .string t1039, .string t1040] 23 (0, 0)) BK1042.out) : gb1053 ≠ gb1042)); have n17_ := Aside0.mk ((by rw [hg]; exact Nat.ne_of_lt (blk_lt (g := gb1048) (o := .cells #[.bool t1044, .string t1045, .string t1046] 23 (0, 0)) BK1048.out) : gb1048 ≠ gb1053)); have n18_ := Aside0.mk ((by rw [hg]; exact Nat.ne_of_gt (blk_lt (g := gb1048) (o := .cells #[.bool t1044, .string t1045, .string t1046] 23 (0, 0)) BK1048.out) : gb1053 ≠ gb1048)); clear BK1021; clear BK1027; clear BK1036; clear BK1042; clear BK1048; clear HB; have BK1021 := n0_; have BK1027 := n1_; have BK1036 := n2_; have BK1042 := n3_; have BK1048 := n4_; have HB := n5_; have BK1053 := n6_; have GW1053 := n7_; have GE1053 := n8_; have NB1021_1053 := n9_; have NB1053_1021 := n10_; have NB1027_1053 := n11_; have NB1053_1027 := n12_; have NB1036_1053 := n13_; have NB1053_1036 := n14_; have NB1042_1053 := n15_; have NB1053_1042 := n16_; have NB1048_1053 := n17_; have NB1053_1048 := n18_; clear n0_ n1_ n2_ n3_ n4_ n5_ n6_ n7_ n8_ n9_ n10_ n11_ n12_ n13_ n14_ n15_ n16_ n17_ n18_; clear hb hbox hg; have hnb111 := NB1053_1021.out; have hnc111 := NB1021_1053.out; have hnb112 := NB1053_1027.out; have hnc112 := NB1027_1053.out; have hnb113 := NB1053_1036.out; have hnc113 := NB1036_1053.out; have hnb114 := NB1053_1042.out; have hnc114 := NB1042_1053.out; have hnb115 := NB1053_1048.out; have hnc115 := NB1048_1053.out; have hcz116_0 : w110.cell? ⟨gb1053, 0, none⟩ = some (.bool false) := (blk_cell BK1053.out 0).trans rfl; have hcz116_1 : w110.cell? ⟨gb1053, 1, none⟩ = some (.string (⟨#[]⟩ : ByteArray)) := (blk_cell BK1053.out 1).trans rfl; have hcz116_2 : w110.cell? ⟨gb1053, 2, none⟩ = some (.string (⟨#[]⟩ : ByteArray)) := (blk_cell BK1053.out 2).trans rfl; have hfz116_0 := blk_frozen BK1053.out 0; have hfz116_1 := blk_frozen BK1053.out 1; have hfz116_2 := blk_frozen BK1053.out 2))
           go_ret
           exact ⟨by first | rfl | (simp [errW_none, errW_some] <;> rfl) | (simp [*, errW_none, errW_some] <;> rfl) | (simp [bne_nil_]; done), by repeat (first | (with_reducible first | exact HB.out | apply below_alloc | apply pw_below_drewN | apply below_drew1 | refine below_set ?_ GE1021.out | refine below_set ?_ GE1027.out | refine below_set ?_ GE1036.out | refine below_set ?_ GE1042.out | refine below_set ?_ GE1048.out | refine below_set ?_ GE1053.out) | exact HB.out)⟩
         ·rw [if_neg c73] at H
          have c73b0 : (t1047 == 0) = false := beq_eq_false_iff_ne.mpr c73
          have c73b1 : (t1047 != 0) = true := bne_iff_ne.mpr c73
          obtain rfl := Option.some.inj H
          have hnb117 := NB1021_1027.out
          have hnc117 := NB1027_1021.out
          have hnb118 := NB1021_1036.out
          have hnc118 := NB1036_1021.out
          have hnb119 := NB1021_1042.out
          have hnc119 := NB1042_1021.out
          have hcz120_0 : wc.cell? ⟨gb1021, 0, none⟩ = some (.bool a0_0) := (blk_cell BK1021.out 0).trans rfl
          have hcz120_1 : wc.cell? ⟨gb1021, 1, none⟩ = some (.string a0_1) := (blk_cell BK1021.out 1).trans rfl
          have hcz120_2 : wc.cell? ⟨gb1021, 2, none⟩ = some (.string a0_2) := (blk_cell BK1021.out 2).trans rfl
          have hfz120_0 := blk_frozen BK1021.out 0
          have hfz120_1 := blk_frozen BK1021.out 1
          have hfz120_2 := blk_frozen BK1021.out 2
          go_wp2_with (first | ((with_reducible refine gate_callee (f := 40) rfl ?_); refine goesL_ (some 74) rfl rfl Tryd.func40 (by kernel_rfl) rfl #[.agg #[.bool a0_0, .string a0_1, .string a0_2], .int .i64 a1] rfl (by (try simp only [List.map_toArray, List.map_cons, List.map_nil]); first | done | rfl | (simp only [List.length_drop, List.length_take]; rfl)) ?_; (with_reducible refine (decimal_Shift.calls kj38 a0_0 a0_1 a0_2 a1 t1044 t1045 t1046 t1047 _ A72.out).mono ?_); rintro e w121 ⟨rfl, hb⟩; refine ⟨_, rfl, ?_⟩; have n0_ := Aside0.mk (blk_below (g := gb1021) (o := .cells #[.bool a0_0, .string a0_1, .string a0_2] 23 (0, 0)) BK1021.out hb); have n1_ := Aside0.mk (blk_below (g := gb1027) (o := .cells #[.bool t1023, .string t1024, .string t1025] 23 (0, 0)) BK1027.out hb); have n2_ := Aside0.mk (blk_below (g := gb1036) (o := .cells #[.bool t1032, .string t1033, .string t1034] 23 (0, 0)) BK1036.out hb); have n3_ := Aside0.mk (blk_below (g := gb1042) (o := .cells #[.bool t1038, .string t1039, .string t1040] 23 (0, 0)) BK1042.out hb); have n4_ := Aside0.mk (below_step HB.out hb); clear BK1021; clear BK1027; clear BK1036; clear BK1042; clear HB; have BK1021 := n0_; have BK1027 := n1_; have BK1036 := n2_; have BK1042 := n3_; have HB := n4_; clear n0_ n1_ n2_ n3_ n4_) | ((with_reducible refine gate_dst (N := 13) rfl ?_); (try (refine gate_guard (by rfl) ?_; dsimp only)); refine box_event ?hg (N := 13) ?hd (cs := #[.bool false, .string (⟨#[]⟩ : ByteArray), .string (⟨#[]⟩ : ByteArray)]) (t := 23) ?hr ?_; (case hd => rfl); (case hg => rfl); (case hr => first | (go_simp; done) | (go_simp; rfl)); intro gb1048 hg w122 hbox hb; have n0_ := Aside0.mk (blk_below (g := gb1021) (o := .cells #[.bool a0_0, .string a0_1, .string a0_2] 23 (0, 0)) BK1021.out hb); have n1_ := Aside0.mk (blk_below (g := gb1027) (o := .cells #[.bool t1023, .string t1024, .string t1025] 23 (0, 0)) BK1027.out hb); have n2_ := Aside0.mk (blk_below (g := gb1036) (o := .cells #[.bool t1032, .string t1033, .string t1034] 23 (0, 0)) BK1036.out hb); have n3_ := Aside0.mk (blk_below (g := gb1042) (o := .cells #[.bool t1038, .string t1039, .string t1040] 23 (0, 0)) BK1042.out hb); have n4_ := Aside0.mk (below_step HB.out hb); have n5_ := Aside0.mk (hbox); have n6_ := Aside0.mk ((by rw [hg]; exact (below_size HB.out) : w.heap.size ≤ gb1048)); have n7_ := Aside0.mk ((by rw [hg]; exact (below_size HB.out) : w.heap.size ≤ gb1048)); have n8_ := Aside0.mk ((by rw [hg]; exact Nat.ne_of_lt (blk_lt (g := gb1021) (o := .cells #[.bool a0_0, .string a0_1, .string a0_2] 23 (0, 0)) BK1021.out) : gb1021 ≠ gb1048)); have n9_ := Aside0.mk ((by rw [hg]; exact Nat.ne_of_gt (blk_lt (g := gb1021) (o := .cells #[.bool a0_0, .string a0_1, .string a0_2] 23 (0, 0)) BK1021.out) : gb1048 ≠ gb1021)); have n10_ := Aside0.mk ((by rw [hg]; exact Nat.ne_of_lt (blk_lt (g := gb1027) (o := .cells #[.bool t1023, .string t1024, .string t1025] 23 (0, 0)) BK1027.out) : gb1027 ≠ gb1048)); have n11_ := Aside0.mk ((by rw [hg]; exact Nat.ne_of_gt (blk_lt (g := gb1027) (o := .cells #[.bool t1023, .string t1024, .string t1025] 23 (0, 0)) BK1027.out) : gb1048 ≠ gb1027)); have n12_ := Aside0.mk ((by rw [hg]; exact Nat.ne_of_lt (blk_lt (g := gb1036) (o := .cells #[.bool t1032, .string t1033, .string t1034] 23 (0, 0)) BK1036.out) : gb1036 ≠ gb1048)); have n13_ := Aside0.mk ((by rw [hg]; exact Nat.ne_of_gt (blk_lt (g := gb1036) (o := .cells #[.bool t1032, .string t1033, .string t1034] 23 (0, 0)) BK1036.out) : gb1048 ≠ gb1036)); have n14_ := Aside0.mk ((by rw [hg]; exact Nat.ne_of_lt (blk_lt (g := gb1042) (o := .cells #[.bool t1038, .string t1039, .string t1040] 23 (0, 0)) BK1042.out) : gb1042 ≠ gb1048)); have n15_ := Aside0.mk ((by rw [hg]; exact Nat.ne_of_gt (blk_lt (g := gb1042) (o := .cells #[.bool t1038, .string t1039, .string t1040] 23 (0, 0)) BK1042.out) : gb1048 ≠ gb1042)); clear BK1021; clear BK1027; clear BK1036; clear BK1042; clear HB; have BK1021 := n0_; have BK1027 := n1_; have BK1036 := n2_; have BK1042 := n3_; have HB := n4_; have BK1048 := n5_; have GW1048 := n6_; have GE1048 := n7_; have NB1021_1048 := n8_; have NB1048_1021 := n9_; have NB1027_1048 := n10_; have NB1048_1027 := n11_; have NB1036_1048 := n12_; have NB1048_1036 := n13_; have NB1042_1048 := n14_; have NB1048_1042 := n15_; clear n0_ n1_ n2_ n3_ n4_ n5_ n6_ n7_ n8_ n9_ n10_ n11_ n12_ n13_ n14_ n15_; clear hb hbox hg; have hnb123 := NB1048_1021.out; have hnc123 := NB1021_1048.out; have hnb124 := NB1048_1027.out; have hnc124 := NB1027_1048.out; have hnb125 := NB1048_1036.out; have hnc125 := NB1036_1048.out; have hnb126 := NB1048_1042.out; have hnc126 := NB1042_1048.out; have hcz127_0 : w122.cell? ⟨gb1048, 0, none⟩ = some (.bool false) := (blk_cell BK1048.out 0).trans rfl; have hcz127_1 : w122.cell? ⟨gb1048, 1, none⟩ = some (.string (⟨#[]⟩ : ByteArray)) := (blk_cell BK1048.out 1).trans rfl; have hcz127_2 : w122.cell? ⟨gb1048, 2, none⟩ = some (.string (⟨#[]⟩ : ByteArray)) := (blk_cell BK1048.out 2).trans rfl; have hfz127_0 := blk_frozen BK1048.out 0; have hfz127_1 := blk_frozen BK1048.out 1; have hfz127_2 := blk_frozen BK1048.out 2))
          go_ret
          exact ⟨by first | rfl | (simp [errW_none, errW_some] <;> rfl) | (simp [*, errW_none, errW_some] <;> rfl) | (simp [bne_nil_]; done), by repeat (first | (with_reducible first | exact HB.out | apply below_alloc | apply pw_below_drewN | apply below_drew1 | refine below_set ?_ GE1021.out | refine below_set ?_ GE1027.out | refine below_set ?_ GE1036.out | refine below_set ?_ GE1042.out | refine below_set ?_ GE1048.out) | exact HB.out)⟩
  ·rw [if_neg c7] at H
   have c7b0 : (t1026 == 0) = false := beq_eq_false_iff_ne.mpr c7
   have c7b1 : (t1026 != 0) = true := bne_iff_ne.mpr c7
   obtain ⟨y1028, hy1028⟩ : ∃ y_ : List (S23), y_ = (([(⟨a0_0, a0_1, a0_2⟩ : S23)] : List (S23))) := ⟨_, rfl⟩
   rw [← hy1028] at H
   have Ny1028 := Aside0.mk hy1028
   clear hy1028
   replace H := Option.bind_eq_some_iff.mp H
   obtain ⟨t1031, A1280, H⟩ := H
   try dsimp only at H
   have A128 := Aside0.mk A1280
   clear A1280
   obtain rfl := Option.some.inj H
   go_enter Tryd.func13, Tryd.ntmps13
   go_wp2_with (first | ((with_reducible refine gate_dst (N := 3) rfl ?_); (try (refine gate_guard (by rfl) ?_; dsimp only)); refine box_event ?hg (N := 3) ?hd (cs := #[.bool a0_0, .string a0_1, .string a0_2]) (t := 23) ?hr ?_; (case hd => rfl); (case hg => rfl); (case hr => first | (go_simp; done) | (go_simp; rfl)); intro gb1021 hg w129 hbox hb; have n0_ := Aside0.mk (below_step HB.out hb); have n1_ := Aside0.mk (hbox); have n2_ := Aside0.mk ((by rw [hg]; exact (below_size HB.out) : w.heap.size ≤ gb1021)); have n3_ := Aside0.mk ((by rw [hg]; exact (below_size HB.out) : w.heap.size ≤ gb1021)); clear HB; have HB := n0_; have BK1021 := n1_; have GW1021 := n2_; have GE1021 := n3_; clear n0_ n1_ n2_ n3_; clear hb hbox hg) | ((with_reducible refine gate_callee (f := 19) rfl ?_); refine goesL_ (some 15) rfl rfl Tryd.func19 (by kernel_rfl) rfl #[] rfl (by simp only [List.map_toArray, List.map_cons, List.map_nil]) ?_; (with_reducible refine (idiomlaw02_awake.calls k  true _ A4.out).mono ?_); rintro e w130 ⟨rfl, hb⟩; refine ⟨_, rfl, ?_⟩; have n0_ := Aside0.mk (blk_below (g := gb1021) (o := .cells #[.bool a0_0, .string a0_1, .string a0_2] 23 (0, 0)) BK1021.out hb); have n1_ := Aside0.mk (below_step HB.out hb); clear BK1021; clear HB; have BK1021 := n0_; have HB := n1_; clear n0_ n1_; have hcz131_0 : w130.cell? ⟨gb1021, 0, none⟩ = some (.bool a0_0) := (blk_cell BK1021.out 0).trans rfl; have hcz131_1 : w130.cell? ⟨gb1021, 1, none⟩ = some (.string a0_1) := (blk_cell BK1021.out 1).trans rfl; have hcz131_2 : w130.cell? ⟨gb1021, 2, none⟩ = some (.string a0_2) := (blk_cell BK1021.out 2).trans rfl; have hfz131_0 := blk_frozen BK1021.out 0; have hfz131_1 := blk_frozen BK1021.out 1; have hfz131_2 := blk_frozen BK1021.out 2) | ((with_reducible refine gate_callee (f := 30) rfl ?_); refine goesL_ (some 19) rfl rfl Tryd.func30 (by kernel_rfl) rfl #[.agg #[.bool a0_0, .string a0_1, .string a0_2]] rfl (by (try simp only [List.map_toArray, List.map_cons, List.map_nil]); first | done | rfl | (simp only [List.length_drop, List.length_take]; rfl)) ?_; (with_reducible refine (decimal_Trim.calls k a0_0 a0_1 a0_2 t1023 t1024 t1025 t1026 _ A6.out).mono ?_); rintro e w132 ⟨rfl, hb⟩; refine ⟨_, rfl, ?_⟩; have n0_ := Aside0.mk (blk_below (g := gb1021) (o := .cells #[.bool a0_0, .string a0_1, .string a0_2] 23 (0, 0)) BK1021.out hb); have n1_ := Aside0.mk (below_step HB.out hb); clear BK1021; clear HB; have BK1021 := n0_; have HB := n1_; clear n0_ n1_) | ((with_reducible refine gate_dst (N := 7) rfl ?_); (try (refine gate_guard (by rfl) ?_; dsimp only)); refine box_event ?hg (N := 7) ?hd (cs := #[.bool false, .string (⟨#[]⟩ : ByteArray), .string (⟨#[]⟩ : ByteArray)]) (t := 23) ?hr ?_; (case hd => rfl); (case hg => rfl); (case hr => first | (go_simp; done) | (go_simp; rfl)); intro gb1027 hg w133 hbox hb; have n0_ := Aside0.mk (blk_below (g := gb1021) (o := .cells #[.bool a0_0, .string a0_1, .string a0_2] 23 (0, 0)) BK1021.out hb); have n1_ := Aside0.mk (below_step HB.out hb); have n2_ := Aside0.mk (hbox); have n3_ := Aside0.mk ((by rw [hg]; exact (below_size HB.out) : w.heap.size ≤ gb1027)); have n4_ := Aside0.mk ((by rw [hg]; exact (below_size HB.out) : w.heap.size ≤ gb1027)); have n5_ := Aside0.mk ((by rw [hg]; exact Nat.ne_of_lt (blk_lt (g := gb1021) (o := .cells #[.bool a0_0, .string a0_1, .string a0_2] 23 (0, 0)) BK1021.out) : gb1021 ≠ gb1027)); have n6_ := Aside0.mk ((by rw [hg]; exact Nat.ne_of_gt (blk_lt (g := gb1021) (o := .cells #[.bool a0_0, .string a0_1, .string a0_2] 23 (0, 0)) BK1021.out) : gb1027 ≠ gb1021)); clear BK1021; clear HB; have BK1021 := n0_; have HB := n1_; have BK1027 := n2_; have GW1027 := n3_; have GE1027 := n4_; have NB1021_1027 := n5_; have NB1027_1021 := n6_; clear n0_ n1_ n2_ n3_ n4_ n5_ n6_; clear hb hbox hg; have hnb134 := NB1027_1021.out; have hnc134 := NB1021_1027.out; have hcz135_0 : w133.cell? ⟨gb1027, 0, none⟩ = some (.bool false) := (blk_cell BK1027.out 0).trans rfl; have hcz135_1 : w133.cell? ⟨gb1027, 1, none⟩ = some (.string (⟨#[]⟩ : ByteArray)) := (blk_cell BK1027.out 1).trans rfl; have hcz135_2 : w133.cell? ⟨gb1027, 2, none⟩ = some (.string (⟨#[]⟩ : ByteArray)) := (blk_cell BK1027.out 2).trans rfl; have hfz135_0 := blk_frozen BK1027.out 0; have hfz135_1 := blk_frozen BK1027.out 1; have hfz135_2 := blk_frozen BK1027.out 2; have hcz136_0 : w133.cell? ⟨gb1021, 0, none⟩ = some (.bool a0_0) := (blk_cell BK1021.out 0).trans rfl; have hcz136_1 : w133.cell? ⟨gb1021, 1, none⟩ = some (.string a0_1) := (blk_cell BK1021.out 1).trans rfl; have hcz136_2 : w133.cell? ⟨gb1021, 2, none⟩ = some (.string a0_2) := (blk_cell BK1021.out 2).trans rfl; have hfz136_0 := blk_frozen BK1021.out 0; have hfz136_1 := blk_frozen BK1021.out 1; have hfz136_2 := blk_frozen BK1021.out 2) | ((with_reducible refine gate_dst (N := 25) rfl ?_); (try (refine gate_guard (by rfl) ?_; dsimp only)); refine Kd.R_lit k23 _ 23 ?hg (N := 25) ?hd (xs := ([(⟨a0_0, a0_1, a0_2⟩ : S23)] : List (S23))) (inner := [.bool a0_0, .string a0_1, .string a0_2]) (ok := fun _ => True) (okp := fun _ => True) ?hr ?hp (fun _ hk => hk) trivial (Below.refl _ _) (Nat.le_refl _) (by simp) ?_; (case hd => rfl); (case hg => rfl); (case hr => first | (go_simp; done) | (go_simp; rfl)); (case hp => exact (Reps.c3 (show Kd.M k23 _ _ _ (⟨a0_0, a0_1, a0_2⟩ : S23) [.bool a0_0, .string a0_1, .string a0_2] from (k23_mkM _ _ _ (⟨a0_0, a0_1, a0_2⟩ : S23) )) (Reps.none _ _))); intro v1029 w137 ho138 hb hg_ hnew_; clear hg_ hnew_; (first | rw [← Ny1028.out] at ho138 | (simp only [Int.reduceToNat] at ho138; rw [← Ny1028.out] at ho138)); have n0_ := Aside0.mk (Kd.R_lower (Kd.R_newB (Kd.R_newB ho138 (g := gb1021) (o := .cells #[.bool a0_0, .string a0_1, .string a0_2] 23 (0, 0)) (by refine blk_far ?_ NB1021_1027.out _; refine blk_far ?_ NB1021_1027.out _; refine blk_far ?_ NB1021_1027.out _; exact BK1021.out)) (g := gb1027) (o := .cells #[.bool t1023, .string t1024, .string t1025] 23 (0, 0)) (by refine blk_put (cs := #[.bool t1023, .string t1024, .string (⟨#[]⟩ : ByteArray)]) ?_ 2 _ rfl; refine blk_put (cs := #[.bool t1023, .string (⟨#[]⟩ : ByteArray), .string (⟨#[]⟩ : ByteArray)]) ?_ 1 _ rfl; refine blk_put (cs := #[.bool false, .string (⟨#[]⟩ : ByteArray), .string (⟨#[]⟩ : ByteArray)]) ?_ 0 _ rfl; exact BK1027.out)) (below_size (by repeat (first | (with_reducible first | exact HB.out | apply below_alloc | apply pw_below_drewN | apply below_drew1 | refine below_set ?_ GE1021.out | refine below_set ?_ GE1027.out) | exact HB.out)))); have n1_ := Aside0.mk (blk_below (g := gb1021) (o := .cells #[.bool a0_0, .string a0_1, .string a0_2] 23 (0, 0)) (by refine blk_far ?_ NB1021_1027.out _; refine blk_far ?_ NB1021_1027.out _; refine blk_far ?_ NB1021_1027.out _; exact BK1021.out) hb); have n2_ := Aside0.mk (blk_below (g := gb1027) (o := .cells #[.bool t1023, .string t1024, .string t1025] 23 (0, 0)) (by refine blk_put (cs := #[.bool t1023, .string t1024, .string (⟨#[]⟩ : ByteArray)]) ?_ 2 _ rfl; refine blk_put (cs := #[.bool t1023, .string (⟨#[]⟩ : ByteArray), .string (⟨#[]⟩ : ByteArray)]) ?_ 1 _ rfl; refine blk_put (cs := #[.bool false, .string (⟨#[]⟩ : ByteArray), .string (⟨#[]⟩ : ByteArray)]) ?_ 0 _ rfl; exact BK1027.out) hb); have n3_ := Aside0.mk (below_step (by repeat (first | (with_reducible first | exact HB.out | apply below_alloc | apply pw_below_drewN | apply below_drew1 | refine below_set ?_ GE1021.out | refine below_set ?_ GE1027.out) | exact HB.out)) hb); clear BK1021; clear BK1027; clear HB; have HO1030 := n0_; have BK1021 := n1_; have BK1027 := n2_; have HB := n3_; clear n0_ n1_ n2_ n3_; clear hb ho138; obtain ⟨Ao139, co139, eo139⟩ := Kd.R_slice HO1030.out; subst eo139) | ((with_reducible refine gate_callee (f := 27) rfl ?_); refine goesL_ (some 26) rfl rfl Tryd.func27 (by kernel_rfl) rfl #[.slice Ao139 y1028.length co139] rfl (by (try simp only [List.map_toArray, List.map_cons, List.map_nil]); first | done | rfl | (simp only [List.length_drop, List.length_take]; rfl)) ?_; (with_reducible refine (idiomlaw02_fine.calls k _ _ y1028 t1031 _ ?side1 ?side2 A128.out).mono ?_); (case side1 => repeat (first | exact (Kd.R_reads' HO1030.out).2.2 | (with_reducible refine Kd.C_alloc ?_ _) | (with_reducible refine Kd.C_drewN ?_ _) | (with_reducible refine Kd.C_drew ?_))); (case side2 => exact (Kd.R_reads' HO1030.out).2.1); rintro e w140 ⟨rfl, hb⟩; refine ⟨_, rfl, ?_⟩; have n0_ := Aside0.mk (Kd.R_below (by (with_reducible repeat (first | apply Kd.R_alloc | apply Kd.R_drewN | apply Kd.R_drew)); exact HO1030.out) hb); have n1_ := Aside0.mk (blk_below (g := gb1021) (o := .cells #[.bool a0_0, .string a0_1, .string a0_2] 23 (0, 0)) BK1021.out hb); have n2_ := Aside0.mk (blk_below (g := gb1027) (o := .cells #[.bool t1023, .string t1024, .string t1025] 23 (0, 0)) BK1027.out hb); have n3_ := Aside0.mk (below_step HB.out hb); clear HO1030; clear BK1021; clear BK1027; clear HB; have HO1030 := n0_; have BK1021 := n1_; have BK1027 := n2_; have HB := n3_; clear n0_ n1_ n2_ n3_))
   go_ret
   exact ⟨by first | rfl | (simp [errW_none, errW_some] <;> rfl) | (simp [*, errW_none, errW_some] <;> rfl) | (simp [bne_nil_]; done), by repeat (first | (with_reducible first | exact HB.out | apply below_alloc | apply pw_below_drewN | apply below_drew1 | refine below_set ?_ GE1021.out | refine below_set ?_ GE1027.out) | exact HB.out)⟩
 ·replace c5 := Bool.eq_false_iff.mpr c5
  subst c5
  have H1 : (some false) = some r := by rw [if_neg (show ¬ (false = true) by decide)] at H; exact H
  clear H
  have H := H1
  clear H1
  obtain rfl := Option.some.inj H
  go_enter Tryd.func13, Tryd.ntmps13
  go_wp2_with (first | ((with_reducible refine gate_dst (N := 3) rfl ?_); (try (refine gate_guard (by rfl) ?_; dsimp only)); refine box_event ?hg (N := 3) ?hd (cs := #[.bool a0_0, .string a0_1, .string a0_2]) (t := 23) ?hr ?_; (case hd => rfl); (case hg => rfl); (case hr => first | (go_simp; done) | (go_simp; rfl)); intro gb1021 hg w141 hbox hb; have n0_ := Aside0.mk (below_step HB.out hb); have n1_ := Aside0.mk (hbox); have n2_ := Aside0.mk ((by rw [hg]; exact (below_size HB.out) : w.heap.size ≤ gb1021)); have n3_ := Aside0.mk ((by rw [hg]; exact (below_size HB.out) : w.heap.size ≤ gb1021)); clear HB; have HB := n0_; have BK1021 := n1_; have GW1021 := n2_; have GE1021 := n3_; clear n0_ n1_ n2_ n3_; clear hb hbox hg) | ((with_reducible refine gate_callee (f := 19) rfl ?_); refine goesL_ (some 15) rfl rfl Tryd.func19 (by kernel_rfl) rfl #[] rfl (by simp only [List.map_toArray, List.map_cons, List.map_nil]) ?_; (with_reducible refine (idiomlaw02_awake.calls k  false _ A4.out).mono ?_); rintro e w142 ⟨rfl, hb⟩; refine ⟨_, rfl, ?_⟩; have n0_ := Aside0.mk (blk_below (g := gb1021) (o := .cells #[.bool a0_0, .string a0_1, .string a0_2] 23 (0, 0)) BK1021.out hb); have n1_ := Aside0.mk (below_step HB.out hb); clear BK1021; clear HB; have BK1021 := n0_; have HB := n1_; clear n0_ n1_))
  go_ret
  exact ⟨by first | rfl | (simp [errW_none, errW_some] <;> rfl) | (simp [*, errW_none, errW_some] <;> rfl) | (simp [bne_nil_]; done), by repeat (first | (with_reducible first | exact HB.out | apply below_alloc | apply pw_below_drewN | apply below_drew1 | refine below_set ?_ GE1021.out) | exact HB.out)⟩
end Go.Proofs.YtapbdblpdkoacaaDoor.P
