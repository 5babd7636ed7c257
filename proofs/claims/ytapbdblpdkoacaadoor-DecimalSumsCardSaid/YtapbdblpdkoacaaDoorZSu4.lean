/- A part of the proof. Part 5 of 8; its texts were written by programs, some out of the kit's print. -/
import Derived.Test.YtapbdblpdkoacaaDoorZSu3
namespace Go.Proofs.YtapbdblpdkoacaaDoor.P
open Go.RowKit Go.Proofs.YtapbdblpdkoacaaDoorW.PrintWords Go.Proofs.YtapbdblpdkoacaaDoorW.PrintLast Go.Proofs.YtapbdblpdkoacaaDoorW.PrintMore
attribute [local go_sem] max2_int max_two
set_option linter.unusedVariables false
set_option linter.unusedSimpArgs false
def decimal_Mul.f (k : Nat) (a0_0 : Bool) (a0_1 : ByteArray) (a0_2 : ByteArray) (a1_0 : Bool) (a1_1 : ByteArray) (a1_2 : ByteArray) : Option (Bool × ByteArray × ByteArray × Int) := (decimal_both.f k a0_0 a0_1 a0_2 a1_0 a1_1 a1_2).bind fun t671 => (if t671 = 0 then (if a0_1.size + a0_2.size ≤ 9223372036854775807 then ((decimal_of.f k (a0_1 ++ a0_2)).bind fun t672 => (if a1_1.size + a1_2.size ≤ 9223372036854775807 then ((decimal_of.f k (a1_1 ++ a1_2)).bind fun t675 => ((decimal_digits_times.f k t672 t675).bind fun t678 => ((decimal_made.f k (a0_0 != a1_0) t678 (wrap64 ((a0_2.size : Int) + (a1_2.size : Int)))).bind fun bt681 => (some (bt681.1, bt681.2.1, bt681.2.2.1, bt681.2.2.2))))) else (none))) else (none)) else (some (false, (⟨#[]⟩ : ByteArray), (⟨#[]⟩ : ByteArray), t671)))
def decimal_Mul.T4 : Bool × List (List Nat × List Nat) := (true, [([], []), ([0], [0]), ([], []), ([2], [2]), ([1, 3], [1, 3]), ([], []), ([5], [5]), ([], []), ([7], [7]), ([6, 8], [6, 8]), ([9], [9]), ([], []), ([11], [11]), ([], []), ([13], [13]), ([12, 14], [12, 14]), ([15, 10], [15]), ([10, 16, 16], [10, 16]), ([], []), ([18], [18]), ([19], [19]), ([], []), ([21], [21]), ([22], [22]), ([20, 23], [20, 23]), ([4, 17, 24, 17], [4, 17, 24]), ([25], [25]), ([25], [25]), ([26, 25, 0, 1, 2, 3, 4, 5, 6, 7, 8, 9, 10, 11, 12, 13, 14, 15, 16, 17, 18, 19, 20, 21, 22, 23, 24, 25, 26, 27], [26]), ([27, 28, 0, 1, 2, 3, 4, 5, 6, 7, 8, 9, 10, 11, 12, 13, 14, 15, 16, 17, 18, 19, 20, 21, 22, 23, 24, 25, 26, 27, 28], [27])])
def decimal_Mul.B4 : List Nat := [0, 1, 0, 4, 15, 0, 32, 0, 128, 480, 992, 0, 2048, 0, 8192, 30720, 65504, 131040, 0, 262144, 786432, 0, 2097152, 6291456, 16515072, 33554431, 67108863, 67108863, 268435455, 536870911]
theorem decimal_Mul.tab4 : rtab .any (opsOf Tryd.f35 4) = decimal_Mul.T4 := by kernel_rfl
theorem decimal_Mul.bits4 : waitsOk decimal_Mul.T4.2 decimal_Mul.B4 = true := by kernel_rfl
set_option maxHeartbeats 8000000 in
set_option maxRecDepth 100000 in
theorem decimal_Mul.calls (k : Nat) (a0_0 : Bool) (a0_1 : ByteArray) (a0_2 : ByteArray) (a1_0 : Bool) (a1_1 : ByteArray) (a1_2 : ByteArray) (r1 : Bool) (r2 : ByteArray) (r3 : ByteArray) (r4 : Int) (w : World) (h : decimal_Mul.f k a0_0 a0_1 a0_2 a1_0 a1_1 a1_2 = some (r1, r2, r3, r4)) :
    Calls Tryd.prog 35 #[.agg #[.bool a0_0, .string a0_1, .string a0_2], .agg #[.bool a1_0, .string a1_1, .string a1_2]] w fun e w' => e = .returned (.tuple #[.agg #[.bool r1, .string r2, .string r3], .int .i64 r4]) ∧ Below w.heap.size w w' := by
 have hu23 := Tryd.underlying23
 have HB := Aside0.mk (Below.refl w.heap.size w)
 unfold decimal_Mul.f at h
 have H := h
 clear h
 replace H := Option.bind_eq_some_iff.mp H
 obtain ⟨t671, A30, H⟩ := H
 try dsimp only at H
 have A3 := Aside0.mk A30
 clear A30
 by_cases c4 : t671 = 0
 ·rw [if_pos c4] at H
  have c4b0 : (t671 == 0) = true := beq_iff_eq.mpr c4
  have c4b1 : (t671 != 0) = false := bne_eq_false_iff_eq.mpr c4
  clear c4
  by_cases c5 : a0_1.size + a0_2.size ≤ 9223372036854775807
  ·rw [if_pos c5] at H
   have c5b0 := eq_true c5
   have c5b1 : decide (a0_1.size + a0_2.size ≤ 9223372036854775807) = true := decide_eq_true c5
   try have c5b2 : (9223372036854775807 < a0_1.size + a0_2.size) = False := eq_false (Nat.not_lt.2 c5)
   replace H := Option.bind_eq_some_iff.mp H
   obtain ⟨t672, A60, H⟩ := H
   try dsimp only at H
   have A6 := Aside0.mk A60
   clear A60
   by_cases c7 : a1_1.size + a1_2.size ≤ 9223372036854775807
   ·rw [if_pos c7] at H
    have c7b0 := eq_true c7
    have c7b1 : decide (a1_1.size + a1_2.size ≤ 9223372036854775807) = true := decide_eq_true c7
    try have c7b2 : (9223372036854775807 < a1_1.size + a1_2.size) = False := eq_false (Nat.not_lt.2 c7)
    replace H := Option.bind_eq_some_iff.mp H
    obtain ⟨t675, A80, H⟩ := H
    try dsimp only at H
    have A8 := Aside0.mk A80
    clear A80
    replace H := Option.bind_eq_some_iff.mp H
    obtain ⟨t678, A90, H⟩ := H
    try dsimp only at H
    have A9 := Aside0.mk A90
    clear A90
    replace H := Option.bind_eq_some_iff.mp H
    obtain ⟨⟨t681, t682, t683, t684⟩, A100, H⟩ := H
    try dsimp only at H
    have A10 := Aside0.mk A100
    clear A100
    simp only [Option.some.injEq, Prod.mk.injEq] at H
    obtain ⟨rfl, rfl, rfl, rfl⟩ := H
    go_enter Tryd.func35, Tryd.ntmps35
    try go_wp2_with (first | ((with_reducible refine gate_dst (N := 2) rfl ?_); refine box_event ?hg (N := 2) ?hd (cs := #[.bool a0_0, .string a0_1, .string a0_2]) (t := 23) ?hr ?_; (case hd => rfl); (case hg => rfl); (case hr => first | (go_simp; done) | (go_simp; rfl)); intro gb668 hg w11 hbox hb; have n0_ := Aside0.mk (below_step HB.out hb); have n1_ := Aside0.mk (hbox); have n2_ := Aside0.mk ((by rw [hg]; exact (below_size HB.out) : w.heap.size ≤ gb668)); have n3_ := Aside0.mk ((by rw [hg]; exact (below_size HB.out) : w.heap.size ≤ gb668)); clear HB; have HB := n0_; have BK668 := n1_; have GW668 := n2_; have GE668 := n3_; clear n0_ n1_ n2_ n3_; clear hb hbox hg) | ((with_reducible refine gate_dst (N := 3) rfl ?_); refine box_event ?hg (N := 3) ?hd (cs := #[.bool a1_0, .string a1_1, .string a1_2]) (t := 23) ?hr ?_; (case hd => rfl); (case hg => rfl); (case hr => first | (go_simp; done) | (go_simp; rfl)); intro gb669 hg w12 hbox hb; have n0_ := Aside0.mk (blk_below (g := gb668) (o := .cells #[.bool a0_0, .string a0_1, .string a0_2] 23 (0, 0)) BK668.out hb); have n1_ := Aside0.mk (below_step HB.out hb); have n2_ := Aside0.mk (hbox); have n3_ := Aside0.mk ((by rw [hg]; exact (below_size HB.out) : w.heap.size ≤ gb669)); have n4_ := Aside0.mk ((by rw [hg]; exact (below_size HB.out) : w.heap.size ≤ gb669)); have n5_ := Aside0.mk ((by rw [hg]; exact Nat.ne_of_lt (blk_lt (g := gb668) (o := .cells #[.bool a0_0, .string a0_1, .string a0_2] 23 (0, 0)) BK668.out) : gb668 ≠ gb669)); have n6_ := Aside0.mk ((by rw [hg]; exact Nat.ne_of_gt (blk_lt (g := gb668) (o := .cells #[.bool a0_0, .string a0_1, .string a0_2] 23 (0, 0)) BK668.out) : gb669 ≠ gb668)); clear BK668; clear HB; have BK668 := n0_; have HB := n1_; have BK669 := n2_; have GW669 := n3_; have GE669 := n4_; have NB668_669 := n5_; have NB669_668 := n6_; clear n0_ n1_ n2_ n3_ n4_ n5_ n6_; clear hb hbox hg) | ((with_reducible refine gate_dst (N := 4) rfl ?_); refine box_event ?hg (N := 4) ?hd (cs := #[.bool false, .string (⟨#[]⟩ : ByteArray), .string (⟨#[]⟩ : ByteArray)]) (t := 23) ?hr ?_; (case hd => rfl); (case hg => rfl); (case hr => first | (go_simp; done) | (go_simp; rfl)); intro gb670 hg w13 hbox hb; have n0_ := Aside0.mk (blk_below (g := gb668) (o := .cells #[.bool a0_0, .string a0_1, .string a0_2] 23 (0, 0)) BK668.out hb); have n1_ := Aside0.mk (blk_below (g := gb669) (o := .cells #[.bool a1_0, .string a1_1, .string a1_2] 23 (0, 0)) BK669.out hb); have n2_ := Aside0.mk (below_step HB.out hb); have n3_ := Aside0.mk (hbox); have n4_ := Aside0.mk ((by rw [hg]; exact (below_size HB.out) : w.heap.size ≤ gb670)); have n5_ := Aside0.mk ((by rw [hg]; exact (below_size HB.out) : w.heap.size ≤ gb670)); have n6_ := Aside0.mk ((by rw [hg]; exact Nat.ne_of_lt (blk_lt (g := gb668) (o := .cells #[.bool a0_0, .string a0_1, .string a0_2] 23 (0, 0)) BK668.out) : gb668 ≠ gb670)); have n7_ := Aside0.mk ((by rw [hg]; exact Nat.ne_of_gt (blk_lt (g := gb668) (o := .cells #[.bool a0_0, .string a0_1, .string a0_2] 23 (0, 0)) BK668.out) : gb670 ≠ gb668)); have n8_ := Aside0.mk ((by rw [hg]; exact Nat.ne_of_lt (blk_lt (g := gb669) (o := .cells #[.bool a1_0, .string a1_1, .string a1_2] 23 (0, 0)) BK669.out) : gb669 ≠ gb670)); have n9_ := Aside0.mk ((by rw [hg]; exact Nat.ne_of_gt (blk_lt (g := gb669) (o := .cells #[.bool a1_0, .string a1_1, .string a1_2] 23 (0, 0)) BK669.out) : gb670 ≠ gb669)); clear BK668; clear BK669; clear HB; have BK668 := n0_; have BK669 := n1_; have HB := n2_; have BK670 := n3_; have GW670 := n4_; have GE670 := n5_; have NB668_670 := n6_; have NB670_668 := n7_; have NB669_670 := n8_; have NB670_669 := n9_; clear n0_ n1_ n2_ n3_ n4_ n5_ n6_ n7_ n8_ n9_; clear hb hbox hg; have hnb14 := NB668_669.out; have hnc14 := NB669_668.out; have hnb15 := NB668_670.out; have hnc15 := NB670_668.out; have hcz16_0 : w13.cell? ⟨gb668, 0, none⟩ = some (.bool a0_0) := (blk_cell BK668.out 0).trans rfl; have hcz16_1 : w13.cell? ⟨gb668, 1, none⟩ = some (.string a0_1) := (blk_cell BK668.out 1).trans rfl; have hcz16_2 : w13.cell? ⟨gb668, 2, none⟩ = some (.string a0_2) := (blk_cell BK668.out 2).trans rfl; have hfz16_0 := blk_frozen BK668.out 0; have hfz16_1 := blk_frozen BK668.out 1; have hfz16_2 := blk_frozen BK668.out 2; have hnb17 := NB669_670.out; have hnc17 := NB670_669.out; have hcz18_0 : w13.cell? ⟨gb669, 0, none⟩ = some (.bool a1_0) := (blk_cell BK669.out 0).trans rfl; have hcz18_1 : w13.cell? ⟨gb669, 1, none⟩ = some (.string a1_1) := (blk_cell BK669.out 1).trans rfl; have hcz18_2 : w13.cell? ⟨gb669, 2, none⟩ = some (.string a1_2) := (blk_cell BK669.out 2).trans rfl; have hfz18_0 := blk_frozen BK669.out 0; have hfz18_1 := blk_frozen BK669.out 1; have hfz18_2 := blk_frozen BK669.out 2) | ((with_reducible refine gate_callee (f := 58) rfl ?_); refine goesL_ (some 9) rfl rfl Tryd.func58 (by kernel_rfl) rfl #[.agg #[.bool a0_0, .string a0_1, .string a0_2], .agg #[.bool a1_0, .string a1_1, .string a1_2]] rfl (by (try simp only [List.map_toArray, List.map_cons, List.map_nil]); first | done | rfl | (simp only [List.length_drop, List.length_take]; rfl)) ?_; (with_reducible refine (decimal_both.calls k a0_0 a0_1 a0_2 a1_0 a1_1 a1_2 t671 _ A3.out).mono ?_); rintro e w19 ⟨rfl, hb⟩; refine ⟨_, rfl, ?_⟩; have n0_ := Aside0.mk (blk_below (g := gb668) (o := .cells #[.bool a0_0, .string a0_1, .string a0_2] 23 (0, 0)) BK668.out hb); have n1_ := Aside0.mk (blk_below (g := gb669) (o := .cells #[.bool a1_0, .string a1_1, .string a1_2] 23 (0, 0)) BK669.out hb); have n2_ := Aside0.mk (blk_below (g := gb670) (o := .cells #[.bool false, .string (⟨#[]⟩ : ByteArray), .string (⟨#[]⟩ : ByteArray)] 23 (0, 0)) BK670.out hb); have n3_ := Aside0.mk (below_step HB.out hb); clear BK668; clear BK669; clear BK670; clear HB; have BK668 := n0_; have BK669 := n1_; have BK670 := n2_; have HB := n3_; clear n0_ n1_ n2_ n3_))
    have n0_ := Aside0.mk (blk_drew BK668.out)
    have n1_ := Aside0.mk (blk_drew BK669.out)
    have n2_ := Aside0.mk (blk_drew BK670.out)
    have n3_ := Aside0.mk (below_drew1 HB.out)
    clear BK668
    clear BK669
    clear BK670
    clear HB
    have BK668 := n0_
    have BK669 := n1_
    have BK670 := n2_
    have HB := n3_
    clear n0_ n1_ n2_ n3_
    refine start_ (n := 30) (S := fun w' => w'.cell? ⟨gb668, 0, none⟩ = some (.bool a0_0) ∧ w'.cell? ⟨gb668, 1, none⟩ = some (.string a0_1) ∧ w'.cell? ⟨gb668, 2, none⟩ = some (.string a0_2) ∧ w'.cell? ⟨gb669, 0, none⟩ = some (.bool a1_0) ∧ w'.cell? ⟨gb669, 1, none⟩ = some (.string a1_1) ∧ w'.cell? ⟨gb669, 2, none⟩ = some (.string a1_2)) (ds := []) #[false, false, false, false, false, false, false, false, false, false, false, false, false, false, false, false, false, false, false, false, false, false, false, false, false, false, false, false, false, false] (by kernel_rfl) rfl rfl ⟨(blk_cell BK668.out 0).trans rfl, (blk_cell BK668.out 1).trans rfl, (blk_cell BK668.out 2).trans rfl, (blk_cell BK669.out 0).trans rfl, (blk_cell BK669.out 1).trans rfl, (blk_cell BK669.out 2).trans rfl⟩ (fun hHeld => ?_); refine with_tabW decimal_Mul.tab4 decimal_Mul.bits4 (fun HT_ HW_ => ?_)
    generalize w19.drew = w20 at BK668 BK669 BK670 HB hHeld ⊢
    refine pure_ (i := 0) (N := some 14) (v := ?_) (a' := ?_) #[true, false, false, false, false, false, false, false, false, false, false, false, false, false, false, false, false, false, false, false, false, false, false, false, false, false, false, false, false, false] rfl rfl (any_of HT_.out (by kernel_rfl)) (fun _ _ _ h => h) (Or.inl ⟨by rfl, ?_⟩) ?_ ?_
    rotate_left
    ·intro w'
     go_simp
     with_reducible rfl
    rotate_left
    ·simp only [Act.put, List.setIfInBounds_toArray, List.set_cons_zero, List.set_cons_succ, i64_w, i32_w]
     rfl
    refine pure_ (i := 2) (N := some 16) (v := ?_) (a' := ?_) #[true, false, true, false, false, false, false, false, false, false, false, false, false, false, false, false, false, false, false, false, false, false, false, false, false, false, false, false, false, false] rfl rfl (any_of HT_.out (by kernel_rfl)) (fun _ _ _ h => h) (Or.inl ⟨by rfl, ?_⟩) ?_ ?_
    rotate_left
    ·intro w'
     go_simp
     with_reducible rfl
    rotate_left
    ·simp only [Act.put, List.setIfInBounds_toArray, List.set_cons_zero, List.set_cons_succ, i64_w, i32_w]
     rfl
    refine pure_ (i := 5) (N := some 19) (v := ?_) (a' := ?_) #[true, false, true, false, false, true, false, false, false, false, false, false, false, false, false, false, false, false, false, false, false, false, false, false, false, false, false, false, false, false] rfl rfl (any_of HT_.out (by kernel_rfl)) (fun _ _ _ h => h) (Or.inl ⟨by rfl, ?_⟩) ?_ ?_
    rotate_left
    ·intro w'
     go_simp
     with_reducible rfl
    rotate_left
    ·simp only [Act.put, List.setIfInBounds_toArray, List.set_cons_zero, List.set_cons_succ, i64_w, i32_w]
     rfl
    refine pure_ (i := 7) (N := some 21) (v := ?_) (a' := ?_) #[true, false, true, false, false, true, false, true, false, false, false, false, false, false, false, false, false, false, false, false, false, false, false, false, false, false, false, false, false, false] rfl rfl (any_of HT_.out (by kernel_rfl)) (fun _ _ _ h => h) (Or.inl ⟨by rfl, ?_⟩) ?_ ?_
    rotate_left
    ·intro w'
     go_simp
     with_reducible rfl
    rotate_left
    ·simp only [Act.put, List.setIfInBounds_toArray, List.set_cons_zero, List.set_cons_succ, i64_w, i32_w]
     rfl
    refine pure_ (i := 11) (N := some 25) (v := ?_) (a' := ?_) #[true, false, true, false, false, true, false, true, false, false, false, true, false, false, false, false, false, false, false, false, false, false, false, false, false, false, false, false, false, false] rfl rfl (any_of HT_.out (by kernel_rfl)) (fun _ _ _ h => h) (Or.inl ⟨by rfl, ?_⟩) ?_ ?_
    rotate_left
    ·intro w'
     go_simp
     with_reducible rfl
    rotate_left
    ·simp only [Act.put, List.setIfInBounds_toArray, List.set_cons_zero, List.set_cons_succ, i64_w, i32_w]
     rfl
    refine pure_ (i := 13) (N := some 27) (v := ?_) (a' := ?_) #[true, false, true, false, false, true, false, true, false, false, false, true, false, true, false, false, false, false, false, false, false, false, false, false, false, false, false, false, false, false] rfl rfl (any_of HT_.out (by kernel_rfl)) (fun _ _ _ h => h) (Or.inl ⟨by rfl, ?_⟩) ?_ ?_
    rotate_left
    ·intro w'
     go_simp
     with_reducible rfl
    rotate_left
    ·simp only [Act.put, List.setIfInBounds_toArray, List.set_cons_zero, List.set_cons_succ, i64_w, i32_w]
     rfl
    refine pure_ (i := 18) (N := some 32) (v := ?_) (a' := ?_) #[true, false, true, false, false, true, false, true, false, false, false, true, false, true, false, false, false, false, true, false, false, false, false, false, false, false, false, false, false, false] rfl rfl (any_of HT_.out (by kernel_rfl)) (fun _ _ _ h => h) (Or.inl ⟨by rfl, ?_⟩) ?_ ?_
    rotate_left
    ·intro w'
     go_simp
     with_reducible rfl
    rotate_left
    ·simp only [Act.put, List.setIfInBounds_toArray, List.set_cons_zero, List.set_cons_succ, i64_w, i32_w]
     rfl
    refine pure_ (i := 21) (N := some 35) (v := ?_) (a' := ?_) #[true, false, true, false, false, true, false, true, false, false, false, true, false, true, false, false, false, false, true, false, false, true, false, false, false, false, false, false, false, false] rfl rfl (any_of HT_.out (by kernel_rfl)) (fun _ _ _ h => h) (Or.inl ⟨by rfl, ?_⟩) ?_ ?_
    rotate_left
    ·intro w'
     go_simp
     with_reducible rfl
    rotate_left
    ·simp only [Act.put, List.setIfInBounds_toArray, List.set_cons_zero, List.set_cons_succ, i64_w, i32_w]
     rfl
    refine take_ (i := 1) (N := some 15) (v := ?_) (a' := ?_) #[true, true, true, false, false, true, false, true, false, false, false, true, false, true, false, false, false, false, true, false, false, true, false, false, false, false, false, false, false, false] rfl rfl (take_ofW HT_.out HW_.out (by kernel_rfl)) (fun _ _ _ h => h) (Or.inl ⟨by rfl, ?_⟩) hHeld ?_ ?_
    rotate_left
    ·rintro w' ⟨s0, s1, s2, s3, s4, s5⟩
     go_simp
     with_reducible rfl
    rotate_left
    ·simp only [Act.put, List.setIfInBounds_toArray, List.set_cons_zero, List.set_cons_succ, i64_w, i32_w]
     rfl
    refine take_ (i := 3) (N := some 17) (v := ?_) (a' := ?_) #[true, true, true, true, false, true, false, true, false, false, false, true, false, true, false, false, false, false, true, false, false, true, false, false, false, false, false, false, false, false] rfl rfl (take_ofW HT_.out HW_.out (by kernel_rfl)) (fun _ _ _ h => h) (Or.inl ⟨by rfl, ?_⟩) hHeld ?_ ?_
    rotate_left
    ·rintro w' ⟨s0, s1, s2, s3, s4, s5⟩
     go_simp
     with_reducible rfl
    rotate_left
    ·simp only [Act.put, List.setIfInBounds_toArray, List.set_cons_zero, List.set_cons_succ, i64_w, i32_w]
     rfl
    refine pure_ (i := 4) (N := some 18) (v := ?_) (a' := ?_) #[true, true, true, true, true, true, false, true, false, false, false, true, false, true, false, false, false, false, true, false, false, true, false, false, false, false, false, false, false, false] rfl rfl (any_of HT_.out (by kernel_rfl)) (fun _ _ _ h => h) (Or.inl ⟨by rfl, ?_⟩) ?_ ?_
    rotate_left
    ·intro w'
     go_simp
     with_reducible rfl
    rotate_left
    ·simp only [Act.put, List.setIfInBounds_toArray, List.set_cons_zero, List.set_cons_succ, i64_w, i32_w]
     rfl
    refine take_ (i := 6) (N := some 20) (v := ?_) (a' := ?_) #[true, true, true, true, true, true, true, true, false, false, false, true, false, true, false, false, false, false, true, false, false, true, false, false, false, false, false, false, false, false] rfl rfl (take_ofW HT_.out HW_.out (by kernel_rfl)) (fun _ _ _ h => h) (Or.inl ⟨by rfl, ?_⟩) hHeld ?_ ?_
    rotate_left
    ·rintro w' ⟨s0, s1, s2, s3, s4, s5⟩
     go_simp
     with_reducible rfl
    rotate_left
    ·simp only [Act.put, List.setIfInBounds_toArray, List.set_cons_zero, List.set_cons_succ, i64_w, i32_w]
     rfl
    refine take_ (i := 8) (N := some 22) (v := ?_) (a' := ?_) #[true, true, true, true, true, true, true, true, true, false, false, true, false, true, false, false, false, false, true, false, false, true, false, false, false, false, false, false, false, false] rfl rfl (take_ofW HT_.out HW_.out (by kernel_rfl)) (fun _ _ _ h => h) (Or.inl ⟨by rfl, ?_⟩) hHeld ?_ ?_
    rotate_left
    ·rintro w' ⟨s0, s1, s2, s3, s4, s5⟩
     go_simp
     with_reducible rfl
    rotate_left
    ·simp only [Act.put, List.setIfInBounds_toArray, List.set_cons_zero, List.set_cons_succ, i64_w, i32_w]
     rfl
    refine pure_ (i := 9) (N := some 23) (v := ?_) (a' := ?_) #[true, true, true, true, true, true, true, true, true, true, false, true, false, true, false, false, false, false, true, false, false, true, false, false, false, false, false, false, false, false] rfl rfl (any_of HT_.out (by kernel_rfl)) (fun _ _ _ h => h) (Or.inl ⟨by rfl, ?_⟩) ?_ ?_
    rotate_left
    ·intro w'
     go_simp
     with_reducible rfl
    rotate_left
    ·simp only [Act.put, List.setIfInBounds_toArray, List.set_cons_zero, List.set_cons_succ, i64_w, i32_w]
     rfl
    refine take_ (i := 12) (N := some 26) (v := ?_) (a' := ?_) #[true, true, true, true, true, true, true, true, true, true, false, true, true, true, false, false, false, false, true, false, false, true, false, false, false, false, false, false, false, false] rfl rfl (take_ofW HT_.out HW_.out (by kernel_rfl)) (fun _ _ _ h => h) (Or.inl ⟨by rfl, ?_⟩) hHeld ?_ ?_
    rotate_left
    ·rintro w' ⟨s0, s1, s2, s3, s4, s5⟩
     go_simp
     with_reducible rfl
    rotate_left
    ·simp only [Act.put, List.setIfInBounds_toArray, List.set_cons_zero, List.set_cons_succ, i64_w, i32_w]
     rfl
    refine take_ (i := 14) (N := some 28) (v := ?_) (a' := ?_) #[true, true, true, true, true, true, true, true, true, true, false, true, true, true, true, false, false, false, true, false, false, true, false, false, false, false, false, false, false, false] rfl rfl (take_ofW HT_.out HW_.out (by kernel_rfl)) (fun _ _ _ h => h) (Or.inl ⟨by rfl, ?_⟩) hHeld ?_ ?_
    rotate_left
    ·rintro w' ⟨s0, s1, s2, s3, s4, s5⟩
     go_simp
     with_reducible rfl
    rotate_left
    ·simp only [Act.put, List.setIfInBounds_toArray, List.set_cons_zero, List.set_cons_succ, i64_w, i32_w]
     rfl
    refine pure_ (i := 15) (N := some 29) (v := ?_) (a' := ?_) #[true, true, true, true, true, true, true, true, true, true, false, true, true, true, true, true, false, false, true, false, false, true, false, false, false, false, false, false, false, false] rfl rfl (any_of HT_.out (by kernel_rfl)) (fun _ _ _ h => h) (Or.inl ⟨by rfl, ?_⟩) ?_ ?_
    rotate_left
    ·intro w'
     go_simp
     with_reducible rfl
    rotate_left
    ·simp only [Act.put, List.setIfInBounds_toArray, List.set_cons_zero, List.set_cons_succ, i64_w, i32_w]
     rfl
    refine take_ (i := 19) (N := some 33) (v := ?_) (a' := ?_) #[true, true, true, true, true, true, true, true, true, true, false, true, true, true, true, true, false, false, true, true, false, true, false, false, false, false, false, false, false, false] rfl rfl (take_ofW HT_.out HW_.out (by kernel_rfl)) (fun _ _ _ h => h) (Or.inl ⟨by rfl, ?_⟩) hHeld ?_ ?_
    rotate_left
    ·rintro w' ⟨s0, s1, s2, s3, s4, s5⟩
     go_simp
     with_reducible rfl
    rotate_left
    ·simp only [Act.put, List.setIfInBounds_toArray, List.set_cons_zero, List.set_cons_succ, i64_w, i32_w]
     rfl
    refine pure_ (i := 20) (N := some 34) (v := ?_) (a' := ?_) #[true, true, true, true, true, true, true, true, true, true, false, true, true, true, true, true, false, false, true, true, true, true, false, false, false, false, false, false, false, false] rfl rfl (any_of HT_.out (by kernel_rfl)) (fun _ _ _ h => h) (Or.inl ⟨by rfl, ?_⟩) ?_ ?_
    rotate_left
    ·intro w'
     go_simp
     with_reducible rfl
    rotate_left
    ·simp only [Act.put, List.setIfInBounds_toArray, List.set_cons_zero, List.set_cons_succ, i64_w, i32_w]
     rfl
    refine take_ (i := 22) (N := some 36) (v := ?_) (a' := ?_) #[true, true, true, true, true, true, true, true, true, true, false, true, true, true, true, true, false, false, true, true, true, true, true, false, false, false, false, false, false, false] rfl rfl (take_ofW HT_.out HW_.out (by kernel_rfl)) (fun _ _ _ h => h) (Or.inl ⟨by rfl, ?_⟩) hHeld ?_ ?_
    rotate_left
    ·rintro w' ⟨s0, s1, s2, s3, s4, s5⟩
     go_simp
     with_reducible rfl
    rotate_left
    ·simp only [Act.put, List.setIfInBounds_toArray, List.set_cons_zero, List.set_cons_succ, i64_w, i32_w]
     rfl
    refine pure_ (i := 23) (N := some 37) (v := ?_) (a' := ?_) #[true, true, true, true, true, true, true, true, true, true, false, true, true, true, true, true, false, false, true, true, true, true, true, true, false, false, false, false, false, false] rfl rfl (any_of HT_.out (by kernel_rfl)) (fun _ _ _ h => h) (Or.inl ⟨by rfl, ?_⟩) ?_ ?_
    rotate_left
    ·intro w'
     go_simp
     with_reducible rfl
    rotate_left
    ·simp only [Act.put, List.setIfInBounds_toArray, List.set_cons_zero, List.set_cons_succ, i64_w, i32_w]
     rfl
    refine pure_ (i := 24) (N := some 38) (v := ?_) (a' := ?_) #[true, true, true, true, true, true, true, true, true, true, false, true, true, true, true, true, false, false, true, true, true, true, true, true, true, false, false, false, false, false] rfl rfl (any_of HT_.out (by kernel_rfl)) (fun _ _ _ h => h) (Or.inl ⟨by rfl, ?_⟩) ?_ ?_
    rotate_left
    ·intro w'
     go_simp
     with_reducible rfl
    rotate_left
    ·simp only [Act.put, List.setIfInBounds_toArray, List.set_cons_zero, List.set_cons_succ, i64_w, i32_w]
     rfl
    refine one_ (i := 10) (N := some 24) #[true, true, true, true, true, true, true, true, true, true, true, true, true, true, true, true, false, false, true, true, true, true, true, true, true, false, false, false, false, false] rfl rfl (one_of HT_.out (by kernel_rfl)) (by decide) (fun K hK => ?_)
    refine goes_ Tryd.func67 (by kernel_rfl) rfl #[.string (a0_1 ++ a0_2)] (by rfl) rfl rfl (by (try simp only [List.map_toArray, List.map_cons, List.map_nil]); first | done | rfl | (simp only [List.length_drop, List.length_take]; rfl)) ?_
    with_reducible refine (decimal_of.calls k (a0_1 ++ a0_2) t672 _ A6.out).mono ?_
    rintro e w21 ⟨v673, rfl, ho0, hb⟩
    refine ⟨_, rfl, ?_⟩
    have n0_ := Aside0.mk (Kd.R_lower ho0 (below_size HB.out))
    have n1_ := Aside0.mk (blk_below (g := gb668) (o := .cells #[.bool a0_0, .string a0_1, .string a0_2] 23 (0, 0)) BK668.out hb)
    have n2_ := Aside0.mk (blk_below (g := gb669) (o := .cells #[.bool a1_0, .string a1_1, .string a1_2] 23 (0, 0)) BK669.out hb)
    have n3_ := Aside0.mk (blk_below (g := gb670) (o := .cells #[.bool false, .string (⟨#[]⟩ : ByteArray), .string (⟨#[]⟩ : ByteArray)] 23 (0, 0)) BK670.out hb)
    have n4_ := Aside0.mk (below_step HB.out hb)
    clear BK668
    clear BK669
    clear BK670
    clear HB
    have HO674 := n0_
    have BK668 := n1_
    have BK669 := n2_
    have BK670 := n3_
    have HB := n4_
    clear n0_ n1_ n2_ n3_ n4_
    (try clear hb)
    (try clear hb2)
    (try clear hk)
    (try clear hi)
    (try clear ho0)
    refine hK.out _ _ ⟨(blk_cell BK668.out 0).trans rfl, (blk_cell BK668.out 1).trans rfl, (blk_cell BK668.out 2).trans rfl, (blk_cell BK669.out 0).trans rfl, (blk_cell BK669.out 1).trans rfl, (blk_cell BK669.out 2).trans rfl⟩ (fun hHeld => ?_)
    clear hK K
    refine norm_ (a' := ?_) ?_ ?_
    rotate_left
    ·show Act.put _ (some 24) _ = _
     simp only [Act.put, List.setIfInBounds_toArray, List.set_cons_zero, List.set_cons_succ, i64_w, i32_w]
     rfl
    refine one_ (i := 16) (N := some 30) #[true, true, true, true, true, true, true, true, true, true, true, true, true, true, true, true, true, false, true, true, true, true, true, true, true, false, false, false, false, false] rfl rfl (one_of HT_.out (by kernel_rfl)) (by decide) (fun K hK => ?_)
    refine goes_ Tryd.func67 (by kernel_rfl) rfl #[.string (a1_1 ++ a1_2)] (by rfl) rfl rfl (by (try simp only [List.map_toArray, List.map_cons, List.map_nil]); first | done | rfl | (simp only [List.length_drop, List.length_take]; rfl)) ?_
    with_reducible refine (decimal_of.calls k (a1_1 ++ a1_2) t675 _ A8.out).mono ?_
    rintro e w22 ⟨v676, rfl, ho0, hb⟩
    refine ⟨_, rfl, ?_⟩
    have n0_ := Aside0.mk (Kd.R_elder' (by (with_reducible repeat (first | apply Kd.R_alloc | apply Kd.R_drewN | apply Kd.R_drew)); exact HO674.out) (Kd.R_base ho0) hb)
    have n1_ := Aside0.mk (Kd.R_lower (Kd.R_new' ho0 (Kd.R_lt (by (with_reducible repeat (first | apply Kd.R_alloc | apply Kd.R_drewN | apply Kd.R_drew)); exact HO674.out))) (below_size HB.out))
    have n2_ := Aside0.mk (blk_below (g := gb668) (o := .cells #[.bool a0_0, .string a0_1, .string a0_2] 23 (0, 0)) BK668.out hb)
    have n3_ := Aside0.mk (blk_below (g := gb669) (o := .cells #[.bool a1_0, .string a1_1, .string a1_2] 23 (0, 0)) BK669.out hb)
    have n4_ := Aside0.mk (blk_below (g := gb670) (o := .cells #[.bool false, .string (⟨#[]⟩ : ByteArray), .string (⟨#[]⟩ : ByteArray)] 23 (0, 0)) BK670.out hb)
    have n5_ := Aside0.mk (below_step HB.out hb)
    clear HO674
    clear BK668
    clear BK669
    clear BK670
    clear HB
    have HO674 := n0_
    have HO677 := n1_
    have BK668 := n2_
    have BK669 := n3_
    have BK670 := n4_
    have HB := n5_
    clear n0_ n1_ n2_ n3_ n4_ n5_
    (try clear hb)
    (try clear hb2)
    (try clear hk)
    (try clear hi)
    (try clear ho0)
    obtain ⟨Ao23, co23, eo23⟩ := Kd.R_slice HO674.out
    (first | subst eo23 | (injection eo23 with f1_ f2_ f3_; have f4_ := f1_.symm; have f5_ := f3_.symm; clear f1_ f2_ f3_; subst f4_; subst f5_))
    obtain ⟨Ao24, co24, eo24⟩ := Kd.R_slice HO677.out
    (first | subst eo24 | (injection eo24 with f1_ f2_ f3_; have f4_ := f1_.symm; have f5_ := f3_.symm; clear f1_ f2_ f3_; subst f4_; subst f5_))
    refine hK.out _ _ ⟨(blk_cell BK668.out 0).trans rfl, (blk_cell BK668.out 1).trans rfl, (blk_cell BK668.out 2).trans rfl, (blk_cell BK669.out 0).trans rfl, (blk_cell BK669.out 1).trans rfl, (blk_cell BK669.out 2).trans rfl⟩ (fun hHeld => ?_)
    clear hK K
    refine norm_ (a' := ?_) ?_ ?_
    rotate_left
    ·show Act.put _ (some 30) _ = _
     simp only [Act.put, List.setIfInBounds_toArray, List.set_cons_zero, List.set_cons_succ, i64_w, i32_w]
     rfl
    refine one_ (i := 17) (N := some 31) #[true, true, true, true, true, true, true, true, true, true, true, true, true, true, true, true, true, true, true, true, true, true, true, true, true, false, false, false, false, false] rfl rfl (one_of HT_.out (by kernel_rfl)) (by decide) (fun K hK => ?_)
    refine goes_ Tryd.func68 (by kernel_rfl) rfl #[.slice Ao23 t672.length co23, .slice Ao24 t675.length co24] (by rfl) rfl rfl (by (try simp only [List.map_toArray, List.map_cons, List.map_nil]); first | done | rfl | (simp only [List.length_drop, List.length_take]; rfl)) ?_
    with_reducible refine (decimal_digits_times.calls k _ _ t672 _ _ t675 t678 _ ?side1 ?side2 ?side3 ?side4 A9.out).mono ?_
    (case side1 => repeat (first | exact (Kd.R_reads' HO674.out).2.2 | (with_reducible refine Kd.C_alloc ?_ _) | (with_reducible refine Kd.C_drewN ?_ _) | (with_reducible refine Kd.C_drew ?_)))
    (case side2 => exact (Kd.R_reads' HO674.out).2.1)
    (case side3 => repeat (first | exact (Kd.R_reads' HO677.out).2.2 | (with_reducible refine Kd.C_alloc ?_ _) | (with_reducible refine Kd.C_drewN ?_ _) | (with_reducible refine Kd.C_drew ?_)))
    (case side4 => exact (Kd.R_reads' HO677.out).2.1)
    rintro e w25 ⟨v679, rfl, ho0, hb⟩
    refine ⟨_, rfl, ?_⟩
    have n0_ := Aside0.mk (Kd.R_below (by (with_reducible repeat (first | apply Kd.R_alloc | apply Kd.R_drewN | apply Kd.R_drew)); exact HO674.out) hb)
    have n1_ := Aside0.mk (Kd.R_below (by (with_reducible repeat (first | apply Kd.R_alloc | apply Kd.R_drewN | apply Kd.R_drew)); exact HO677.out) hb)
    have n2_ := Aside0.mk (Kd.V_lower (Kd.V_mono (ok' := fun k_ => some k_ ≠ (.slice Ao23 t672.length co23 : Value).ownBlock ∧ some k_ ≠ (.slice Ao24 t675.length co24 : Value).ownBlock ∧ k_ ≠ gb668 ∧ k_ ≠ gb669 ∧ k_ ≠ gb670) ho0 (fun k_ hk_ => ⟨(Kd.fresh' (Kd.R_lt (by (with_reducible repeat (first | apply Kd.R_alloc | apply Kd.R_drewN | apply Kd.R_drew)); exact HO674.out)) k_ hk_), (Kd.fresh' (Kd.R_lt (by (with_reducible repeat (first | apply Kd.R_alloc | apply Kd.R_drewN | apply Kd.R_drew)); exact HO677.out)) k_ hk_), (Kd.freshB (g := gb668) (o := .cells #[.bool a0_0, .string a0_1, .string a0_2] 23 (0, 0)) BK668.out k_ hk_), (Kd.freshB (g := gb669) (o := .cells #[.bool a1_0, .string a1_1, .string a1_2] 23 (0, 0)) BK669.out k_ hk_), (Kd.freshB (g := gb670) (o := .cells #[.bool false, .string (⟨#[]⟩ : ByteArray), .string (⟨#[]⟩ : ByteArray)] 23 (0, 0)) BK670.out k_ hk_)⟩)) (below_size HB.out))
    have n3_ := Aside0.mk (blk_below (g := gb668) (o := .cells #[.bool a0_0, .string a0_1, .string a0_2] 23 (0, 0)) BK668.out hb)
    have n4_ := Aside0.mk (blk_below (g := gb669) (o := .cells #[.bool a1_0, .string a1_1, .string a1_2] 23 (0, 0)) BK669.out hb)
    have n5_ := Aside0.mk (blk_below (g := gb670) (o := .cells #[.bool false, .string (⟨#[]⟩ : ByteArray), .string (⟨#[]⟩ : ByteArray)] 23 (0, 0)) BK670.out hb)
    have n6_ := Aside0.mk (below_step HB.out hb)
    clear HO674
    clear HO677
    clear BK668
    clear BK669
    clear BK670
    clear HB
    have HO674 := n0_
    have HO677 := n1_
    have HO680 := n2_
    have BK668 := n3_
    have BK669 := n4_
    have BK670 := n5_
    have HB := n6_
    clear n0_ n1_ n2_ n3_ n4_ n5_ n6_
    (try clear hb)
    (try clear hb2)
    (try clear hk)
    (try clear hi)
    (try clear ho0)
    obtain ⟨Ao26, co26, eo26⟩ := Kd.V_slice HO680.out
    (first | subst eo26 | (injection eo26 with f1_ f2_ f3_; have f4_ := f1_.symm; have f5_ := f3_.symm; clear f1_ f2_ f3_; subst f4_; subst f5_))
    refine hK.out _ _ ⟨(blk_cell BK668.out 0).trans rfl, (blk_cell BK668.out 1).trans rfl, (blk_cell BK668.out 2).trans rfl, (blk_cell BK669.out 0).trans rfl, (blk_cell BK669.out 1).trans rfl, (blk_cell BK669.out 2).trans rfl⟩ (fun hHeld => ?_)
    clear hK K
    refine norm_ (a' := ?_) ?_ ?_
    rotate_left
    ·show Act.put _ (some 31) _ = _
     simp only [Act.put, List.setIfInBounds_toArray, List.set_cons_zero, List.set_cons_succ, i64_w, i32_w]
     rfl
    refine one_ (i := 25) (N := some 39) #[true, true, true, true, true, true, true, true, true, true, true, true, true, true, true, true, true, true, true, true, true, true, true, true, true, true, false, false, false, false] rfl rfl (one_of HT_.out (by kernel_rfl)) (by decide) (fun K hK => ?_)
    refine goes_ Tryd.func55 (by kernel_rfl) rfl #[.bool (a0_0 != a1_0), .slice Ao26 t678.length co26, .int .i64 (wrap64 ((a0_2.size : Int) + (a1_2.size : Int)))] (by rfl) rfl rfl (by (try simp only [List.map_toArray, List.map_cons, List.map_nil]); first | done | rfl | (simp only [List.length_drop, List.length_take]; rfl)) ?_
    with_reducible refine (decimal_made.calls k (a0_0 != a1_0) _ _ t678 (wrap64 ((a0_2.size : Int) + (a1_2.size : Int))) t681 t682 t683 t684 _ ?side1 ?side2 A10.out).mono ?_
    (case side1 => repeat (first | exact (Kd.V_reads' HO680.out).2.2 | (with_reducible refine Kd.C_alloc ?_ _) | (with_reducible refine Kd.C_drewN ?_ _) | (with_reducible refine Kd.C_drew ?_)))
    (case side2 => exact (Kd.V_reads' HO680.out).2.1)
    rintro e w27 ⟨rfl, hb⟩
    refine ⟨_, rfl, ?_⟩
    have n0_ := Aside0.mk (Kd.R_below (by (with_reducible repeat (first | apply Kd.R_alloc | apply Kd.R_drewN | apply Kd.R_drew)); exact HO674.out) hb)
    have n1_ := Aside0.mk (Kd.R_below (by (with_reducible repeat (first | apply Kd.R_alloc | apply Kd.R_drewN | apply Kd.R_drew)); exact HO677.out) hb)
    have n2_ := Aside0.mk (Kd.V_below (by (with_reducible repeat (first | apply Kd.V_alloc | apply Kd.V_drewN | apply Kd.V_drew)); exact HO680.out) hb)
    have n3_ := Aside0.mk (blk_below (g := gb668) (o := .cells #[.bool a0_0, .string a0_1, .string a0_2] 23 (0, 0)) BK668.out hb)
    have n4_ := Aside0.mk (blk_below (g := gb669) (o := .cells #[.bool a1_0, .string a1_1, .string a1_2] 23 (0, 0)) BK669.out hb)
    have n5_ := Aside0.mk (blk_below (g := gb670) (o := .cells #[.bool false, .string (⟨#[]⟩ : ByteArray), .string (⟨#[]⟩ : ByteArray)] 23 (0, 0)) BK670.out hb)
    have n6_ := Aside0.mk (below_step HB.out hb)
    clear HO674
    clear HO677
    clear HO680
    clear BK668
    clear BK669
    clear BK670
    clear HB
    have HO674 := n0_
    have HO677 := n1_
    have HO680 := n2_
    have BK668 := n3_
    have BK669 := n4_
    have BK670 := n5_
    have HB := n6_
    clear n0_ n1_ n2_ n3_ n4_ n5_ n6_
    (try clear hb)
    (try clear hb2)
    (try clear hk)
    (try clear hi)
    refine hK.out _ _ ⟨(blk_cell BK668.out 0).trans rfl, (blk_cell BK668.out 1).trans rfl, (blk_cell BK668.out 2).trans rfl, (blk_cell BK669.out 0).trans rfl, (blk_cell BK669.out 1).trans rfl, (blk_cell BK669.out 2).trans rfl⟩ (fun hHeld => ?_)
    clear hK K
    refine norm_ (a' := ?_) ?_ ?_
    rotate_left
    ·show Act.put _ (some 39) _ = _
     simp only [Act.put, List.setIfInBounds_toArray, List.set_cons_zero, List.set_cons_succ, i64_w, i32_w]
     rfl
    refine pure_ (i := 26) (N := some 40) (v := ?_) (a' := ?_) #[true, true, true, true, true, true, true, true, true, true, true, true, true, true, true, true, true, true, true, true, true, true, true, true, true, true, true, false, false, false] rfl rfl (any_of HT_.out (by kernel_rfl)) (fun _ _ _ h => h) (Or.inl ⟨by rfl, ?_⟩) ?_ ?_
    rotate_left
    ·intro w'
     go_simp
     with_reducible rfl
    rotate_left
    ·simp only [Act.put, List.setIfInBounds_toArray, List.set_cons_zero, List.set_cons_succ, i64_w, i32_w]
     rfl
    refine pure_ (i := 27) (N := some 41) (v := ?_) (a' := ?_) #[true, true, true, true, true, true, true, true, true, true, true, true, true, true, true, true, true, true, true, true, true, true, true, true, true, true, true, true, false, false] rfl rfl (any_of HT_.out (by kernel_rfl)) (fun _ _ _ h => h) (Or.inl ⟨by rfl, ?_⟩) ?_ ?_
    rotate_left
    ·intro w'
     go_simp
     with_reducible rfl
    rotate_left
    ·simp only [Act.put, List.setIfInBounds_toArray, List.set_cons_zero, List.set_cons_succ, i64_w, i32_w]
     rfl
    refine one_ (i := 28) (N := none) #[true, true, true, true, true, true, true, true, true, true, true, true, true, true, true, true, true, true, true, true, true, true, true, true, true, true, true, true, true, false] rfl rfl (one_of HT_.out (by kernel_rfl)) (by decide) (fun K hK => ?_)
    have hs28 : w27.cell? ⟨gb670, 0, none⟩ = some (.bool false) := (blk_cell BK670.out 0).trans rfl
    have hfs28 := blk_frozen BK670.out 0
    have hns28_0 := NB668_670.out
    have hns28_1 := NB669_670.out
    have hms28_0 := NB670_668.out
    have hms28_1 := NB670_669.out
    have hs29 : w27.cell? ⟨gb670, 1, none⟩ = some (.string (⟨#[]⟩ : ByteArray)) := (blk_cell BK670.out 1).trans rfl
    have hfs29 := blk_frozen BK670.out 1
    have hns29_0 := NB668_670.out
    have hns29_1 := NB669_670.out
    have hms29_0 := NB670_668.out
    have hms29_1 := NB670_669.out
    have hs30 : w27.cell? ⟨gb670, 2, none⟩ = some (.string (⟨#[]⟩ : ByteArray)) := (blk_cell BK670.out 2).trans rfl
    have hfs30 := blk_frozen BK670.out 2
    have hns30_0 := NB668_670.out
    have hns30_1 := NB669_670.out
    have hms30_0 := NB670_668.out
    have hms30_1 := NB670_669.out
    refine skip_ (w1 := ?_) (by rfl) rfl ?_ ?_
    rotate_left
    ·go_simp
     rfl
    refine hK.out _ _ ⟨((cell_far (p := ⟨gb670, _, none⟩) NB668_670.out _).trans (((cell_far (p := ⟨gb670, _, none⟩) NB668_670.out _).trans (((cell_far (p := ⟨gb670, _, none⟩) NB668_670.out _).trans (hHeld.1)))))), ((cell_far (p := ⟨gb670, _, none⟩) NB668_670.out _).trans (((cell_far (p := ⟨gb670, _, none⟩) NB668_670.out _).trans (((cell_far (p := ⟨gb670, _, none⟩) NB668_670.out _).trans (hHeld.2.1)))))), ((cell_far (p := ⟨gb670, _, none⟩) NB668_670.out _).trans (((cell_far (p := ⟨gb670, _, none⟩) NB668_670.out _).trans (((cell_far (p := ⟨gb670, _, none⟩) NB668_670.out _).trans (hHeld.2.2.1)))))), ((cell_far (p := ⟨gb670, _, none⟩) NB669_670.out _).trans (((cell_far (p := ⟨gb670, _, none⟩) NB669_670.out _).trans (((cell_far (p := ⟨gb670, _, none⟩) NB669_670.out _).trans (hHeld.2.2.2.1)))))), ((cell_far (p := ⟨gb670, _, none⟩) NB669_670.out _).trans (((cell_far (p := ⟨gb670, _, none⟩) NB669_670.out _).trans (((cell_far (p := ⟨gb670, _, none⟩) NB669_670.out _).trans (hHeld.2.2.2.2.1)))))), ((cell_far (p := ⟨gb670, _, none⟩) NB669_670.out _).trans (((cell_far (p := ⟨gb670, _, none⟩) NB669_670.out _).trans (((cell_far (p := ⟨gb670, _, none⟩) NB669_670.out _).trans (hHeld.2.2.2.2.2))))))⟩ (fun hHeld => ?_)
    clear hK K
    refine pure_ (i := 29) (N := some 5) (v := ?_) (a' := ?_) #[true, true, true, true, true, true, true, true, true, true, true, true, true, true, true, true, true, true, true, true, true, true, true, true, true, true, true, true, true, true] rfl rfl (any_of HT_.out (by kernel_rfl)) (fun _ _ _ h => h) (Or.inl ⟨by rfl, ?_⟩) ?_ ?_
    rotate_left
    ·intro w'
     go_simp
     with_reducible rfl
    rotate_left
    ·simp only [Act.put, List.setIfInBounds_toArray, List.set_cons_zero, List.set_cons_succ, i64_w, i32_w]
     rfl
    refine done_ (done_of HT_.out (by kernel_rfl)) ?_
    try go_wp2
    refine bodyPost_ret (results_ct rfl _ _ gb670 23 #[.bool t681, .string t682, .string t683] (0, 0) _ rfl (by refine blk_put (cs := #[.bool t681, .string t682, .string (⟨#[]⟩ : ByteArray)]) ?_ 2 _ rfl; refine blk_put (cs := #[.bool t681, .string (⟨#[]⟩ : ByteArray), .string (⟨#[]⟩ : ByteArray)]) ?_ 1 _ rfl; refine blk_put (cs := #[.bool false, .string (⟨#[]⟩ : ByteArray), .string (⟨#[]⟩ : ByteArray)]) ?_ 0 _ rfl; exact BK670.out) Tryd.underlying23 rfl (by kernel_rfl)) rfl ?_
    exact ⟨by first | rfl | (simp [errW_none, errW_some] <;> rfl) | (simp [*, errW_none, errW_some] <;> rfl) | (simp [bne_nil_]; done), by repeat (first | (with_reducible first | exact HB.out | apply below_alloc | apply pw_below_drewN | apply below_drew1 | refine below_set ?_ GE668.out | refine below_set ?_ GE669.out | refine below_set ?_ GE670.out) | exact HB.out)⟩
   ·rw [if_neg c7] at H
    exact absurd H (by simp)
  ·rw [if_neg c5] at H
   exact absurd H (by simp)
 ·rw [if_neg c4] at H
  have c4b0 : (t671 == 0) = false := beq_eq_false_iff_ne.mpr c4
  have c4b1 : (t671 != 0) = true := bne_iff_ne.mpr c4
  simp only [Option.some.injEq, Prod.mk.injEq] at H
  obtain ⟨rfl, rfl, rfl, rfl⟩ := H
  go_enter Tryd.func35, Tryd.ntmps35
  go_wp2_with (first | ((with_reducible refine gate_dst (N := 2) rfl ?_); refine box_event ?hg (N := 2) ?hd (cs := #[.bool a0_0, .string a0_1, .string a0_2]) (t := 23) ?hr ?_; (case hd => rfl); (case hg => rfl); (case hr => first | (go_simp; done) | (go_simp; rfl)); intro gb668 hg w31 hbox hb; have n0_ := Aside0.mk (below_step HB.out hb); have n1_ := Aside0.mk (hbox); have n2_ := Aside0.mk ((by rw [hg]; exact (below_size HB.out) : w.heap.size ≤ gb668)); have n3_ := Aside0.mk ((by rw [hg]; exact (below_size HB.out) : w.heap.size ≤ gb668)); clear HB; have HB := n0_; have BK668 := n1_; have GW668 := n2_; have GE668 := n3_; clear n0_ n1_ n2_ n3_; clear hb hbox hg) | ((with_reducible refine gate_dst (N := 3) rfl ?_); refine box_event ?hg (N := 3) ?hd (cs := #[.bool a1_0, .string a1_1, .string a1_2]) (t := 23) ?hr ?_; (case hd => rfl); (case hg => rfl); (case hr => first | (go_simp; done) | (go_simp; rfl)); intro gb669 hg w32 hbox hb; have n0_ := Aside0.mk (blk_below (g := gb668) (o := .cells #[.bool a0_0, .string a0_1, .string a0_2] 23 (0, 0)) BK668.out hb); have n1_ := Aside0.mk (below_step HB.out hb); have n2_ := Aside0.mk (hbox); have n3_ := Aside0.mk ((by rw [hg]; exact (below_size HB.out) : w.heap.size ≤ gb669)); have n4_ := Aside0.mk ((by rw [hg]; exact (below_size HB.out) : w.heap.size ≤ gb669)); have n5_ := Aside0.mk ((by rw [hg]; exact Nat.ne_of_lt (blk_lt (g := gb668) (o := .cells #[.bool a0_0, .string a0_1, .string a0_2] 23 (0, 0)) BK668.out) : gb668 ≠ gb669)); have n6_ := Aside0.mk ((by rw [hg]; exact Nat.ne_of_gt (blk_lt (g := gb668) (o := .cells #[.bool a0_0, .string a0_1, .string a0_2] 23 (0, 0)) BK668.out) : gb669 ≠ gb668)); clear BK668; clear HB; have BK668 := n0_; have HB := n1_; have BK669 := n2_; have GW669 := n3_; have GE669 := n4_; have NB668_669 := n5_; have NB669_668 := n6_; clear n0_ n1_ n2_ n3_ n4_ n5_ n6_; clear hb hbox hg) | ((with_reducible refine gate_dst (N := 4) rfl ?_); refine box_event ?hg (N := 4) ?hd (cs := #[.bool false, .string (⟨#[]⟩ : ByteArray), .string (⟨#[]⟩ : ByteArray)]) (t := 23) ?hr ?_; (case hd => rfl); (case hg => rfl); (case hr => first | (go_simp; done) | (go_simp; rfl)); intro gb670 hg w33 hbox hb; have n0_ := Aside0.mk (blk_below (g := gb668) (o := .cells #[.bool a0_0, .string a0_1, .string a0_2] 23 (0, 0)) BK668.out hb); have n1_ := Aside0.mk (blk_below (g := gb669) (o := .cells #[.bool a1_0, .string a1_1, .string a1_2] 23 (0, 0)) BK669.out hb); have n2_ := Aside0.mk (below_step HB.out hb); have n3_ := Aside0.mk (hbox); have n4_ := Aside0.mk ((by rw [hg]; exact (below_size HB.out) : w.heap.size ≤ gb670)); have n5_ := Aside0.mk ((by rw [hg]; exact (below_size HB.out) : w.heap.size ≤ gb670)); have n6_ := Aside0.mk ((by rw [hg]; exact Nat.ne_of_lt (blk_lt (g := gb668) (o := .cells #[.bool a0_0, .string a0_1, .string a0_2] 23 (0, 0)) BK668.out) : gb668 ≠ gb670)); have n7_ := Aside0.mk ((by rw [hg]; exact Nat.ne_of_gt (blk_lt (g := gb668) (o := .cells #[.bool a0_0, .string a0_1, .string a0_2] 23 (0, 0)) BK668.out) : gb670 ≠ gb668)); have n8_ := Aside0.mk ((by rw [hg]; exact Nat.ne_of_lt (blk_lt (g := gb669) (o := .cells #[.bool a1_0, .string a1_1, .string a1_2] 23 (0, 0)) BK669.out) : gb669 ≠ gb670)); have n9_ := Aside0.mk ((by rw [hg]; exact Nat.ne_of_gt (blk_lt (g := gb669) (o := .cells #[.bool a1_0, .string a1_1, .string a1_2] 23 (0, 0)) BK669.out) : gb670 ≠ gb669)); clear BK668; clear BK669; clear HB; have BK668 := n0_; have BK669 := n1_; have HB := n2_; have BK670 := n3_; have GW670 := n4_; have GE670 := n5_; have NB668_670 := n6_; have NB670_668 := n7_; have NB669_670 := n8_; have NB670_669 := n9_; clear n0_ n1_ n2_ n3_ n4_ n5_ n6_ n7_ n8_ n9_; clear hb hbox hg; have hnb34 := NB668_669.out; have hnc34 := NB669_668.out; have hnb35 := NB668_670.out; have hnc35 := NB670_668.out; have hcz36_0 : w33.cell? ⟨gb668, 0, none⟩ = some (.bool a0_0) := (blk_cell BK668.out 0).trans rfl; have hcz36_1 : w33.cell? ⟨gb668, 1, none⟩ = some (.string a0_1) := (blk_cell BK668.out 1).trans rfl; have hcz36_2 : w33.cell? ⟨gb668, 2, none⟩ = some (.string a0_2) := (blk_cell BK668.out 2).trans rfl; have hfz36_0 := blk_frozen BK668.out 0; have hfz36_1 := blk_frozen BK668.out 1; have hfz36_2 := blk_frozen BK668.out 2; have hnb37 := NB669_670.out; have hnc37 := NB670_669.out; have hcz38_0 : w33.cell? ⟨gb669, 0, none⟩ = some (.bool a1_0) := (blk_cell BK669.out 0).trans rfl; have hcz38_1 : w33.cell? ⟨gb669, 1, none⟩ = some (.string a1_1) := (blk_cell BK669.out 1).trans rfl; have hcz38_2 : w33.cell? ⟨gb669, 2, none⟩ = some (.string a1_2) := (blk_cell BK669.out 2).trans rfl; have hfz38_0 := blk_frozen BK669.out 0; have hfz38_1 := blk_frozen BK669.out 1; have hfz38_2 := blk_frozen BK669.out 2) | ((with_reducible refine gate_callee (f := 58) rfl ?_); refine goesL_ (some 9) rfl rfl Tryd.func58 (by kernel_rfl) rfl #[.agg #[.bool a0_0, .string a0_1, .string a0_2], .agg #[.bool a1_0, .string a1_1, .string a1_2]] rfl (by (try simp only [List.map_toArray, List.map_cons, List.map_nil]); first | done | rfl | (simp only [List.length_drop, List.length_take]; rfl)) ?_; (with_reducible refine (decimal_both.calls k a0_0 a0_1 a0_2 a1_0 a1_1 a1_2 t671 _ A3.out).mono ?_); rintro e w39 ⟨rfl, hb⟩; refine ⟨_, rfl, ?_⟩; have n0_ := Aside0.mk (blk_below (g := gb668) (o := .cells #[.bool a0_0, .string a0_1, .string a0_2] 23 (0, 0)) BK668.out hb); have n1_ := Aside0.mk (blk_below (g := gb669) (o := .cells #[.bool a1_0, .string a1_1, .string a1_2] 23 (0, 0)) BK669.out hb); have n2_ := Aside0.mk (blk_below (g := gb670) (o := .cells #[.bool false, .string (⟨#[]⟩ : ByteArray), .string (⟨#[]⟩ : ByteArray)] 23 (0, 0)) BK670.out hb); have n3_ := Aside0.mk (below_step HB.out hb); clear BK668; clear BK669; clear BK670; clear HB; have BK668 := n0_; have BK669 := n1_; have BK670 := n2_; have HB := n3_; clear n0_ n1_ n2_ n3_; have hcz40_0 : w39.cell? ⟨gb670, 0, none⟩ = some (.bool false) := (blk_cell BK670.out 0).trans rfl; have hcz40_1 : w39.cell? ⟨gb670, 1, none⟩ = some (.string (⟨#[]⟩ : ByteArray)) := (blk_cell BK670.out 1).trans rfl; have hcz40_2 : w39.cell? ⟨gb670, 2, none⟩ = some (.string (⟨#[]⟩ : ByteArray)) := (blk_cell BK670.out 2).trans rfl; have hfz40_0 := blk_frozen BK670.out 0; have hfz40_1 := blk_frozen BK670.out 1; have hfz40_2 := blk_frozen BK670.out 2))
  refine bodyPost_ret (results_ct rfl _ _ gb670 23 #[.bool false, .string (⟨#[]⟩ : ByteArray), .string (⟨#[]⟩ : ByteArray)] (0, 0) _ rfl (by refine blk_put (cs := #[.bool false, .string (⟨#[]⟩ : ByteArray), .string (⟨#[]⟩ : ByteArray)]) ?_ 2 _ rfl; refine blk_put (cs := #[.bool false, .string (⟨#[]⟩ : ByteArray), .string (⟨#[]⟩ : ByteArray)]) ?_ 1 _ rfl; refine blk_put (cs := #[.bool false, .string (⟨#[]⟩ : ByteArray), .string (⟨#[]⟩ : ByteArray)]) ?_ 0 _ rfl; exact BK670.out) Tryd.underlying23 rfl (by kernel_rfl)) rfl ?_
  exact ⟨by first | rfl | (simp [errW_none, errW_some] <;> rfl) | (simp [*, errW_none, errW_some] <;> rfl) | (simp [bne_nil_]; done), by repeat (first | (with_reducible first | exact HB.out | apply below_alloc | apply pw_below_drewN | apply below_drew1 | refine below_set ?_ GE668.out | refine below_set ?_ GE669.out | refine below_set ?_ GE670.out) | exact HB.out)⟩
end Go.Proofs.YtapbdblpdkoacaaDoor.P
namespace Go.Proofs.YtapbdblpdkoacaaDoor.P
open Go.RowKit Go.Proofs.YtapbdblpdkoacaaDoorW.PrintWords Go.Proofs.YtapbdblpdkoacaaDoorW.PrintLast Go.Proofs.YtapbdblpdkoacaaDoorW.PrintMore
attribute [local go_sem] max2_int max_two
set_option linter.unusedVariables false
set_option linter.unusedSimpArgs false
mutual
def idiomref02_Times.l0 : Nat → ByteArray → ByteArray → ByteArray → Int → Option (ByteArray)
  | 0, _, _, _, _ => none
  | k + 1, x0, x1, x5, x6 => if x6 < (x1.size : Int) then (if x5.size + 1 ≤ 9223372036854775807 then ((idiomref02_Lead.f k (x5 ++ (⟨#[48]⟩ : ByteArray))).bind fun t685 => (idiomref02_Times.l1 k x0 x1 t685 x6 0)) else (none)) else (some x5)
def idiomref02_Times.l1 : Nat → ByteArray → ByteArray → ByteArray → Int → Int → Option (ByteArray)
  | 0, _, _, _, _, _ => none
  | k + 1, x0, x1, x5, x6, x7 => if 0 ≤ x6 then (if x6 < (x1.size : Int) then (if x7 < (((bt x1 x6) - 48) % 256) then ((idiomref02_Plus.f k x5 x0).bind fun t686 => (idiomref02_Times.l1 k x0 x1 t686 x6 (wrap64 (x7 + 1)))) else (idiomref02_Times.l0 k x0 x1 x5 (wrap64 (x6 + 1)))) else (none)) else (none)
end
def idiomref02_Times.f (k : Nat) (a0 : ByteArray) (a1 : ByteArray) : Option (ByteArray) := idiomref02_Times.l0 k a0 a1 (⟨#[48]⟩ : ByteArray) 0
set_option maxHeartbeats 8000000 in
set_option maxRecDepth 100000 in
theorem idiomref02_Times.calls (k : Nat) (a0 : ByteArray) (a1 : ByteArray) (r : ByteArray) (w : World) (h : idiomref02_Times.f k a0 a1 = some r) :
    Calls Tryd.prog 69 #[.string a0, .string a1] w fun e w' => e = .returned (.string r) ∧ Below w.heap.size w w' := by
 have HB := Aside0.mk (Below.refl w.heap.size w)
 unfold idiomref02_Times.f at h
 have H := h
 clear h
 have H' := Aside0.mk H
 clear H
 go_enter Tryd.func69, Tryd.ntmps69
 go_wp2
 go_loopg [5, 6] k (fun kq v5 v6 w' => ∃ (x5_1 : ByteArray) (x6_1 : Int), v5 = .string x5_1 ∧ v6 = .int .i64 x6_1 ∧ Aside0 (idiomref02_Times.l0 kq a0 a1 x5_1 x6_1 = some r) ∧ Aside0 (kq ≤ k) ∧ Aside0 (Below w.heap.size w w'))
 case atStart => exact ⟨((⟨#[48]⟩ : ByteArray)), (0), (by first | rfl | (simp; done) | (simp [*]; done)), (by first | rfl | (simp; done) | (simp [*]; done)), H', ⟨Nat.le_refl _⟩, ⟨by repeat (first | (with_reducible first | exact HB.out | apply below_alloc | apply pw_below_drewN | apply below_drew1) | exact HB.out)⟩⟩
 case round =>
  clear H'
  try clear p2
  obtain ⟨x5_1, x6_1, rfl, rfl, HA, HK1, HB⟩ := hrel
  cases gk with
  | zero => exact absurd HA.out (by simp [idiomref02_Times.l0])
  | succ k1 =>
   have H := HA.out
   clear HA
   simp only [idiomref02_Times.l0] at H
   by_cases c3 : x6_1 < (a1.size : Int)
   ·rw [if_pos c3] at H
    have c3b0 : decide (x6_1 < (a1.size : Int)) = true := decide_eq_true c3
    clear c3
    by_cases c4 : x5_1.size + 1 ≤ 9223372036854775807
    ·rw [if_pos c4] at H
     have c4b0 := eq_true c4
     have c4b1 : decide (x5_1.size + 1 ≤ 9223372036854775807) = true := decide_eq_true c4
     try have c4b2 : (9223372036854775807 < x5_1.size + 1) = False := eq_false (Nat.not_lt.2 c4)
     replace H := Option.bind_eq_some_iff.mp H
     obtain ⟨t685, A50, H⟩ := H
     try dsimp only at H
     have A5 := Aside0.mk A50
     clear A50
     have H' := Aside0.mk H
     clear H
     go_wp2_with (first | ((with_reducible refine gate_callee (f := 84) rfl ?_); refine goesL_ (some 16) rfl rfl Tryd.func84 (by kernel_rfl) rfl #[.string (x5_1 ++ (⟨#[48]⟩ : ByteArray))] rfl (by (try simp only [List.map_toArray, List.map_cons, List.map_nil]); first | done | rfl | (simp only [List.length_drop, List.length_take]; rfl)) ?_; (with_reducible refine (idiomref02_Lead.calls k1 (x5_1 ++ (⟨#[48]⟩ : ByteArray)) t685 _ A5.out).mono ?_); rintro e w' ⟨rfl, ⟨nd, rfl⟩⟩; refine ⟨_, rfl, ?_⟩))
     go_loopg [5, 7] k1 (fun kq v5 v7 w' => ∃ (x5_2 : ByteArray) (x7_2 : Int), v5 = .string x5_2 ∧ v7 = .int .i64 x7_2 ∧ Aside0 (idiomref02_Times.l1 kq a0 a1 x5_2 x6_1 x7_2 = some r) ∧ Aside0 (kq ≤ k1) ∧ Aside0 (Below w.heap.size w w'))
     case atStart => exact ⟨(t685), (0), (by first | rfl | (simp; done) | (simp [*]; done)), (by first | rfl | (simp; done) | (simp [*]; done)), H', ⟨Nat.le_refl _⟩, ⟨by repeat (first | (with_reducible first | exact HB.out | apply below_alloc | apply pw_below_drewN | apply below_drew1) | exact HB.out)⟩⟩
     case round =>
      clear H'
      try clear p2
      try clear c3
      try clear c3b0
      try clear c4
      try clear c4b0
      try clear c4b1
      try clear c4b2
      try clear p2
      obtain ⟨x5_2, x7_2, rfl, rfl, HA, HK2, HB⟩ := hrel
      cases gk with
      | zero => exact absurd HA.out (by simp [idiomref02_Times.l1])
      | succ k2 =>
       have H := HA.out
       clear HA
       simp only [idiomref02_Times.l1] at H
       by_cases c6 : 0 ≤ x6_1
       ·rw [if_pos c6] at H
        have c6b0 : decide (0 ≤ x6_1) = true := decide_eq_true c6
        clear c6
        by_cases c7 : x6_1 < (a1.size : Int)
        ·rw [if_pos c7] at H
         have c7b0 : decide (x6_1 < (a1.size : Int)) = true := decide_eq_true c7
         clear c7
         by_cases c9 : x7_2 < (((bt a1 x6_1) - 48) % 256)
         ·rw [if_pos c9] at H
          have c9b0 : decide (x7_2 < (((bt a1 x6_1) - 48) % 256)) = true := decide_eq_true c9
          clear c9
          replace H := Option.bind_eq_some_iff.mp H
          obtain ⟨t686, A100, H⟩ := H
          try dsimp only at H
          have A10 := Aside0.mk A100
          clear A100
          have H' := Aside0.mk H
          clear H
          have p8 : 0 ≤ (x6_1 : Int) := of_decide_eq_true (by first | (with_reducible assumption) | assumption)
          have q8 : x6_1 < (a1.size : Int) := of_decide_eq_true (by first | (with_reducible assumption) | assumption)
          have hx8 := bt_at a1 x6_1
          replace p8 := eq_true p8
          replace q8 := eq_true q8
          go_wp2_with (first | ((with_reducible refine gate_callee (f := 91) rfl ?_); refine goesL_ (some 28) rfl rfl Tryd.func91 (by kernel_rfl) rfl #[.string x5_2, .string a0] rfl (by (try simp only [List.map_toArray, List.map_cons, List.map_nil]); first | done | rfl | (simp only [List.length_drop, List.length_take]; rfl)) ?_; (with_reducible refine (idiomref02_Plus.calls k2 x5_2 a0 t686 _ A10.out).mono ?_); rintro e w11 ⟨rfl, hb⟩; refine ⟨_, rfl, ?_⟩; have n0_ := Aside0.mk (below_step HB.out hb); clear HB; have HB := n0_; clear n0_))
          go_roundg k2
          case measure => have := HK1.out; have := HK2.out; omega
          case rel => exact ⟨(t686), (wrap64 (x7_2 + 1)), (by first | rfl | (simp; done) | (simp [*]; done)), (by first | rfl | (simp; done) | (simp [*]; done)), H', ⟨by have := HK1.out; have := HK2.out; omega⟩, ⟨by repeat (first | (with_reducible first | exact HB.out | apply below_alloc | apply pw_below_drewN | apply below_drew1) | exact HB.out)⟩⟩
         ·rw [if_neg c9] at H
          have c9b0 : decide (x7_2 < (((bt a1 x6_1) - 48) % 256)) = false := decide_eq_false c9
          clear c9
          have H' := Aside0.mk H
          clear H
          have p8 : 0 ≤ (x6_1 : Int) := of_decide_eq_true (by first | (with_reducible assumption) | assumption)
          have q8 : x6_1 < (a1.size : Int) := of_decide_eq_true (by first | (with_reducible assumption) | assumption)
          have hx8 := bt_at a1 x6_1
          replace p8 := eq_true p8
          replace q8 := eq_true q8
          go_wp2
          go_roundg k2
          case measure => have := HK1.out; have := HK2.out; omega
          case rel => exact ⟨(x5_2), (wrap64 (x6_1 + 1)), (by first | rfl | (simp; done) | (simp [*]; done)), (by first | rfl | (simp; done) | (simp [*]; done)), H', ⟨by have := HK1.out; have := HK2.out; omega⟩, ⟨by repeat (first | (with_reducible first | exact HB.out | apply below_alloc | apply pw_below_drewN | apply below_drew1) | exact HB.out)⟩⟩
        ·rw [if_neg c7] at H
         exact absurd H (by simp)
       ·rw [if_neg c6] at H
        exact absurd H (by simp)
    ·rw [if_neg c4] at H
     exact absurd H (by simp)
   ·rw [if_neg c3] at H
    have c3b0 : decide (x6_1 < (a1.size : Int)) = false := decide_eq_false c3
    clear c3
    obtain rfl := Option.some.inj H
    go_wp2
    go_ret
    exact ⟨by first | rfl | (simp [errW_none, errW_some] <;> rfl) | (simp [*, errW_none, errW_some] <;> rfl) | (simp [bne_nil_]; done), by repeat (first | (with_reducible first | exact HB.out | apply below_alloc | apply pw_below_drewN | apply below_drew1) | exact HB.out)⟩
end Go.Proofs.YtapbdblpdkoacaaDoor.P
namespace Go.Proofs.YtapbdblpdkoacaaDoor.P
open Go.RowKit Go.Proofs.YtapbdblpdkoacaaDoorW.PrintWords Go.Proofs.YtapbdblpdkoacaaDoorW.PrintLast Go.Proofs.YtapbdblpdkoacaaDoorW.PrintMore
attribute [local go_sem] max2_int max_two
set_option linter.unusedVariables false
set_option linter.unusedSimpArgs false
def idiomref02_Num.f (k : Nat) (a0_0 : Bool) (a0_1 : ByteArray) (a0_2 : ByteArray) : Option (ByteArray) := if a0_1.size + a0_2.size ≤ 9223372036854775807 then ((idiomref02_Lead.f k (a0_1 ++ a0_2)).bind fun t688 => (some t688)) else (none)
set_option maxHeartbeats 8000000 in
set_option maxRecDepth 100000 in
theorem idiomref02_Num.calls (k : Nat) (a0_0 : Bool) (a0_1 : ByteArray) (a0_2 : ByteArray) (r : ByteArray) (w : World) (h : idiomref02_Num.f k a0_0 a0_1 a0_2 = some r) :
    Calls Tryd.prog 70 #[.agg #[.bool a0_0, .string a0_1, .string a0_2]] w fun e w' => e = .returned (.string r) ∧ Below w.heap.size w w' := by
 have hu23 := Tryd.underlying23
 have HB := Aside0.mk (Below.refl w.heap.size w)
 unfold idiomref02_Num.f at h
 have H := h
 clear h
 by_cases c2 : a0_1.size + a0_2.size ≤ 9223372036854775807
 ·rw [if_pos c2] at H
  have c2b0 := eq_true c2
  have c2b1 : decide (a0_1.size + a0_2.size ≤ 9223372036854775807) = true := decide_eq_true c2
  try have c2b2 : (9223372036854775807 < a0_1.size + a0_2.size) = False := eq_false (Nat.not_lt.2 c2)
  replace H := Option.bind_eq_some_iff.mp H
  obtain ⟨t688, A30, H⟩ := H
  try dsimp only at H
  have A3 := Aside0.mk A30
  clear A30
  obtain rfl := Option.some.inj H
  go_enter Tryd.func70, Tryd.ntmps70
  go_wp2_with (first | ((with_reducible refine gate_dst (N := 1) rfl ?_); refine box_event ?hg (N := 1) ?hd (cs := #[.bool a0_0, .string a0_1, .string a0_2]) (t := 23) ?hr ?_; (case hd => rfl); (case hg => rfl); (case hr => first | (go_simp; done) | (go_simp; rfl)); intro gb687 hg w4 hbox hb; have n0_ := Aside0.mk (below_step HB.out hb); have n1_ := Aside0.mk (hbox); have n2_ := Aside0.mk ((by rw [hg]; exact (below_size HB.out) : w.heap.size ≤ gb687)); have n3_ := Aside0.mk ((by rw [hg]; exact (below_size HB.out) : w.heap.size ≤ gb687)); clear HB; have HB := n0_; have BK687 := n1_; have GW687 := n2_; have GE687 := n3_; clear n0_ n1_ n2_ n3_; clear hb hbox hg; have hcz5_0 : w4.cell? ⟨gb687, 0, none⟩ = some (.bool a0_0) := (blk_cell BK687.out 0).trans rfl; have hcz5_1 : w4.cell? ⟨gb687, 1, none⟩ = some (.string a0_1) := (blk_cell BK687.out 1).trans rfl; have hcz5_2 : w4.cell? ⟨gb687, 2, none⟩ = some (.string a0_2) := (blk_cell BK687.out 2).trans rfl; have hfz5_0 := blk_frozen BK687.out 0; have hfz5_1 := blk_frozen BK687.out 1; have hfz5_2 := blk_frozen BK687.out 2) | ((with_reducible refine gate_callee (f := 84) rfl ?_); refine goesL_ (some 8) rfl rfl Tryd.func84 (by kernel_rfl) rfl #[.string (a0_1 ++ a0_2)] rfl (by (try simp only [List.map_toArray, List.map_cons, List.map_nil]); first | done | rfl | (simp only [List.length_drop, List.length_take]; rfl)) ?_; (with_reducible refine (idiomref02_Lead.calls k (a0_1 ++ a0_2) t688 _ A3.out).mono ?_); rintro e w' ⟨rfl, ⟨nd, rfl⟩⟩; refine ⟨_, rfl, ?_⟩))
  go_ret
  exact ⟨by first | rfl | (simp [errW_none, errW_some] <;> rfl) | (simp [*, errW_none, errW_some] <;> rfl) | (simp [bne_nil_]; done), by repeat (first | (with_reducible first | exact HB.out | apply below_alloc | apply pw_below_drewN | apply below_drew1 | refine below_set ?_ GE687.out) | exact HB.out)⟩
 ·rw [if_neg c2] at H
  exact absurd H (by simp)
end Go.Proofs.YtapbdblpdkoacaaDoor.P
namespace Go.Proofs.YtapbdblpdkoacaaDoor.P
open Go.RowKit Go.Proofs.YtapbdblpdkoacaaDoorW.PrintWords Go.Proofs.YtapbdblpdkoacaaDoorW.PrintLast Go.Proofs.YtapbdblpdkoacaaDoorW.PrintMore
attribute [local go_sem] max2_int max_two
set_option linter.unusedVariables false
set_option linter.unusedSimpArgs false
def idiomref02_Mul.f (k : Nat) (a0_0 : Bool) (a0_1 : ByteArray) (a0_2 : ByteArray) (a1_0 : Bool) (a1_1 : ByteArray) (a1_2 : ByteArray) : Option (Bool × ByteArray × ByteArray × Int) := (idiomref02_Check.f k a0_0 a0_1 a0_2).bind fun t692 => ((idiomref02_Check.f k a1_0 a1_1 a1_2).bind fun t693 => ((idiomref02_First.f k (([t692, t693] : List Int))).bind fun t697 => (if t697 = 0 then ((idiomref02_Num.f k a0_0 a0_1 a0_2).bind fun t698 => ((idiomref02_Num.f k a1_0 a1_1 a1_2).bind fun t699 => ((idiomref02_Times.f k t698 t699).bind fun t700 => ((idiomref02_Make.f k (a0_0 != a1_0) t700 (wrap64 ((a0_2.size : Int) + (a1_2.size : Int)))).bind fun bt701 => (some (bt701.1, bt701.2.1, bt701.2.2.1, bt701.2.2.2)))))) else (some (false, (⟨#[]⟩ : ByteArray), (⟨#[]⟩ : ByteArray), t697)))))
def idiomref02_Mul.T4 : Bool × List (List Nat × List Nat) := (true, [([], []), ([0], [0]), ([], []), ([2], [2]), ([1, 3], [1, 3]), ([], []), ([5], [5]), ([], []), ([7, 6], [7]), ([6, 8, 8], [6, 8]), ([], []), ([10], [10]), ([11], [11]), ([], []), ([13], [13]), ([14], [14]), ([12, 15], [12, 15]), ([4, 9, 16, 9], [4, 9, 16]), ([17], [17]), ([17], [17]), ([18, 17, 0, 1, 2, 3, 4, 5, 6, 7, 8, 9, 10, 11, 12, 13, 14, 15, 16, 17, 18, 19], [18]), ([19, 20, 0, 1, 2, 3, 4, 5, 6, 7, 8, 9, 10, 11, 12, 13, 14, 15, 16, 17, 18, 19, 20], [19])])
def idiomref02_Mul.B4 : List Nat := [0, 1, 0, 4, 15, 0, 32, 0, 224, 480, 0, 1024, 3072, 0, 8192, 24576, 64512, 131071, 262143, 262143, 1048575, 2097151]
theorem idiomref02_Mul.tab4 : rtab .any (opsOf Tryd.f36 4) = idiomref02_Mul.T4 := by kernel_rfl
theorem idiomref02_Mul.bits4 : waitsOk idiomref02_Mul.T4.2 idiomref02_Mul.B4 = true := by kernel_rfl
set_option maxHeartbeats 8000000 in
set_option maxRecDepth 100000 in
theorem idiomref02_Mul.calls (k : Nat) (a0_0 : Bool) (a0_1 : ByteArray) (a0_2 : ByteArray) (a1_0 : Bool) (a1_1 : ByteArray) (a1_2 : ByteArray) (r1 : Bool) (r2 : ByteArray) (r3 : ByteArray) (r4 : Int) (w : World) (h : idiomref02_Mul.f k a0_0 a0_1 a0_2 a1_0 a1_1 a1_2 = some (r1, r2, r3, r4)) :
    Calls Tryd.prog 36 #[.agg #[.bool a0_0, .string a0_1, .string a0_2], .agg #[.bool a1_0, .string a1_1, .string a1_2]] w fun e w' => e = .returned (.tuple #[.agg #[.bool r1, .string r2, .string r3], .int .i64 r4]) ∧ Below w.heap.size w w' := by
 have hu23 := Tryd.underlying23
 have HB := Aside0.mk (Below.refl w.heap.size w)
 unfold idiomref02_Mul.f at h
 have H := h
 clear h
 replace H := Option.bind_eq_some_iff.mp H
 obtain ⟨t692, A30, H⟩ := H
 try dsimp only at H
 have A3 := Aside0.mk A30
 clear A30
 replace H := Option.bind_eq_some_iff.mp H
 obtain ⟨t693, A40, H⟩ := H
 try dsimp only at H
 have A4 := Aside0.mk A40
 clear A40
 obtain ⟨y694, hy694⟩ : ∃ y_ : List Int, y_ = (([t692, t693] : List Int)) := ⟨_, rfl⟩
 rw [← hy694] at H
 have Ny694 := Aside0.mk hy694
 clear hy694
 replace H := Option.bind_eq_some_iff.mp H
 obtain ⟨t697, A50, H⟩ := H
 try dsimp only at H
 have A5 := Aside0.mk A50
 clear A50
 by_cases c6 : t697 = 0
 ·rw [if_pos c6] at H
  have c6b0 : (t697 == 0) = true := beq_iff_eq.mpr c6
  have c6b1 : (t697 != 0) = false := bne_eq_false_iff_eq.mpr c6
  clear c6
  replace H := Option.bind_eq_some_iff.mp H
  obtain ⟨t698, A70, H⟩ := H
  try dsimp only at H
  have A7 := Aside0.mk A70
  clear A70
  replace H := Option.bind_eq_some_iff.mp H
  obtain ⟨t699, A80, H⟩ := H
  try dsimp only at H
  have A8 := Aside0.mk A80
  clear A80
  replace H := Option.bind_eq_some_iff.mp H
  obtain ⟨t700, A90, H⟩ := H
  try dsimp only at H
  have A9 := Aside0.mk A90
  clear A90
  replace H := Option.bind_eq_some_iff.mp H
  obtain ⟨⟨t701, t702, t703, t704⟩, A100, H⟩ := H
  try dsimp only at H
  have A10 := Aside0.mk A100
  clear A100
  simp only [Option.some.injEq, Prod.mk.injEq] at H
  obtain ⟨rfl, rfl, rfl, rfl⟩ := H
  go_enter Tryd.func36, Tryd.ntmps36
  try go_wp2_with (first | ((with_reducible refine gate_dst (N := 2) rfl ?_); refine box_event ?hg (N := 2) ?hd (cs := #[.bool a0_0, .string a0_1, .string a0_2]) (t := 23) ?hr ?_; (case hd => rfl); (case hg => rfl); (case hr => first | (go_simp; done) | (go_simp; rfl)); intro gb689 hg w11 hbox hb; have n0_ := Aside0.mk (below_step HB.out hb); have n1_ := Aside0.mk (hbox); have n2_ := Aside0.mk ((by rw [hg]; exact (below_size HB.out) : w.heap.size ≤ gb689)); have n3_ := Aside0.mk ((by rw [hg]; exact (below_size HB.out) : w.heap.size ≤ gb689)); clear HB; have HB := n0_; have BK689 := n1_; have GW689 := n2_; have GE689 := n3_; clear n0_ n1_ n2_ n3_; clear hb hbox hg) | ((with_reducible refine gate_dst (N := 3) rfl ?_); refine box_event ?hg (N := 3) ?hd (cs := #[.bool a1_0, .string a1_1, .string a1_2]) (t := 23) ?hr ?_; (case hd => rfl); (case hg => rfl); (case hr => first | (go_simp; done) | (go_simp; rfl)); intro gb690 hg w12 hbox hb; have n0_ := Aside0.mk (blk_below (g := gb689) (o := .cells #[.bool a0_0, .string a0_1, .string a0_2] 23 (0, 0)) BK689.out hb); have n1_ := Aside0.mk (below_step HB.out hb); have n2_ := Aside0.mk (hbox); have n3_ := Aside0.mk ((by rw [hg]; exact (below_size HB.out) : w.heap.size ≤ gb690)); have n4_ := Aside0.mk ((by rw [hg]; exact (below_size HB.out) : w.heap.size ≤ gb690)); have n5_ := Aside0.mk ((by rw [hg]; exact Nat.ne_of_lt (blk_lt (g := gb689) (o := .cells #[.bool a0_0, .string a0_1, .string a0_2] 23 (0, 0)) BK689.out) : gb689 ≠ gb690)); have n6_ := Aside0.mk ((by rw [hg]; exact Nat.ne_of_gt (blk_lt (g := gb689) (o := .cells #[.bool a0_0, .string a0_1, .string a0_2] 23 (0, 0)) BK689.out) : gb690 ≠ gb689)); clear BK689; clear HB; have BK689 := n0_; have HB := n1_; have BK690 := n2_; have GW690 := n3_; have GE690 := n4_; have NB689_690 := n5_; have NB690_689 := n6_; clear n0_ n1_ n2_ n3_ n4_ n5_ n6_; clear hb hbox hg) | ((with_reducible refine gate_dst (N := 4) rfl ?_); refine box_event ?hg (N := 4) ?hd (cs := #[.bool false, .string (⟨#[]⟩ : ByteArray), .string (⟨#[]⟩ : ByteArray)]) (t := 23) ?hr ?_; (case hd => rfl); (case hg => rfl); (case hr => first | (go_simp; done) | (go_simp; rfl)); intro gb691 hg w13 hbox hb; have n0_ := Aside0.mk (blk_below (g := gb689) (o := .cells #[.bool a0_0, .string a0_1, .string a0_2] 23 (0, 0)) BK689.out hb); have n1_ := Aside0.mk (blk_below (g := gb690) (o := .cells #[.bool a1_0, .string a1_1, .string a1_2] 23 (0, 0)) BK690.out hb); have n2_ := Aside0.mk (below_step HB.out hb); have n3_ := Aside0.mk (hbox); have n4_ := Aside0.mk ((by rw [hg]; exact (below_size HB.out) : w.heap.size ≤ gb691)); have n5_ := Aside0.mk ((by rw [hg]; exact (below_size HB.out) : w.heap.size ≤ gb691)); have n6_ := Aside0.mk ((by rw [hg]; exact Nat.ne_of_lt (blk_lt (g := gb689) (o := .cells #[.bool a0_0, .string a0_1, .string a0_2] 23 (0, 0)) BK689.out) : gb689 ≠ gb691)); have n7_ := Aside0.mk ((by rw [hg]; exact Nat.ne_of_gt (blk_lt (g := gb689) (o := .cells #[.bool a0_0, .string a0_1, .string a0_2] 23 (0, 0)) BK689.out) : gb691 ≠ gb689)); have n8_ := Aside0.mk ((by rw [hg]; exact Nat.ne_of_lt (blk_lt (g := gb690) (o := .cells #[.bool a1_0, .string a1_1, .string a1_2] 23 (0, 0)) BK690.out) : gb690 ≠ gb691)); have n9_ := Aside0.mk ((by rw [hg]; exact Nat.ne_of_gt (blk_lt (g := gb690) (o := .cells #[.bool a1_0, .string a1_1, .string a1_2] 23 (0, 0)) BK690.out) : gb691 ≠ gb690)); clear BK689; clear BK690; clear HB; have BK689 := n0_; have BK690 := n1_; have HB := n2_; have BK691 := n3_; have GW691 := n4_; have GE691 := n5_; have NB689_691 := n6_; have NB691_689 := n7_; have NB690_691 := n8_; have NB691_690 := n9_; clear n0_ n1_ n2_ n3_ n4_ n5_ n6_ n7_ n8_ n9_; clear hb hbox hg))
  have n0_ := Aside0.mk (blk_drew BK689.out)
  have n1_ := Aside0.mk (blk_drew BK690.out)
  have n2_ := Aside0.mk (blk_drew BK691.out)
  have n3_ := Aside0.mk (below_drew1 HB.out)
  clear BK689
  clear BK690
  clear BK691
  clear HB
  have BK689 := n0_
  have BK690 := n1_
  have BK691 := n2_
  have HB := n3_
  clear n0_ n1_ n2_ n3_
  refine start_ (n := 7) (S := fun w' => w'.cell? ⟨gb689, 0, none⟩ = some (.bool a0_0) ∧ w'.cell? ⟨gb689, 1, none⟩ = some (.string a0_1) ∧ w'.cell? ⟨gb689, 2, none⟩ = some (.string a0_2) ∧ w'.cell? ⟨gb690, 0, none⟩ = some (.bool a1_0) ∧ w'.cell? ⟨gb690, 1, none⟩ = some (.string a1_1) ∧ w'.cell? ⟨gb690, 2, none⟩ = some (.string a1_2)) (ds := []) #[false, false, false, false, false, false, false] (by kernel_rfl) rfl rfl ⟨(blk_cell BK689.out 0).trans rfl, (blk_cell BK689.out 1).trans rfl, (blk_cell BK689.out 2).trans rfl, (blk_cell BK690.out 0).trans rfl, (blk_cell BK690.out 1).trans rfl, (blk_cell BK690.out 2).trans rfl⟩ (fun hHeld => ?_)
  generalize w13.drew = w14 at BK689 BK690 BK691 HB hHeld ⊢
  refine take_ (i := 0) (N := some 7) (v := ?_) (a' := ?_) #[true, false, false, false, false, false, false] rfl rfl (by kernel_rfl) (fun _ _ _ h => h) (Or.inl ⟨by rfl, ?_⟩) hHeld ?_ ?_
  rotate_left
  ·rintro w' ⟨s0, s1, s2, s3, s4, s5⟩
   go_simp
   with_reducible rfl
  rotate_left
  ·simp only [Act.put, List.setIfInBounds_toArray, List.set_cons_zero, List.set_cons_succ, i64_w, i32_w]
   rfl
  refine take_ (i := 2) (N := some 9) (v := ?_) (a' := ?_) #[true, false, true, false, false, false, false] rfl rfl (by kernel_rfl) (fun _ _ _ h => h) (Or.inl ⟨by rfl, ?_⟩) hHeld ?_ ?_
  rotate_left
  ·rintro w' ⟨s0, s1, s2, s3, s4, s5⟩
   go_simp
   with_reducible rfl
  rotate_left
  ·simp only [Act.put, List.setIfInBounds_toArray, List.set_cons_zero, List.set_cons_succ, i64_w, i32_w]
   rfl
  refine one_ (i := 1) (N := some 8) #[true, true, true, false, false, false, false] rfl rfl (by kernel_rfl) (by decide) (fun K hK => ?_)
  refine goes_ Tryd.func18 (by kernel_rfl) rfl #[.agg #[.bool a0_0, .string a0_1, .string a0_2]] (by rfl) rfl rfl (by (try simp only [List.map_toArray, List.map_cons, List.map_nil]); first | done | rfl | (simp only [List.length_drop, List.length_take]; rfl)) ?_
  with_reducible refine (idiomref02_Check.calls k a0_0 a0_1 a0_2 t692 _ A3.out).mono ?_
  rintro e w15 ⟨rfl, hb⟩
  refine ⟨_, rfl, ?_⟩
  have n0_ := Aside0.mk (blk_below (g := gb689) (o := .cells #[.bool a0_0, .string a0_1, .string a0_2] 23 (0, 0)) BK689.out hb)
  have n1_ := Aside0.mk (blk_below (g := gb690) (o := .cells #[.bool a1_0, .string a1_1, .string a1_2] 23 (0, 0)) BK690.out hb)
  have n2_ := Aside0.mk (blk_below (g := gb691) (o := .cells #[.bool false, .string (⟨#[]⟩ : ByteArray), .string (⟨#[]⟩ : ByteArray)] 23 (0, 0)) BK691.out hb)
  have n3_ := Aside0.mk (below_step HB.out hb)
  clear BK689
  clear BK690
  clear BK691
  clear HB
  have BK689 := n0_
  have BK690 := n1_
  have BK691 := n2_
  have HB := n3_
  clear n0_ n1_ n2_ n3_
  (try clear hb)
  (try clear hb2)
  (try clear hk)
  (try clear hi)
  refine hK.out _ _ ⟨(blk_cell BK689.out 0).trans rfl, (blk_cell BK689.out 1).trans rfl, (blk_cell BK689.out 2).trans rfl, (blk_cell BK690.out 0).trans rfl, (blk_cell BK690.out 1).trans rfl, (blk_cell BK690.out 2).trans rfl⟩ (fun hHeld => ?_)
  clear hK K
  refine norm_ (a' := ?_) ?_ ?_
  rotate_left
  ·show Act.put _ (some 8) _ = _
   simp only [Act.put, List.setIfInBounds_toArray, List.set_cons_zero, List.set_cons_succ, i64_w, i32_w]
   rfl
  refine one_ (i := 3) (N := some 10) #[true, true, true, true, false, false, false] rfl rfl (by kernel_rfl) (by decide) (fun K hK => ?_)
  refine goes_ Tryd.func18 (by kernel_rfl) rfl #[.agg #[.bool a1_0, .string a1_1, .string a1_2]] (by rfl) rfl rfl (by (try simp only [List.map_toArray, List.map_cons, List.map_nil]); first | done | rfl | (simp only [List.length_drop, List.length_take]; rfl)) ?_
  with_reducible refine (idiomref02_Check.calls k a1_0 a1_1 a1_2 t693 _ A4.out).mono ?_
  rintro e w16 ⟨rfl, hb⟩
  refine ⟨_, rfl, ?_⟩
  have n0_ := Aside0.mk (blk_below (g := gb689) (o := .cells #[.bool a0_0, .string a0_1, .string a0_2] 23 (0, 0)) BK689.out hb)
  have n1_ := Aside0.mk (blk_below (g := gb690) (o := .cells #[.bool a1_0, .string a1_1, .string a1_2] 23 (0, 0)) BK690.out hb)
  have n2_ := Aside0.mk (blk_below (g := gb691) (o := .cells #[.bool false, .string (⟨#[]⟩ : ByteArray), .string (⟨#[]⟩ : ByteArray)] 23 (0, 0)) BK691.out hb)
  have n3_ := Aside0.mk (below_step HB.out hb)
  clear BK689
  clear BK690
  clear BK691
  clear HB
  have BK689 := n0_
  have BK690 := n1_
  have BK691 := n2_
  have HB := n3_
  clear n0_ n1_ n2_ n3_
  (try clear hb)
  (try clear hb2)
  (try clear hk)
  (try clear hi)
  refine hK.out _ _ ⟨(blk_cell BK689.out 0).trans rfl, (blk_cell BK689.out 1).trans rfl, (blk_cell BK689.out 2).trans rfl, (blk_cell BK690.out 0).trans rfl, (blk_cell BK690.out 1).trans rfl, (blk_cell BK690.out 2).trans rfl⟩ (fun hHeld => ?_)
  clear hK K
  refine norm_ (a' := ?_) ?_ ?_
  rotate_left
  ·show Act.put _ (some 10) _ = _
   simp only [Act.put, List.setIfInBounds_toArray, List.set_cons_zero, List.set_cons_succ, i64_w, i32_w]
   rfl
  refine one_ (i := 4) (N := some 11) #[true, true, true, true, true, false, false] rfl rfl (by kernel_rfl) (by decide) (fun K hK => ?_)
  refine Kd.R_lit_step (Kd.int .i64) _ 24 ?hg (N := 11) ?hd (xs := ([t692, t693] : List Int)) (inner := [.int .i64 t692, .int .i64 t693]) (ok := fun _ => True) (okp := fun _ => True) ?hr ?hp (fun _ hk => hk) trivial (Below.refl _ _) (Nat.le_refl _) (by simp) ?_; (case hd => rfl); (case hg => rfl); (case hr => first | (go_simp; done) | (go_simp; rfl)); (case hp => exact (Reps.one (show Kd.M (Kd.int .i64) _ _ _ t692 [.int .i64 t692] from rfl) (Reps.one (show Kd.M (Kd.int .i64) _ _ _ t693 [.int .i64 t693] from rfl) (Reps.none _ _))))
  intro v695 w17 ho18 hb hg_ hnew_
  clear hg_ hnew_
  (first | rw [← Ny694.out] at ho18 | (simp only [Int.reduceToNat] at ho18; rw [← Ny694.out] at ho18))
  have n0_ := Aside0.mk (Kd.R_lower ho18 (below_size HB.out))
  have n1_ := Aside0.mk (blk_below (g := gb689) (o := .cells #[.bool a0_0, .string a0_1, .string a0_2] 23 (0, 0)) BK689.out hb)
  have n2_ := Aside0.mk (blk_below (g := gb690) (o := .cells #[.bool a1_0, .string a1_1, .string a1_2] 23 (0, 0)) BK690.out hb)
  have n3_ := Aside0.mk (blk_below (g := gb691) (o := .cells #[.bool false, .string (⟨#[]⟩ : ByteArray), .string (⟨#[]⟩ : ByteArray)] 23 (0, 0)) BK691.out hb)
  have n4_ := Aside0.mk (below_step HB.out hb)
  clear BK689
  clear BK690
  clear BK691
  clear HB
  have HO696 := n0_
  have BK689 := n1_
  have BK690 := n2_
  have BK691 := n3_
  have HB := n4_
  clear n0_ n1_ n2_ n3_ n4_
  clear hb ho18
  obtain ⟨Ao19, co19, eo19⟩ := Kd.R_slice HO696.out
  (first | subst eo19 | (injection eo19 with f1_ f2_ f3_; have f4_ := f1_.symm; have f5_ := f3_.symm; clear f1_ f2_ f3_; subst f4_; subst f5_))
  refine hK.out _ _ ⟨(blk_cell BK689.out 0).trans rfl, (blk_cell BK689.out 1).trans rfl, (blk_cell BK689.out 2).trans rfl, (blk_cell BK690.out 0).trans rfl, (blk_cell BK690.out 1).trans rfl, (blk_cell BK690.out 2).trans rfl⟩ (fun hHeld => ?_)
  clear hK K
  refine norm_ (a' := ?_) ?_ ?_
  rotate_left
  ·show Act.put _ (some 11) _ = _
   simp only [Act.put, List.setIfInBounds_toArray, List.set_cons_zero, List.set_cons_succ, i64_w, i32_w]
   rfl
  refine one_ (i := 5) (N := some 12) #[true, true, true, true, true, true, false] rfl rfl (by kernel_rfl) (by decide) (fun K hK => ?_)
  refine goes_ Tryd.func63 (by kernel_rfl) rfl #[.slice Ao19 y694.length co19] (by rfl) rfl rfl (by (try simp only [List.map_toArray, List.map_cons, List.map_nil]); first | done | rfl | (simp only [List.length_drop, List.length_take]; rfl)) ?_
  with_reducible refine (idiomref02_First.calls k _ _ y694 t697 _ ?side1 ?side2 A5.out).mono ?_
  (case side1 => repeat (first | exact (Kd.R_reads' HO696.out).2.2 | (with_reducible refine Kd.C_alloc ?_ _) | (with_reducible refine Kd.C_drewN ?_ _) | (with_reducible refine Kd.C_drew ?_)))
  (case side2 => exact (Kd.R_reads' HO696.out).2.1)
  rintro e w' ⟨rfl, ⟨nd, rfl⟩⟩
  refine ⟨_, rfl, ?_⟩
  refine hK.out _ _ ⟨(blk_cell BK689.out 0).trans rfl, (blk_cell BK689.out 1).trans rfl, (blk_cell BK689.out 2).trans rfl, (blk_cell BK690.out 0).trans rfl, (blk_cell BK690.out 1).trans rfl, (blk_cell BK690.out 2).trans rfl⟩ (fun hHeld => ?_)
  clear hK K
  refine norm_ (a' := ?_) ?_ ?_
  rotate_left
  ·show Act.put _ (some 12) _ = _
   simp only [Act.put, List.setIfInBounds_toArray, List.set_cons_zero, List.set_cons_succ, i64_w, i32_w]
   rfl
  refine pure_ (i := 6) (N := some 6) (v := ?_) (a' := ?_) #[true, true, true, true, true, true, true] rfl rfl (by kernel_rfl) (fun _ _ _ h => h) (Or.inl ⟨by rfl, ?_⟩) ?_ ?_
  rotate_left
  ·intro w'
   go_simp
   with_reducible rfl
  rotate_left
  ·simp only [Act.put, List.setIfInBounds_toArray, List.set_cons_zero, List.set_cons_succ, i64_w, i32_w]
   rfl
  refine done_ (by kernel_rfl) ?_
  try go_wp2
  (try (rw [drewN_self w17]; generalize hq_ : World.drewN w17 _ = w17; have n0_ : Aside0 (Kd.R (Kd.int .i64) 24 w17 w.heap.size (fun _ => True) (.slice Ao19 y694.length co19) y694) := ⟨by rw [← hq_]; exact (by (with_reducible repeat (first | apply Kd.R_alloc | apply Kd.R_drewN | apply Kd.R_drew)); exact HO696.out)⟩; have n1_ : Aside0 (w17.heap[gb689]? = some (.cells #[.bool a0_0, .string a0_1, .string a0_2] 23 (0, 0))) := ⟨by rw [← hq_]; exact (by (with_reducible repeat (first | refine blk_drewN ?_ _ | refine blk_drew ?_ | refine blk_alloc ?_ _)); exact BK689.out)⟩; have n2_ : Aside0 (w17.heap[gb690]? = some (.cells #[.bool a1_0, .string a1_1, .string a1_2] 23 (0, 0))) := ⟨by rw [← hq_]; exact (by (with_reducible repeat (first | refine blk_drewN ?_ _ | refine blk_drew ?_ | refine blk_alloc ?_ _)); exact BK690.out)⟩; have n3_ : Aside0 (w17.heap[gb691]? = some (.cells #[.bool false, .string (⟨#[]⟩ : ByteArray), .string (⟨#[]⟩ : ByteArray)] 23 (0, 0))) := ⟨by rw [← hq_]; exact (by (with_reducible repeat (first | refine blk_drewN ?_ _ | refine blk_drew ?_ | refine blk_alloc ?_ _)); exact BK691.out)⟩; have n4_ : Aside0 (Below w.heap.size w w17) := ⟨by rw [← hq_]; exact (by repeat (first | (with_reducible first | exact HB.out | apply below_alloc | apply pw_below_drewN | apply below_drew1 | refine below_set ?_ GE689.out | refine below_set ?_ GE690.out | refine below_set ?_ GE691.out) | exact HB.out))⟩; clear HO696 BK689 BK690 BK691 HB hq_; have HO696 := n0_; have BK689 := n1_; have BK690 := n2_; have BK691 := n3_; have HB := n4_; clear n0_ n1_ n2_ n3_ n4_))
  have n0_ := Aside0.mk (Kd.R_drew HO696.out)
  have n1_ := Aside0.mk (blk_drew BK689.out)
  have n2_ := Aside0.mk (blk_drew BK690.out)
  have n3_ := Aside0.mk (blk_drew BK691.out)
  have n4_ := Aside0.mk (below_drew1 HB.out)
  clear HO696
  clear BK689
  clear BK690
  clear BK691
  clear HB
  have HO696 := n0_
  have BK689 := n1_
  have BK690 := n2_
  have BK691 := n3_
  have HB := n4_
  clear n0_ n1_ n2_ n3_ n4_
  refine start_ (n := 22) (S := fun w' => w'.cell? ⟨gb689, 0, none⟩ = some (.bool a0_0) ∧ w'.cell? ⟨gb689, 1, none⟩ = some (.string a0_1) ∧ w'.cell? ⟨gb689, 2, none⟩ = some (.string a0_2) ∧ w'.cell? ⟨gb690, 0, none⟩ = some (.bool a1_0) ∧ w'.cell? ⟨gb690, 1, none⟩ = some (.string a1_1) ∧ w'.cell? ⟨gb690, 2, none⟩ = some (.string a1_2)) (ds := []) #[false, false, false, false, false, false, false, false, false, false, false, false, false, false, false, false, false, false, false, false, false, false] (by kernel_rfl) rfl rfl ⟨(blk_cell BK689.out 0).trans rfl, (blk_cell BK689.out 1).trans rfl, (blk_cell BK689.out 2).trans rfl, (blk_cell BK690.out 0).trans rfl, (blk_cell BK690.out 1).trans rfl, (blk_cell BK690.out 2).trans rfl⟩ (fun hHeld => ?_); refine with_tabW idiomref02_Mul.tab4 idiomref02_Mul.bits4 (fun HT_ HW_ => ?_)
  generalize w17.drew = w20 at HO696 BK689 BK690 BK691 HB hHeld ⊢
  refine pure_ (i := 0) (N := some 17) (v := ?_) (a' := ?_) #[true, false, false, false, false, false, false, false, false, false, false, false, false, false, false, false, false, false, false, false, false, false] rfl rfl (any_of HT_.out (by kernel_rfl)) (fun _ _ _ h => h) (Or.inl ⟨by rfl, ?_⟩) ?_ ?_
  rotate_left
  ·intro w'
   go_simp
   with_reducible rfl
  rotate_left
  ·simp only [Act.put, List.setIfInBounds_toArray, List.set_cons_zero, List.set_cons_succ, i64_w, i32_w]
   rfl
  refine pure_ (i := 2) (N := some 19) (v := ?_) (a' := ?_) #[true, false, true, false, false, false, false, false, false, false, false, false, false, false, false, false, false, false, false, false, false, false] rfl rfl (any_of HT_.out (by kernel_rfl)) (fun _ _ _ h => h) (Or.inl ⟨by rfl, ?_⟩) ?_ ?_
  rotate_left
  ·intro w'
   go_simp
   with_reducible rfl
  rotate_left
  ·simp only [Act.put, List.setIfInBounds_toArray, List.set_cons_zero, List.set_cons_succ, i64_w, i32_w]
   rfl
  refine pure_ (i := 10) (N := some 27) (v := ?_) (a' := ?_) #[true, false, true, false, false, false, false, false, false, false, true, false, false, false, false, false, false, false, false, false, false, false] rfl rfl (any_of HT_.out (by kernel_rfl)) (fun _ _ _ h => h) (Or.inl ⟨by rfl, ?_⟩) ?_ ?_
  rotate_left
  ·intro w'
   go_simp
   with_reducible rfl
  rotate_left
  ·simp only [Act.put, List.setIfInBounds_toArray, List.set_cons_zero, List.set_cons_succ, i64_w, i32_w]
   rfl
  refine pure_ (i := 13) (N := some 30) (v := ?_) (a' := ?_) #[true, false, true, false, false, false, false, false, false, false, true, false, false, true, false, false, false, false, false, false, false, false] rfl rfl (any_of HT_.out (by kernel_rfl)) (fun _ _ _ h => h) (Or.inl ⟨by rfl, ?_⟩) ?_ ?_
  rotate_left
  ·intro w'
   go_simp
   with_reducible rfl
  rotate_left
  ·simp only [Act.put, List.setIfInBounds_toArray, List.set_cons_zero, List.set_cons_succ, i64_w, i32_w]
   rfl
  refine take_ (i := 1) (N := some 18) (v := ?_) (a' := ?_) #[true, true, true, false, false, false, false, false, false, false, true, false, false, true, false, false, false, false, false, false, false, false] rfl rfl (take_ofW HT_.out HW_.out (by kernel_rfl)) (fun _ _ _ h => h) (Or.inl ⟨by rfl, ?_⟩) hHeld ?_ ?_
  rotate_left
  ·rintro w' ⟨s0, s1, s2, s3, s4, s5⟩
   go_simp
   with_reducible rfl
  rotate_left
  ·simp only [Act.put, List.setIfInBounds_toArray, List.set_cons_zero, List.set_cons_succ, i64_w, i32_w]
   rfl
  refine take_ (i := 3) (N := some 20) (v := ?_) (a' := ?_) #[true, true, true, true, false, false, false, false, false, false, true, false, false, true, false, false, false, false, false, false, false, false] rfl rfl (take_ofW HT_.out HW_.out (by kernel_rfl)) (fun _ _ _ h => h) (Or.inl ⟨by rfl, ?_⟩) hHeld ?_ ?_
  rotate_left
  ·rintro w' ⟨s0, s1, s2, s3, s4, s5⟩
   go_simp
   with_reducible rfl
  rotate_left
  ·simp only [Act.put, List.setIfInBounds_toArray, List.set_cons_zero, List.set_cons_succ, i64_w, i32_w]
   rfl
  refine pure_ (i := 4) (N := some 21) (v := ?_) (a' := ?_) #[true, true, true, true, true, false, false, false, false, false, true, false, false, true, false, false, false, false, false, false, false, false] rfl rfl (any_of HT_.out (by kernel_rfl)) (fun _ _ _ h => h) (Or.inl ⟨by rfl, ?_⟩) ?_ ?_
  rotate_left
  ·intro w'
   go_simp
   with_reducible rfl
  rotate_left
  ·simp only [Act.put, List.setIfInBounds_toArray, List.set_cons_zero, List.set_cons_succ, i64_w, i32_w]
   rfl
  refine take_ (i := 5) (N := some 22) (v := ?_) (a' := ?_) #[true, true, true, true, true, true, false, false, false, false, true, false, false, true, false, false, false, false, false, false, false, false] rfl rfl (take_ofW HT_.out HW_.out (by kernel_rfl)) (fun _ _ _ h => h) (Or.inl ⟨by rfl, ?_⟩) hHeld ?_ ?_
  rotate_left
  ·rintro w' ⟨s0, s1, s2, s3, s4, s5⟩
   go_simp
   with_reducible rfl
  rotate_left
  ·simp only [Act.put, List.setIfInBounds_toArray, List.set_cons_zero, List.set_cons_succ, i64_w, i32_w]
   rfl
  refine take_ (i := 7) (N := some 24) (v := ?_) (a' := ?_) #[true, true, true, true, true, true, false, true, false, false, true, false, false, true, false, false, false, false, false, false, false, false] rfl rfl (take_ofW HT_.out HW_.out (by kernel_rfl)) (fun _ _ _ h => h) (Or.inl ⟨by rfl, ?_⟩) hHeld ?_ ?_
  rotate_left
  ·rintro w' ⟨s0, s1, s2, s3, s4, s5⟩
   go_simp
   with_reducible rfl
  rotate_left
  ·simp only [Act.put, List.setIfInBounds_toArray, List.set_cons_zero, List.set_cons_succ, i64_w, i32_w]
   rfl
  refine take_ (i := 11) (N := some 28) (v := ?_) (a' := ?_) #[true, true, true, true, true, true, false, true, false, false, true, true, false, true, false, false, false, false, false, false, false, false] rfl rfl (take_ofW HT_.out HW_.out (by kernel_rfl)) (fun _ _ _ h => h) (Or.inl ⟨by rfl, ?_⟩) hHeld ?_ ?_
  rotate_left
  ·rintro w' ⟨s0, s1, s2, s3, s4, s5⟩
   go_simp
   with_reducible rfl
  rotate_left
  ·simp only [Act.put, List.setIfInBounds_toArray, List.set_cons_zero, List.set_cons_succ, i64_w, i32_w]
   rfl
  refine pure_ (i := 12) (N := some 29) (v := ?_) (a' := ?_) #[true, true, true, true, true, true, false, true, false, false, true, true, true, true, false, false, false, false, false, false, false, false] rfl rfl (any_of HT_.out (by kernel_rfl)) (fun _ _ _ h => h) (Or.inl ⟨by rfl, ?_⟩) ?_ ?_
  rotate_left
  ·intro w'
   go_simp
   with_reducible rfl
  rotate_left
  ·simp only [Act.put, List.setIfInBounds_toArray, List.set_cons_zero, List.set_cons_succ, i64_w, i32_w]
   rfl
  refine take_ (i := 14) (N := some 31) (v := ?_) (a' := ?_) #[true, true, true, true, true, true, false, true, false, false, true, true, true, true, true, false, false, false, false, false, false, false] rfl rfl (take_ofW HT_.out HW_.out (by kernel_rfl)) (fun _ _ _ h => h) (Or.inl ⟨by rfl, ?_⟩) hHeld ?_ ?_
  rotate_left
  ·rintro w' ⟨s0, s1, s2, s3, s4, s5⟩
   go_simp
   with_reducible rfl
  rotate_left
  ·simp only [Act.put, List.setIfInBounds_toArray, List.set_cons_zero, List.set_cons_succ, i64_w, i32_w]
   rfl
  refine pure_ (i := 15) (N := some 32) (v := ?_) (a' := ?_) #[true, true, true, true, true, true, false, true, false, false, true, true, true, true, true, true, false, false, false, false, false, false] rfl rfl (any_of HT_.out (by kernel_rfl)) (fun _ _ _ h => h) (Or.inl ⟨by rfl, ?_⟩) ?_ ?_
  rotate_left
  ·intro w'
   go_simp
   with_reducible rfl
  rotate_left
  ·simp only [Act.put, List.setIfInBounds_toArray, List.set_cons_zero, List.set_cons_succ, i64_w, i32_w]
   rfl
  refine pure_ (i := 16) (N := some 33) (v := ?_) (a' := ?_) #[true, true, true, true, true, true, false, true, false, false, true, true, true, true, true, true, true, false, false, false, false, false] rfl rfl (any_of HT_.out (by kernel_rfl)) (fun _ _ _ h => h) (Or.inl ⟨by rfl, ?_⟩) ?_ ?_
  rotate_left
  ·intro w'
   go_simp
   with_reducible rfl
  rotate_left
  ·simp only [Act.put, List.setIfInBounds_toArray, List.set_cons_zero, List.set_cons_succ, i64_w, i32_w]
   rfl
  refine one_ (i := 6) (N := some 23) #[true, true, true, true, true, true, true, true, false, false, true, true, true, true, true, true, true, false, false, false, false, false] rfl rfl (one_of HT_.out (by kernel_rfl)) (by decide) (fun K hK => ?_)
  refine goes_ Tryd.func70 (by kernel_rfl) rfl #[.agg #[.bool a0_0, .string a0_1, .string a0_2]] (by rfl) rfl rfl (by (try simp only [List.map_toArray, List.map_cons, List.map_nil]); first | done | rfl | (simp only [List.length_drop, List.length_take]; rfl)) ?_
  with_reducible refine (idiomref02_Num.calls k a0_0 a0_1 a0_2 t698 _ A7.out).mono ?_
  rintro e w21 ⟨rfl, hb⟩
  refine ⟨_, rfl, ?_⟩
  have n0_ := Aside0.mk (Kd.R_below (by (with_reducible repeat (first | apply Kd.R_alloc | apply Kd.R_drewN | apply Kd.R_drew)); exact HO696.out) hb)
  have n1_ := Aside0.mk (blk_below (g := gb689) (o := .cells #[.bool a0_0, .string a0_1, .string a0_2] 23 (0, 0)) BK689.out hb)
  have n2_ := Aside0.mk (blk_below (g := gb690) (o := .cells #[.bool a1_0, .string a1_1, .string a1_2] 23 (0, 0)) BK690.out hb)
  have n3_ := Aside0.mk (blk_below (g := gb691) (o := .cells #[.bool false, .string (⟨#[]⟩ : ByteArray), .string (⟨#[]⟩ : ByteArray)] 23 (0, 0)) BK691.out hb)
  have n4_ := Aside0.mk (below_step HB.out hb)
  clear HO696
  clear BK689
  clear BK690
  clear BK691
  clear HB
  have HO696 := n0_
  have BK689 := n1_
  have BK690 := n2_
  have BK691 := n3_
  have HB := n4_
  clear n0_ n1_ n2_ n3_ n4_
  (try clear hb)
  (try clear hb2)
  (try clear hk)
  (try clear hi)
  refine hK.out _ _ ⟨(blk_cell BK689.out 0).trans rfl, (blk_cell BK689.out 1).trans rfl, (blk_cell BK689.out 2).trans rfl, (blk_cell BK690.out 0).trans rfl, (blk_cell BK690.out 1).trans rfl, (blk_cell BK690.out 2).trans rfl⟩ (fun hHeld => ?_)
  clear hK K
  refine norm_ (a' := ?_) ?_ ?_
  rotate_left
  ·show Act.put _ (some 23) _ = _
   simp only [Act.put, List.setIfInBounds_toArray, List.set_cons_zero, List.set_cons_succ, i64_w, i32_w]
   rfl
  refine one_ (i := 8) (N := some 25) #[true, true, true, true, true, true, true, true, true, false, true, true, true, true, true, true, true, false, false, false, false, false] rfl rfl (one_of HT_.out (by kernel_rfl)) (by decide) (fun K hK => ?_)
  refine goes_ Tryd.func70 (by kernel_rfl) rfl #[.agg #[.bool a1_0, .string a1_1, .string a1_2]] (by rfl) rfl rfl (by (try simp only [List.map_toArray, List.map_cons, List.map_nil]); first | done | rfl | (simp only [List.length_drop, List.length_take]; rfl)) ?_
  with_reducible refine (idiomref02_Num.calls k a1_0 a1_1 a1_2 t699 _ A8.out).mono ?_
  rintro e w22 ⟨rfl, hb⟩
  refine ⟨_, rfl, ?_⟩
  have n0_ := Aside0.mk (Kd.R_below (by (with_reducible repeat (first | apply Kd.R_alloc | apply Kd.R_drewN | apply Kd.R_drew)); exact HO696.out) hb)
  have n1_ := Aside0.mk (blk_below (g := gb689) (o := .cells #[.bool a0_0, .string a0_1, .string a0_2] 23 (0, 0)) BK689.out hb)
  have n2_ := Aside0.mk (blk_below (g := gb690) (o := .cells #[.bool a1_0, .string a1_1, .string a1_2] 23 (0, 0)) BK690.out hb)
  have n3_ := Aside0.mk (blk_below (g := gb691) (o := .cells #[.bool false, .string (⟨#[]⟩ : ByteArray), .string (⟨#[]⟩ : ByteArray)] 23 (0, 0)) BK691.out hb)
  have n4_ := Aside0.mk (below_step HB.out hb)
  clear HO696
  clear BK689
  clear BK690
  clear BK691
  clear HB
  have HO696 := n0_
  have BK689 := n1_
  have BK690 := n2_
  have BK691 := n3_
  have HB := n4_
  clear n0_ n1_ n2_ n3_ n4_
  (try clear hb)
  (try clear hb2)
  (try clear hk)
  (try clear hi)
  refine hK.out _ _ ⟨(blk_cell BK689.out 0).trans rfl, (blk_cell BK689.out 1).trans rfl, (blk_cell BK689.out 2).trans rfl, (blk_cell BK690.out 0).trans rfl, (blk_cell BK690.out 1).trans rfl, (blk_cell BK690.out 2).trans rfl⟩ (fun hHeld => ?_)
  clear hK K
  refine norm_ (a' := ?_) ?_ ?_
  rotate_left
  ·show Act.put _ (some 25) _ = _
   simp only [Act.put, List.setIfInBounds_toArray, List.set_cons_zero, List.set_cons_succ, i64_w, i32_w]
   rfl
  refine one_ (i := 9) (N := some 26) #[true, true, true, true, true, true, true, true, true, true, true, true, true, true, true, true, true, false, false, false, false, false] rfl rfl (one_of HT_.out (by kernel_rfl)) (by decide) (fun K hK => ?_)
  refine goes_ Tryd.func69 (by kernel_rfl) rfl #[.string t698, .string t699] (by rfl) rfl rfl (by (try simp only [List.map_toArray, List.map_cons, List.map_nil]); first | done | rfl | (simp only [List.length_drop, List.length_take]; rfl)) ?_
  with_reducible refine (idiomref02_Times.calls k t698 t699 t700 _ A9.out).mono ?_
  rintro e w23 ⟨rfl, hb⟩
  refine ⟨_, rfl, ?_⟩
  have n0_ := Aside0.mk (Kd.R_below (by (with_reducible repeat (first | apply Kd.R_alloc | apply Kd.R_drewN | apply Kd.R_drew)); exact HO696.out) hb)
  have n1_ := Aside0.mk (blk_below (g := gb689) (o := .cells #[.bool a0_0, .string a0_1, .string a0_2] 23 (0, 0)) BK689.out hb)
  have n2_ := Aside0.mk (blk_below (g := gb690) (o := .cells #[.bool a1_0, .string a1_1, .string a1_2] 23 (0, 0)) BK690.out hb)
  have n3_ := Aside0.mk (blk_below (g := gb691) (o := .cells #[.bool false, .string (⟨#[]⟩ : ByteArray), .string (⟨#[]⟩ : ByteArray)] 23 (0, 0)) BK691.out hb)
  have n4_ := Aside0.mk (below_step HB.out hb)
  clear HO696
  clear BK689
  clear BK690
  clear BK691
  clear HB
  have HO696 := n0_
  have BK689 := n1_
  have BK690 := n2_
  have BK691 := n3_
  have HB := n4_
  clear n0_ n1_ n2_ n3_ n4_
  (try clear hb)
  (try clear hb2)
  (try clear hk)
  (try clear hi)
  refine hK.out _ _ ⟨(blk_cell BK689.out 0).trans rfl, (blk_cell BK689.out 1).trans rfl, (blk_cell BK689.out 2).trans rfl, (blk_cell BK690.out 0).trans rfl, (blk_cell BK690.out 1).trans rfl, (blk_cell BK690.out 2).trans rfl⟩ (fun hHeld => ?_)
  clear hK K
  refine norm_ (a' := ?_) ?_ ?_
  rotate_left
  ·show Act.put _ (some 26) _ = _
   simp only [Act.put, List.setIfInBounds_toArray, List.set_cons_zero, List.set_cons_succ, i64_w, i32_w]
   rfl
  refine one_ (i := 17) (N := some 34) #[true, true, true, true, true, true, true, true, true, true, true, true, true, true, true, true, true, true, false, false, false, false] rfl rfl (one_of HT_.out (by kernel_rfl)) (by decide) (fun K hK => ?_)
  refine goes_ Tryd.func57 (by kernel_rfl) rfl #[.bool (a0_0 != a1_0), .string t700, .int .i64 (wrap64 ((a0_2.size : Int) + (a1_2.size : Int)))] (by rfl) rfl rfl (by (try simp only [List.map_toArray, List.map_cons, List.map_nil]); first | done | rfl | (simp only [List.length_drop, List.length_take]; rfl)) ?_
  with_reducible refine (idiomref02_Make.calls k (a0_0 != a1_0) t700 (wrap64 ((a0_2.size : Int) + (a1_2.size : Int))) t701 t702 t703 t704 _ A10.out).mono ?_
  rintro e w24 ⟨rfl, hb⟩
  refine ⟨_, rfl, ?_⟩
  have n0_ := Aside0.mk (Kd.R_below (by (with_reducible repeat (first | apply Kd.R_alloc | apply Kd.R_drewN | apply Kd.R_drew)); exact HO696.out) hb)
  have n1_ := Aside0.mk (blk_below (g := gb689) (o := .cells #[.bool a0_0, .string a0_1, .string a0_2] 23 (0, 0)) BK689.out hb)
  have n2_ := Aside0.mk (blk_below (g := gb690) (o := .cells #[.bool a1_0, .string a1_1, .string a1_2] 23 (0, 0)) BK690.out hb)
  have n3_ := Aside0.mk (blk_below (g := gb691) (o := .cells #[.bool false, .string (⟨#[]⟩ : ByteArray), .string (⟨#[]⟩ : ByteArray)] 23 (0, 0)) BK691.out hb)
  have n4_ := Aside0.mk (below_step HB.out hb)
  clear HO696
  clear BK689
  clear BK690
  clear BK691
  clear HB
  have HO696 := n0_
  have BK689 := n1_
  have BK690 := n2_
  have BK691 := n3_
  have HB := n4_
  clear n0_ n1_ n2_ n3_ n4_
  (try clear hb)
  (try clear hb2)
  (try clear hk)
  (try clear hi)
  refine hK.out _ _ ⟨(blk_cell BK689.out 0).trans rfl, (blk_cell BK689.out 1).trans rfl, (blk_cell BK689.out 2).trans rfl, (blk_cell BK690.out 0).trans rfl, (blk_cell BK690.out 1).trans rfl, (blk_cell BK690.out 2).trans rfl⟩ (fun hHeld => ?_)
  clear hK K
  refine norm_ (a' := ?_) ?_ ?_
  rotate_left
  ·show Act.put _ (some 34) _ = _
   simp only [Act.put, List.setIfInBounds_toArray, List.set_cons_zero, List.set_cons_succ, i64_w, i32_w]
   rfl
  refine pure_ (i := 18) (N := some 35) (v := ?_) (a' := ?_) #[true, true, true, true, true, true, true, true, true, true, true, true, true, true, true, true, true, true, true, false, false, false] rfl rfl (any_of HT_.out (by kernel_rfl)) (fun _ _ _ h => h) (Or.inl ⟨by rfl, ?_⟩) ?_ ?_
  rotate_left
  ·intro w'
   go_simp
   with_reducible rfl
  rotate_left
  ·simp only [Act.put, List.setIfInBounds_toArray, List.set_cons_zero, List.set_cons_succ, i64_w, i32_w]
   rfl
  refine pure_ (i := 19) (N := some 36) (v := ?_) (a' := ?_) #[true, true, true, true, true, true, true, true, true, true, true, true, true, true, true, true, true, true, true, true, false, false] rfl rfl (any_of HT_.out (by kernel_rfl)) (fun _ _ _ h => h) (Or.inl ⟨by rfl, ?_⟩) ?_ ?_
  rotate_left
  ·intro w'
   go_simp
   with_reducible rfl
  rotate_left
  ·simp only [Act.put, List.setIfInBounds_toArray, List.set_cons_zero, List.set_cons_succ, i64_w, i32_w]
   rfl
  refine one_ (i := 20) (N := none) #[true, true, true, true, true, true, true, true, true, true, true, true, true, true, true, true, true, true, true, true, true, false] rfl rfl (one_of HT_.out (by kernel_rfl)) (by decide) (fun K hK => ?_)
  have hs25 : w24.cell? ⟨gb691, 0, none⟩ = some (.bool false) := (blk_cell BK691.out 0).trans rfl
  have hfs25 := blk_frozen BK691.out 0
  have hns25_0 := NB689_691.out
  have hns25_1 := NB690_691.out
  have hms25_0 := NB691_689.out
  have hms25_1 := NB691_690.out
  have hs26 : w24.cell? ⟨gb691, 1, none⟩ = some (.string (⟨#[]⟩ : ByteArray)) := (blk_cell BK691.out 1).trans rfl
  have hfs26 := blk_frozen BK691.out 1
  have hns26_0 := NB689_691.out
  have hns26_1 := NB690_691.out
  have hms26_0 := NB691_689.out
  have hms26_1 := NB691_690.out
  have hs27 : w24.cell? ⟨gb691, 2, none⟩ = some (.string (⟨#[]⟩ : ByteArray)) := (blk_cell BK691.out 2).trans rfl
  have hfs27 := blk_frozen BK691.out 2
  have hns27_0 := NB689_691.out
  have hns27_1 := NB690_691.out
  have hms27_0 := NB691_689.out
  have hms27_1 := NB691_690.out
  refine skip_ (w1 := ?_) (by rfl) rfl ?_ ?_
  rotate_left
  ·go_simp
   rfl
  refine hK.out _ _ ⟨((cell_far (p := ⟨gb691, _, none⟩) NB689_691.out _).trans (((cell_far (p := ⟨gb691, _, none⟩) NB689_691.out _).trans (((cell_far (p := ⟨gb691, _, none⟩) NB689_691.out _).trans (hHeld.1)))))), ((cell_far (p := ⟨gb691, _, none⟩) NB689_691.out _).trans (((cell_far (p := ⟨gb691, _, none⟩) NB689_691.out _).trans (((cell_far (p := ⟨gb691, _, none⟩) NB689_691.out _).trans (hHeld.2.1)))))), ((cell_far (p := ⟨gb691, _, none⟩) NB689_691.out _).trans (((cell_far (p := ⟨gb691, _, none⟩) NB689_691.out _).trans (((cell_far (p := ⟨gb691, _, none⟩) NB689_691.out _).trans (hHeld.2.2.1)))))), ((cell_far (p := ⟨gb691, _, none⟩) NB690_691.out _).trans (((cell_far (p := ⟨gb691, _, none⟩) NB690_691.out _).trans (((cell_far (p := ⟨gb691, _, none⟩) NB690_691.out _).trans (hHeld.2.2.2.1)))))), ((cell_far (p := ⟨gb691, _, none⟩) NB690_691.out _).trans (((cell_far (p := ⟨gb691, _, none⟩) NB690_691.out _).trans (((cell_far (p := ⟨gb691, _, none⟩) NB690_691.out _).trans (hHeld.2.2.2.2.1)))))), ((cell_far (p := ⟨gb691, _, none⟩) NB690_691.out _).trans (((cell_far (p := ⟨gb691, _, none⟩) NB690_691.out _).trans (((cell_far (p := ⟨gb691, _, none⟩) NB690_691.out _).trans (hHeld.2.2.2.2.2))))))⟩ (fun hHeld => ?_)
  clear hK K
  refine pure_ (i := 21) (N := some 5) (v := ?_) (a' := ?_) #[true, true, true, true, true, true, true, true, true, true, true, true, true, true, true, true, true, true, true, true, true, true] rfl rfl (any_of HT_.out (by kernel_rfl)) (fun _ _ _ h => h) (Or.inl ⟨by rfl, ?_⟩) ?_ ?_
  rotate_left
  ·intro w'
   go_simp
   with_reducible rfl
  rotate_left
  ·simp only [Act.put, List.setIfInBounds_toArray, List.set_cons_zero, List.set_cons_succ, i64_w, i32_w]
   rfl
  refine done_ (done_of HT_.out (by kernel_rfl)) ?_
  try go_wp2
  refine bodyPost_ret (results_ct rfl _ _ gb691 23 #[.bool t701, .string t702, .string t703] (0, 0) _ rfl (by refine blk_put (cs := #[.bool t701, .string t702, .string (⟨#[]⟩ : ByteArray)]) ?_ 2 _ rfl; refine blk_put (cs := #[.bool t701, .string (⟨#[]⟩ : ByteArray), .string (⟨#[]⟩ : ByteArray)]) ?_ 1 _ rfl; refine blk_put (cs := #[.bool false, .string (⟨#[]⟩ : ByteArray), .string (⟨#[]⟩ : ByteArray)]) ?_ 0 _ rfl; exact BK691.out) Tryd.underlying23 rfl (by kernel_rfl)) rfl ?_
  exact ⟨by first | rfl | (simp [errW_none, errW_some] <;> rfl) | (simp [*, errW_none, errW_some] <;> rfl) | (simp [bne_nil_]; done), by repeat (first | (with_reducible first | exact HB.out | apply below_alloc | apply pw_below_drewN | apply below_drew1 | refine below_set ?_ GE689.out | refine below_set ?_ GE690.out | refine below_set ?_ GE691.out) | exact HB.out)⟩
 ·rw [if_neg c6] at H
  have c6b0 : (t697 == 0) = false := beq_eq_false_iff_ne.mpr c6
  have c6b1 : (t697 != 0) = true := bne_iff_ne.mpr c6
  simp only [Option.some.injEq, Prod.mk.injEq] at H
  obtain ⟨rfl, rfl, rfl, rfl⟩ := H
  go_enter Tryd.func36, Tryd.ntmps36
  try go_wp2_with (first | ((with_reducible refine gate_dst (N := 2) rfl ?_); refine box_event ?hg (N := 2) ?hd (cs := #[.bool a0_0, .string a0_1, .string a0_2]) (t := 23) ?hr ?_; (case hd => rfl); (case hg => rfl); (case hr => first | (go_simp; done) | (go_simp; rfl)); intro gb689 hg w28 hbox hb; have n0_ := Aside0.mk (below_step HB.out hb); have n1_ := Aside0.mk (hbox); have n2_ := Aside0.mk ((by rw [hg]; exact (below_size HB.out) : w.heap.size ≤ gb689)); have n3_ := Aside0.mk ((by rw [hg]; exact (below_size HB.out) : w.heap.size ≤ gb689)); clear HB; have HB := n0_; have BK689 := n1_; have GW689 := n2_; have GE689 := n3_; clear n0_ n1_ n2_ n3_; clear hb hbox hg) | ((with_reducible refine gate_dst (N := 3) rfl ?_); refine box_event ?hg (N := 3) ?hd (cs := #[.bool a1_0, .string a1_1, .string a1_2]) (t := 23) ?hr ?_; (case hd => rfl); (case hg => rfl); (case hr => first | (go_simp; done) | (go_simp; rfl)); intro gb690 hg w29 hbox hb; have n0_ := Aside0.mk (blk_below (g := gb689) (o := .cells #[.bool a0_0, .string a0_1, .string a0_2] 23 (0, 0)) BK689.out hb); have n1_ := Aside0.mk (below_step HB.out hb); have n2_ := Aside0.mk (hbox); have n3_ := Aside0.mk ((by rw [hg]; exact (below_size HB.out) : w.heap.size ≤ gb690)); have n4_ := Aside0.mk ((by rw [hg]; exact (below_size HB.out) : w.heap.size ≤ gb690)); have n5_ := Aside0.mk ((by rw [hg]; exact Nat.ne_of_lt (blk_lt (g := gb689) (o := .cells #[.bool a0_0, .string a0_1, .string a0_2] 23 (0, 0)) BK689.out) : gb689 ≠ gb690)); have n6_ := Aside0.mk ((by rw [hg]; exact Nat.ne_of_gt (blk_lt (g := gb689) (o := .cells #[.bool a0_0, .string a0_1, .string a0_2] 23 (0, 0)) BK689.out) : gb690 ≠ gb689)); clear BK689; clear HB; have BK689 := n0_; have HB := n1_; have BK690 := n2_; have GW690 := n3_; have GE690 := n4_; have NB689_690 := n5_; have NB690_689 := n6_; clear n0_ n1_ n2_ n3_ n4_ n5_ n6_; clear hb hbox hg) | ((with_reducible refine gate_dst (N := 4) rfl ?_); refine box_event ?hg (N := 4) ?hd (cs := #[.bool false, .string (⟨#[]⟩ : ByteArray), .string (⟨#[]⟩ : ByteArray)]) (t := 23) ?hr ?_; (case hd => rfl); (case hg => rfl); (case hr => first | (go_simp; done) | (go_simp; rfl)); intro gb691 hg w30 hbox hb; have n0_ := Aside0.mk (blk_below (g := gb689) (o := .cells #[.bool a0_0, .string a0_1, .string a0_2] 23 (0, 0)) BK689.out hb); have n1_ := Aside0.mk (blk_below (g := gb690) (o := .cells #[.bool a1_0, .string a1_1, .string a1_2] 23 (0, 0)) BK690.out hb); have n2_ := Aside0.mk (below_step HB.out hb); have n3_ := Aside0.mk (hbox); have n4_ := Aside0.mk ((by rw [hg]; exact (below_size HB.out) : w.heap.size ≤ gb691)); have n5_ := Aside0.mk ((by rw [hg]; exact (below_size HB.out) : w.heap.size ≤ gb691)); have n6_ := Aside0.mk ((by rw [hg]; exact Nat.ne_of_lt (blk_lt (g := gb689) (o := .cells #[.bool a0_0, .string a0_1, .string a0_2] 23 (0, 0)) BK689.out) : gb689 ≠ gb691)); have n7_ := Aside0.mk ((by rw [hg]; exact Nat.ne_of_gt (blk_lt (g := gb689) (o := .cells #[.bool a0_0, .string a0_1, .string a0_2] 23 (0, 0)) BK689.out) : gb691 ≠ gb689)); have n8_ := Aside0.mk ((by rw [hg]; exact Nat.ne_of_lt (blk_lt (g := gb690) (o := .cells #[.bool a1_0, .string a1_1, .string a1_2] 23 (0, 0)) BK690.out) : gb690 ≠ gb691)); have n9_ := Aside0.mk ((by rw [hg]; exact Nat.ne_of_gt (blk_lt (g := gb690) (o := .cells #[.bool a1_0, .string a1_1, .string a1_2] 23 (0, 0)) BK690.out) : gb691 ≠ gb690)); clear BK689; clear BK690; clear HB; have BK689 := n0_; have BK690 := n1_; have HB := n2_; have BK691 := n3_; have GW691 := n4_; have GE691 := n5_; have NB689_691 := n6_; have NB691_689 := n7_; have NB690_691 := n8_; have NB691_690 := n9_; clear n0_ n1_ n2_ n3_ n4_ n5_ n6_ n7_ n8_ n9_; clear hb hbox hg))
  have n0_ := Aside0.mk (blk_drew BK689.out)
  have n1_ := Aside0.mk (blk_drew BK690.out)
  have n2_ := Aside0.mk (blk_drew BK691.out)
  have n3_ := Aside0.mk (below_drew1 HB.out)
  clear BK689
  clear BK690
  clear BK691
  clear HB
  have BK689 := n0_
  have BK690 := n1_
  have BK691 := n2_
  have HB := n3_
  clear n0_ n1_ n2_ n3_
  refine start_ (n := 7) (S := fun w' => w'.cell? ⟨gb689, 0, none⟩ = some (.bool a0_0) ∧ w'.cell? ⟨gb689, 1, none⟩ = some (.string a0_1) ∧ w'.cell? ⟨gb689, 2, none⟩ = some (.string a0_2) ∧ w'.cell? ⟨gb690, 0, none⟩ = some (.bool a1_0) ∧ w'.cell? ⟨gb690, 1, none⟩ = some (.string a1_1) ∧ w'.cell? ⟨gb690, 2, none⟩ = some (.string a1_2)) (ds := []) #[false, false, false, false, false, false, false] (by kernel_rfl) rfl rfl ⟨(blk_cell BK689.out 0).trans rfl, (blk_cell BK689.out 1).trans rfl, (blk_cell BK689.out 2).trans rfl, (blk_cell BK690.out 0).trans rfl, (blk_cell BK690.out 1).trans rfl, (blk_cell BK690.out 2).trans rfl⟩ (fun hHeld => ?_)
  generalize w30.drew = w31 at BK689 BK690 BK691 HB hHeld ⊢
  refine take_ (i := 0) (N := some 7) (v := ?_) (a' := ?_) #[true, false, false, false, false, false, false] rfl rfl (by kernel_rfl) (fun _ _ _ h => h) (Or.inl ⟨by rfl, ?_⟩) hHeld ?_ ?_
  rotate_left
  ·rintro w' ⟨s0, s1, s2, s3, s4, s5⟩
   go_simp
   with_reducible rfl
  rotate_left
  ·simp only [Act.put, List.setIfInBounds_toArray, List.set_cons_zero, List.set_cons_succ, i64_w, i32_w]
   rfl
  refine take_ (i := 2) (N := some 9) (v := ?_) (a' := ?_) #[true, false, true, false, false, false, false] rfl rfl (by kernel_rfl) (fun _ _ _ h => h) (Or.inl ⟨by rfl, ?_⟩) hHeld ?_ ?_
  rotate_left
  ·rintro w' ⟨s0, s1, s2, s3, s4, s5⟩
   go_simp
   with_reducible rfl
  rotate_left
  ·simp only [Act.put, List.setIfInBounds_toArray, List.set_cons_zero, List.set_cons_succ, i64_w, i32_w]
   rfl
  refine one_ (i := 1) (N := some 8) #[true, true, true, false, false, false, false] rfl rfl (by kernel_rfl) (by decide) (fun K hK => ?_)
  refine goes_ Tryd.func18 (by kernel_rfl) rfl #[.agg #[.bool a0_0, .string a0_1, .string a0_2]] (by rfl) rfl rfl (by (try simp only [List.map_toArray, List.map_cons, List.map_nil]); first | done | rfl | (simp only [List.length_drop, List.length_take]; rfl)) ?_
  with_reducible refine (idiomref02_Check.calls k a0_0 a0_1 a0_2 t692 _ A3.out).mono ?_
  rintro e w32 ⟨rfl, hb⟩
  refine ⟨_, rfl, ?_⟩
  have n0_ := Aside0.mk (blk_below (g := gb689) (o := .cells #[.bool a0_0, .string a0_1, .string a0_2] 23 (0, 0)) BK689.out hb)
  have n1_ := Aside0.mk (blk_below (g := gb690) (o := .cells #[.bool a1_0, .string a1_1, .string a1_2] 23 (0, 0)) BK690.out hb)
  have n2_ := Aside0.mk (blk_below (g := gb691) (o := .cells #[.bool false, .string (⟨#[]⟩ : ByteArray), .string (⟨#[]⟩ : ByteArray)] 23 (0, 0)) BK691.out hb)
  have n3_ := Aside0.mk (below_step HB.out hb)
  clear BK689
  clear BK690
  clear BK691
  clear HB
  have BK689 := n0_
  have BK690 := n1_
  have BK691 := n2_
  have HB := n3_
  clear n0_ n1_ n2_ n3_
  (try clear hb)
  (try clear hb2)
  (try clear hk)
  (try clear hi)
  refine hK.out _ _ ⟨(blk_cell BK689.out 0).trans rfl, (blk_cell BK689.out 1).trans rfl, (blk_cell BK689.out 2).trans rfl, (blk_cell BK690.out 0).trans rfl, (blk_cell BK690.out 1).trans rfl, (blk_cell BK690.out 2).trans rfl⟩ (fun hHeld => ?_)
  clear hK K
  refine norm_ (a' := ?_) ?_ ?_
  rotate_left
  ·show Act.put _ (some 8) _ = _
   simp only [Act.put, List.setIfInBounds_toArray, List.set_cons_zero, List.set_cons_succ, i64_w, i32_w]
   rfl
  refine one_ (i := 3) (N := some 10) #[true, true, true, true, false, false, false] rfl rfl (by kernel_rfl) (by decide) (fun K hK => ?_)
  refine goes_ Tryd.func18 (by kernel_rfl) rfl #[.agg #[.bool a1_0, .string a1_1, .string a1_2]] (by rfl) rfl rfl (by (try simp only [List.map_toArray, List.map_cons, List.map_nil]); first | done | rfl | (simp only [List.length_drop, List.length_take]; rfl)) ?_
  with_reducible refine (idiomref02_Check.calls k a1_0 a1_1 a1_2 t693 _ A4.out).mono ?_
  rintro e w33 ⟨rfl, hb⟩
  refine ⟨_, rfl, ?_⟩
  have n0_ := Aside0.mk (blk_below (g := gb689) (o := .cells #[.bool a0_0, .string a0_1, .string a0_2] 23 (0, 0)) BK689.out hb)
  have n1_ := Aside0.mk (blk_below (g := gb690) (o := .cells #[.bool a1_0, .string a1_1, .string a1_2] 23 (0, 0)) BK690.out hb)
  have n2_ := Aside0.mk (blk_below (g := gb691) (o := .cells #[.bool false, .string (⟨#[]⟩ : ByteArray), .string (⟨#[]⟩ : ByteArray)] 23 (0, 0)) BK691.out hb)
  have n3_ := Aside0.mk (below_step HB.out hb)
  clear BK689
  clear BK690
  clear BK691
  clear HB
  have BK689 := n0_
  have BK690 := n1_
  have BK691 := n2_
  have HB := n3_
  clear n0_ n1_ n2_ n3_
  (try clear hb)
  (try clear hb2)
  (try clear hk)
  (try clear hi)
  refine hK.out _ _ ⟨(blk_cell BK689.out 0).trans rfl, (blk_cell BK689.out 1).trans rfl, (blk_cell BK689.out 2).trans rfl, (blk_cell BK690.out 0).trans rfl, (blk_cell BK690.out 1).trans rfl, (blk_cell BK690.out 2).trans rfl⟩ (fun hHeld => ?_)
  clear hK K
  refine norm_ (a' := ?_) ?_ ?_
  rotate_left
  ·show Act.put _ (some 10) _ = _
   simp only [Act.put, List.setIfInBounds_toArray, List.set_cons_zero, List.set_cons_succ, i64_w, i32_w]
   rfl
  refine one_ (i := 4) (N := some 11) #[true, true, true, true, true, false, false] rfl rfl (by kernel_rfl) (by decide) (fun K hK => ?_)
  refine Kd.R_lit_step (Kd.int .i64) _ 24 ?hg (N := 11) ?hd (xs := ([t692, t693] : List Int)) (inner := [.int .i64 t692, .int .i64 t693]) (ok := fun _ => True) (okp := fun _ => True) ?hr ?hp (fun _ hk => hk) trivial (Below.refl _ _) (Nat.le_refl _) (by simp) ?_; (case hd => rfl); (case hg => rfl); (case hr => first | (go_simp; done) | (go_simp; rfl)); (case hp => exact (Reps.one (show Kd.M (Kd.int .i64) _ _ _ t692 [.int .i64 t692] from rfl) (Reps.one (show Kd.M (Kd.int .i64) _ _ _ t693 [.int .i64 t693] from rfl) (Reps.none _ _))))
  intro v695 w34 ho35 hb hg_ hnew_
  clear hg_ hnew_
  (first | rw [← Ny694.out] at ho35 | (simp only [Int.reduceToNat] at ho35; rw [← Ny694.out] at ho35))
  have n0_ := Aside0.mk (Kd.R_lower ho35 (below_size HB.out))
  have n1_ := Aside0.mk (blk_below (g := gb689) (o := .cells #[.bool a0_0, .string a0_1, .string a0_2] 23 (0, 0)) BK689.out hb)
  have n2_ := Aside0.mk (blk_below (g := gb690) (o := .cells #[.bool a1_0, .string a1_1, .string a1_2] 23 (0, 0)) BK690.out hb)
  have n3_ := Aside0.mk (blk_below (g := gb691) (o := .cells #[.bool false, .string (⟨#[]⟩ : ByteArray), .string (⟨#[]⟩ : ByteArray)] 23 (0, 0)) BK691.out hb)
  have n4_ := Aside0.mk (below_step HB.out hb)
  clear BK689
  clear BK690
  clear BK691
  clear HB
  have HO696 := n0_
  have BK689 := n1_
  have BK690 := n2_
  have BK691 := n3_
  have HB := n4_
  clear n0_ n1_ n2_ n3_ n4_
  clear hb ho35
  obtain ⟨Ao36, co36, eo36⟩ := Kd.R_slice HO696.out
  (first | subst eo36 | (injection eo36 with f1_ f2_ f3_; have f4_ := f1_.symm; have f5_ := f3_.symm; clear f1_ f2_ f3_; subst f4_; subst f5_))
  refine hK.out _ _ ⟨(blk_cell BK689.out 0).trans rfl, (blk_cell BK689.out 1).trans rfl, (blk_cell BK689.out 2).trans rfl, (blk_cell BK690.out 0).trans rfl, (blk_cell BK690.out 1).trans rfl, (blk_cell BK690.out 2).trans rfl⟩ (fun hHeld => ?_)
  clear hK K
  refine norm_ (a' := ?_) ?_ ?_
  rotate_left
  ·show Act.put _ (some 11) _ = _
   simp only [Act.put, List.setIfInBounds_toArray, List.set_cons_zero, List.set_cons_succ, i64_w, i32_w]
   rfl
  refine one_ (i := 5) (N := some 12) #[true, true, true, true, true, true, false] rfl rfl (by kernel_rfl) (by decide) (fun K hK => ?_)
  refine goes_ Tryd.func63 (by kernel_rfl) rfl #[.slice Ao36 y694.length co36] (by rfl) rfl rfl (by (try simp only [List.map_toArray, List.map_cons, List.map_nil]); first | done | rfl | (simp only [List.length_drop, List.length_take]; rfl)) ?_
  with_reducible refine (idiomref02_First.calls k _ _ y694 t697 _ ?side1 ?side2 A5.out).mono ?_
  (case side1 => repeat (first | exact (Kd.R_reads' HO696.out).2.2 | (with_reducible refine Kd.C_alloc ?_ _) | (with_reducible refine Kd.C_drewN ?_ _) | (with_reducible refine Kd.C_drew ?_)))
  (case side2 => exact (Kd.R_reads' HO696.out).2.1)
  rintro e w' ⟨rfl, ⟨nd, rfl⟩⟩
  refine ⟨_, rfl, ?_⟩
  refine hK.out _ _ ⟨(blk_cell BK689.out 0).trans rfl, (blk_cell BK689.out 1).trans rfl, (blk_cell BK689.out 2).trans rfl, (blk_cell BK690.out 0).trans rfl, (blk_cell BK690.out 1).trans rfl, (blk_cell BK690.out 2).trans rfl⟩ (fun hHeld => ?_)
  clear hK K
  refine norm_ (a' := ?_) ?_ ?_
  rotate_left
  ·show Act.put _ (some 12) _ = _
   simp only [Act.put, List.setIfInBounds_toArray, List.set_cons_zero, List.set_cons_succ, i64_w, i32_w]
   rfl
  refine pure_ (i := 6) (N := some 6) (v := ?_) (a' := ?_) #[true, true, true, true, true, true, true] rfl rfl (by kernel_rfl) (fun _ _ _ h => h) (Or.inl ⟨by rfl, ?_⟩) ?_ ?_
  rotate_left
  ·intro w'
   go_simp
   with_reducible rfl
  rotate_left
  ·simp only [Act.put, List.setIfInBounds_toArray, List.set_cons_zero, List.set_cons_succ, i64_w, i32_w]
   rfl
  refine done_ (by kernel_rfl) ?_
  have hnb37 := NB691_689.out
  have hnc37 := NB689_691.out
  have hnb38 := NB691_690.out
  have hnc38 := NB690_691.out
  have hcz39_0 : w34.cell? ⟨gb691, 0, none⟩ = some (.bool false) := (blk_cell BK691.out 0).trans rfl
  have hcz39_1 : w34.cell? ⟨gb691, 1, none⟩ = some (.string (⟨#[]⟩ : ByteArray)) := (blk_cell BK691.out 1).trans rfl
  have hcz39_2 : w34.cell? ⟨gb691, 2, none⟩ = some (.string (⟨#[]⟩ : ByteArray)) := (blk_cell BK691.out 2).trans rfl
  have hfz39_0 := blk_frozen BK691.out 0
  have hfz39_1 := blk_frozen BK691.out 1
  have hfz39_2 := blk_frozen BK691.out 2
  try go_wp2
  refine bodyPost_ret (results_ct rfl _ _ gb691 23 #[.bool false, .string (⟨#[]⟩ : ByteArray), .string (⟨#[]⟩ : ByteArray)] (0, 0) _ rfl (by refine blk_put (cs := #[.bool false, .string (⟨#[]⟩ : ByteArray), .string (⟨#[]⟩ : ByteArray)]) ?_ 2 _ rfl; refine blk_put (cs := #[.bool false, .string (⟨#[]⟩ : ByteArray), .string (⟨#[]⟩ : ByteArray)]) ?_ 1 _ rfl; refine blk_put (cs := #[.bool false, .string (⟨#[]⟩ : ByteArray), .string (⟨#[]⟩ : ByteArray)]) ?_ 0 _ rfl; (with_reducible repeat (first | refine blk_drewN ?_ _ | refine blk_drew ?_ | refine blk_alloc ?_ _)); exact BK691.out) Tryd.underlying23 rfl (by kernel_rfl)) rfl ?_
  exact ⟨by first | rfl | (simp [errW_none, errW_some] <;> rfl) | (simp [*, errW_none, errW_some] <;> rfl) | (simp [bne_nil_]; done), by repeat (first | (with_reducible first | exact HB.out | apply below_alloc | apply pw_below_drewN | apply below_drew1 | refine below_set ?_ GE689.out | refine below_set ?_ GE690.out | refine below_set ?_ GE691.out) | exact HB.out)⟩
end Go.Proofs.YtapbdblpdkoacaaDoor.P
namespace Go.Proofs.YtapbdblpdkoacaaDoor.P
open Go.RowKit Go.Proofs.YtapbdblpdkoacaaDoorW.PrintWords Go.Proofs.YtapbdblpdkoacaaDoorW.PrintLast Go.Proofs.YtapbdblpdkoacaaDoorW.PrintMore
attribute [local go_sem] max2_int max_two
set_option linter.unusedVariables false
set_option linter.unusedSimpArgs false
attribute [local go_sem high] eqA23
def idiomlaw02_told.f (a0_0 : Bool) (a0_1 : ByteArray) (a0_2 : ByteArray) (a1 : Int) (a2_0 : Bool) (a2_1 : ByteArray) (a2_2 : ByteArray) (a3 : Int) : Option (Bool) := if (a0_0 == a2_0 && (a0_1.toList == a2_1.toList && (a0_2.toList == a2_2.toList))) = true then (some (a1 == a3)) else (some false)
set_option maxHeartbeats 8000000 in
set_option maxRecDepth 100000 in
theorem idiomlaw02_told.calls (a0_0 : Bool) (a0_1 : ByteArray) (a0_2 : ByteArray) (a1 : Int) (a2_0 : Bool) (a2_1 : ByteArray) (a2_2 : ByteArray) (a3 : Int) (r : Bool) (w : World) (h : idiomlaw02_told.f a0_0 a0_1 a0_2 a1 a2_0 a2_1 a2_2 a3 = some r) :
    Calls Tryd.prog 24 #[.agg #[.bool a0_0, .string a0_1, .string a0_2], .int .i64 a1, .agg #[.bool a2_0, .string a2_1, .string a2_2], .int .i64 a3] w fun e w' => e = .returned (.bool r) ∧ Below w.heap.size w w' := by
 have hu23 := Tryd.underlying23
 have HB := Aside0.mk (Below.refl w.heap.size w)
 unfold idiomlaw02_told.f at h
 have H := h
 clear h
 by_cases c5 : (a0_0 == a2_0 && (a0_1.toList == a2_1.toList && (a0_2.toList == a2_2.toList))) = true
 ·rw [if_pos c5] at H
  have c5b0 : (a0_0 == a2_0 && (a0_1.toList == a2_1.toList && (a0_2.toList == a2_2.toList))) = true := c5
  (try (have c5b1 : decide (a0_0 = a2_0 && (a0_1.toList == a2_1.toList && (a0_2.toList == a2_2.toList))) = true := by simpa using c5))
  (try (have c5b2 : (a0_0 == a2_0 && (a0_1.toList == a2_1.toList && (a0_2.toList == a2_2.toList))) = true := by simpa using c5))
  clear c5
  obtain rfl := Option.some.inj H
  go_enter Tryd.func24, Tryd.ntmps24
  go_wp2_with (first | ((with_reducible refine gate_dst (N := 4) rfl ?_); refine box_event ?hg (N := 4) ?hd (cs := #[.bool a0_0, .string a0_1, .string a0_2]) (t := 23) ?hr ?_; (case hd => rfl); (case hg => rfl); (case hr => first | (go_simp; done) | (go_simp; rfl)); intro gb474 hg w6 hbox hb; have n0_ := Aside0.mk (below_step HB.out hb); have n1_ := Aside0.mk (hbox); have n2_ := Aside0.mk ((by rw [hg]; exact (below_size HB.out) : w.heap.size ≤ gb474)); have n3_ := Aside0.mk ((by rw [hg]; exact (below_size HB.out) : w.heap.size ≤ gb474)); clear HB; have HB := n0_; have BK474 := n1_; have GW474 := n2_; have GE474 := n3_; clear n0_ n1_ n2_ n3_; clear hb hbox hg) | ((with_reducible refine gate_dst (N := 6) rfl ?_); refine box_event ?hg (N := 6) ?hd (cs := #[.bool a2_0, .string a2_1, .string a2_2]) (t := 23) ?hr ?_; (case hd => rfl); (case hg => rfl); (case hr => first | (go_simp; done) | (go_simp; rfl)); intro gb475 hg w7 hbox hb; have n0_ := Aside0.mk (blk_below (g := gb474) (o := .cells #[.bool a0_0, .string a0_1, .string a0_2] 23 (0, 0)) BK474.out hb); have n1_ := Aside0.mk (below_step HB.out hb); have n2_ := Aside0.mk (hbox); have n3_ := Aside0.mk ((by rw [hg]; exact (below_size HB.out) : w.heap.size ≤ gb475)); have n4_ := Aside0.mk ((by rw [hg]; exact (below_size HB.out) : w.heap.size ≤ gb475)); have n5_ := Aside0.mk ((by rw [hg]; exact Nat.ne_of_lt (blk_lt (g := gb474) (o := .cells #[.bool a0_0, .string a0_1, .string a0_2] 23 (0, 0)) BK474.out) : gb474 ≠ gb475)); have n6_ := Aside0.mk ((by rw [hg]; exact Nat.ne_of_gt (blk_lt (g := gb474) (o := .cells #[.bool a0_0, .string a0_1, .string a0_2] 23 (0, 0)) BK474.out) : gb475 ≠ gb474)); clear BK474; clear HB; have BK474 := n0_; have HB := n1_; have BK475 := n2_; have GW475 := n3_; have GE475 := n4_; have NB474_475 := n5_; have NB475_474 := n6_; clear n0_ n1_ n2_ n3_ n4_ n5_ n6_; clear hb hbox hg; have hnb8 := NB474_475.out; have hnc8 := NB475_474.out; have hcz9_0 : w7.cell? ⟨gb474, 0, none⟩ = some (.bool a0_0) := (blk_cell BK474.out 0).trans rfl; have hcz9_1 : w7.cell? ⟨gb474, 1, none⟩ = some (.string a0_1) := (blk_cell BK474.out 1).trans rfl; have hcz9_2 : w7.cell? ⟨gb474, 2, none⟩ = some (.string a0_2) := (blk_cell BK474.out 2).trans rfl; have hfz9_0 := blk_frozen BK474.out 0; have hfz9_1 := blk_frozen BK474.out 1; have hfz9_2 := blk_frozen BK474.out 2; have hcz10_0 : w7.cell? ⟨gb475, 0, none⟩ = some (.bool a2_0) := (blk_cell BK475.out 0).trans rfl; have hcz10_1 : w7.cell? ⟨gb475, 1, none⟩ = some (.string a2_1) := (blk_cell BK475.out 1).trans rfl; have hcz10_2 : w7.cell? ⟨gb475, 2, none⟩ = some (.string a2_2) := (blk_cell BK475.out 2).trans rfl; have hfz10_0 := blk_frozen BK475.out 0; have hfz10_1 := blk_frozen BK475.out 1; have hfz10_2 := blk_frozen BK475.out 2))
  go_ret
  exact ⟨by first | rfl | (simp [errW_none, errW_some] <;> rfl) | (simp [*, errW_none, errW_some] <;> rfl) | (simp [bne_nil_]; done), by repeat (first | (with_reducible first | exact HB.out | apply below_alloc | apply pw_below_drewN | apply below_drew1 | refine below_set ?_ GE474.out | refine below_set ?_ GE475.out) | exact HB.out)⟩
 ·rw [if_neg c5] at H
  have c5b0 : (a0_0 == a2_0 && (a0_1.toList == a2_1.toList && (a0_2.toList == a2_2.toList))) = false := by simpa using c5
  (try (have c5b1 : decide (a0_0 = a2_0 && (a0_1.toList == a2_1.toList && (a0_2.toList == a2_2.toList))) = false := by simpa using c5))
  (try (have c5b2 : (a0_0 == a2_0 && (a0_1.toList == a2_1.toList && (a0_2.toList == a2_2.toList))) = false := by simpa using c5))
  (try (have c5b3 : ¬ (a0_0 = a2_0 && (a0_1.toList == a2_1.toList && (a0_2.toList == a2_2.toList))) := by simpa using c5))
  clear c5
  obtain rfl := Option.some.inj H
  go_enter Tryd.func24, Tryd.ntmps24
  go_wp2_with (first | ((with_reducible refine gate_dst (N := 4) rfl ?_); refine box_event ?hg (N := 4) ?hd (cs := #[.bool a0_0, .string a0_1, .string a0_2]) (t := 23) ?hr ?_; (case hd => rfl); (case hg => rfl); (case hr => first | (go_simp; done) | (go_simp; rfl)); intro gb474 hg w11 hbox hb; have n0_ := Aside0.mk (below_step HB.out hb); have n1_ := Aside0.mk (hbox); have n2_ := Aside0.mk ((by rw [hg]; exact (below_size HB.out) : w.heap.size ≤ gb474)); have n3_ := Aside0.mk ((by rw [hg]; exact (below_size HB.out) : w.heap.size ≤ gb474)); clear HB; have HB := n0_; have BK474 := n1_; have GW474 := n2_; have GE474 := n3_; clear n0_ n1_ n2_ n3_; clear hb hbox hg) | ((with_reducible refine gate_dst (N := 6) rfl ?_); refine box_event ?hg (N := 6) ?hd (cs := #[.bool a2_0, .string a2_1, .string a2_2]) (t := 23) ?hr ?_; (case hd => rfl); (case hg => rfl); (case hr => first | (go_simp; done) | (go_simp; rfl)); intro gb475 hg w12 hbox hb; have n0_ := Aside0.mk (blk_below (g := gb474) (o := .cells #[.bool a0_0, .string a0_1, .string a0_2] 23 (0, 0)) BK474.out hb); have n1_ := Aside0.mk (below_step HB.out hb); have n2_ := Aside0.mk (hbox); have n3_ := Aside0.mk ((by rw [hg]; exact (below_size HB.out) : w.heap.size ≤ gb475)); have n4_ := Aside0.mk ((by rw [hg]; exact (below_size HB.out) : w.heap.size ≤ gb475)); have n5_ := Aside0.mk ((by rw [hg]; exact Nat.ne_of_lt (blk_lt (g := gb474) (o := .cells #[.bool a0_0, .string a0_1, .string a0_2] 23 (0, 0)) BK474.out) : gb474 ≠ gb475)); have n6_ := Aside0.mk ((by rw [hg]; exact Nat.ne_of_gt (blk_lt (g := gb474) (o := .cells #[.bool a0_0, .string a0_1, .string a0_2] 23 (0, 0)) BK474.out) : gb475 ≠ gb474)); clear BK474; clear HB; have BK474 := n0_; have HB := n1_; have BK475 := n2_; have GW475 := n3_; have GE475 := n4_; have NB474_475 := n5_; have NB475_474 := n6_; clear n0_ n1_ n2_ n3_ n4_ n5_ n6_; clear hb hbox hg; have hnb13 := NB474_475.out; have hnc13 := NB475_474.out; have hcz14_0 : w12.cell? ⟨gb474, 0, none⟩ = some (.bool a0_0) := (blk_cell BK474.out 0).trans rfl; have hcz14_1 : w12.cell? ⟨gb474, 1, none⟩ = some (.string a0_1) := (blk_cell BK474.out 1).trans rfl; have hcz14_2 : w12.cell? ⟨gb474, 2, none⟩ = some (.string a0_2) := (blk_cell BK474.out 2).trans rfl; have hfz14_0 := blk_frozen BK474.out 0; have hfz14_1 := blk_frozen BK474.out 1; have hfz14_2 := blk_frozen BK474.out 2; have hcz15_0 : w12.cell? ⟨gb475, 0, none⟩ = some (.bool a2_0) := (blk_cell BK475.out 0).trans rfl; have hcz15_1 : w12.cell? ⟨gb475, 1, none⟩ = some (.string a2_1) := (blk_cell BK475.out 1).trans rfl; have hcz15_2 : w12.cell? ⟨gb475, 2, none⟩ = some (.string a2_2) := (blk_cell BK475.out 2).trans rfl; have hfz15_0 := blk_frozen BK475.out 0; have hfz15_1 := blk_frozen BK475.out 1; have hfz15_2 := blk_frozen BK475.out 2))
  go_ret
  exact ⟨by first | rfl | (simp [errW_none, errW_some] <;> rfl) | (simp [*, errW_none, errW_some] <;> rfl) | (simp [bne_nil_]; done), by repeat (first | (with_reducible first | exact HB.out | apply below_alloc | apply pw_below_drewN | apply below_drew1 | refine below_set ?_ GE474.out | refine below_set ?_ GE475.out) | exact HB.out)⟩
end Go.Proofs.YtapbdblpdkoacaaDoor.P
namespace Go.Proofs.YtapbdblpdkoacaaDoor.P
open Go.RowKit Go.Proofs.YtapbdblpdkoacaaDoorW.PrintWords Go.Proofs.YtapbdblpdkoacaaDoorW.PrintLast Go.Proofs.YtapbdblpdkoacaaDoorW.PrintMore
attribute [local go_sem] max2_int max_two
set_option linter.unusedVariables false
set_option linter.unusedSimpArgs false
def decimal_Compare.j0 : Nat → List Int → List Int → Bool → Bool → ByteArray → ByteArray → Bool → ByteArray → ByteArray → Option (Int × Int)
  | 0, _, _, _, _, _, _, _, _, _ => none
  | k + 1, x7, x8, x23, x528000, x528001, x528002, x529000, x529001, x529002 => if x23 = true then ((decimal_digits_cmp.f k x8 x7).bind fun t537 => (some (t537, 0))) else (if x528000 = true then (some ((-1), 0)) else (if x529000 = true then (some (1, 0)) else ((decimal_digits_cmp.f k x7 x8).bind fun t538 => (some (t538, 0)))))
def decimal_Compare.f (k : Nat) (a0_0 : Bool) (a0_1 : ByteArray) (a0_2 : ByteArray) (a1_0 : Bool) (a1_1 : ByteArray) (a1_2 : ByteArray) : Option (Int × Int) := (decimal_both.f k a0_0 a0_1 a0_2 a1_0 a1_1 a1_2).bind fun t529 => (if t529 = 0 then ((decimal_aligned.f k a0_0 a0_1 a0_2 a1_0 a1_1 a1_2).bind fun bt530 => (if a0_0 = true then (decimal_Compare.j0 k bt530.1 bt530.2.1 a1_0 a0_0 a0_1 a0_2 a1_0 a1_1 a1_2) else (decimal_Compare.j0 k bt530.1 bt530.2.1 false a0_0 a0_1 a0_2 a1_0 a1_1 a1_2))) else (some (0, t529)))
set_option maxHeartbeats 8000000 in
set_option maxRecDepth 100000 in
theorem decimal_Compare.calls (k : Nat) (a0_0 : Bool) (a0_1 : ByteArray) (a0_2 : ByteArray) (a1_0 : Bool) (a1_1 : ByteArray) (a1_2 : ByteArray) (r1 : Int) (r2 : Int) (w : World) (h : decimal_Compare.f k a0_0 a0_1 a0_2 a1_0 a1_1 a1_2 = some (r1, r2)) :
    Calls Tryd.prog 28 #[.agg #[.bool a0_0, .string a0_1, .string a0_2], .agg #[.bool a1_0, .string a1_1, .string a1_2]] w fun e w' => e = .returned (.tuple #[.int .i64 r1, .int .i64 r2]) ∧ Below w.heap.size w w' := by
 have hu23 := Tryd.underlying23
 have HB := Aside0.mk (Below.refl w.heap.size w)
 unfold decimal_Compare.f at h
 have H := h
 clear h
 replace H := Option.bind_eq_some_iff.mp H
 obtain ⟨t529, A30, H⟩ := H
 try dsimp only at H
 have A3 := Aside0.mk A30
 clear A30
 by_cases c4 : t529 = 0
 ·rw [if_pos c4] at H
  have c4b0 : (t529 == 0) = true := beq_iff_eq.mpr c4
  have c4b1 : (t529 != 0) = false := bne_eq_false_iff_eq.mpr c4
  clear c4
  replace H := Option.bind_eq_some_iff.mp H
  obtain ⟨⟨t530, t533, t536⟩, A50, H⟩ := H
  try dsimp only at H
  have A5 := Aside0.mk A50
  clear A50
  have HC6 := Aside0.mk H
  clear H
  go_enter Tryd.func28, Tryd.ntmps28
  go_upto_region 5 with (first | ((with_reducible refine gate_dst (N := 2) rfl ?_); refine box_event ?hg (N := 2) ?hd (cs := #[.bool a0_0, .string a0_1, .string a0_2]) (t := 23) ?hr ?_; (case hd => rfl); (case hg => rfl); (case hr => first | (go_simp; done) | (go_simp; rfl)); intro gb527 hg w7 hbox hb; have n0_ := Aside0.mk (below_step HB.out hb); have n1_ := Aside0.mk (hbox); have n2_ := Aside0.mk ((by rw [hg]; exact (below_size HB.out) : w.heap.size ≤ gb527)); have n3_ := Aside0.mk ((by rw [hg]; exact (below_size HB.out) : w.heap.size ≤ gb527)); clear HB; have HB := n0_; have BK527 := n1_; have GW527 := n2_; have GE527 := n3_; clear n0_ n1_ n2_ n3_; clear hb hbox hg) | ((with_reducible refine gate_dst (N := 3) rfl ?_); refine box_event ?hg (N := 3) ?hd (cs := #[.bool a1_0, .string a1_1, .string a1_2]) (t := 23) ?hr ?_; (case hd => rfl); (case hg => rfl); (case hr => first | (go_simp; done) | (go_simp; rfl)); intro gb528 hg w8 hbox hb; have n0_ := Aside0.mk (blk_below (g := gb527) (o := .cells #[.bool a0_0, .string a0_1, .string a0_2] 23 (0, 0)) BK527.out hb); have n1_ := Aside0.mk (below_step HB.out hb); have n2_ := Aside0.mk (hbox); have n3_ := Aside0.mk ((by rw [hg]; exact (below_size HB.out) : w.heap.size ≤ gb528)); have n4_ := Aside0.mk ((by rw [hg]; exact (below_size HB.out) : w.heap.size ≤ gb528)); have n5_ := Aside0.mk ((by rw [hg]; exact Nat.ne_of_lt (blk_lt (g := gb527) (o := .cells #[.bool a0_0, .string a0_1, .string a0_2] 23 (0, 0)) BK527.out) : gb527 ≠ gb528)); have n6_ := Aside0.mk ((by rw [hg]; exact Nat.ne_of_gt (blk_lt (g := gb527) (o := .cells #[.bool a0_0, .string a0_1, .string a0_2] 23 (0, 0)) BK527.out) : gb528 ≠ gb527)); clear BK527; clear HB; have BK527 := n0_; have HB := n1_; have BK528 := n2_; have GW528 := n3_; have GE528 := n4_; have NB527_528 := n5_; have NB528_527 := n6_; clear n0_ n1_ n2_ n3_ n4_ n5_ n6_; clear hb hbox hg; have hnb9 := NB527_528.out; have hnc9 := NB528_527.out; have hcz10_0 : w8.cell? ⟨gb527, 0, none⟩ = some (.bool a0_0) := (blk_cell BK527.out 0).trans rfl; have hcz10_1 : w8.cell? ⟨gb527, 1, none⟩ = some (.string a0_1) := (blk_cell BK527.out 1).trans rfl; have hcz10_2 : w8.cell? ⟨gb527, 2, none⟩ = some (.string a0_2) := (blk_cell BK527.out 2).trans rfl; have hfz10_0 := blk_frozen BK527.out 0; have hfz10_1 := blk_frozen BK527.out 1; have hfz10_2 := blk_frozen BK527.out 2; have hcz11_0 : w8.cell? ⟨gb528, 0, none⟩ = some (.bool a1_0) := (blk_cell BK528.out 0).trans rfl; have hcz11_1 : w8.cell? ⟨gb528, 1, none⟩ = some (.string a1_1) := (blk_cell BK528.out 1).trans rfl; have hcz11_2 : w8.cell? ⟨gb528, 2, none⟩ = some (.string a1_2) := (blk_cell BK528.out 2).trans rfl; have hfz11_0 := blk_frozen BK528.out 0; have hfz11_1 := blk_frozen BK528.out 1; have hfz11_2 := blk_frozen BK528.out 2) | ((with_reducible refine gate_callee (f := 58) rfl ?_); refine goesL_ (some 12) rfl rfl Tryd.func58 (by kernel_rfl) rfl #[.agg #[.bool a0_0, .string a0_1, .string a0_2], .agg #[.bool a1_0, .string a1_1, .string a1_2]] rfl (by (try simp only [List.map_toArray, List.map_cons, List.map_nil]); first | done | rfl | (simp only [List.length_drop, List.length_take]; rfl)) ?_; (with_reducible refine (decimal_both.calls k a0_0 a0_1 a0_2 a1_0 a1_1 a1_2 t529 _ A3.out).mono ?_); rintro e w12 ⟨rfl, hb⟩; refine ⟨_, rfl, ?_⟩; have n0_ := Aside0.mk (blk_below (g := gb527) (o := .cells #[.bool a0_0, .string a0_1, .string a0_2] 23 (0, 0)) BK527.out hb); have n1_ := Aside0.mk (blk_below (g := gb528) (o := .cells #[.bool a1_0, .string a1_1, .string a1_2] 23 (0, 0)) BK528.out hb); have n2_ := Aside0.mk (below_step HB.out hb); clear BK527; clear BK528; clear HB; have BK527 := n0_; have BK528 := n1_; have HB := n2_; clear n0_ n1_ n2_; have hcz13_0 : w12.cell? ⟨gb527, 0, none⟩ = some (.bool a0_0) := (blk_cell BK527.out 0).trans rfl; have hcz13_1 : w12.cell? ⟨gb527, 1, none⟩ = some (.string a0_1) := (blk_cell BK527.out 1).trans rfl; have hcz13_2 : w12.cell? ⟨gb527, 2, none⟩ = some (.string a0_2) := (blk_cell BK527.out 2).trans rfl; have hfz13_0 := blk_frozen BK527.out 0; have hfz13_1 := blk_frozen BK527.out 1; have hfz13_2 := blk_frozen BK527.out 2; have hcz14_0 : w12.cell? ⟨gb528, 0, none⟩ = some (.bool a1_0) := (blk_cell BK528.out 0).trans rfl; have hcz14_1 : w12.cell? ⟨gb528, 1, none⟩ = some (.string a1_1) := (blk_cell BK528.out 1).trans rfl; have hcz14_2 : w12.cell? ⟨gb528, 2, none⟩ = some (.string a1_2) := (blk_cell BK528.out 2).trans rfl; have hfz14_0 := blk_frozen BK528.out 0; have hfz14_1 := blk_frozen BK528.out 1; have hfz14_2 := blk_frozen BK528.out 2) | ((with_reducible refine gate_callee (f := 59) rfl ?_); refine goesL_ (some 19) rfl rfl Tryd.func59 (by kernel_rfl) rfl #[.agg #[.bool a0_0, .string a0_1, .string a0_2], .agg #[.bool a1_0, .string a1_1, .string a1_2]] rfl (by (try simp only [List.map_toArray, List.map_cons, List.map_nil]); first | done | rfl | (simp only [List.length_drop, List.length_take]; rfl)) ?_; (with_reducible refine (decimal_aligned.calls k a0_0 a0_1 a0_2 a1_0 a1_1 a1_2 t530 t533 t536 _ A5.out).mono ?_); rintro e w15 ⟨v531, v534, rfl, ho0, ho1, hb⟩; refine ⟨_, rfl, ?_⟩; have n0_ := Aside0.mk (Kd.V_lower (Kd.V_mono (ok' := fun k_ => k_ ≠ gb527 ∧ k_ ≠ gb528) ho0 (fun k_ hk_ => ⟨(Kd.freshB (g := gb527) (o := .cells #[.bool a0_0, .string a0_1, .string a0_2] 23 (0, 0)) BK527.out k_ hk_), (Kd.freshB (g := gb528) (o := .cells #[.bool a1_0, .string a1_1, .string a1_2] 23 (0, 0)) BK528.out k_ hk_)⟩)) (below_size HB.out)); have n1_ := Aside0.mk (Kd.V_lower (Kd.V_mono (ok' := fun k_ => k_ ≠ gb527 ∧ k_ ≠ gb528) ho1 (fun k_ hk_ => ⟨(Kd.freshB (g := gb527) (o := .cells #[.bool a0_0, .string a0_1, .string a0_2] 23 (0, 0)) BK527.out k_ hk_), (Kd.freshB (g := gb528) (o := .cells #[.bool a1_0, .string a1_1, .string a1_2] 23 (0, 0)) BK528.out k_ hk_)⟩)) (below_size HB.out)); have n2_ := Aside0.mk (blk_below (g := gb527) (o := .cells #[.bool a0_0, .string a0_1, .string a0_2] 23 (0, 0)) BK527.out hb); have n3_ := Aside0.mk (blk_below (g := gb528) (o := .cells #[.bool a1_0, .string a1_1, .string a1_2] 23 (0, 0)) BK528.out hb); have n4_ := Aside0.mk (below_step HB.out hb); clear BK527; clear BK528; clear HB; have HO532 := n0_; have HO535 := n1_; have BK527 := n2_; have BK528 := n3_; have HB := n4_; clear n0_ n1_ n2_ n3_ n4_; (try clear ho0); (try clear ho1)))
  (try simp only [Act.put, List.setIfInBounds_toArray, List.set_cons_zero, List.set_cons_succ])
  go_cut [23] (fun v23 wc => ∃ (kq : Nat) (x23_5 : Bool), v23 = .bool x23_5 ∧ Aside0 (decimal_Compare.j0 kq t530 t533 x23_5 a0_0 a0_1 a0_2 a1_0 a1_1 a1_2 = some (r1, r2)) ∧ Aside0 (kq ≤ k) ∧ Aside0 (Kd.V (Kd.int .u8) 5 wc w.heap.size (fun k_ => k_ ≠ gb527 ∧ k_ ≠ gb528) v531 t530) ∧ Aside0 (Kd.V (Kd.int .u8) 5 wc w.heap.size (fun k_ => k_ ≠ gb527 ∧ k_ ≠ gb528) v534 t533) ∧ Aside0 (wc.heap[gb527]? = some (.cells #[.bool a0_0, .string a0_1, .string a0_2] 23 (0, 0))) ∧ Aside0 (wc.heap[gb528]? = some (.cells #[.bool a1_0, .string a1_1, .string a1_2] 23 (0, 0))) ∧ Aside0 (Below w.heap.size w wc))
  case first =>
   have H := HC6.out
   clear HC6
   by_cases c16 : a0_0 = true
   ·subst c16
    have H1 : (decimal_Compare.j0 k t530 t533 a1_0 true a0_1 a0_2 a1_0 a1_1 a1_2) = some (r1, r2) := by rw [if_pos rfl] at H; exact H
    clear H
    have H := H1
    clear H1
    have H' := Aside0.mk H
    clear H
    have hnb17 := NB527_528.out
    have hnc17 := NB528_527.out
    have hcz18_0 : w15.cell? ⟨gb527, 0, none⟩ = some (.bool true) := (blk_cell BK527.out 0).trans rfl
    have hcz18_1 : w15.cell? ⟨gb527, 1, none⟩ = some (.string a0_1) := (blk_cell BK527.out 1).trans rfl
    have hcz18_2 : w15.cell? ⟨gb527, 2, none⟩ = some (.string a0_2) := (blk_cell BK527.out 2).trans rfl
    have hfz18_0 := blk_frozen BK527.out 0
    have hfz18_1 := blk_frozen BK527.out 1
    have hfz18_2 := blk_frozen BK527.out 2
    have hcz19_0 : w15.cell? ⟨gb528, 0, none⟩ = some (.bool a1_0) := (blk_cell BK528.out 0).trans rfl
    have hcz19_1 : w15.cell? ⟨gb528, 1, none⟩ = some (.string a1_1) := (blk_cell BK528.out 1).trans rfl
    have hcz19_2 : w15.cell? ⟨gb528, 2, none⟩ = some (.string a1_2) := (blk_cell BK528.out 2).trans rfl
    have hfz19_0 := blk_frozen BK528.out 0
    have hfz19_1 := blk_frozen BK528.out 1
    have hfz19_2 := blk_frozen BK528.out 2
    go_wp2
    go_meet
    case rel => exact ⟨_, (a1_0), (by first | rfl | (simp; done) | (simp [*]; done)), H', ⟨by first | omega | exact Nat.le_refl _⟩, ⟨by (with_reducible repeat (first | apply Kd.V_alloc | apply Kd.V_drewN | apply Kd.V_drew)); exact HO532.out⟩, ⟨by (with_reducible repeat (first | apply Kd.V_alloc | apply Kd.V_drewN | apply Kd.V_drew)); exact HO535.out⟩, ⟨by exact BK527.out⟩, ⟨by exact BK528.out⟩, ⟨by repeat (first | (with_reducible first | exact HB.out | apply below_alloc | apply pw_below_drewN | apply below_drew1 | refine below_set ?_ GE527.out | refine below_set ?_ GE528.out) | exact HB.out)⟩⟩
   ·replace c16 := Bool.eq_false_iff.mpr c16
    subst c16
    have H1 : (decimal_Compare.j0 k t530 t533 false false a0_1 a0_2 a1_0 a1_1 a1_2) = some (r1, r2) := by rw [if_neg (show ¬ (false = true) by decide)] at H; exact H
    clear H
    have H := H1
    clear H1
    have H' := Aside0.mk H
    clear H
    have hnb20 := NB527_528.out
    have hnc20 := NB528_527.out
    have hcz21_0 : w15.cell? ⟨gb527, 0, none⟩ = some (.bool false) := (blk_cell BK527.out 0).trans rfl
    have hcz21_1 : w15.cell? ⟨gb527, 1, none⟩ = some (.string a0_1) := (blk_cell BK527.out 1).trans rfl
    have hcz21_2 : w15.cell? ⟨gb527, 2, none⟩ = some (.string a0_2) := (blk_cell BK527.out 2).trans rfl
    have hfz21_0 := blk_frozen BK527.out 0
    have hfz21_1 := blk_frozen BK527.out 1
    have hfz21_2 := blk_frozen BK527.out 2
    go_wp2
    go_meet
    case rel => exact ⟨_, (false), (by first | rfl | (simp; done) | (simp [*]; done)), H', ⟨by first | omega | exact Nat.le_refl _⟩, ⟨by (with_reducible repeat (first | apply Kd.V_alloc | apply Kd.V_drewN | apply Kd.V_drew)); exact HO532.out⟩, ⟨by (with_reducible repeat (first | apply Kd.V_alloc | apply Kd.V_drewN | apply Kd.V_drew)); exact HO535.out⟩, ⟨by exact BK527.out⟩, ⟨by exact BK528.out⟩, ⟨by repeat (first | (with_reducible first | exact HB.out | apply below_alloc | apply pw_below_drewN | apply below_drew1 | refine below_set ?_ GE527.out | refine below_set ?_ GE528.out) | exact HB.out)⟩⟩
  case rest =>
   clear HC6
   try clear c1
   try clear c2
   try clear p2
   try clear c4
   try clear c4b0
   try clear c4b1
   try clear c5
   try clear c9
   try clear c16
   try clear c17
   try clear c20
   try clear hcz10_0
   try clear hcz10_1
   try clear hcz10_2
   try clear hcz11_0
   try clear hcz11_1
   try clear hcz11_2
   try clear hcz13_0
   try clear hcz13_1
   try clear hcz13_2
   try clear hcz14_0
   try clear hcz14_1
   try clear hcz14_2
   try clear hcz18_0
   try clear hcz18_1
   try clear hcz18_2
   try clear hcz19_0
   try clear hcz19_1
   try clear hcz19_2
   try clear hcz21_0
   try clear hcz21_1
   try clear hcz21_2
   try clear hfz10_0
   try clear hfz10_1
   try clear hfz10_2
   try clear hfz11_0
   try clear hfz11_1
   try clear hfz11_2
   try clear hfz13_0
   try clear hfz13_1
   try clear hfz13_2
   try clear hfz14_0
   try clear hfz14_1
   try clear hfz14_2
   try clear hfz18_0
   try clear hfz18_1
   try clear hfz18_2
   try clear hfz19_0
   try clear hfz19_1
   try clear hfz19_2
   try clear hfz21_0
   try clear hfz21_1
   try clear hfz21_2
   obtain ⟨kq, x23_5, rfl, HA, HJ5, HO_7, HO_8, BK527, BK528, HB⟩ := hcut
   cases kq with
   | zero => exact absurd HA.out (by simp [decimal_Compare.j0])
   | succ kj5 =>
    have H := HA.out
    clear HA
    simp only [decimal_Compare.j0] at H
    by_cases c22 : x23_5 = true
    ·subst c22
     have H1 : ((decimal_digits_cmp.f kj5 t533 t530).bind fun t537 => (some (t537, 0))) = some (r1, r2) := by rw [if_pos rfl] at H; exact H
     clear H
     have H := H1
     clear H1
     replace H := Option.bind_eq_some_iff.mp H
     obtain ⟨t537, A230, H⟩ := H
     try dsimp only at H
     have A23 := Aside0.mk A230
     clear A230
     simp only [Option.some.injEq, Prod.mk.injEq] at H
     obtain ⟨rfl, rfl⟩ := H
     obtain ⟨Ao24, co24, eo24⟩ := Kd.V_slice HO_8.out
     subst eo24
     obtain ⟨Ao25, co25, eo25⟩ := Kd.V_slice HO_7.out
     subst eo25
     go_wp2_with (first | ((with_reducible refine gate_callee (f := 60) rfl ?_); refine goesL_ (some 32) rfl rfl Tryd.func60 (by kernel_rfl) rfl #[.slice Ao24 t533.length co24, .slice Ao25 t530.length co25] rfl (by (try simp only [List.map_toArray, List.map_cons, List.map_nil]); first | done | rfl | (simp only [List.length_drop, List.length_take]; rfl)) ?_; (with_reducible refine (decimal_digits_cmp.calls kj5 _ _ t533 _ _ t530 t537 _ ?side1 ?side2 ?side3 ?side4 A23.out).mono ?_); (case side1 => repeat (first | exact (Kd.V_reads' HO_8.out).2.2 | (with_reducible refine Kd.C_alloc ?_ _) | (with_reducible refine Kd.C_drewN ?_ _) | (with_reducible refine Kd.C_drew ?_))); (case side2 => exact (Kd.V_reads' HO_8.out).2.1); (case side3 => repeat (first | exact (Kd.V_reads' HO_7.out).2.2 | (with_reducible refine Kd.C_alloc ?_ _) | (with_reducible refine Kd.C_drewN ?_ _) | (with_reducible refine Kd.C_drew ?_))); (case side4 => exact (Kd.V_reads' HO_7.out).2.1); rintro e w' ⟨rfl, ⟨nd, rfl⟩⟩; refine ⟨_, rfl, ?_⟩))
     go_ret2
     exact ⟨by first | rfl | (simp [errW_none, errW_some] <;> rfl) | (simp [*, errW_none, errW_some] <;> rfl) | (simp [bne_nil_]; done), by repeat (first | (with_reducible first | exact HB.out | apply below_alloc | apply pw_below_drewN | apply below_drew1 | refine below_set ?_ GE527.out | refine below_set ?_ GE528.out) | exact HB.out)⟩
    ·replace c22 := Bool.eq_false_iff.mpr c22
     subst c22
     have H1 : (if a0_0 = true then (some ((-1), 0)) else (if a1_0 = true then (some (1, 0)) else ((decimal_digits_cmp.f kj5 t530 t533).bind fun t538 => (some (t538, 0))))) = some (r1, r2) := by rw [if_neg (show ¬ (false = true) by decide)] at H; exact H
     clear H
     have H := H1
     clear H1
     by_cases c26 : a0_0 = true
     ·subst c26
      have H1 : (some ((-1), 0)) = some (r1, r2) := by rw [if_pos rfl] at H; exact H
      clear H
      have H := H1
      clear H1
      simp only [Option.some.injEq, Prod.mk.injEq] at H
      obtain ⟨rfl, rfl⟩ := H
      have hnb27 := NB527_528.out
      have hnc27 := NB528_527.out
      have hcz28_0 : wc.cell? ⟨gb527, 0, none⟩ = some (.bool true) := (blk_cell BK527.out 0).trans rfl
      have hcz28_1 : wc.cell? ⟨gb527, 1, none⟩ = some (.string a0_1) := (blk_cell BK527.out 1).trans rfl
      have hcz28_2 : wc.cell? ⟨gb527, 2, none⟩ = some (.string a0_2) := (blk_cell BK527.out 2).trans rfl
      have hfz28_0 := blk_frozen BK527.out 0
      have hfz28_1 := blk_frozen BK527.out 1
      have hfz28_2 := blk_frozen BK527.out 2
      go_wp2
      go_ret2
      exact ⟨by first | rfl | (simp [errW_none, errW_some] <;> rfl) | (simp [*, errW_none, errW_some] <;> rfl) | (simp [bne_nil_]; done), by repeat (first | (with_reducible first | exact HB.out | apply below_alloc | apply pw_below_drewN | apply below_drew1 | refine below_set ?_ GE527.out | refine below_set ?_ GE528.out) | exact HB.out)⟩
     ·replace c26 := Bool.eq_false_iff.mpr c26
      subst c26
      have H1 : (if a1_0 = true then (some (1, 0)) else ((decimal_digits_cmp.f kj5 t530 t533).bind fun t538 => (some (t538, 0)))) = some (r1, r2) := by rw [if_neg (show ¬ (false = true) by decide)] at H; exact H
      clear H
      have H := H1
      clear H1
      by_cases c29 : a1_0 = true
      ·subst c29
       have H1 : (some (1, 0)) = some (r1, r2) := by rw [if_pos rfl] at H; exact H
       clear H
       have H := H1
       clear H1
       simp only [Option.some.injEq, Prod.mk.injEq] at H
       obtain ⟨rfl, rfl⟩ := H
       have hnb30 := NB527_528.out
       have hnc30 := NB528_527.out
       have hcz31_0 : wc.cell? ⟨gb527, 0, none⟩ = some (.bool false) := (blk_cell BK527.out 0).trans rfl
       have hcz31_1 : wc.cell? ⟨gb527, 1, none⟩ = some (.string a0_1) := (blk_cell BK527.out 1).trans rfl
       have hcz31_2 : wc.cell? ⟨gb527, 2, none⟩ = some (.string a0_2) := (blk_cell BK527.out 2).trans rfl
       have hfz31_0 := blk_frozen BK527.out 0
       have hfz31_1 := blk_frozen BK527.out 1
       have hfz31_2 := blk_frozen BK527.out 2
       have hcz32_0 : wc.cell? ⟨gb528, 0, none⟩ = some (.bool true) := (blk_cell BK528.out 0).trans rfl
       have hcz32_1 : wc.cell? ⟨gb528, 1, none⟩ = some (.string a1_1) := (blk_cell BK528.out 1).trans rfl
       have hcz32_2 : wc.cell? ⟨gb528, 2, none⟩ = some (.string a1_2) := (blk_cell BK528.out 2).trans rfl
       have hfz32_0 := blk_frozen BK528.out 0
       have hfz32_1 := blk_frozen BK528.out 1
       have hfz32_2 := blk_frozen BK528.out 2
       go_wp2
       go_ret2
       exact ⟨by first | rfl | (simp [errW_none, errW_some] <;> rfl) | (simp [*, errW_none, errW_some] <;> rfl) | (simp [bne_nil_]; done), by repeat (first | (with_reducible first | exact HB.out | apply below_alloc | apply pw_below_drewN | apply below_drew1 | refine below_set ?_ GE527.out | refine below_set ?_ GE528.out) | exact HB.out)⟩
      ·replace c29 := Bool.eq_false_iff.mpr c29
       subst c29
       have H1 : ((decimal_digits_cmp.f kj5 t530 t533).bind fun t538 => (some (t538, 0))) = some (r1, r2) := by rw [if_neg (show ¬ (false = true) by decide)] at H; exact H
       clear H
       have H := H1
       clear H1
       replace H := Option.bind_eq_some_iff.mp H
       obtain ⟨t538, A330, H⟩ := H
       try dsimp only at H
       have A33 := Aside0.mk A330
       clear A330
       simp only [Option.some.injEq, Prod.mk.injEq] at H
       obtain ⟨rfl, rfl⟩ := H
       have hnb34 := NB527_528.out
       have hnc34 := NB528_527.out
       have hcz35_0 : wc.cell? ⟨gb527, 0, none⟩ = some (.bool false) := (blk_cell BK527.out 0).trans rfl
       have hcz35_1 : wc.cell? ⟨gb527, 1, none⟩ = some (.string a0_1) := (blk_cell BK527.out 1).trans rfl
       have hcz35_2 : wc.cell? ⟨gb527, 2, none⟩ = some (.string a0_2) := (blk_cell BK527.out 2).trans rfl
       have hfz35_0 := blk_frozen BK527.out 0
       have hfz35_1 := blk_frozen BK527.out 1
       have hfz35_2 := blk_frozen BK527.out 2
       have hcz36_0 : wc.cell? ⟨gb528, 0, none⟩ = some (.bool false) := (blk_cell BK528.out 0).trans rfl
       have hcz36_1 : wc.cell? ⟨gb528, 1, none⟩ = some (.string a1_1) := (blk_cell BK528.out 1).trans rfl
       have hcz36_2 : wc.cell? ⟨gb528, 2, none⟩ = some (.string a1_2) := (blk_cell BK528.out 2).trans rfl
       have hfz36_0 := blk_frozen BK528.out 0
       have hfz36_1 := blk_frozen BK528.out 1
       have hfz36_2 := blk_frozen BK528.out 2
       obtain ⟨Ao37, co37, eo37⟩ := Kd.V_slice HO_7.out
       subst eo37
       obtain ⟨Ao38, co38, eo38⟩ := Kd.V_slice HO_8.out
       subst eo38
       go_wp2_with (first | ((with_reducible refine gate_callee (f := 60) rfl ?_); refine goesL_ (some 41) rfl rfl Tryd.func60 (by kernel_rfl) rfl #[.slice Ao37 t530.length co37, .slice Ao38 t533.length co38] rfl (by (try simp only [List.map_toArray, List.map_cons, List.map_nil]); first | done | rfl | (simp only [List.length_drop, List.length_take]; rfl)) ?_; (with_reducible refine (decimal_digits_cmp.calls kj5 _ _ t530 _ _ t533 t538 _ ?side1 ?side2 ?side3 ?side4 A33.out).mono ?_); (case side1 => repeat (first | exact (Kd.V_reads' HO_7.out).2.2 | (with_reducible refine Kd.C_alloc ?_ _) | (with_reducible refine Kd.C_drewN ?_ _) | (with_reducible refine Kd.C_drew ?_))); (case side2 => exact (Kd.V_reads' HO_7.out).2.1); (case side3 => repeat (first | exact (Kd.V_reads' HO_8.out).2.2 | (with_reducible refine Kd.C_alloc ?_ _) | (with_reducible refine Kd.C_drewN ?_ _) | (with_reducible refine Kd.C_drew ?_))); (case side4 => exact (Kd.V_reads' HO_8.out).2.1); rintro e w' ⟨rfl, ⟨nd, rfl⟩⟩; refine ⟨_, rfl, ?_⟩))
       go_ret2
       exact ⟨by first | rfl | (simp [errW_none, errW_some] <;> rfl) | (simp [*, errW_none, errW_some] <;> rfl) | (simp [bne_nil_]; done), by repeat (first | (with_reducible first | exact HB.out | apply below_alloc | apply pw_below_drewN | apply below_drew1 | refine below_set ?_ GE527.out | refine below_set ?_ GE528.out) | exact HB.out)⟩
 ·rw [if_neg c4] at H
  have c4b0 : (t529 == 0) = false := beq_eq_false_iff_ne.mpr c4
  have c4b1 : (t529 != 0) = true := bne_iff_ne.mpr c4
  simp only [Option.some.injEq, Prod.mk.injEq] at H
  obtain ⟨rfl, rfl⟩ := H
  go_enter Tryd.func28, Tryd.ntmps28
  go_wp2_with (first | ((with_reducible refine gate_dst (N := 2) rfl ?_); refine box_event ?hg (N := 2) ?hd (cs := #[.bool a0_0, .string a0_1, .string a0_2]) (t := 23) ?hr ?_; (case hd => rfl); (case hg => rfl); (case hr => first | (go_simp; done) | (go_simp; rfl)); intro gb527 hg w39 hbox hb; have n0_ := Aside0.mk (below_step HB.out hb); have n1_ := Aside0.mk (hbox); have n2_ := Aside0.mk ((by rw [hg]; exact (below_size HB.out) : w.heap.size ≤ gb527)); have n3_ := Aside0.mk ((by rw [hg]; exact (below_size HB.out) : w.heap.size ≤ gb527)); clear HB; have HB := n0_; have BK527 := n1_; have GW527 := n2_; have GE527 := n3_; clear n0_ n1_ n2_ n3_; clear hb hbox hg) | ((with_reducible refine gate_dst (N := 3) rfl ?_); refine box_event ?hg (N := 3) ?hd (cs := #[.bool a1_0, .string a1_1, .string a1_2]) (t := 23) ?hr ?_; (case hd => rfl); (case hg => rfl); (case hr => first | (go_simp; done) | (go_simp; rfl)); intro gb528 hg w40 hbox hb; have n0_ := Aside0.mk (blk_below (g := gb527) (o := .cells #[.bool a0_0, .string a0_1, .string a0_2] 23 (0, 0)) BK527.out hb); have n1_ := Aside0.mk (below_step HB.out hb); have n2_ := Aside0.mk (hbox); have n3_ := Aside0.mk ((by rw [hg]; exact (below_size HB.out) : w.heap.size ≤ gb528)); have n4_ := Aside0.mk ((by rw [hg]; exact (below_size HB.out) : w.heap.size ≤ gb528)); have n5_ := Aside0.mk ((by rw [hg]; exact Nat.ne_of_lt (blk_lt (g := gb527) (o := .cells #[.bool a0_0, .string a0_1, .string a0_2] 23 (0, 0)) BK527.out) : gb527 ≠ gb528)); have n6_ := Aside0.mk ((by rw [hg]; exact Nat.ne_of_gt (blk_lt (g := gb527) (o := .cells #[.bool a0_0, .string a0_1, .string a0_2] 23 (0, 0)) BK527.out) : gb528 ≠ gb527)); clear BK527; clear HB; have BK527 := n0_; have HB := n1_; have BK528 := n2_; have GW528 := n3_; have GE528 := n4_; have NB527_528 := n5_; have NB528_527 := n6_; clear n0_ n1_ n2_ n3_ n4_ n5_ n6_; clear hb hbox hg; have hnb41 := NB527_528.out; have hnc41 := NB528_527.out; have hcz42_0 : w40.cell? ⟨gb527, 0, none⟩ = some (.bool a0_0) := (blk_cell BK527.out 0).trans rfl; have hcz42_1 : w40.cell? ⟨gb527, 1, none⟩ = some (.string a0_1) := (blk_cell BK527.out 1).trans rfl; have hcz42_2 : w40.cell? ⟨gb527, 2, none⟩ = some (.string a0_2) := (blk_cell BK527.out 2).trans rfl; have hfz42_0 := blk_frozen BK527.out 0; have hfz42_1 := blk_frozen BK527.out 1; have hfz42_2 := blk_frozen BK527.out 2; have hcz43_0 : w40.cell? ⟨gb528, 0, none⟩ = some (.bool a1_0) := (blk_cell BK528.out 0).trans rfl; have hcz43_1 : w40.cell? ⟨gb528, 1, none⟩ = some (.string a1_1) := (blk_cell BK528.out 1).trans rfl; have hcz43_2 : w40.cell? ⟨gb528, 2, none⟩ = some (.string a1_2) := (blk_cell BK528.out 2).trans rfl; have hfz43_0 := blk_frozen BK528.out 0; have hfz43_1 := blk_frozen BK528.out 1; have hfz43_2 := blk_frozen BK528.out 2) | ((with_reducible refine gate_callee (f := 58) rfl ?_); refine goesL_ (some 12) rfl rfl Tryd.func58 (by kernel_rfl) rfl #[.agg #[.bool a0_0, .string a0_1, .string a0_2], .agg #[.bool a1_0, .string a1_1, .string a1_2]] rfl (by (try simp only [List.map_toArray, List.map_cons, List.map_nil]); first | done | rfl | (simp only [List.length_drop, List.length_take]; rfl)) ?_; (with_reducible refine (decimal_both.calls k a0_0 a0_1 a0_2 a1_0 a1_1 a1_2 t529 _ A3.out).mono ?_); rintro e w44 ⟨rfl, hb⟩; refine ⟨_, rfl, ?_⟩; have n0_ := Aside0.mk (blk_below (g := gb527) (o := .cells #[.bool a0_0, .string a0_1, .string a0_2] 23 (0, 0)) BK527.out hb); have n1_ := Aside0.mk (blk_below (g := gb528) (o := .cells #[.bool a1_0, .string a1_1, .string a1_2] 23 (0, 0)) BK528.out hb); have n2_ := Aside0.mk (below_step HB.out hb); clear BK527; clear BK528; clear HB; have BK527 := n0_; have BK528 := n1_; have HB := n2_; clear n0_ n1_ n2_))
  go_ret2
  exact ⟨by first | rfl | (simp [errW_none, errW_some] <;> rfl) | (simp [*, errW_none, errW_some] <;> rfl) | (simp [bne_nil_]; done), by repeat (first | (with_reducible first | exact HB.out | apply below_alloc | apply pw_below_drewN | apply below_drew1 | refine below_set ?_ GE527.out | refine below_set ?_ GE528.out) | exact HB.out)⟩
end Go.Proofs.YtapbdblpdkoacaaDoor.P
namespace Go.Proofs.YtapbdblpdkoacaaDoor.P
open Go.RowKit Go.Proofs.YtapbdblpdkoacaaDoorW.PrintWords Go.Proofs.YtapbdblpdkoacaaDoorW.PrintLast Go.Proofs.YtapbdblpdkoacaaDoorW.PrintMore
attribute [local go_sem] max2_int max_two
set_option linter.unusedVariables false
set_option linter.unusedSimpArgs false
def decimal_Sub.f (k : Nat) (a0_0 : Bool) (a0_1 : ByteArray) (a0_2 : ByteArray) (a1_0 : Bool) (a1_1 : ByteArray) (a1_2 : ByteArray) : Option (Bool × ByteArray × ByteArray × Int) := (decimal_both.f k a0_0 a0_1 a0_2 a1_0 a1_1 a1_2).bind fun t542 => (if t542 = 0 then ((decimal_sum.f k a0_0 a0_1 a0_2 a1_0 a1_1 a1_2 (!a1_0)).bind fun bt543 => (some (bt543.1, bt543.2.1, bt543.2.2.1, bt543.2.2.2))) else (some (false, (⟨#[]⟩ : ByteArray), (⟨#[]⟩ : ByteArray), t542)))
set_option maxHeartbeats 8000000 in
set_option maxRecDepth 100000 in
theorem decimal_Sub.calls (k : Nat) (a0_0 : Bool) (a0_1 : ByteArray) (a0_2 : ByteArray) (a1_0 : Bool) (a1_1 : ByteArray) (a1_2 : ByteArray) (r1 : Bool) (r2 : ByteArray) (r3 : ByteArray) (r4 : Int) (w : World) (h : decimal_Sub.f k a0_0 a0_1 a0_2 a1_0 a1_1 a1_2 = some (r1, r2, r3, r4)) :
    Calls Tryd.prog 29 #[.agg #[.bool a0_0, .string a0_1, .string a0_2], .agg #[.bool a1_0, .string a1_1, .string a1_2]] w fun e w' => e = .returned (.tuple #[.agg #[.bool r1, .string r2, .string r3], .int .i64 r4]) ∧ Below w.heap.size w w' := by
 have hu23 := Tryd.underlying23
 have HB := Aside0.mk (Below.refl w.heap.size w)
 unfold decimal_Sub.f at h
 have H := h
 clear h
 replace H := Option.bind_eq_some_iff.mp H
 obtain ⟨t542, A30, H⟩ := H
 try dsimp only at H
 have A3 := Aside0.mk A30
 clear A30
 by_cases c4 : t542 = 0
 ·rw [if_pos c4] at H
  have c4b0 : (t542 == 0) = true := beq_iff_eq.mpr c4
  have c4b1 : (t542 != 0) = false := bne_eq_false_iff_eq.mpr c4
  clear c4
  replace H := Option.bind_eq_some_iff.mp H
  obtain ⟨⟨t543, t544, t545, t546⟩, A50, H⟩ := H
  try dsimp only at H
  have A5 := Aside0.mk A50
  clear A50
  simp only [Option.some.injEq, Prod.mk.injEq] at H
  obtain ⟨rfl, rfl, rfl, rfl⟩ := H
  go_enter Tryd.func29, Tryd.ntmps29
  go_wp2_with (first | ((with_reducible refine gate_dst (N := 2) rfl ?_); refine box_event ?hg (N := 2) ?hd (cs := #[.bool a0_0, .string a0_1, .string a0_2]) (t := 23) ?hr ?_; (case hd => rfl); (case hg => rfl); (case hr => first | (go_simp; done) | (go_simp; rfl)); intro gb539 hg w6 hbox hb; have n0_ := Aside0.mk (below_step HB.out hb); have n1_ := Aside0.mk (hbox); have n2_ := Aside0.mk ((by rw [hg]; exact (below_size HB.out) : w.heap.size ≤ gb539)); have n3_ := Aside0.mk ((by rw [hg]; exact (below_size HB.out) : w.heap.size ≤ gb539)); clear HB; have HB := n0_; have BK539 := n1_; have GW539 := n2_; have GE539 := n3_; clear n0_ n1_ n2_ n3_; clear hb hbox hg) | ((with_reducible refine gate_dst (N := 3) rfl ?_); refine box_event ?hg (N := 3) ?hd (cs := #[.bool a1_0, .string a1_1, .string a1_2]) (t := 23) ?hr ?_; (case hd => rfl); (case hg => rfl); (case hr => first | (go_simp; done) | (go_simp; rfl)); intro gb540 hg w7 hbox hb; have n0_ := Aside0.mk (blk_below (g := gb539) (o := .cells #[.bool a0_0, .string a0_1, .string a0_2] 23 (0, 0)) BK539.out hb); have n1_ := Aside0.mk (below_step HB.out hb); have n2_ := Aside0.mk (hbox); have n3_ := Aside0.mk ((by rw [hg]; exact (below_size HB.out) : w.heap.size ≤ gb540)); have n4_ := Aside0.mk ((by rw [hg]; exact (below_size HB.out) : w.heap.size ≤ gb540)); have n5_ := Aside0.mk ((by rw [hg]; exact Nat.ne_of_lt (blk_lt (g := gb539) (o := .cells #[.bool a0_0, .string a0_1, .string a0_2] 23 (0, 0)) BK539.out) : gb539 ≠ gb540)); have n6_ := Aside0.mk ((by rw [hg]; exact Nat.ne_of_gt (blk_lt (g := gb539) (o := .cells #[.bool a0_0, .string a0_1, .string a0_2] 23 (0, 0)) BK539.out) : gb540 ≠ gb539)); clear BK539; clear HB; have BK539 := n0_; have HB := n1_; have BK540 := n2_; have GW540 := n3_; have GE540 := n4_; have NB539_540 := n5_; have NB540_539 := n6_; clear n0_ n1_ n2_ n3_ n4_ n5_ n6_; clear hb hbox hg) | ((with_reducible refine gate_dst (N := 4) rfl ?_); refine box_event ?hg (N := 4) ?hd (cs := #[.bool false, .string (⟨#[]⟩ : ByteArray), .string (⟨#[]⟩ : ByteArray)]) (t := 23) ?hr ?_; (case hd => rfl); (case hg => rfl); (case hr => first | (go_simp; done) | (go_simp; rfl)); intro gb541 hg w8 hbox hb; have n0_ := Aside0.mk (blk_below (g := gb539) (o := .cells #[.bool a0_0, .string a0_1, .string a0_2] 23 (0, 0)) BK539.out hb); have n1_ := Aside0.mk (blk_below (g := gb540) (o := .cells #[.bool a1_0, .string a1_1, .string a1_2] 23 (0, 0)) BK540.out hb); have n2_ := Aside0.mk (below_step HB.out hb); have n3_ := Aside0.mk (hbox); have n4_ := Aside0.mk ((by rw [hg]; exact (below_size HB.out) : w.heap.size ≤ gb541)); have n5_ := Aside0.mk ((by rw [hg]; exact (below_size HB.out) : w.heap.size ≤ gb541)); have n6_ := Aside0.mk ((by rw [hg]; exact Nat.ne_of_lt (blk_lt (g := gb539) (o := .cells #[.bool a0_0, .string a0_1, .string a0_2] 23 (0, 0)) BK539.out) : gb539 ≠ gb541)); have n7_ := Aside0.mk ((by rw [hg]; exact Nat.ne_of_gt (blk_lt (g := gb539) (o := .cells #[.bool a0_0, .string a0_1, .string a0_2] 23 (0, 0)) BK539.out) : gb541 ≠ gb539)); have n8_ := Aside0.mk ((by rw [hg]; exact Nat.ne_of_lt (blk_lt (g := gb540) (o := .cells #[.bool a1_0, .string a1_1, .string a1_2] 23 (0, 0)) BK540.out) : gb540 ≠ gb541)); have n9_ := Aside0.mk ((by rw [hg]; exact Nat.ne_of_gt (blk_lt (g := gb540) (o := .cells #[.bool a1_0, .string a1_1, .string a1_2] 23 (0, 0)) BK540.out) : gb541 ≠ gb540)); clear BK539; clear BK540; clear HB; have BK539 := n0_; have BK540 := n1_; have HB := n2_; have BK541 := n3_; have GW541 := n4_; have GE541 := n5_; have NB539_541 := n6_; have NB541_539 := n7_; have NB540_541 := n8_; have NB541_540 := n9_; clear n0_ n1_ n2_ n3_ n4_ n5_ n6_ n7_ n8_ n9_; clear hb hbox hg; have hnb9 := NB539_540.out; have hnc9 := NB540_539.out; have hnb10 := NB539_541.out; have hnc10 := NB541_539.out; have hcz11_0 : w8.cell? ⟨gb539, 0, none⟩ = some (.bool a0_0) := (blk_cell BK539.out 0).trans rfl; have hcz11_1 : w8.cell? ⟨gb539, 1, none⟩ = some (.string a0_1) := (blk_cell BK539.out 1).trans rfl; have hcz11_2 : w8.cell? ⟨gb539, 2, none⟩ = some (.string a0_2) := (blk_cell BK539.out 2).trans rfl; have hfz11_0 := blk_frozen BK539.out 0; have hfz11_1 := blk_frozen BK539.out 1; have hfz11_2 := blk_frozen BK539.out 2; have hnb12 := NB540_541.out; have hnc12 := NB541_540.out; have hcz13_0 : w8.cell? ⟨gb540, 0, none⟩ = some (.bool a1_0) := (blk_cell BK540.out 0).trans rfl; have hcz13_1 : w8.cell? ⟨gb540, 1, none⟩ = some (.string a1_1) := (blk_cell BK540.out 1).trans rfl; have hcz13_2 : w8.cell? ⟨gb540, 2, none⟩ = some (.string a1_2) := (blk_cell BK540.out 2).trans rfl; have hfz13_0 := blk_frozen BK540.out 0; have hfz13_1 := blk_frozen BK540.out 1; have hfz13_2 := blk_frozen BK540.out 2) | ((with_reducible refine gate_callee (f := 58) rfl ?_); refine goesL_ (some 9) rfl rfl Tryd.func58 (by kernel_rfl) rfl #[.agg #[.bool a0_0, .string a0_1, .string a0_2], .agg #[.bool a1_0, .string a1_1, .string a1_2]] rfl (by (try simp only [List.map_toArray, List.map_cons, List.map_nil]); first | done | rfl | (simp only [List.length_drop, List.length_take]; rfl)) ?_; (with_reducible refine (decimal_both.calls k a0_0 a0_1 a0_2 a1_0 a1_1 a1_2 t542 _ A3.out).mono ?_); rintro e w14 ⟨rfl, hb⟩; refine ⟨_, rfl, ?_⟩; have n0_ := Aside0.mk (blk_below (g := gb539) (o := .cells #[.bool a0_0, .string a0_1, .string a0_2] 23 (0, 0)) BK539.out hb); have n1_ := Aside0.mk (blk_below (g := gb540) (o := .cells #[.bool a1_0, .string a1_1, .string a1_2] 23 (0, 0)) BK540.out hb); have n2_ := Aside0.mk (blk_below (g := gb541) (o := .cells #[.bool false, .string (⟨#[]⟩ : ByteArray), .string (⟨#[]⟩ : ByteArray)] 23 (0, 0)) BK541.out hb); have n3_ := Aside0.mk (below_step HB.out hb); clear BK539; clear BK540; clear BK541; clear HB; have BK539 := n0_; have BK540 := n1_; have BK541 := n2_; have HB := n3_; clear n0_ n1_ n2_ n3_; have hcz15_0 : w14.cell? ⟨gb539, 0, none⟩ = some (.bool a0_0) := (blk_cell BK539.out 0).trans rfl; have hcz15_1 : w14.cell? ⟨gb539, 1, none⟩ = some (.string a0_1) := (blk_cell BK539.out 1).trans rfl; have hcz15_2 : w14.cell? ⟨gb539, 2, none⟩ = some (.string a0_2) := (blk_cell BK539.out 2).trans rfl; have hfz15_0 := blk_frozen BK539.out 0; have hfz15_1 := blk_frozen BK539.out 1; have hfz15_2 := blk_frozen BK539.out 2; have hcz16_0 : w14.cell? ⟨gb540, 0, none⟩ = some (.bool a1_0) := (blk_cell BK540.out 0).trans rfl; have hcz16_1 : w14.cell? ⟨gb540, 1, none⟩ = some (.string a1_1) := (blk_cell BK540.out 1).trans rfl; have hcz16_2 : w14.cell? ⟨gb540, 2, none⟩ = some (.string a1_2) := (blk_cell BK540.out 2).trans rfl; have hfz16_0 := blk_frozen BK540.out 0; have hfz16_1 := blk_frozen BK540.out 1; have hfz16_2 := blk_frozen BK540.out 2) | ((with_reducible refine gate_callee (f := 61) rfl ?_); refine goesL_ (some 19) rfl rfl Tryd.func61 (by kernel_rfl) rfl #[.agg #[.bool a0_0, .string a0_1, .string a0_2], .agg #[.bool a1_0, .string a1_1, .string a1_2], .bool (!a1_0)] rfl (by (try simp only [List.map_toArray, List.map_cons, List.map_nil]); first | done | rfl | (simp only [List.length_drop, List.length_take]; rfl)) ?_; (with_reducible refine (decimal_sum.calls k a0_0 a0_1 a0_2 a1_0 a1_1 a1_2 (!a1_0) t543 t544 t545 t546 _ A5.out).mono ?_); rintro e w17 ⟨rfl, hb⟩; refine ⟨_, rfl, ?_⟩; have n0_ := Aside0.mk (blk_below (g := gb539) (o := .cells #[.bool a0_0, .string a0_1, .string a0_2] 23 (0, 0)) BK539.out hb); have n1_ := Aside0.mk (blk_below (g := gb540) (o := .cells #[.bool a1_0, .string a1_1, .string a1_2] 23 (0, 0)) BK540.out hb); have n2_ := Aside0.mk (blk_below (g := gb541) (o := .cells #[.bool false, .string (⟨#[]⟩ : ByteArray), .string (⟨#[]⟩ : ByteArray)] 23 (0, 0)) BK541.out hb); have n3_ := Aside0.mk (below_step HB.out hb); clear BK539; clear BK540; clear BK541; clear HB; have BK539 := n0_; have BK540 := n1_; have BK541 := n2_; have HB := n3_; clear n0_ n1_ n2_ n3_; have hcz18_0 : w17.cell? ⟨gb541, 0, none⟩ = some (.bool false) := (blk_cell BK541.out 0).trans rfl; have hcz18_1 : w17.cell? ⟨gb541, 1, none⟩ = some (.string (⟨#[]⟩ : ByteArray)) := (blk_cell BK541.out 1).trans rfl; have hcz18_2 : w17.cell? ⟨gb541, 2, none⟩ = some (.string (⟨#[]⟩ : ByteArray)) := (blk_cell BK541.out 2).trans rfl; have hfz18_0 := blk_frozen BK541.out 0; have hfz18_1 := blk_frozen BK541.out 1; have hfz18_2 := blk_frozen BK541.out 2))
  refine bodyPost_ret (results_ct rfl _ _ gb541 23 #[.bool t543, .string t544, .string t545] (0, 0) _ rfl (by refine blk_put (cs := #[.bool t543, .string t544, .string (⟨#[]⟩ : ByteArray)]) ?_ 2 _ rfl; refine blk_put (cs := #[.bool t543, .string (⟨#[]⟩ : ByteArray), .string (⟨#[]⟩ : ByteArray)]) ?_ 1 _ rfl; refine blk_put (cs := #[.bool false, .string (⟨#[]⟩ : ByteArray), .string (⟨#[]⟩ : ByteArray)]) ?_ 0 _ rfl; exact BK541.out) Tryd.underlying23 rfl (by kernel_rfl)) rfl ?_
  exact ⟨by first | rfl | (simp [errW_none, errW_some] <;> rfl) | (simp [*, errW_none, errW_some] <;> rfl) | (simp [bne_nil_]; done), by repeat (first | (with_reducible first | exact HB.out | apply below_alloc | apply pw_below_drewN | apply below_drew1 | refine below_set ?_ GE539.out | refine below_set ?_ GE540.out | refine below_set ?_ GE541.out) | exact HB.out)⟩
 ·rw [if_neg c4] at H
  have c4b0 : (t542 == 0) = false := beq_eq_false_iff_ne.mpr c4
  have c4b1 : (t542 != 0) = true := bne_iff_ne.mpr c4
  simp only [Option.some.injEq, Prod.mk.injEq] at H
  obtain ⟨rfl, rfl, rfl, rfl⟩ := H
  go_enter Tryd.func29, Tryd.ntmps29
  go_wp2_with (first | ((with_reducible refine gate_dst (N := 2) rfl ?_); refine box_event ?hg (N := 2) ?hd (cs := #[.bool a0_0, .string a0_1, .string a0_2]) (t := 23) ?hr ?_; (case hd => rfl); (case hg => rfl); (case hr => first | (go_simp; done) | (go_simp; rfl)); intro gb539 hg w19 hbox hb; have n0_ := Aside0.mk (below_step HB.out hb); have n1_ := Aside0.mk (hbox); have n2_ := Aside0.mk ((by rw [hg]; exact (below_size HB.out) : w.heap.size ≤ gb539)); have n3_ := Aside0.mk ((by rw [hg]; exact (below_size HB.out) : w.heap.size ≤ gb539)); clear HB; have HB := n0_; have BK539 := n1_; have GW539 := n2_; have GE539 := n3_; clear n0_ n1_ n2_ n3_; clear hb hbox hg) | ((with_reducible refine gate_dst (N := 3) rfl ?_); refine box_event ?hg (N := 3) ?hd (cs := #[.bool a1_0, .string a1_1, .string a1_2]) (t := 23) ?hr ?_; (case hd => rfl); (case hg => rfl); (case hr => first | (go_simp; done) | (go_simp; rfl)); intro gb540 hg w20 hbox hb; have n0_ := Aside0.mk (blk_below (g := gb539) (o := .cells #[.bool a0_0, .string a0_1, .string a0_2] 23 (0, 0)) BK539.out hb); have n1_ := Aside0.mk (below_step HB.out hb); have n2_ := Aside0.mk (hbox); have n3_ := Aside0.mk ((by rw [hg]; exact (below_size HB.out) : w.heap.size ≤ gb540)); have n4_ := Aside0.mk ((by rw [hg]; exact (below_size HB.out) : w.heap.size ≤ gb540)); have n5_ := Aside0.mk ((by rw [hg]; exact Nat.ne_of_lt (blk_lt (g := gb539) (o := .cells #[.bool a0_0, .string a0_1, .string a0_2] 23 (0, 0)) BK539.out) : gb539 ≠ gb540)); have n6_ := Aside0.mk ((by rw [hg]; exact Nat.ne_of_gt (blk_lt (g := gb539) (o := .cells #[.bool a0_0, .string a0_1, .string a0_2] 23 (0, 0)) BK539.out) : gb540 ≠ gb539)); clear BK539; clear HB; have BK539 := n0_; have HB := n1_; have BK540 := n2_; have GW540 := n3_; have GE540 := n4_; have NB539_540 := n5_; have NB540_539 := n6_; clear n0_ n1_ n2_ n3_ n4_ n5_ n6_; clear hb hbox hg) | ((with_reducible refine gate_dst (N := 4) rfl ?_); refine box_event ?hg (N := 4) ?hd (cs := #[.bool false, .string (⟨#[]⟩ : ByteArray), .string (⟨#[]⟩ : ByteArray)]) (t := 23) ?hr ?_; (case hd => rfl); (case hg => rfl); (case hr => first | (go_simp; done) | (go_simp; rfl)); intro gb541 hg w21 hbox hb; have n0_ := Aside0.mk (blk_below (g := gb539) (o := .cells #[.bool a0_0, .string a0_1, .string a0_2] 23 (0, 0)) BK539.out hb); have n1_ := Aside0.mk (blk_below (g := gb540) (o := .cells #[.bool a1_0, .string a1_1, .string a1_2] 23 (0, 0)) BK540.out hb); have n2_ := Aside0.mk (below_step HB.out hb); have n3_ := Aside0.mk (hbox); have n4_ := Aside0.mk ((by rw [hg]; exact (below_size HB.out) : w.heap.size ≤ gb541)); have n5_ := Aside0.mk ((by rw [hg]; exact (below_size HB.out) : w.heap.size ≤ gb541)); have n6_ := Aside0.mk ((by rw [hg]; exact Nat.ne_of_lt (blk_lt (g := gb539) (o := .cells #[.bool a0_0, .string a0_1, .string a0_2] 23 (0, 0)) BK539.out) : gb539 ≠ gb541)); have n7_ := Aside0.mk ((by rw [hg]; exact Nat.ne_of_gt (blk_lt (g := gb539) (o := .cells #[.bool a0_0, .string a0_1, .string a0_2] 23 (0, 0)) BK539.out) : gb541 ≠ gb539)); have n8_ := Aside0.mk ((by rw [hg]; exact Nat.ne_of_lt (blk_lt (g := gb540) (o := .cells #[.bool a1_0, .string a1_1, .string a1_2] 23 (0, 0)) BK540.out) : gb540 ≠ gb541)); have n9_ := Aside0.mk ((by rw [hg]; exact Nat.ne_of_gt (blk_lt (g := gb540) (o := .cells #[.bool a1_0, .string a1_1, .string a1_2] 23 (0, 0)) BK540.out) : gb541 ≠ gb540)); clear BK539; clear BK540; clear HB; have BK539 := n0_; have BK540 := n1_; have HB := n2_; have BK541 := n3_; have GW541 := n4_; have GE541 := n5_; have NB539_541 := n6_; have NB541_539 := n7_; have NB540_541 := n8_; have NB541_540 := n9_; clear n0_ n1_ n2_ n3_ n4_ n5_ n6_ n7_ n8_ n9_; clear hb hbox hg; have hnb22 := NB539_540.out; have hnc22 := NB540_539.out; have hnb23 := NB539_541.out; have hnc23 := NB541_539.out; have hcz24_0 : w21.cell? ⟨gb539, 0, none⟩ = some (.bool a0_0) := (blk_cell BK539.out 0).trans rfl; have hcz24_1 : w21.cell? ⟨gb539, 1, none⟩ = some (.string a0_1) := (blk_cell BK539.out 1).trans rfl; have hcz24_2 : w21.cell? ⟨gb539, 2, none⟩ = some (.string a0_2) := (blk_cell BK539.out 2).trans rfl; have hfz24_0 := blk_frozen BK539.out 0; have hfz24_1 := blk_frozen BK539.out 1; have hfz24_2 := blk_frozen BK539.out 2; have hnb25 := NB540_541.out; have hnc25 := NB541_540.out; have hcz26_0 : w21.cell? ⟨gb540, 0, none⟩ = some (.bool a1_0) := (blk_cell BK540.out 0).trans rfl; have hcz26_1 : w21.cell? ⟨gb540, 1, none⟩ = some (.string a1_1) := (blk_cell BK540.out 1).trans rfl; have hcz26_2 : w21.cell? ⟨gb540, 2, none⟩ = some (.string a1_2) := (blk_cell BK540.out 2).trans rfl; have hfz26_0 := blk_frozen BK540.out 0; have hfz26_1 := blk_frozen BK540.out 1; have hfz26_2 := blk_frozen BK540.out 2) | ((with_reducible refine gate_callee (f := 58) rfl ?_); refine goesL_ (some 9) rfl rfl Tryd.func58 (by kernel_rfl) rfl #[.agg #[.bool a0_0, .string a0_1, .string a0_2], .agg #[.bool a1_0, .string a1_1, .string a1_2]] rfl (by (try simp only [List.map_toArray, List.map_cons, List.map_nil]); first | done | rfl | (simp only [List.length_drop, List.length_take]; rfl)) ?_; (with_reducible refine (decimal_both.calls k a0_0 a0_1 a0_2 a1_0 a1_1 a1_2 t542 _ A3.out).mono ?_); rintro e w27 ⟨rfl, hb⟩; refine ⟨_, rfl, ?_⟩; have n0_ := Aside0.mk (blk_below (g := gb539) (o := .cells #[.bool a0_0, .string a0_1, .string a0_2] 23 (0, 0)) BK539.out hb); have n1_ := Aside0.mk (blk_below (g := gb540) (o := .cells #[.bool a1_0, .string a1_1, .string a1_2] 23 (0, 0)) BK540.out hb); have n2_ := Aside0.mk (blk_below (g := gb541) (o := .cells #[.bool false, .string (⟨#[]⟩ : ByteArray), .string (⟨#[]⟩ : ByteArray)] 23 (0, 0)) BK541.out hb); have n3_ := Aside0.mk (below_step HB.out hb); clear BK539; clear BK540; clear BK541; clear HB; have BK539 := n0_; have BK540 := n1_; have BK541 := n2_; have HB := n3_; clear n0_ n1_ n2_ n3_; have hcz28_0 : w27.cell? ⟨gb541, 0, none⟩ = some (.bool false) := (blk_cell BK541.out 0).trans rfl; have hcz28_1 : w27.cell? ⟨gb541, 1, none⟩ = some (.string (⟨#[]⟩ : ByteArray)) := (blk_cell BK541.out 1).trans rfl; have hcz28_2 : w27.cell? ⟨gb541, 2, none⟩ = some (.string (⟨#[]⟩ : ByteArray)) := (blk_cell BK541.out 2).trans rfl; have hfz28_0 := blk_frozen BK541.out 0; have hfz28_1 := blk_frozen BK541.out 1; have hfz28_2 := blk_frozen BK541.out 2))
  refine bodyPost_ret (results_ct rfl _ _ gb541 23 #[.bool false, .string (⟨#[]⟩ : ByteArray), .string (⟨#[]⟩ : ByteArray)] (0, 0) _ rfl (by refine blk_put (cs := #[.bool false, .string (⟨#[]⟩ : ByteArray), .string (⟨#[]⟩ : ByteArray)]) ?_ 2 _ rfl; refine blk_put (cs := #[.bool false, .string (⟨#[]⟩ : ByteArray), .string (⟨#[]⟩ : ByteArray)]) ?_ 1 _ rfl; refine blk_put (cs := #[.bool false, .string (⟨#[]⟩ : ByteArray), .string (⟨#[]⟩ : ByteArray)]) ?_ 0 _ rfl; exact BK541.out) Tryd.underlying23 rfl (by kernel_rfl)) rfl ?_
  exact ⟨by first | rfl | (simp [errW_none, errW_some] <;> rfl) | (simp [*, errW_none, errW_some] <;> rfl) | (simp [bne_nil_]; done), by repeat (first | (with_reducible first | exact HB.out | apply below_alloc | apply pw_below_drewN | apply below_drew1 | refine below_set ?_ GE539.out | refine below_set ?_ GE540.out | refine below_set ?_ GE541.out) | exact HB.out)⟩
end Go.Proofs.YtapbdblpdkoacaaDoor.P
namespace Go.Proofs.YtapbdblpdkoacaaDoor.P
open Go.RowKit Go.Proofs.YtapbdblpdkoacaaDoorW.PrintWords Go.Proofs.YtapbdblpdkoacaaDoorW.PrintLast Go.Proofs.YtapbdblpdkoacaaDoorW.PrintMore
attribute [local go_sem] max2_int max_two
set_option linter.unusedVariables false
set_option linter.unusedSimpArgs false
def idiomref02_Compare.j0 : Nat → Int → Bool → Bool → ByteArray → ByteArray → Bool → ByteArray → ByteArray → Option (Int × Int)
  | 0, _, _, _, _, _, _, _, _ => none
  | k + 1, x8, x32, x596000, x596001, x596002, x597000, x597001, x597002 => if x32 = true then (some (wrap64 (-x8), 0)) else (if x596000 = true then (some ((-1), 0)) else (if x597000 = true then (some (1, 0)) else (some (x8, 0))))
def idiomref02_Compare.f (k : Nat) (a0_0 : Bool) (a0_1 : ByteArray) (a0_2 : ByteArray) (a1_0 : Bool) (a1_1 : ByteArray) (a1_2 : ByteArray) : Option (Int × Int) := (idiomref02_Check.f k a0_0 a0_1 a0_2).bind fun t597 => ((idiomref02_Check.f k a1_0 a1_1 a1_2).bind fun t598 => ((idiomref02_First.f k (([t597, t598] : List Int))).bind fun t602 => (if t602 = 0 then ((idiomref02_raised.f k a0_0 a0_1 a0_2 (mx (a0_2.size : Int) (a1_2.size : Int))).bind fun t603 => ((idiomref02_raised.f k a1_0 a1_1 a1_2 (mx (a0_2.size : Int) (a1_2.size : Int))).bind fun t604 => ((idiomref02_Cmp.f k t603 t604).bind fun t605 => (if a0_0 = true then (idiomref02_Compare.j0 k t605 a1_0 a0_0 a0_1 a0_2 a1_0 a1_1 a1_2) else (idiomref02_Compare.j0 k t605 false a0_0 a0_1 a0_2 a1_0 a1_1 a1_2))))) else (some (0, t602)))))
def idiomref02_Compare.T5 : Bool × List (List Nat × List Nat) := (true, [([], []), ([], []), ([0, 1], [0, 1]), ([], []), ([], []), ([3, 4, 2], [3, 4]), ([2, 5, 5], [2, 5]), ([6, 6, 0, 1, 2, 3, 4, 5, 6], [6])])
def idiomref02_Compare.B5 : List Nat := [0, 0, 3, 0, 0, 31, 63, 127]
theorem idiomref02_Compare.tab5 : rtab .any (opsOf Tryd.f31 5) = idiomref02_Compare.T5 := by kernel_rfl
theorem idiomref02_Compare.bits5 : waitsOk idiomref02_Compare.T5.2 idiomref02_Compare.B5 = true := by kernel_rfl
set_option maxHeartbeats 8000000 in
set_option maxRecDepth 100000 in
theorem idiomref02_Compare.calls (k : Nat) (a0_0 : Bool) (a0_1 : ByteArray) (a0_2 : ByteArray) (a1_0 : Bool) (a1_1 : ByteArray) (a1_2 : ByteArray) (r1 : Int) (r2 : Int) (w : World) (h : idiomref02_Compare.f k a0_0 a0_1 a0_2 a1_0 a1_1 a1_2 = some (r1, r2)) :
    Calls Tryd.prog 31 #[.agg #[.bool a0_0, .string a0_1, .string a0_2], .agg #[.bool a1_0, .string a1_1, .string a1_2]] w fun e w' => e = .returned (.tuple #[.int .i64 r1, .int .i64 r2]) ∧ Below w.heap.size w w' := by
 have hu23 := Tryd.underlying23
 have HB := Aside0.mk (Below.refl w.heap.size w)
 unfold idiomref02_Compare.f at h
 have H := h
 clear h
 replace H := Option.bind_eq_some_iff.mp H
 obtain ⟨t597, A30, H⟩ := H
 try dsimp only at H
 have A3 := Aside0.mk A30
 clear A30
 replace H := Option.bind_eq_some_iff.mp H
 obtain ⟨t598, A40, H⟩ := H
 try dsimp only at H
 have A4 := Aside0.mk A40
 clear A40
 obtain ⟨y599, hy599⟩ : ∃ y_ : List Int, y_ = (([t597, t598] : List Int)) := ⟨_, rfl⟩
 rw [← hy599] at H
 have Ny599 := Aside0.mk hy599
 clear hy599
 replace H := Option.bind_eq_some_iff.mp H
 obtain ⟨t602, A50, H⟩ := H
 try dsimp only at H
 have A5 := Aside0.mk A50
 clear A50
 by_cases c6 : t602 = 0
 ·rw [if_pos c6] at H
  have c6b0 : (t602 == 0) = true := beq_iff_eq.mpr c6
  have c6b1 : (t602 != 0) = false := bne_eq_false_iff_eq.mpr c6
  clear c6
  obtain ⟨ji7, hji7⟩ : ∃ j_ : Int, (mx (a0_2.size : Int) (a1_2.size : Int)) = j_ := ⟨_, rfl⟩
  replace H : ((idiomref02_raised.f k a0_0 a0_1 a0_2 (ji7)).bind fun t603 => ((idiomref02_raised.f k a1_0 a1_1 a1_2 (ji7)).bind fun t604 => ((idiomref02_Cmp.f k t603 t604).bind fun t605 => (if a0_0 = true then (idiomref02_Compare.j0 k t605 a1_0 a0_0 a0_1 a0_2 a1_0 a1_1 a1_2) else (idiomref02_Compare.j0 k t605 false a0_0 a0_1 a0_2 a1_0 a1_1 a1_2))))) = some (r1, r2) := by first | (rw [hji7] at H; exact H) | (simp only [hji7] at H ⊢; exact H)
  (try rw [hji7] at A3)
  (try rw [hji7] at A4)
  (try rw [hji7] at A5)
  (try (have hji7l : 0 ≤ ji7 := by (rw [← hji7]; unfold mx; (repeat' split) <;> omega)))
  (try (have hji7m : 0 ≤ ji7 := by omega))
  have hji7_ : (if (a0_2.size : Int) < (a1_2.size : Int) then (a1_2.size : Int) else (a0_2.size : Int)) = ji7 := hji7
  (try (have hji7n := hji7_; simp only [Int.ofNat_lt] at hji7n))
  replace H := Option.bind_eq_some_iff.mp H
  obtain ⟨t603, A80, H⟩ := H
  try dsimp only at H
  have A8 := Aside0.mk A80
  clear A80
  replace H := Option.bind_eq_some_iff.mp H
  obtain ⟨t604, A90, H⟩ := H
  try dsimp only at H
  have A9 := Aside0.mk A90
  clear A90
  replace H := Option.bind_eq_some_iff.mp H
  obtain ⟨t605, A100, H⟩ := H
  try dsimp only at H
  have A10 := Aside0.mk A100
  clear A100
  have HC11 := Aside0.mk H
  clear H
  go_enter Tryd.func31, Tryd.ntmps31
  try go_wp2_with (first | ((with_reducible refine gate_dst (N := 2) rfl ?_); refine box_event ?hg (N := 2) ?hd (cs := #[.bool a0_0, .string a0_1, .string a0_2]) (t := 23) ?hr ?_; (case hd => rfl); (case hg => rfl); (case hr => first | (go_simp; done) | (go_simp; rfl)); intro gb595 hg w12 hbox hb; have n0_ := Aside0.mk (below_step HB.out hb); have n1_ := Aside0.mk (hbox); have n2_ := Aside0.mk ((by rw [hg]; exact (below_size HB.out) : w.heap.size ≤ gb595)); have n3_ := Aside0.mk ((by rw [hg]; exact (below_size HB.out) : w.heap.size ≤ gb595)); clear HB; have HB := n0_; have BK595 := n1_; have GW595 := n2_; have GE595 := n3_; clear n0_ n1_ n2_ n3_; clear hb hbox hg) | ((with_reducible refine gate_dst (N := 3) rfl ?_); refine box_event ?hg (N := 3) ?hd (cs := #[.bool a1_0, .string a1_1, .string a1_2]) (t := 23) ?hr ?_; (case hd => rfl); (case hg => rfl); (case hr => first | (go_simp; done) | (go_simp; rfl)); intro gb596 hg w13 hbox hb; have n0_ := Aside0.mk (blk_below (g := gb595) (o := .cells #[.bool a0_0, .string a0_1, .string a0_2] 23 (0, 0)) BK595.out hb); have n1_ := Aside0.mk (below_step HB.out hb); have n2_ := Aside0.mk (hbox); have n3_ := Aside0.mk ((by rw [hg]; exact (below_size HB.out) : w.heap.size ≤ gb596)); have n4_ := Aside0.mk ((by rw [hg]; exact (below_size HB.out) : w.heap.size ≤ gb596)); have n5_ := Aside0.mk ((by rw [hg]; exact Nat.ne_of_lt (blk_lt (g := gb595) (o := .cells #[.bool a0_0, .string a0_1, .string a0_2] 23 (0, 0)) BK595.out) : gb595 ≠ gb596)); have n6_ := Aside0.mk ((by rw [hg]; exact Nat.ne_of_gt (blk_lt (g := gb595) (o := .cells #[.bool a0_0, .string a0_1, .string a0_2] 23 (0, 0)) BK595.out) : gb596 ≠ gb595)); clear BK595; clear HB; have BK595 := n0_; have HB := n1_; have BK596 := n2_; have GW596 := n3_; have GE596 := n4_; have NB595_596 := n5_; have NB596_595 := n6_; clear n0_ n1_ n2_ n3_ n4_ n5_ n6_; clear hb hbox hg))
  have n0_ := Aside0.mk (blk_drew BK595.out)
  have n1_ := Aside0.mk (blk_drew BK596.out)
  have n2_ := Aside0.mk (below_drew1 HB.out)
  clear BK595
  clear BK596
  clear HB
  have BK595 := n0_
  have BK596 := n1_
  have HB := n2_
  clear n0_ n1_ n2_
  refine start_ (n := 7) (S := fun w' => w'.cell? ⟨gb595, 0, none⟩ = some (.bool a0_0) ∧ w'.cell? ⟨gb595, 1, none⟩ = some (.string a0_1) ∧ w'.cell? ⟨gb595, 2, none⟩ = some (.string a0_2) ∧ w'.cell? ⟨gb596, 0, none⟩ = some (.bool a1_0) ∧ w'.cell? ⟨gb596, 1, none⟩ = some (.string a1_1) ∧ w'.cell? ⟨gb596, 2, none⟩ = some (.string a1_2)) (ds := []) #[false, false, false, false, false, false, false] (by kernel_rfl) rfl rfl ⟨(blk_cell BK595.out 0).trans rfl, (blk_cell BK595.out 1).trans rfl, (blk_cell BK595.out 2).trans rfl, (blk_cell BK596.out 0).trans rfl, (blk_cell BK596.out 1).trans rfl, (blk_cell BK596.out 2).trans rfl⟩ (fun hHeld => ?_)
  generalize w13.drew = w14 at BK595 BK596 HB hHeld ⊢
  refine take_ (i := 0) (N := some 9) (v := ?_) (a' := ?_) #[true, false, false, false, false, false, false] rfl rfl (by kernel_rfl) (fun _ _ _ h => h) (Or.inl ⟨by rfl, ?_⟩) hHeld ?_ ?_
  rotate_left
  ·rintro w' ⟨s0, s1, s2, s3, s4, s5⟩
   go_simp
   with_reducible rfl
  rotate_left
  ·simp only [Act.put, List.setIfInBounds_toArray, List.set_cons_zero, List.set_cons_succ, i64_w, i32_w]
   rfl
  refine take_ (i := 2) (N := some 11) (v := ?_) (a' := ?_) #[true, false, true, false, false, false, false] rfl rfl (by kernel_rfl) (fun _ _ _ h => h) (Or.inl ⟨by rfl, ?_⟩) hHeld ?_ ?_
  rotate_left
  ·rintro w' ⟨s0, s1, s2, s3, s4, s5⟩
   go_simp
   with_reducible rfl
  rotate_left
  ·simp only [Act.put, List.setIfInBounds_toArray, List.set_cons_zero, List.set_cons_succ, i64_w, i32_w]
   rfl
  refine one_ (i := 1) (N := some 10) #[true, true, true, false, false, false, false] rfl rfl (by kernel_rfl) (by decide) (fun K hK => ?_)
  refine goes_ Tryd.func18 (by kernel_rfl) rfl #[.agg #[.bool a0_0, .string a0_1, .string a0_2]] (by rfl) rfl rfl (by (try simp only [List.map_toArray, List.map_cons, List.map_nil]); first | done | rfl | (simp only [List.length_drop, List.length_take]; rfl)) ?_
  with_reducible refine (idiomref02_Check.calls k a0_0 a0_1 a0_2 t597 _ A3.out).mono ?_
  rintro e w15 ⟨rfl, hb⟩
  refine ⟨_, rfl, ?_⟩
  have n0_ := Aside0.mk (blk_below (g := gb595) (o := .cells #[.bool a0_0, .string a0_1, .string a0_2] 23 (0, 0)) BK595.out hb)
  have n1_ := Aside0.mk (blk_below (g := gb596) (o := .cells #[.bool a1_0, .string a1_1, .string a1_2] 23 (0, 0)) BK596.out hb)
  have n2_ := Aside0.mk (below_step HB.out hb)
  clear BK595
  clear BK596
  clear HB
  have BK595 := n0_
  have BK596 := n1_
  have HB := n2_
  clear n0_ n1_ n2_
  (try clear hb)
  (try clear hb2)
  (try clear hk)
  (try clear hi)
  refine hK.out _ _ ⟨(blk_cell BK595.out 0).trans rfl, (blk_cell BK595.out 1).trans rfl, (blk_cell BK595.out 2).trans rfl, (blk_cell BK596.out 0).trans rfl, (blk_cell BK596.out 1).trans rfl, (blk_cell BK596.out 2).trans rfl⟩ (fun hHeld => ?_)
  clear hK K
  refine norm_ (a' := ?_) ?_ ?_
  rotate_left
  ·show Act.put _ (some 10) _ = _
   simp only [Act.put, List.setIfInBounds_toArray, List.set_cons_zero, List.set_cons_succ, i64_w, i32_w]
   rfl
  refine one_ (i := 3) (N := some 12) #[true, true, true, true, false, false, false] rfl rfl (by kernel_rfl) (by decide) (fun K hK => ?_)
  refine goes_ Tryd.func18 (by kernel_rfl) rfl #[.agg #[.bool a1_0, .string a1_1, .string a1_2]] (by rfl) rfl rfl (by (try simp only [List.map_toArray, List.map_cons, List.map_nil]); first | done | rfl | (simp only [List.length_drop, List.length_take]; rfl)) ?_
  with_reducible refine (idiomref02_Check.calls k a1_0 a1_1 a1_2 t598 _ A4.out).mono ?_
  rintro e w16 ⟨rfl, hb⟩
  refine ⟨_, rfl, ?_⟩
  have n0_ := Aside0.mk (blk_below (g := gb595) (o := .cells #[.bool a0_0, .string a0_1, .string a0_2] 23 (0, 0)) BK595.out hb)
  have n1_ := Aside0.mk (blk_below (g := gb596) (o := .cells #[.bool a1_0, .string a1_1, .string a1_2] 23 (0, 0)) BK596.out hb)
  have n2_ := Aside0.mk (below_step HB.out hb)
  clear BK595
  clear BK596
  clear HB
  have BK595 := n0_
  have BK596 := n1_
  have HB := n2_
  clear n0_ n1_ n2_
  (try clear hb)
  (try clear hb2)
  (try clear hk)
  (try clear hi)
  refine hK.out _ _ ⟨(blk_cell BK595.out 0).trans rfl, (blk_cell BK595.out 1).trans rfl, (blk_cell BK595.out 2).trans rfl, (blk_cell BK596.out 0).trans rfl, (blk_cell BK596.out 1).trans rfl, (blk_cell BK596.out 2).trans rfl⟩ (fun hHeld => ?_)
  clear hK K
  refine norm_ (a' := ?_) ?_ ?_
  rotate_left
  ·show Act.put _ (some 12) _ = _
   simp only [Act.put, List.setIfInBounds_toArray, List.set_cons_zero, List.set_cons_succ, i64_w, i32_w]
   rfl
  refine one_ (i := 4) (N := some 13) #[true, true, true, true, true, false, false] rfl rfl (by kernel_rfl) (by decide) (fun K hK => ?_)
  refine Kd.R_lit_step (Kd.int .i64) _ 24 ?hg (N := 13) ?hd (xs := ([t597, t598] : List Int)) (inner := [.int .i64 t597, .int .i64 t598]) (ok := fun _ => True) (okp := fun _ => True) ?hr ?hp (fun _ hk => hk) trivial (Below.refl _ _) (Nat.le_refl _) (by simp) ?_; (case hd => rfl); (case hg => rfl); (case hr => first | (go_simp; done) | (go_simp; rfl)); (case hp => exact (Reps.one (show Kd.M (Kd.int .i64) _ _ _ t597 [.int .i64 t597] from rfl) (Reps.one (show Kd.M (Kd.int .i64) _ _ _ t598 [.int .i64 t598] from rfl) (Reps.none _ _))))
  intro v600 w17 ho18 hb hg_ hnew_
  clear hg_ hnew_
  (first | rw [← Ny599.out] at ho18 | (simp only [Int.reduceToNat] at ho18; rw [← Ny599.out] at ho18))
  have n0_ := Aside0.mk (Kd.R_lower ho18 (below_size HB.out))
  have n1_ := Aside0.mk (blk_below (g := gb595) (o := .cells #[.bool a0_0, .string a0_1, .string a0_2] 23 (0, 0)) BK595.out hb)
  have n2_ := Aside0.mk (blk_below (g := gb596) (o := .cells #[.bool a1_0, .string a1_1, .string a1_2] 23 (0, 0)) BK596.out hb)
  have n3_ := Aside0.mk (below_step HB.out hb)
  clear BK595
  clear BK596
  clear HB
  have HO601 := n0_
  have BK595 := n1_
  have BK596 := n2_
  have HB := n3_
  clear n0_ n1_ n2_ n3_
  clear hb ho18
  obtain ⟨Ao19, co19, eo19⟩ := Kd.R_slice HO601.out
  (first | subst eo19 | (injection eo19 with f1_ f2_ f3_; have f4_ := f1_.symm; have f5_ := f3_.symm; clear f1_ f2_ f3_; subst f4_; subst f5_))
  refine hK.out _ _ ⟨(blk_cell BK595.out 0).trans rfl, (blk_cell BK595.out 1).trans rfl, (blk_cell BK595.out 2).trans rfl, (blk_cell BK596.out 0).trans rfl, (blk_cell BK596.out 1).trans rfl, (blk_cell BK596.out 2).trans rfl⟩ (fun hHeld => ?_)
  clear hK K
  refine norm_ (a' := ?_) ?_ ?_
  rotate_left
  ·show Act.put _ (some 13) _ = _
   simp only [Act.put, List.setIfInBounds_toArray, List.set_cons_zero, List.set_cons_succ, i64_w, i32_w]
   rfl
  refine one_ (i := 5) (N := some 14) #[true, true, true, true, true, true, false] rfl rfl (by kernel_rfl) (by decide) (fun K hK => ?_)
  refine goes_ Tryd.func63 (by kernel_rfl) rfl #[.slice Ao19 y599.length co19] (by rfl) rfl rfl (by (try simp only [List.map_toArray, List.map_cons, List.map_nil]); first | done | rfl | (simp only [List.length_drop, List.length_take]; rfl)) ?_
  with_reducible refine (idiomref02_First.calls k _ _ y599 t602 _ ?side1 ?side2 A5.out).mono ?_
  (case side1 => repeat (first | exact (Kd.R_reads' HO601.out).2.2 | (with_reducible refine Kd.C_alloc ?_ _) | (with_reducible refine Kd.C_drewN ?_ _) | (with_reducible refine Kd.C_drew ?_)))
  (case side2 => exact (Kd.R_reads' HO601.out).2.1)
  rintro e w' ⟨rfl, ⟨nd, rfl⟩⟩
  refine ⟨_, rfl, ?_⟩
  refine hK.out _ _ ⟨(blk_cell BK595.out 0).trans rfl, (blk_cell BK595.out 1).trans rfl, (blk_cell BK595.out 2).trans rfl, (blk_cell BK596.out 0).trans rfl, (blk_cell BK596.out 1).trans rfl, (blk_cell BK596.out 2).trans rfl⟩ (fun hHeld => ?_)
  clear hK K
  refine norm_ (a' := ?_) ?_ ?_
  rotate_left
  ·show Act.put _ (some 14) _ = _
   simp only [Act.put, List.setIfInBounds_toArray, List.set_cons_zero, List.set_cons_succ, i64_w, i32_w]
   rfl
  refine pure_ (i := 6) (N := some 6) (v := ?_) (a' := ?_) #[true, true, true, true, true, true, true] rfl rfl (by kernel_rfl) (fun _ _ _ h => h) (Or.inl ⟨by rfl, ?_⟩) ?_ ?_
  rotate_left
  ·intro w'
   go_simp
   with_reducible rfl
  rotate_left
  ·simp only [Act.put, List.setIfInBounds_toArray, List.set_cons_zero, List.set_cons_succ, i64_w, i32_w]
   rfl
  refine done_ (by kernel_rfl) ?_
  have hnb20 := NB595_596.out
  have hnc20 := NB596_595.out
  have hcz21_0 : w17.cell? ⟨gb595, 0, none⟩ = some (.bool a0_0) := (blk_cell BK595.out 0).trans rfl
  have hcz21_1 : w17.cell? ⟨gb595, 1, none⟩ = some (.string a0_1) := (blk_cell BK595.out 1).trans rfl
  have hcz21_2 : w17.cell? ⟨gb595, 2, none⟩ = some (.string a0_2) := (blk_cell BK595.out 2).trans rfl
  have hfz21_0 := blk_frozen BK595.out 0
  have hfz21_1 := blk_frozen BK595.out 1
  have hfz21_2 := blk_frozen BK595.out 2
  have hcz22_0 : w17.cell? ⟨gb596, 0, none⟩ = some (.bool a1_0) := (blk_cell BK596.out 0).trans rfl
  have hcz22_1 : w17.cell? ⟨gb596, 1, none⟩ = some (.string a1_1) := (blk_cell BK596.out 1).trans rfl
  have hcz22_2 : w17.cell? ⟨gb596, 2, none⟩ = some (.string a1_2) := (blk_cell BK596.out 2).trans rfl
  have hfz22_0 := blk_frozen BK596.out 0
  have hfz22_1 := blk_frozen BK596.out 1
  have hfz22_2 := blk_frozen BK596.out 2
  try go_wp2
  (try (rw [drewN_self w17]; generalize hq_ : World.drewN w17 _ = w17; have n0_ : Aside0 (Kd.R (Kd.int .i64) 24 w17 w.heap.size (fun _ => True) (.slice Ao19 y599.length co19) y599) := ⟨by rw [← hq_]; exact (by (with_reducible repeat (first | apply Kd.R_alloc | apply Kd.R_drewN | apply Kd.R_drew)); exact HO601.out)⟩; have n1_ : Aside0 (w17.heap[gb595]? = some (.cells #[.bool a0_0, .string a0_1, .string a0_2] 23 (0, 0))) := ⟨by rw [← hq_]; exact (by (with_reducible repeat (first | refine blk_drewN ?_ _ | refine blk_drew ?_ | refine blk_alloc ?_ _)); exact BK595.out)⟩; have n2_ : Aside0 (w17.heap[gb596]? = some (.cells #[.bool a1_0, .string a1_1, .string a1_2] 23 (0, 0))) := ⟨by rw [← hq_]; exact (by (with_reducible repeat (first | refine blk_drewN ?_ _ | refine blk_drew ?_ | refine blk_alloc ?_ _)); exact BK596.out)⟩; have n3_ : Aside0 (Below w.heap.size w w17) := ⟨by rw [← hq_]; exact (by repeat (first | (with_reducible first | exact HB.out | apply below_alloc | apply pw_below_drewN | apply below_drew1 | refine below_set ?_ GE595.out | refine below_set ?_ GE596.out) | exact HB.out))⟩; clear HO601 BK595 BK596 HB hq_; have HO601 := n0_; have BK595 := n1_; have BK596 := n2_; have HB := n3_; clear n0_ n1_ n2_ n3_))
  have n0_ := Aside0.mk (Kd.R_drew HO601.out)
  have n1_ := Aside0.mk (blk_drew BK595.out)
  have n2_ := Aside0.mk (blk_drew BK596.out)
  have n3_ := Aside0.mk (below_drew1 HB.out)
  clear HO601
  clear BK595
  clear BK596
  clear HB
  have HO601 := n0_
  have BK595 := n1_
  have BK596 := n2_
  have HB := n3_
  clear n0_ n1_ n2_ n3_
  refine start_ (n := 8) (S := fun w' => w'.cell? ⟨gb595, 0, none⟩ = some (.bool a0_0) ∧ w'.cell? ⟨gb595, 1, none⟩ = some (.string a0_1) ∧ w'.cell? ⟨gb595, 2, none⟩ = some (.string a0_2) ∧ w'.cell? ⟨gb596, 0, none⟩ = some (.bool a1_0) ∧ w'.cell? ⟨gb596, 1, none⟩ = some (.string a1_1) ∧ w'.cell? ⟨gb596, 2, none⟩ = some (.string a1_2)) (ds := []) #[false, false, false, false, false, false, false, false] (by kernel_rfl) rfl rfl ⟨(blk_cell BK595.out 0).trans rfl, (blk_cell BK595.out 1).trans rfl, (blk_cell BK595.out 2).trans rfl, (blk_cell BK596.out 0).trans rfl, (blk_cell BK596.out 1).trans rfl, (blk_cell BK596.out 2).trans rfl⟩ (fun hHeld => ?_); refine with_tabW idiomref02_Compare.tab5 idiomref02_Compare.bits5 (fun HT_ HW_ => ?_)
  generalize w17.drew = w23 at HO601 BK595 BK596 HB hHeld ⊢
  refine pure_ (i := 1) (N := some 26) (v := ?_) (a' := ?_) #[false, true, false, false, false, false, false, false] rfl rfl (any_of HT_.out (by kernel_rfl)) (fun _ _ _ h => h) (Or.inl ⟨by rfl, ?_⟩) ?_ ?_
  rotate_left
  ·intro w'
   go_simp
   with_reducible rfl
  rotate_left
  ·simp only [Act.put, List.setIfInBounds_toArray, List.set_cons_zero, List.set_cons_succ, i64_w, i32_w]
   rfl
  refine pure_ (i := 4) (N := some 29) (v := ?_) (a' := ?_) #[false, true, false, false, true, false, false, false] rfl rfl (any_of HT_.out (by kernel_rfl)) (fun _ _ _ h => h) (Or.inl ⟨by rfl, ?_⟩) ?_ ?_
  rotate_left
  ·intro w'
   go_simp
   with_reducible rfl
  rotate_left
  ·simp only [Act.put, List.setIfInBounds_toArray, List.set_cons_zero, List.set_cons_succ, i64_w, i32_w]
   rfl
  refine take_ (i := 0) (N := some 25) (v := ?_) (a' := ?_) #[true, true, false, false, true, false, false, false] rfl rfl (take_ofW HT_.out HW_.out (by kernel_rfl)) (fun _ _ _ h => h) (Or.inl ⟨by rfl, ?_⟩) hHeld ?_ ?_
  rotate_left
  ·rintro w' ⟨s0, s1, s2, s3, s4, s5⟩
   go_simp
   with_reducible rfl
  rotate_left
  ·simp only [Act.put, List.setIfInBounds_toArray, List.set_cons_zero, List.set_cons_succ, i64_w, i32_w]
   rfl
  refine take_ (i := 3) (N := some 28) (v := ?_) (a' := ?_) #[true, true, false, true, true, false, false, false] rfl rfl (take_ofW HT_.out HW_.out (by kernel_rfl)) (fun _ _ _ h => h) (Or.inl ⟨by rfl, ?_⟩) hHeld ?_ ?_
  rotate_left
  ·rintro w' ⟨s0, s1, s2, s3, s4, s5⟩
   go_simp
   with_reducible rfl
  rotate_left
  ·simp only [Act.put, List.setIfInBounds_toArray, List.set_cons_zero, List.set_cons_succ, i64_w, i32_w]
   rfl
  refine one_ (i := 2) (N := some 27) #[true, true, true, true, true, false, false, false] rfl rfl (one_of HT_.out (by kernel_rfl)) (by decide) (fun K hK => ?_)
  refine goes_ Tryd.func65 (by kernel_rfl) rfl #[.agg #[.bool a0_0, .string a0_1, .string a0_2], .int .i64 ji7] (by rfl) rfl rfl (by (try simp only [List.map_toArray, List.map_cons, List.map_nil]); first | done | (simp only [hji7]; rfl) | rfl | (simp only [List.length_drop, List.length_take]; rfl)) ?_
  with_reducible refine (idiomref02_raised.calls k a0_0 a0_1 a0_2 ji7 t603 _ A8.out).mono ?_
  rintro e w24 ⟨rfl, hb⟩
  refine ⟨_, rfl, ?_⟩
  have n0_ := Aside0.mk (Kd.R_below (by (with_reducible repeat (first | apply Kd.R_alloc | apply Kd.R_drewN | apply Kd.R_drew)); exact HO601.out) hb)
  have n1_ := Aside0.mk (blk_below (g := gb595) (o := .cells #[.bool a0_0, .string a0_1, .string a0_2] 23 (0, 0)) BK595.out hb)
  have n2_ := Aside0.mk (blk_below (g := gb596) (o := .cells #[.bool a1_0, .string a1_1, .string a1_2] 23 (0, 0)) BK596.out hb)
  have n3_ := Aside0.mk (below_step HB.out hb)
  clear HO601
  clear BK595
  clear BK596
  clear HB
  have HO601 := n0_
  have BK595 := n1_
  have BK596 := n2_
  have HB := n3_
  clear n0_ n1_ n2_ n3_
  (try clear hb)
  (try clear hb2)
  (try clear hk)
  (try clear hi)
  refine hK.out _ _ ⟨(blk_cell BK595.out 0).trans rfl, (blk_cell BK595.out 1).trans rfl, (blk_cell BK595.out 2).trans rfl, (blk_cell BK596.out 0).trans rfl, (blk_cell BK596.out 1).trans rfl, (blk_cell BK596.out 2).trans rfl⟩ (fun hHeld => ?_)
  clear hK K
  refine norm_ (a' := ?_) ?_ ?_
  rotate_left
  ·show Act.put _ (some 27) _ = _
   simp only [Act.put, List.setIfInBounds_toArray, List.set_cons_zero, List.set_cons_succ, i64_w, i32_w]
   rfl
  refine one_ (i := 5) (N := some 30) #[true, true, true, true, true, true, false, false] rfl rfl (one_of HT_.out (by kernel_rfl)) (by decide) (fun K hK => ?_)
  refine goes_ Tryd.func65 (by kernel_rfl) rfl #[.agg #[.bool a1_0, .string a1_1, .string a1_2], .int .i64 ji7] (by rfl) rfl rfl (by (try simp only [List.map_toArray, List.map_cons, List.map_nil]); first | done | (simp only [hji7]; rfl) | rfl | (simp only [List.length_drop, List.length_take]; rfl)) ?_
  with_reducible refine (idiomref02_raised.calls k a1_0 a1_1 a1_2 ji7 t604 _ A9.out).mono ?_
  rintro e w25 ⟨rfl, hb⟩
  refine ⟨_, rfl, ?_⟩
  have n0_ := Aside0.mk (Kd.R_below (by (with_reducible repeat (first | apply Kd.R_alloc | apply Kd.R_drewN | apply Kd.R_drew)); exact HO601.out) hb)
  have n1_ := Aside0.mk (blk_below (g := gb595) (o := .cells #[.bool a0_0, .string a0_1, .string a0_2] 23 (0, 0)) BK595.out hb)
  have n2_ := Aside0.mk (blk_below (g := gb596) (o := .cells #[.bool a1_0, .string a1_1, .string a1_2] 23 (0, 0)) BK596.out hb)
  have n3_ := Aside0.mk (below_step HB.out hb)
  clear HO601
  clear BK595
  clear BK596
  clear HB
  have HO601 := n0_
  have BK595 := n1_
  have BK596 := n2_
  have HB := n3_
  clear n0_ n1_ n2_ n3_
  (try clear hb)
  (try clear hb2)
  (try clear hk)
  (try clear hi)
  refine hK.out _ _ ⟨(blk_cell BK595.out 0).trans rfl, (blk_cell BK595.out 1).trans rfl, (blk_cell BK595.out 2).trans rfl, (blk_cell BK596.out 0).trans rfl, (blk_cell BK596.out 1).trans rfl, (blk_cell BK596.out 2).trans rfl⟩ (fun hHeld => ?_)
  clear hK K
  refine norm_ (a' := ?_) ?_ ?_
  rotate_left
  ·show Act.put _ (some 30) _ = _
   simp only [Act.put, List.setIfInBounds_toArray, List.set_cons_zero, List.set_cons_succ, i64_w, i32_w]
   rfl
  refine one_ (i := 6) (N := some 31) #[true, true, true, true, true, true, true, false] rfl rfl (one_of HT_.out (by kernel_rfl)) (by decide) (fun K hK => ?_)
  refine goes_ Tryd.func64 (by kernel_rfl) rfl #[.string t603, .string t604] (by rfl) rfl rfl (by (try simp only [List.map_toArray, List.map_cons, List.map_nil]); first | done | rfl | (simp only [List.length_drop, List.length_take]; rfl)) ?_
  with_reducible refine (idiomref02_Cmp.calls k t603 t604 t605 _ A10.out).mono ?_
  rintro e w' ⟨rfl, ⟨nd, rfl⟩⟩
  refine ⟨_, rfl, ?_⟩
  refine hK.out _ _ ⟨(blk_cell BK595.out 0).trans rfl, (blk_cell BK595.out 1).trans rfl, (blk_cell BK595.out 2).trans rfl, (blk_cell BK596.out 0).trans rfl, (blk_cell BK596.out 1).trans rfl, (blk_cell BK596.out 2).trans rfl⟩ (fun hHeld => ?_)
  clear hK K
  refine norm_ (a' := ?_) ?_ ?_
  rotate_left
  ·show Act.put _ (some 31) _ = _
   simp only [Act.put, List.setIfInBounds_toArray, List.set_cons_zero, List.set_cons_succ, i64_w, i32_w]
   rfl
  refine pure_ (i := 7) (N := some 8) (v := ?_) (a' := ?_) #[true, true, true, true, true, true, true, true] rfl rfl (any_of HT_.out (by kernel_rfl)) (fun _ _ _ h => h) (Or.inl ⟨by rfl, ?_⟩) ?_ ?_
  rotate_left
  ·intro w'
   go_simp
   with_reducible rfl
  rotate_left
  ·simp only [Act.put, List.setIfInBounds_toArray, List.set_cons_zero, List.set_cons_succ, i64_w, i32_w]
   rfl
  refine done_ (done_of HT_.out (by kernel_rfl)) ?_
  go_upto_region 6 with (fail)
  go_cut [32] (fun v32 wc => ∃ (kq : Nat) (x32_10 : Bool), v32 = .bool x32_10 ∧ Aside0 (idiomref02_Compare.j0 kq t605 x32_10 a0_0 a0_1 a0_2 a1_0 a1_1 a1_2 = some (r1, r2)) ∧ Aside0 (kq ≤ k) ∧ Aside0 (wc.heap[gb595]? = some (.cells #[.bool a0_0, .string a0_1, .string a0_2] 23 (0, 0))) ∧ Aside0 (wc.heap[gb596]? = some (.cells #[.bool a1_0, .string a1_1, .string a1_2] 23 (0, 0))) ∧ Aside0 (Below w.heap.size w wc))
  case first =>
   have H := HC11.out
   clear HC11
   by_cases c26 : a0_0 = true
   ·subst c26
    have H1 : (idiomref02_Compare.j0 k t605 a1_0 true a0_1 a0_2 a1_0 a1_1 a1_2) = some (r1, r2) := by rw [if_pos rfl] at H; exact H
    clear H
    have H := H1
    clear H1
    have H' := Aside0.mk H
    clear H
    have hnb27 := NB595_596.out
    have hnc27 := NB596_595.out
    have hcz28_0 : w25.cell? ⟨gb595, 0, none⟩ = some (.bool true) := (blk_cell BK595.out 0).trans rfl
    have hcz28_1 : w25.cell? ⟨gb595, 1, none⟩ = some (.string a0_1) := (blk_cell BK595.out 1).trans rfl
    have hcz28_2 : w25.cell? ⟨gb595, 2, none⟩ = some (.string a0_2) := (blk_cell BK595.out 2).trans rfl
    have hfz28_0 := blk_frozen BK595.out 0
    have hfz28_1 := blk_frozen BK595.out 1
    have hfz28_2 := blk_frozen BK595.out 2
    have hcz29_0 : w25.cell? ⟨gb596, 0, none⟩ = some (.bool a1_0) := (blk_cell BK596.out 0).trans rfl
    have hcz29_1 : w25.cell? ⟨gb596, 1, none⟩ = some (.string a1_1) := (blk_cell BK596.out 1).trans rfl
    have hcz29_2 : w25.cell? ⟨gb596, 2, none⟩ = some (.string a1_2) := (blk_cell BK596.out 2).trans rfl
    have hfz29_0 := blk_frozen BK596.out 0
    have hfz29_1 := blk_frozen BK596.out 1
    have hfz29_2 := blk_frozen BK596.out 2
    go_wp2
    go_meet
    case rel => exact ⟨_, (a1_0), (by first | rfl | (simp; done) | (simp [*]; done)), H', ⟨by first | omega | exact Nat.le_refl _⟩, ⟨by (with_reducible repeat (first | refine blk_drewN ?_ _ | refine blk_drew ?_ | refine blk_alloc ?_ _)); exact BK595.out⟩, ⟨by (with_reducible repeat (first | refine blk_drewN ?_ _ | refine blk_drew ?_ | refine blk_alloc ?_ _)); exact BK596.out⟩, ⟨by repeat (first | (with_reducible first | exact HB.out | apply below_alloc | apply pw_below_drewN | apply below_drew1 | refine below_set ?_ GE595.out | refine below_set ?_ GE596.out) | exact HB.out)⟩⟩
   ·replace c26 := Bool.eq_false_iff.mpr c26
    subst c26
    have H1 : (idiomref02_Compare.j0 k t605 false false a0_1 a0_2 a1_0 a1_1 a1_2) = some (r1, r2) := by rw [if_neg (show ¬ (false = true) by decide)] at H; exact H
    clear H
    have H := H1
    clear H1
    have H' := Aside0.mk H
    clear H
    have hnb30 := NB595_596.out
    have hnc30 := NB596_595.out
    have hcz31_0 : w25.cell? ⟨gb595, 0, none⟩ = some (.bool false) := (blk_cell BK595.out 0).trans rfl
    have hcz31_1 : w25.cell? ⟨gb595, 1, none⟩ = some (.string a0_1) := (blk_cell BK595.out 1).trans rfl
    have hcz31_2 : w25.cell? ⟨gb595, 2, none⟩ = some (.string a0_2) := (blk_cell BK595.out 2).trans rfl
    have hfz31_0 := blk_frozen BK595.out 0
    have hfz31_1 := blk_frozen BK595.out 1
    have hfz31_2 := blk_frozen BK595.out 2
    go_wp2
    go_meet
    case rel => exact ⟨_, (false), (by first | rfl | (simp; done) | (simp [*]; done)), H', ⟨by first | omega | exact Nat.le_refl _⟩, ⟨by (with_reducible repeat (first | refine blk_drewN ?_ _ | refine blk_drew ?_ | refine blk_alloc ?_ _)); exact BK595.out⟩, ⟨by (with_reducible repeat (first | refine blk_drewN ?_ _ | refine blk_drew ?_ | refine blk_alloc ?_ _)); exact BK596.out⟩, ⟨by repeat (first | (with_reducible first | exact HB.out | apply below_alloc | apply pw_below_drewN | apply below_drew1 | refine below_set ?_ GE595.out | refine below_set ?_ GE596.out) | exact HB.out)⟩⟩
  case rest =>
   clear HC11
   try clear c1
   try clear c2
   try clear p2
   try clear c3
   try clear c6
   try clear c6b0
   try clear c6b1
   try clear c18
   try clear c20
   try clear c26
   try clear c27
   try clear c30
   try clear c31
   try clear hcz21_0
   try clear hcz21_1
   try clear hcz21_2
   try clear hcz22_0
   try clear hcz22_1
   try clear hcz22_2
   try clear hcz28_0
   try clear hcz28_1
   try clear hcz28_2
   try clear hcz29_0
   try clear hcz29_1
   try clear hcz29_2
   try clear hcz31_0
   try clear hcz31_1
   try clear hcz31_2
   try clear hfz21_0
   try clear hfz21_1
   try clear hfz21_2
   try clear hfz22_0
   try clear hfz22_1
   try clear hfz22_2
   try clear hfz28_0
   try clear hfz28_1
   try clear hfz28_2
   try clear hfz29_0
   try clear hfz29_1
   try clear hfz29_2
   try clear hfz31_0
   try clear hfz31_1
   try clear hfz31_2
   obtain ⟨kq, x32_10, rfl, HA, HJ10, BK595, BK596, HB⟩ := hcut
   cases kq with
   | zero => exact absurd HA.out (by simp [idiomref02_Compare.j0])
   | succ kj10 =>
    have H := HA.out
    clear HA
    simp only [idiomref02_Compare.j0] at H
    by_cases c32 : x32_10 = true
    ·subst c32
     have H1 : (some (wrap64 (-t605), 0)) = some (r1, r2) := by rw [if_pos rfl] at H; exact H
     clear H
     have H := H1
     clear H1
     simp only [Option.some.injEq, Prod.mk.injEq] at H
     obtain ⟨rfl, rfl⟩ := H
     go_wp2
     go_ret2
     exact ⟨by first | rfl | (simp [errW_none, errW_some] <;> rfl) | (simp only [← hji7]; first | rfl | (simp [errW_none, errW_some] <;> rfl)) | (simp [*, errW_none, errW_some] <;> rfl) | (simp [bne_nil_]; done), by repeat (first | (with_reducible first | exact HB.out | apply below_alloc | apply pw_below_drewN | apply below_drew1 | refine below_set ?_ GE595.out | refine below_set ?_ GE596.out) | exact HB.out)⟩
    ·replace c32 := Bool.eq_false_iff.mpr c32
     subst c32
     have H1 : (if a0_0 = true then (some ((-1), 0)) else (if a1_0 = true then (some (1, 0)) else (some (t605, 0)))) = some (r1, r2) := by rw [if_neg (show ¬ (false = true) by decide)] at H; exact H
     clear H
     have H := H1
     clear H1
     by_cases c33 : a0_0 = true
     ·subst c33
      have H1 : (some ((-1), 0)) = some (r1, r2) := by rw [if_pos rfl] at H; exact H
      clear H
      have H := H1
      clear H1
      simp only [Option.some.injEq, Prod.mk.injEq] at H
      obtain ⟨rfl, rfl⟩ := H
      have hnb34 := NB595_596.out
      have hnc34 := NB596_595.out
      have hcz35_0 : wc.cell? ⟨gb595, 0, none⟩ = some (.bool true) := (blk_cell BK595.out 0).trans rfl
      have hcz35_1 : wc.cell? ⟨gb595, 1, none⟩ = some (.string a0_1) := (blk_cell BK595.out 1).trans rfl
      have hcz35_2 : wc.cell? ⟨gb595, 2, none⟩ = some (.string a0_2) := (blk_cell BK595.out 2).trans rfl
      have hfz35_0 := blk_frozen BK595.out 0
      have hfz35_1 := blk_frozen BK595.out 1
      have hfz35_2 := blk_frozen BK595.out 2
      go_wp2
      go_ret2
      exact ⟨by first | rfl | (simp [errW_none, errW_some] <;> rfl) | (simp only [← hji7]; first | rfl | (simp [errW_none, errW_some] <;> rfl)) | (simp [*, errW_none, errW_some] <;> rfl) | (simp [bne_nil_]; done), by repeat (first | (with_reducible first | exact HB.out | apply below_alloc | apply pw_below_drewN | apply below_drew1 | refine below_set ?_ GE595.out | refine below_set ?_ GE596.out) | exact HB.out)⟩
     ·replace c33 := Bool.eq_false_iff.mpr c33
      subst c33
      have H1 : (if a1_0 = true then (some (1, 0)) else (some (t605, 0))) = some (r1, r2) := by rw [if_neg (show ¬ (false = true) by decide)] at H; exact H
      clear H
      have H := H1
      clear H1
      by_cases c36 : a1_0 = true
      ·subst c36
       have H1 : (some (1, 0)) = some (r1, r2) := by rw [if_pos rfl] at H; exact H
       clear H
       have H := H1
       clear H1
       simp only [Option.some.injEq, Prod.mk.injEq] at H
       obtain ⟨rfl, rfl⟩ := H
       have hnb37 := NB595_596.out
       have hnc37 := NB596_595.out
       have hcz38_0 : wc.cell? ⟨gb595, 0, none⟩ = some (.bool false) := (blk_cell BK595.out 0).trans rfl
       have hcz38_1 : wc.cell? ⟨gb595, 1, none⟩ = some (.string a0_1) := (blk_cell BK595.out 1).trans rfl
       have hcz38_2 : wc.cell? ⟨gb595, 2, none⟩ = some (.string a0_2) := (blk_cell BK595.out 2).trans rfl
       have hfz38_0 := blk_frozen BK595.out 0
       have hfz38_1 := blk_frozen BK595.out 1
       have hfz38_2 := blk_frozen BK595.out 2
       have hcz39_0 : wc.cell? ⟨gb596, 0, none⟩ = some (.bool true) := (blk_cell BK596.out 0).trans rfl
       have hcz39_1 : wc.cell? ⟨gb596, 1, none⟩ = some (.string a1_1) := (blk_cell BK596.out 1).trans rfl
       have hcz39_2 : wc.cell? ⟨gb596, 2, none⟩ = some (.string a1_2) := (blk_cell BK596.out 2).trans rfl
       have hfz39_0 := blk_frozen BK596.out 0
       have hfz39_1 := blk_frozen BK596.out 1
       have hfz39_2 := blk_frozen BK596.out 2
       go_wp2
       go_ret2
       exact ⟨by first | rfl | (simp [errW_none, errW_some] <;> rfl) | (simp only [← hji7]; first | rfl | (simp [errW_none, errW_some] <;> rfl)) | (simp [*, errW_none, errW_some] <;> rfl) | (simp [bne_nil_]; done), by repeat (first | (with_reducible first | exact HB.out | apply below_alloc | apply pw_below_drewN | apply below_drew1 | refine below_set ?_ GE595.out | refine below_set ?_ GE596.out) | exact HB.out)⟩
      ·replace c36 := Bool.eq_false_iff.mpr c36
       subst c36
       have H1 : (some (t605, 0)) = some (r1, r2) := by rw [if_neg (show ¬ (false = true) by decide)] at H; exact H
       clear H
       have H := H1
       clear H1
       simp only [Option.some.injEq, Prod.mk.injEq] at H
       obtain ⟨rfl, rfl⟩ := H
       have hnb40 := NB595_596.out
       have hnc40 := NB596_595.out
       have hcz41_0 : wc.cell? ⟨gb595, 0, none⟩ = some (.bool false) := (blk_cell BK595.out 0).trans rfl
       have hcz41_1 : wc.cell? ⟨gb595, 1, none⟩ = some (.string a0_1) := (blk_cell BK595.out 1).trans rfl
       have hcz41_2 : wc.cell? ⟨gb595, 2, none⟩ = some (.string a0_2) := (blk_cell BK595.out 2).trans rfl
       have hfz41_0 := blk_frozen BK595.out 0
       have hfz41_1 := blk_frozen BK595.out 1
       have hfz41_2 := blk_frozen BK595.out 2
       have hcz42_0 : wc.cell? ⟨gb596, 0, none⟩ = some (.bool false) := (blk_cell BK596.out 0).trans rfl
       have hcz42_1 : wc.cell? ⟨gb596, 1, none⟩ = some (.string a1_1) := (blk_cell BK596.out 1).trans rfl
       have hcz42_2 : wc.cell? ⟨gb596, 2, none⟩ = some (.string a1_2) := (blk_cell BK596.out 2).trans rfl
       have hfz42_0 := blk_frozen BK596.out 0
       have hfz42_1 := blk_frozen BK596.out 1
       have hfz42_2 := blk_frozen BK596.out 2
       go_wp2
       go_ret2
       exact ⟨by first | rfl | (simp [errW_none, errW_some] <;> rfl) | (simp only [← hji7]; first | rfl | (simp [errW_none, errW_some] <;> rfl)) | (simp [*, errW_none, errW_some] <;> rfl) | (simp [bne_nil_]; done), by repeat (first | (with_reducible first | exact HB.out | apply below_alloc | apply pw_below_drewN | apply below_drew1 | refine below_set ?_ GE595.out | refine below_set ?_ GE596.out) | exact HB.out)⟩
 ·rw [if_neg c6] at H
  have c6b0 : (t602 == 0) = false := beq_eq_false_iff_ne.mpr c6
  have c6b1 : (t602 != 0) = true := bne_iff_ne.mpr c6
  simp only [Option.some.injEq, Prod.mk.injEq] at H
  obtain ⟨rfl, rfl⟩ := H
  go_enter Tryd.func31, Tryd.ntmps31
  try go_wp2_with (first | ((with_reducible refine gate_dst (N := 2) rfl ?_); refine box_event ?hg (N := 2) ?hd (cs := #[.bool a0_0, .string a0_1, .string a0_2]) (t := 23) ?hr ?_; (case hd => rfl); (case hg => rfl); (case hr => first | (go_simp; done) | (go_simp; rfl)); intro gb595 hg w43 hbox hb; have n0_ := Aside0.mk (below_step HB.out hb); have n1_ := Aside0.mk (hbox); have n2_ := Aside0.mk ((by rw [hg]; exact (below_size HB.out) : w.heap.size ≤ gb595)); have n3_ := Aside0.mk ((by rw [hg]; exact (below_size HB.out) : w.heap.size ≤ gb595)); clear HB; have HB := n0_; have BK595 := n1_; have GW595 := n2_; have GE595 := n3_; clear n0_ n1_ n2_ n3_; clear hb hbox hg) | ((with_reducible refine gate_dst (N := 3) rfl ?_); refine box_event ?hg (N := 3) ?hd (cs := #[.bool a1_0, .string a1_1, .string a1_2]) (t := 23) ?hr ?_; (case hd => rfl); (case hg => rfl); (case hr => first | (go_simp; done) | (go_simp; rfl)); intro gb596 hg w44 hbox hb; have n0_ := Aside0.mk (blk_below (g := gb595) (o := .cells #[.bool a0_0, .string a0_1, .string a0_2] 23 (0, 0)) BK595.out hb); have n1_ := Aside0.mk (below_step HB.out hb); have n2_ := Aside0.mk (hbox); have n3_ := Aside0.mk ((by rw [hg]; exact (below_size HB.out) : w.heap.size ≤ gb596)); have n4_ := Aside0.mk ((by rw [hg]; exact (below_size HB.out) : w.heap.size ≤ gb596)); have n5_ := Aside0.mk ((by rw [hg]; exact Nat.ne_of_lt (blk_lt (g := gb595) (o := .cells #[.bool a0_0, .string a0_1, .string a0_2] 23 (0, 0)) BK595.out) : gb595 ≠ gb596)); have n6_ := Aside0.mk ((by rw [hg]; exact Nat.ne_of_gt (blk_lt (g := gb595) (o := .cells #[.bool a0_0, .string a0_1, .string a0_2] 23 (0, 0)) BK595.out) : gb596 ≠ gb595)); clear BK595; clear HB; have BK595 := n0_; have HB := n1_; have BK596 := n2_; have GW596 := n3_; have GE596 := n4_; have NB595_596 := n5_; have NB596_595 := n6_; clear n0_ n1_ n2_ n3_ n4_ n5_ n6_; clear hb hbox hg))
  have n0_ := Aside0.mk (blk_drew BK595.out)
  have n1_ := Aside0.mk (blk_drew BK596.out)
  have n2_ := Aside0.mk (below_drew1 HB.out)
  clear BK595
  clear BK596
  clear HB
  have BK595 := n0_
  have BK596 := n1_
  have HB := n2_
  clear n0_ n1_ n2_
  refine start_ (n := 7) (S := fun w' => w'.cell? ⟨gb595, 0, none⟩ = some (.bool a0_0) ∧ w'.cell? ⟨gb595, 1, none⟩ = some (.string a0_1) ∧ w'.cell? ⟨gb595, 2, none⟩ = some (.string a0_2) ∧ w'.cell? ⟨gb596, 0, none⟩ = some (.bool a1_0) ∧ w'.cell? ⟨gb596, 1, none⟩ = some (.string a1_1) ∧ w'.cell? ⟨gb596, 2, none⟩ = some (.string a1_2)) (ds := []) #[false, false, false, false, false, false, false] (by kernel_rfl) rfl rfl ⟨(blk_cell BK595.out 0).trans rfl, (blk_cell BK595.out 1).trans rfl, (blk_cell BK595.out 2).trans rfl, (blk_cell BK596.out 0).trans rfl, (blk_cell BK596.out 1).trans rfl, (blk_cell BK596.out 2).trans rfl⟩ (fun hHeld => ?_)
  generalize w44.drew = w45 at BK595 BK596 HB hHeld ⊢
  refine take_ (i := 0) (N := some 9) (v := ?_) (a' := ?_) #[true, false, false, false, false, false, false] rfl rfl (by kernel_rfl) (fun _ _ _ h => h) (Or.inl ⟨by rfl, ?_⟩) hHeld ?_ ?_
  rotate_left
  ·rintro w' ⟨s0, s1, s2, s3, s4, s5⟩
   go_simp
   with_reducible rfl
  rotate_left
  ·simp only [Act.put, List.setIfInBounds_toArray, List.set_cons_zero, List.set_cons_succ, i64_w, i32_w]
   rfl
  refine take_ (i := 2) (N := some 11) (v := ?_) (a' := ?_) #[true, false, true, false, false, false, false] rfl rfl (by kernel_rfl) (fun _ _ _ h => h) (Or.inl ⟨by rfl, ?_⟩) hHeld ?_ ?_
  rotate_left
  ·rintro w' ⟨s0, s1, s2, s3, s4, s5⟩
   go_simp
   with_reducible rfl
  rotate_left
  ·simp only [Act.put, List.setIfInBounds_toArray, List.set_cons_zero, List.set_cons_succ, i64_w, i32_w]
   rfl
  refine one_ (i := 1) (N := some 10) #[true, true, true, false, false, false, false] rfl rfl (by kernel_rfl) (by decide) (fun K hK => ?_)
  refine goes_ Tryd.func18 (by kernel_rfl) rfl #[.agg #[.bool a0_0, .string a0_1, .string a0_2]] (by rfl) rfl rfl (by (try simp only [List.map_toArray, List.map_cons, List.map_nil]); first | done | rfl | (simp only [List.length_drop, List.length_take]; rfl)) ?_
  with_reducible refine (idiomref02_Check.calls k a0_0 a0_1 a0_2 t597 _ A3.out).mono ?_
  rintro e w46 ⟨rfl, hb⟩
  refine ⟨_, rfl, ?_⟩
  have n0_ := Aside0.mk (blk_below (g := gb595) (o := .cells #[.bool a0_0, .string a0_1, .string a0_2] 23 (0, 0)) BK595.out hb)
  have n1_ := Aside0.mk (blk_below (g := gb596) (o := .cells #[.bool a1_0, .string a1_1, .string a1_2] 23 (0, 0)) BK596.out hb)
  have n2_ := Aside0.mk (below_step HB.out hb)
  clear BK595
  clear BK596
  clear HB
  have BK595 := n0_
  have BK596 := n1_
  have HB := n2_
  clear n0_ n1_ n2_
  (try clear hb)
  (try clear hb2)
  (try clear hk)
  (try clear hi)
  refine hK.out _ _ ⟨(blk_cell BK595.out 0).trans rfl, (blk_cell BK595.out 1).trans rfl, (blk_cell BK595.out 2).trans rfl, (blk_cell BK596.out 0).trans rfl, (blk_cell BK596.out 1).trans rfl, (blk_cell BK596.out 2).trans rfl⟩ (fun hHeld => ?_)
  clear hK K
  refine norm_ (a' := ?_) ?_ ?_
  rotate_left
  ·show Act.put _ (some 10) _ = _
   simp only [Act.put, List.setIfInBounds_toArray, List.set_cons_zero, List.set_cons_succ, i64_w, i32_w]
   rfl
  refine one_ (i := 3) (N := some 12) #[true, true, true, true, false, false, false] rfl rfl (by kernel_rfl) (by decide) (fun K hK => ?_)
  refine goes_ Tryd.func18 (by kernel_rfl) rfl #[.agg #[.bool a1_0, .string a1_1, .string a1_2]] (by rfl) rfl rfl (by (try simp only [List.map_toArray, List.map_cons, List.map_nil]); first | done | rfl | (simp only [List.length_drop, List.length_take]; rfl)) ?_
  with_reducible refine (idiomref02_Check.calls k a1_0 a1_1 a1_2 t598 _ A4.out).mono ?_
  rintro e w47 ⟨rfl, hb⟩
  refine ⟨_, rfl, ?_⟩
  have n0_ := Aside0.mk (blk_below (g := gb595) (o := .cells #[.bool a0_0, .string a0_1, .string a0_2] 23 (0, 0)) BK595.out hb)
  have n1_ := Aside0.mk (blk_below (g := gb596) (o := .cells #[.bool a1_0, .string a1_1, .string a1_2] 23 (0, 0)) BK596.out hb)
  have n2_ := Aside0.mk (below_step HB.out hb)
  clear BK595
  clear BK596
  clear HB
  have BK595 := n0_
  have BK596 := n1_
  have HB := n2_
  clear n0_ n1_ n2_
  (try clear hb)
  (try clear hb2)
  (try clear hk)
  (try clear hi)
  refine hK.out _ _ ⟨(blk_cell BK595.out 0).trans rfl, (blk_cell BK595.out 1).trans rfl, (blk_cell BK595.out 2).trans rfl, (blk_cell BK596.out 0).trans rfl, (blk_cell BK596.out 1).trans rfl, (blk_cell BK596.out 2).trans rfl⟩ (fun hHeld => ?_)
  clear hK K
  refine norm_ (a' := ?_) ?_ ?_
  rotate_left
  ·show Act.put _ (some 12) _ = _
   simp only [Act.put, List.setIfInBounds_toArray, List.set_cons_zero, List.set_cons_succ, i64_w, i32_w]
   rfl
  refine one_ (i := 4) (N := some 13) #[true, true, true, true, true, false, false] rfl rfl (by kernel_rfl) (by decide) (fun K hK => ?_)
  refine Kd.R_lit_step (Kd.int .i64) _ 24 ?hg (N := 13) ?hd (xs := ([t597, t598] : List Int)) (inner := [.int .i64 t597, .int .i64 t598]) (ok := fun _ => True) (okp := fun _ => True) ?hr ?hp (fun _ hk => hk) trivial (Below.refl _ _) (Nat.le_refl _) (by simp) ?_; (case hd => rfl); (case hg => rfl); (case hr => first | (go_simp; done) | (go_simp; rfl)); (case hp => exact (Reps.one (show Kd.M (Kd.int .i64) _ _ _ t597 [.int .i64 t597] from rfl) (Reps.one (show Kd.M (Kd.int .i64) _ _ _ t598 [.int .i64 t598] from rfl) (Reps.none _ _))))
  intro v600 w48 ho49 hb hg_ hnew_
  clear hg_ hnew_
  (first | rw [← Ny599.out] at ho49 | (simp only [Int.reduceToNat] at ho49; rw [← Ny599.out] at ho49))
  have n0_ := Aside0.mk (Kd.R_lower ho49 (below_size HB.out))
  have n1_ := Aside0.mk (blk_below (g := gb595) (o := .cells #[.bool a0_0, .string a0_1, .string a0_2] 23 (0, 0)) BK595.out hb)
  have n2_ := Aside0.mk (blk_below (g := gb596) (o := .cells #[.bool a1_0, .string a1_1, .string a1_2] 23 (0, 0)) BK596.out hb)
  have n3_ := Aside0.mk (below_step HB.out hb)
  clear BK595
  clear BK596
  clear HB
  have HO601 := n0_
  have BK595 := n1_
  have BK596 := n2_
  have HB := n3_
  clear n0_ n1_ n2_ n3_
  clear hb ho49
  obtain ⟨Ao50, co50, eo50⟩ := Kd.R_slice HO601.out
  (first | subst eo50 | (injection eo50 with f1_ f2_ f3_; have f4_ := f1_.symm; have f5_ := f3_.symm; clear f1_ f2_ f3_; subst f4_; subst f5_))
  refine hK.out _ _ ⟨(blk_cell BK595.out 0).trans rfl, (blk_cell BK595.out 1).trans rfl, (blk_cell BK595.out 2).trans rfl, (blk_cell BK596.out 0).trans rfl, (blk_cell BK596.out 1).trans rfl, (blk_cell BK596.out 2).trans rfl⟩ (fun hHeld => ?_)
  clear hK K
  refine norm_ (a' := ?_) ?_ ?_
  rotate_left
  ·show Act.put _ (some 13) _ = _
   simp only [Act.put, List.setIfInBounds_toArray, List.set_cons_zero, List.set_cons_succ, i64_w, i32_w]
   rfl
  refine one_ (i := 5) (N := some 14) #[true, true, true, true, true, true, false] rfl rfl (by kernel_rfl) (by decide) (fun K hK => ?_)
  refine goes_ Tryd.func63 (by kernel_rfl) rfl #[.slice Ao50 y599.length co50] (by rfl) rfl rfl (by (try simp only [List.map_toArray, List.map_cons, List.map_nil]); first | done | rfl | (simp only [List.length_drop, List.length_take]; rfl)) ?_
  with_reducible refine (idiomref02_First.calls k _ _ y599 t602 _ ?side1 ?side2 A5.out).mono ?_
  (case side1 => repeat (first | exact (Kd.R_reads' HO601.out).2.2 | (with_reducible refine Kd.C_alloc ?_ _) | (with_reducible refine Kd.C_drewN ?_ _) | (with_reducible refine Kd.C_drew ?_)))
  (case side2 => exact (Kd.R_reads' HO601.out).2.1)
  rintro e w' ⟨rfl, ⟨nd, rfl⟩⟩
  refine ⟨_, rfl, ?_⟩
  refine hK.out _ _ ⟨(blk_cell BK595.out 0).trans rfl, (blk_cell BK595.out 1).trans rfl, (blk_cell BK595.out 2).trans rfl, (blk_cell BK596.out 0).trans rfl, (blk_cell BK596.out 1).trans rfl, (blk_cell BK596.out 2).trans rfl⟩ (fun hHeld => ?_)
  clear hK K
  refine norm_ (a' := ?_) ?_ ?_
  rotate_left
  ·show Act.put _ (some 14) _ = _
   simp only [Act.put, List.setIfInBounds_toArray, List.set_cons_zero, List.set_cons_succ, i64_w, i32_w]
   rfl
  refine pure_ (i := 6) (N := some 6) (v := ?_) (a' := ?_) #[true, true, true, true, true, true, true] rfl rfl (by kernel_rfl) (fun _ _ _ h => h) (Or.inl ⟨by rfl, ?_⟩) ?_ ?_
  rotate_left
  ·intro w'
   go_simp
   with_reducible rfl
  rotate_left
  ·simp only [Act.put, List.setIfInBounds_toArray, List.set_cons_zero, List.set_cons_succ, i64_w, i32_w]
   rfl
  refine done_ (by kernel_rfl) ?_
  try go_wp2
  go_ret2
  exact ⟨by first | rfl | (simp [errW_none, errW_some] <;> rfl) | (simp [*, errW_none, errW_some] <;> rfl) | (simp [bne_nil_]; done), by repeat (first | (with_reducible first | exact HB.out | apply below_alloc | apply pw_below_drewN | apply below_drew1 | refine below_set ?_ GE595.out | refine below_set ?_ GE596.out) | exact HB.out)⟩
end Go.Proofs.YtapbdblpdkoacaaDoor.P
namespace Go.Proofs.YtapbdblpdkoacaaDoor.P
open Go.RowKit Go.Proofs.YtapbdblpdkoacaaDoorW.PrintWords Go.Proofs.YtapbdblpdkoacaaDoorW.PrintLast Go.Proofs.YtapbdblpdkoacaaDoorW.PrintMore
attribute [local go_sem] max2_int max_two
set_option linter.unusedVariables false
set_option linter.unusedSimpArgs false
def idiomref02_Add.f (k : Nat) (a0_0 : Bool) (a0_1 : ByteArray) (a0_2 : ByteArray) (a1_0 : Bool) (a1_1 : ByteArray) (a1_2 : ByteArray) : Option (Bool × ByteArray × ByteArray × Int) := (idiomref02_sum.f k a0_0 a0_1 a0_2 a1_0 a1_1 a1_2 false).bind fun bt642 => (some (bt642.1, bt642.2.1, bt642.2.2.1, bt642.2.2.2))
set_option maxHeartbeats 8000000 in
set_option maxRecDepth 100000 in
theorem idiomref02_Add.calls (k : Nat) (a0_0 : Bool) (a0_1 : ByteArray) (a0_2 : ByteArray) (a1_0 : Bool) (a1_1 : ByteArray) (a1_2 : ByteArray) (r1 : Bool) (r2 : ByteArray) (r3 : ByteArray) (r4 : Int) (w : World) (h : idiomref02_Add.f k a0_0 a0_1 a0_2 a1_0 a1_1 a1_2 = some (r1, r2, r3, r4)) :
    Calls Tryd.prog 33 #[.agg #[.bool a0_0, .string a0_1, .string a0_2], .agg #[.bool a1_0, .string a1_1, .string a1_2]] w fun e w' => e = .returned (.tuple #[.agg #[.bool r1, .string r2, .string r3], .int .i64 r4]) ∧ Below w.heap.size w w' := by
 have hu23 := Tryd.underlying23
 have HB := Aside0.mk (Below.refl w.heap.size w)
 unfold idiomref02_Add.f at h
 have H := h
 clear h
 replace H := Option.bind_eq_some_iff.mp H
 obtain ⟨⟨t642, t643, t644, t645⟩, A30, H⟩ := H
 try dsimp only at H
 have A3 := Aside0.mk A30
 clear A30
 simp only [Option.some.injEq, Prod.mk.injEq] at H
 obtain ⟨rfl, rfl, rfl, rfl⟩ := H
 go_enter Tryd.func33, Tryd.ntmps33
 go_wp2_with (first | ((with_reducible refine gate_dst (N := 2) rfl ?_); refine box_event ?hg (N := 2) ?hd (cs := #[.bool a0_0, .string a0_1, .string a0_2]) (t := 23) ?hr ?_; (case hd => rfl); (case hg => rfl); (case hr => first | (go_simp; done) | (go_simp; rfl)); intro gb639 hg w4 hbox hb; have n0_ := Aside0.mk (below_step (by repeat (first | (with_reducible first | exact HB.out | apply below_alloc | apply pw_below_drewN | apply below_drew1) | exact HB.out)) hb); have n1_ := Aside0.mk (hbox); have n2_ := Aside0.mk ((by rw [hg]; exact (below_size (by repeat (first | (with_reducible first | exact HB.out | apply below_alloc | apply pw_below_drewN | apply below_drew1) | exact HB.out))) : w.heap.size ≤ gb639)); have n3_ := Aside0.mk ((by rw [hg]; exact (below_size (by repeat (first | (with_reducible first | exact HB.out | apply below_alloc | apply pw_below_drewN | apply below_drew1) | exact HB.out))) : w.heap.size ≤ gb639)); clear HB; have HB := n0_; have BK639 := n1_; have GW639 := n2_; have GE639 := n3_; clear n0_ n1_ n2_ n3_; clear hb hbox hg) | ((with_reducible refine gate_dst (N := 3) rfl ?_); refine box_event ?hg (N := 3) ?hd (cs := #[.bool a1_0, .string a1_1, .string a1_2]) (t := 23) ?hr ?_; (case hd => rfl); (case hg => rfl); (case hr => first | (go_simp; done) | (go_simp; rfl)); intro gb640 hg w5 hbox hb; have n0_ := Aside0.mk (blk_below (g := gb639) (o := .cells #[.bool a0_0, .string a0_1, .string a0_2] 23 (0, 0)) (by (with_reducible repeat (first | refine blk_drewN ?_ _ | refine blk_drew ?_ | refine blk_alloc ?_ _)); exact BK639.out) hb); have n1_ := Aside0.mk (below_step (by repeat (first | (with_reducible first | exact HB.out | apply below_alloc | apply pw_below_drewN | apply below_drew1 | refine below_set ?_ GE639.out) | exact HB.out)) hb); have n2_ := Aside0.mk (hbox); have n3_ := Aside0.mk ((by rw [hg]; exact (below_size (by repeat (first | (with_reducible first | exact HB.out | apply below_alloc | apply pw_below_drewN | apply below_drew1 | refine below_set ?_ GE639.out) | exact HB.out))) : w.heap.size ≤ gb640)); have n4_ := Aside0.mk ((by rw [hg]; exact (below_size (by repeat (first | (with_reducible first | exact HB.out | apply below_alloc | apply pw_below_drewN | apply below_drew1 | refine below_set ?_ GE639.out) | exact HB.out))) : w.heap.size ≤ gb640)); have n5_ := Aside0.mk ((by rw [hg]; exact Nat.ne_of_lt (blk_lt (g := gb639) (o := .cells #[.bool a0_0, .string a0_1, .string a0_2] 23 (0, 0)) (by (with_reducible repeat (first | refine blk_drewN ?_ _ | refine blk_drew ?_ | refine blk_alloc ?_ _)); exact BK639.out)) : gb639 ≠ gb640)); have n6_ := Aside0.mk ((by rw [hg]; exact Nat.ne_of_gt (blk_lt (g := gb639) (o := .cells #[.bool a0_0, .string a0_1, .string a0_2] 23 (0, 0)) (by (with_reducible repeat (first | refine blk_drewN ?_ _ | refine blk_drew ?_ | refine blk_alloc ?_ _)); exact BK639.out)) : gb640 ≠ gb639)); clear BK639; clear HB; have BK639 := n0_; have HB := n1_; have BK640 := n2_; have GW640 := n3_; have GE640 := n4_; have NB639_640 := n5_; have NB640_639 := n6_; clear n0_ n1_ n2_ n3_ n4_ n5_ n6_; clear hb hbox hg) | ((with_reducible refine gate_dst (N := 4) rfl ?_); refine box_event ?hg (N := 4) ?hd (cs := #[.bool false, .string (⟨#[]⟩ : ByteArray), .string (⟨#[]⟩ : ByteArray)]) (t := 23) ?hr ?_; (case hd => rfl); (case hg => rfl); (case hr => first | (go_simp; done) | (go_simp; rfl)); intro gb641 hg w6 hbox hb; have n0_ := Aside0.mk (blk_below (g := gb639) (o := .cells #[.bool a0_0, .string a0_1, .string a0_2] 23 (0, 0)) (by (with_reducible repeat (first | refine blk_drewN ?_ _ | refine blk_drew ?_ | refine blk_alloc ?_ _)); exact BK639.out) hb); have n1_ := Aside0.mk (blk_below (g := gb640) (o := .cells #[.bool a1_0, .string a1_1, .string a1_2] 23 (0, 0)) (by (with_reducible repeat (first | refine blk_drewN ?_ _ | refine blk_drew ?_ | refine blk_alloc ?_ _)); exact BK640.out) hb); have n2_ := Aside0.mk (below_step (by repeat (first | (with_reducible first | exact HB.out | apply below_alloc | apply pw_below_drewN | apply below_drew1 | refine below_set ?_ GE639.out | refine below_set ?_ GE640.out) | exact HB.out)) hb); have n3_ := Aside0.mk (hbox); have n4_ := Aside0.mk ((by rw [hg]; exact (below_size (by repeat (first | (with_reducible first | exact HB.out | apply below_alloc | apply pw_below_drewN | apply below_drew1 | refine below_set ?_ GE639.out | refine below_set ?_ GE640.out) | exact HB.out))) : w.heap.size ≤ gb641)); have n5_ := Aside0.mk ((by rw [hg]; exact (below_size (by repeat (first | (with_reducible first | exact HB.out | apply below_alloc | apply pw_below_drewN | apply below_drew1 | refine below_set ?_ GE639.out | refine below_set ?_ GE640.out) | exact HB.out))) : w.heap.size ≤ gb641)); have n6_ := Aside0.mk ((by rw [hg]; exact Nat.ne_of_lt (blk_lt (g := gb639) (o := .cells #[.bool a0_0, .string a0_1, .string a0_2] 23 (0, 0)) (by (with_reducible repeat (first | refine blk_drewN ?_ _ | refine blk_drew ?_ | refine blk_alloc ?_ _)); exact BK639.out)) : gb639 ≠ gb641)); have n7_ := Aside0.mk ((by rw [hg]; exact Nat.ne_of_gt (blk_lt (g := gb639) (o := .cells #[.bool a0_0, .string a0_1, .string a0_2] 23 (0, 0)) (by (with_reducible repeat (first | refine blk_drewN ?_ _ | refine blk_drew ?_ | refine blk_alloc ?_ _)); exact BK639.out)) : gb641 ≠ gb639)); have n8_ := Aside0.mk ((by rw [hg]; exact Nat.ne_of_lt (blk_lt (g := gb640) (o := .cells #[.bool a1_0, .string a1_1, .string a1_2] 23 (0, 0)) (by (with_reducible repeat (first | refine blk_drewN ?_ _ | refine blk_drew ?_ | refine blk_alloc ?_ _)); exact BK640.out)) : gb640 ≠ gb641)); have n9_ := Aside0.mk ((by rw [hg]; exact Nat.ne_of_gt (blk_lt (g := gb640) (o := .cells #[.bool a1_0, .string a1_1, .string a1_2] 23 (0, 0)) (by (with_reducible repeat (first | refine blk_drewN ?_ _ | refine blk_drew ?_ | refine blk_alloc ?_ _)); exact BK640.out)) : gb641 ≠ gb640)); clear BK639; clear BK640; clear HB; have BK639 := n0_; have BK640 := n1_; have HB := n2_; have BK641 := n3_; have GW641 := n4_; have GE641 := n5_; have NB639_641 := n6_; have NB641_639 := n7_; have NB640_641 := n8_; have NB641_640 := n9_; clear n0_ n1_ n2_ n3_ n4_ n5_ n6_ n7_ n8_ n9_; clear hb hbox hg; have hnb7 := NB639_640.out; have hnc7 := NB640_639.out; have hnb8 := NB639_641.out; have hnc8 := NB641_639.out; have hcz9_0 : w6.cell? ⟨gb639, 0, none⟩ = some (.bool a0_0) := (blk_cell BK639.out 0).trans rfl; have hcz9_1 : w6.cell? ⟨gb639, 1, none⟩ = some (.string a0_1) := (blk_cell BK639.out 1).trans rfl; have hcz9_2 : w6.cell? ⟨gb639, 2, none⟩ = some (.string a0_2) := (blk_cell BK639.out 2).trans rfl; have hfz9_0 := blk_frozen BK639.out 0; have hfz9_1 := blk_frozen BK639.out 1; have hfz9_2 := blk_frozen BK639.out 2; have hnb10 := NB640_641.out; have hnc10 := NB641_640.out; have hcz11_0 : w6.cell? ⟨gb640, 0, none⟩ = some (.bool a1_0) := (blk_cell BK640.out 0).trans rfl; have hcz11_1 : w6.cell? ⟨gb640, 1, none⟩ = some (.string a1_1) := (blk_cell BK640.out 1).trans rfl; have hcz11_2 : w6.cell? ⟨gb640, 2, none⟩ = some (.string a1_2) := (blk_cell BK640.out 2).trans rfl; have hfz11_0 := blk_frozen BK640.out 0; have hfz11_1 := blk_frozen BK640.out 1; have hfz11_2 := blk_frozen BK640.out 2) | ((with_reducible refine gate_callee (f := 66) rfl ?_); refine goesL_ (some 8) rfl rfl Tryd.func66 (by kernel_rfl) rfl #[.agg #[.bool a0_0, .string a0_1, .string a0_2], .agg #[.bool a1_0, .string a1_1, .string a1_2], .bool false] rfl (by (try simp only [List.map_toArray, List.map_cons, List.map_nil]); first | done | rfl | (simp only [List.length_drop, List.length_take]; rfl)) ?_; (with_reducible refine (idiomref02_sum.calls k a0_0 a0_1 a0_2 a1_0 a1_1 a1_2 false t642 t643 t644 t645 _ A3.out).mono ?_); rintro e w12 ⟨rfl, hb⟩; refine ⟨_, rfl, ?_⟩; have n0_ := Aside0.mk (blk_below (g := gb639) (o := .cells #[.bool a0_0, .string a0_1, .string a0_2] 23 (0, 0)) (by (with_reducible repeat (first | refine blk_drewN ?_ _ | refine blk_drew ?_ | refine blk_alloc ?_ _)); exact BK639.out) hb); have n1_ := Aside0.mk (blk_below (g := gb640) (o := .cells #[.bool a1_0, .string a1_1, .string a1_2] 23 (0, 0)) (by (with_reducible repeat (first | refine blk_drewN ?_ _ | refine blk_drew ?_ | refine blk_alloc ?_ _)); exact BK640.out) hb); have n2_ := Aside0.mk (blk_below (g := gb641) (o := .cells #[.bool false, .string (⟨#[]⟩ : ByteArray), .string (⟨#[]⟩ : ByteArray)] 23 (0, 0)) (by (with_reducible repeat (first | refine blk_drewN ?_ _ | refine blk_drew ?_ | refine blk_alloc ?_ _)); exact BK641.out) hb); have n3_ := Aside0.mk (below_step (by repeat (first | (with_reducible first | exact HB.out | apply below_alloc | apply pw_below_drewN | apply below_drew1 | refine below_set ?_ GE639.out | refine below_set ?_ GE640.out | refine below_set ?_ GE641.out) | exact HB.out)) hb); clear BK639; clear BK640; clear BK641; clear HB; have BK639 := n0_; have BK640 := n1_; have BK641 := n2_; have HB := n3_; clear n0_ n1_ n2_ n3_; have hcz13_0 : w12.cell? ⟨gb641, 0, none⟩ = some (.bool false) := (blk_cell BK641.out 0).trans rfl; have hcz13_1 : w12.cell? ⟨gb641, 1, none⟩ = some (.string (⟨#[]⟩ : ByteArray)) := (blk_cell BK641.out 1).trans rfl; have hcz13_2 : w12.cell? ⟨gb641, 2, none⟩ = some (.string (⟨#[]⟩ : ByteArray)) := (blk_cell BK641.out 2).trans rfl; have hfz13_0 := blk_frozen BK641.out 0; have hfz13_1 := blk_frozen BK641.out 1; have hfz13_2 := blk_frozen BK641.out 2))
 refine bodyPost_ret (results_ct rfl _ _ gb641 23 #[.bool t642, .string t643, .string t644] (0, 0) _ rfl (by (with_reducible repeat (first | refine blk_drewN ?_ _ | refine blk_drew ?_ | refine blk_alloc ?_ _)); refine blk_put (cs := #[.bool t642, .string t643, .string (⟨#[]⟩ : ByteArray)]) ?_ 2 _ rfl; (with_reducible repeat (first | refine blk_drewN ?_ _ | refine blk_drew ?_ | refine blk_alloc ?_ _)); refine blk_put (cs := #[.bool t642, .string (⟨#[]⟩ : ByteArray), .string (⟨#[]⟩ : ByteArray)]) ?_ 1 _ rfl; (with_reducible repeat (first | refine blk_drewN ?_ _ | refine blk_drew ?_ | refine blk_alloc ?_ _)); refine blk_put (cs := #[.bool false, .string (⟨#[]⟩ : ByteArray), .string (⟨#[]⟩ : ByteArray)]) ?_ 0 _ rfl; (with_reducible repeat (first | refine blk_drewN ?_ _ | refine blk_drew ?_ | refine blk_alloc ?_ _)); exact BK641.out) Tryd.underlying23 rfl (by kernel_rfl)) rfl ?_
 exact ⟨by first | rfl | (simp [errW_none, errW_some] <;> rfl) | (simp [*, errW_none, errW_some] <;> rfl) | (simp [bne_nil_]; done), by repeat (first | (with_reducible first | exact HB.out | apply below_alloc | apply pw_below_drewN | apply below_drew1 | refine below_set ?_ GE639.out | refine below_set ?_ GE640.out | refine below_set ?_ GE641.out) | exact HB.out)⟩
end Go.Proofs.YtapbdblpdkoacaaDoor.P
namespace Go.Proofs.YtapbdblpdkoacaaDoor.P
open Go.RowKit Go.Proofs.YtapbdblpdkoacaaDoorW.PrintWords Go.Proofs.YtapbdblpdkoacaaDoorW.PrintLast Go.Proofs.YtapbdblpdkoacaaDoorW.PrintMore
attribute [local go_sem] max2_int max_two
set_option linter.unusedVariables false
set_option linter.unusedSimpArgs false
def idiomref02_Sub.f (k : Nat) (a0_0 : Bool) (a0_1 : ByteArray) (a0_2 : ByteArray) (a1_0 : Bool) (a1_1 : ByteArray) (a1_2 : ByteArray) : Option (Bool × ByteArray × ByteArray × Int) := (idiomref02_sum.f k a0_0 a0_1 a0_2 a1_0 a1_1 a1_2 true).bind fun bt649 => (some (bt649.1, bt649.2.1, bt649.2.2.1, bt649.2.2.2))
set_option maxHeartbeats 8000000 in
set_option maxRecDepth 100000 in
theorem idiomref02_Sub.calls (k : Nat) (a0_0 : Bool) (a0_1 : ByteArray) (a0_2 : ByteArray) (a1_0 : Bool) (a1_1 : ByteArray) (a1_2 : ByteArray) (r1 : Bool) (r2 : ByteArray) (r3 : ByteArray) (r4 : Int) (w : World) (h : idiomref02_Sub.f k a0_0 a0_1 a0_2 a1_0 a1_1 a1_2 = some (r1, r2, r3, r4)) :
    Calls Tryd.prog 34 #[.agg #[.bool a0_0, .string a0_1, .string a0_2], .agg #[.bool a1_0, .string a1_1, .string a1_2]] w fun e w' => e = .returned (.tuple #[.agg #[.bool r1, .string r2, .string r3], .int .i64 r4]) ∧ Below w.heap.size w w' := by
 have hu23 := Tryd.underlying23
 have HB := Aside0.mk (Below.refl w.heap.size w)
 unfold idiomref02_Sub.f at h
 have H := h
 clear h
 replace H := Option.bind_eq_some_iff.mp H
 obtain ⟨⟨t649, t650, t651, t652⟩, A30, H⟩ := H
 try dsimp only at H
 have A3 := Aside0.mk A30
 clear A30
 simp only [Option.some.injEq, Prod.mk.injEq] at H
 obtain ⟨rfl, rfl, rfl, rfl⟩ := H
 go_enter Tryd.func34, Tryd.ntmps34
 go_wp2_with (first | ((with_reducible refine gate_dst (N := 2) rfl ?_); refine box_event ?hg (N := 2) ?hd (cs := #[.bool a0_0, .string a0_1, .string a0_2]) (t := 23) ?hr ?_; (case hd => rfl); (case hg => rfl); (case hr => first | (go_simp; done) | (go_simp; rfl)); intro gb646 hg w4 hbox hb; have n0_ := Aside0.mk (below_step HB.out hb); have n1_ := Aside0.mk (hbox); have n2_ := Aside0.mk ((by rw [hg]; exact (below_size HB.out) : w.heap.size ≤ gb646)); have n3_ := Aside0.mk ((by rw [hg]; exact (below_size HB.out) : w.heap.size ≤ gb646)); clear HB; have HB := n0_; have BK646 := n1_; have GW646 := n2_; have GE646 := n3_; clear n0_ n1_ n2_ n3_; clear hb hbox hg) | ((with_reducible refine gate_dst (N := 3) rfl ?_); refine box_event ?hg (N := 3) ?hd (cs := #[.bool a1_0, .string a1_1, .string a1_2]) (t := 23) ?hr ?_; (case hd => rfl); (case hg => rfl); (case hr => first | (go_simp; done) | (go_simp; rfl)); intro gb647 hg w5 hbox hb; have n0_ := Aside0.mk (blk_below (g := gb646) (o := .cells #[.bool a0_0, .string a0_1, .string a0_2] 23 (0, 0)) BK646.out hb); have n1_ := Aside0.mk (below_step HB.out hb); have n2_ := Aside0.mk (hbox); have n3_ := Aside0.mk ((by rw [hg]; exact (below_size HB.out) : w.heap.size ≤ gb647)); have n4_ := Aside0.mk ((by rw [hg]; exact (below_size HB.out) : w.heap.size ≤ gb647)); have n5_ := Aside0.mk ((by rw [hg]; exact Nat.ne_of_lt (blk_lt (g := gb646) (o := .cells #[.bool a0_0, .string a0_1, .string a0_2] 23 (0, 0)) BK646.out) : gb646 ≠ gb647)); have n6_ := Aside0.mk ((by rw [hg]; exact Nat.ne_of_gt (blk_lt (g := gb646) (o := .cells #[.bool a0_0, .string a0_1, .string a0_2] 23 (0, 0)) BK646.out) : gb647 ≠ gb646)); clear BK646; clear HB; have BK646 := n0_; have HB := n1_; have BK647 := n2_; have GW647 := n3_; have GE647 := n4_; have NB646_647 := n5_; have NB647_646 := n6_; clear n0_ n1_ n2_ n3_ n4_ n5_ n6_; clear hb hbox hg) | ((with_reducible refine gate_dst (N := 4) rfl ?_); refine box_event ?hg (N := 4) ?hd (cs := #[.bool false, .string (⟨#[]⟩ : ByteArray), .string (⟨#[]⟩ : ByteArray)]) (t := 23) ?hr ?_; (case hd => rfl); (case hg => rfl); (case hr => first | (go_simp; done) | (go_simp; rfl)); intro gb648 hg w6 hbox hb; have n0_ := Aside0.mk (blk_below (g := gb646) (o := .cells #[.bool a0_0, .string a0_1, .string a0_2] 23 (0, 0)) BK646.out hb); have n1_ := Aside0.mk (blk_below (g := gb647) (o := .cells #[.bool a1_0, .string a1_1, .string a1_2] 23 (0, 0)) BK647.out hb); have n2_ := Aside0.mk (below_step HB.out hb); have n3_ := Aside0.mk (hbox); have n4_ := Aside0.mk ((by rw [hg]; exact (below_size HB.out) : w.heap.size ≤ gb648)); have n5_ := Aside0.mk ((by rw [hg]; exact (below_size HB.out) : w.heap.size ≤ gb648)); have n6_ := Aside0.mk ((by rw [hg]; exact Nat.ne_of_lt (blk_lt (g := gb646) (o := .cells #[.bool a0_0, .string a0_1, .string a0_2] 23 (0, 0)) BK646.out) : gb646 ≠ gb648)); have n7_ := Aside0.mk ((by rw [hg]; exact Nat.ne_of_gt (blk_lt (g := gb646) (o := .cells #[.bool a0_0, .string a0_1, .string a0_2] 23 (0, 0)) BK646.out) : gb648 ≠ gb646)); have n8_ := Aside0.mk ((by rw [hg]; exact Nat.ne_of_lt (blk_lt (g := gb647) (o := .cells #[.bool a1_0, .string a1_1, .string a1_2] 23 (0, 0)) BK647.out) : gb647 ≠ gb648)); have n9_ := Aside0.mk ((by rw [hg]; exact Nat.ne_of_gt (blk_lt (g := gb647) (o := .cells #[.bool a1_0, .string a1_1, .string a1_2] 23 (0, 0)) BK647.out) : gb648 ≠ gb647)); clear BK646; clear BK647; clear HB; have BK646 := n0_; have BK647 := n1_; have HB := n2_; have BK648 := n3_; have GW648 := n4_; have GE648 := n5_; have NB646_648 := n6_; have NB648_646 := n7_; have NB647_648 := n8_; have NB648_647 := n9_; clear n0_ n1_ n2_ n3_ n4_ n5_ n6_ n7_ n8_ n9_; clear hb hbox hg; have hnb7 := NB646_647.out; have hnc7 := NB647_646.out; have hnb8 := NB646_648.out; have hnc8 := NB648_646.out; have hcz9_0 : w6.cell? ⟨gb646, 0, none⟩ = some (.bool a0_0) := (blk_cell BK646.out 0).trans rfl; have hcz9_1 : w6.cell? ⟨gb646, 1, none⟩ = some (.string a0_1) := (blk_cell BK646.out 1).trans rfl; have hcz9_2 : w6.cell? ⟨gb646, 2, none⟩ = some (.string a0_2) := (blk_cell BK646.out 2).trans rfl; have hfz9_0 := blk_frozen BK646.out 0; have hfz9_1 := blk_frozen BK646.out 1; have hfz9_2 := blk_frozen BK646.out 2; have hnb10 := NB647_648.out; have hnc10 := NB648_647.out; have hcz11_0 : w6.cell? ⟨gb647, 0, none⟩ = some (.bool a1_0) := (blk_cell BK647.out 0).trans rfl; have hcz11_1 : w6.cell? ⟨gb647, 1, none⟩ = some (.string a1_1) := (blk_cell BK647.out 1).trans rfl; have hcz11_2 : w6.cell? ⟨gb647, 2, none⟩ = some (.string a1_2) := (blk_cell BK647.out 2).trans rfl; have hfz11_0 := blk_frozen BK647.out 0; have hfz11_1 := blk_frozen BK647.out 1; have hfz11_2 := blk_frozen BK647.out 2) | ((with_reducible refine gate_callee (f := 66) rfl ?_); refine goesL_ (some 8) rfl rfl Tryd.func66 (by kernel_rfl) rfl #[.agg #[.bool a0_0, .string a0_1, .string a0_2], .agg #[.bool a1_0, .string a1_1, .string a1_2], .bool true] rfl (by (try simp only [List.map_toArray, List.map_cons, List.map_nil]); first | done | rfl | (simp only [List.length_drop, List.length_take]; rfl)) ?_; (with_reducible refine (idiomref02_sum.calls k a0_0 a0_1 a0_2 a1_0 a1_1 a1_2 true t649 t650 t651 t652 _ A3.out).mono ?_); rintro e w12 ⟨rfl, hb⟩; refine ⟨_, rfl, ?_⟩; have n0_ := Aside0.mk (blk_below (g := gb646) (o := .cells #[.bool a0_0, .string a0_1, .string a0_2] 23 (0, 0)) BK646.out hb); have n1_ := Aside0.mk (blk_below (g := gb647) (o := .cells #[.bool a1_0, .string a1_1, .string a1_2] 23 (0, 0)) BK647.out hb); have n2_ := Aside0.mk (blk_below (g := gb648) (o := .cells #[.bool false, .string (⟨#[]⟩ : ByteArray), .string (⟨#[]⟩ : ByteArray)] 23 (0, 0)) BK648.out hb); have n3_ := Aside0.mk (below_step HB.out hb); clear BK646; clear BK647; clear BK648; clear HB; have BK646 := n0_; have BK647 := n1_; have BK648 := n2_; have HB := n3_; clear n0_ n1_ n2_ n3_; have hcz13_0 : w12.cell? ⟨gb648, 0, none⟩ = some (.bool false) := (blk_cell BK648.out 0).trans rfl; have hcz13_1 : w12.cell? ⟨gb648, 1, none⟩ = some (.string (⟨#[]⟩ : ByteArray)) := (blk_cell BK648.out 1).trans rfl; have hcz13_2 : w12.cell? ⟨gb648, 2, none⟩ = some (.string (⟨#[]⟩ : ByteArray)) := (blk_cell BK648.out 2).trans rfl; have hfz13_0 := blk_frozen BK648.out 0; have hfz13_1 := blk_frozen BK648.out 1; have hfz13_2 := blk_frozen BK648.out 2))
 refine bodyPost_ret (results_ct rfl _ _ gb648 23 #[.bool t649, .string t650, .string t651] (0, 0) _ rfl (by refine blk_put (cs := #[.bool t649, .string t650, .string (⟨#[]⟩ : ByteArray)]) ?_ 2 _ rfl; refine blk_put (cs := #[.bool t649, .string (⟨#[]⟩ : ByteArray), .string (⟨#[]⟩ : ByteArray)]) ?_ 1 _ rfl; refine blk_put (cs := #[.bool false, .string (⟨#[]⟩ : ByteArray), .string (⟨#[]⟩ : ByteArray)]) ?_ 0 _ rfl; exact BK648.out) Tryd.underlying23 rfl (by kernel_rfl)) rfl ?_
 exact ⟨by first | rfl | (simp [errW_none, errW_some] <;> rfl) | (simp [*, errW_none, errW_some] <;> rfl) | (simp [bne_nil_]; done), by repeat (first | (with_reducible first | exact HB.out | apply below_alloc | apply pw_below_drewN | apply below_drew1 | refine below_set ?_ GE646.out | refine below_set ?_ GE647.out | refine below_set ?_ GE648.out) | exact HB.out)⟩
end Go.Proofs.YtapbdblpdkoacaaDoor.P
