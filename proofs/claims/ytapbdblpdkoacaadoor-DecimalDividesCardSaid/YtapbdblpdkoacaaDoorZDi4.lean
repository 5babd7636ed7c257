/- A part of the proof. Part 5 of 7; its texts were written by programs, some out of the kit's print. -/
import Derived.Test.YtapbdblpdkoacaaDoorZDi3
namespace Go.Proofs.YtapbdblpdkoacaaDoor.P
open Go.RowKit Go.Proofs.YtapbdblpdkoacaaDoorW.PrintWords Go.Proofs.YtapbdblpdkoacaaDoorW.PrintLast Go.Proofs.YtapbdblpdkoacaaDoorW.PrintMore
attribute [local go_sem] max2_int max_two
set_option linter.unusedVariables false
set_option linter.unusedSimpArgs false
def idiomref02_Rem.f (k : Nat) (a0_0 : Bool) (a0_1 : ByteArray) (a0_2 : ByteArray) (a1_0 : Bool) (a1_1 : ByteArray) (a1_2 : ByteArray) : Option (Bool × ByteArray × ByteArray × Int) := (idiomref02_divided.f k a0_0 a0_1 a0_2 a1_0 a1_1 a1_2).bind fun bt494 => (if bt494.2.2.2 = 0 then ((idiomref02_Make.f k a0_0 bt494.2.1 bt494.2.2.1).bind fun bt498 => (some (bt498.1, bt498.2.1, bt498.2.2.1, bt498.2.2.2))) else (some (false, (⟨#[]⟩ : ByteArray), (⟨#[]⟩ : ByteArray), bt494.2.2.2)))
set_option maxHeartbeats 8000000 in
set_option maxRecDepth 100000 in
theorem idiomref02_Rem.calls (k : Nat) (a0_0 : Bool) (a0_1 : ByteArray) (a0_2 : ByteArray) (a1_0 : Bool) (a1_1 : ByteArray) (a1_2 : ByteArray) (r1 : Bool) (r2 : ByteArray) (r3 : ByteArray) (r4 : Int) (w : World) (h : idiomref02_Rem.f k a0_0 a0_1 a0_2 a1_0 a1_1 a1_2 = some (r1, r2, r3, r4)) :
    Calls Tryd.prog 26 #[.agg #[.bool a0_0, .string a0_1, .string a0_2], .agg #[.bool a1_0, .string a1_1, .string a1_2]] w fun e w' => e = .returned (.tuple #[.agg #[.bool r1, .string r2, .string r3], .int .i64 r4]) ∧ Below w.heap.size w w' := by
 have hu23 := Tryd.underlying23
 have HB := Aside0.mk (Below.refl w.heap.size w)
 unfold idiomref02_Rem.f at h
 have H := h
 clear h
 replace H := Option.bind_eq_some_iff.mp H
 obtain ⟨⟨t494, t495, t496, t497⟩, A30, H⟩ := H
 try dsimp only at H
 have A3 := Aside0.mk A30
 clear A30
 by_cases c4 : t497 = 0
 ·rw [if_pos c4] at H
  have c4b0 : (t497 == 0) = true := beq_iff_eq.mpr c4
  have c4b1 : (t497 != 0) = false := bne_eq_false_iff_eq.mpr c4
  clear c4
  replace H := Option.bind_eq_some_iff.mp H
  obtain ⟨⟨t498, t499, t500, t501⟩, A50, H⟩ := H
  try dsimp only at H
  have A5 := Aside0.mk A50
  clear A50
  simp only [Option.some.injEq, Prod.mk.injEq] at H
  obtain ⟨rfl, rfl, rfl, rfl⟩ := H
  go_enter Tryd.func26, Tryd.ntmps26
  go_wp2_with (first | ((with_reducible refine gate_dst (N := 2) rfl ?_); refine box_event ?hg (N := 2) ?hd (cs := #[.bool a0_0, .string a0_1, .string a0_2]) (t := 23) ?hr ?_; (case hd => rfl); (case hg => rfl); (case hr => first | (go_simp; done) | (go_simp; rfl)); intro gb491 hg w6 hbox hb; have n0_ := Aside0.mk (below_step HB.out hb); have n1_ := Aside0.mk (hbox); have n2_ := Aside0.mk ((by rw [hg]; exact (below_size HB.out) : w.heap.size ≤ gb491)); have n3_ := Aside0.mk ((by rw [hg]; exact (below_size HB.out) : w.heap.size ≤ gb491)); clear HB; have HB := n0_; have BK491 := n1_; have GW491 := n2_; have GE491 := n3_; clear n0_ n1_ n2_ n3_; clear hb hbox hg) | ((with_reducible refine gate_dst (N := 3) rfl ?_); refine box_event ?hg (N := 3) ?hd (cs := #[.bool a1_0, .string a1_1, .string a1_2]) (t := 23) ?hr ?_; (case hd => rfl); (case hg => rfl); (case hr => first | (go_simp; done) | (go_simp; rfl)); intro gb492 hg w7 hbox hb; have n0_ := Aside0.mk (blk_below (g := gb491) (o := .cells #[.bool a0_0, .string a0_1, .string a0_2] 23 (0, 0)) BK491.out hb); have n1_ := Aside0.mk (below_step HB.out hb); have n2_ := Aside0.mk (hbox); have n3_ := Aside0.mk ((by rw [hg]; exact (below_size HB.out) : w.heap.size ≤ gb492)); have n4_ := Aside0.mk ((by rw [hg]; exact (below_size HB.out) : w.heap.size ≤ gb492)); have n5_ := Aside0.mk ((by rw [hg]; exact Nat.ne_of_lt (blk_lt (g := gb491) (o := .cells #[.bool a0_0, .string a0_1, .string a0_2] 23 (0, 0)) BK491.out) : gb491 ≠ gb492)); have n6_ := Aside0.mk ((by rw [hg]; exact Nat.ne_of_gt (blk_lt (g := gb491) (o := .cells #[.bool a0_0, .string a0_1, .string a0_2] 23 (0, 0)) BK491.out) : gb492 ≠ gb491)); clear BK491; clear HB; have BK491 := n0_; have HB := n1_; have BK492 := n2_; have GW492 := n3_; have GE492 := n4_; have NB491_492 := n5_; have NB492_491 := n6_; clear n0_ n1_ n2_ n3_ n4_ n5_ n6_; clear hb hbox hg) | ((with_reducible refine gate_dst (N := 4) rfl ?_); refine box_event ?hg (N := 4) ?hd (cs := #[.bool false, .string (⟨#[]⟩ : ByteArray), .string (⟨#[]⟩ : ByteArray)]) (t := 23) ?hr ?_; (case hd => rfl); (case hg => rfl); (case hr => first | (go_simp; done) | (go_simp; rfl)); intro gb493 hg w8 hbox hb; have n0_ := Aside0.mk (blk_below (g := gb491) (o := .cells #[.bool a0_0, .string a0_1, .string a0_2] 23 (0, 0)) BK491.out hb); have n1_ := Aside0.mk (blk_below (g := gb492) (o := .cells #[.bool a1_0, .string a1_1, .string a1_2] 23 (0, 0)) BK492.out hb); have n2_ := Aside0.mk (below_step HB.out hb); have n3_ := Aside0.mk (hbox); have n4_ := Aside0.mk ((by rw [hg]; exact (below_size HB.out) : w.heap.size ≤ gb493)); have n5_ := Aside0.mk ((by rw [hg]; exact (below_size HB.out) : w.heap.size ≤ gb493)); have n6_ := Aside0.mk ((by rw [hg]; exact Nat.ne_of_lt (blk_lt (g := gb491) (o := .cells #[.bool a0_0, .string a0_1, .string a0_2] 23 (0, 0)) BK491.out) : gb491 ≠ gb493)); have n7_ := Aside0.mk ((by rw [hg]; exact Nat.ne_of_gt (blk_lt (g := gb491) (o := .cells #[.bool a0_0, .string a0_1, .string a0_2] 23 (0, 0)) BK491.out) : gb493 ≠ gb491)); have n8_ := Aside0.mk ((by rw [hg]; exact Nat.ne_of_lt (blk_lt (g := gb492) (o := .cells #[.bool a1_0, .string a1_1, .string a1_2] 23 (0, 0)) BK492.out) : gb492 ≠ gb493)); have n9_ := Aside0.mk ((by rw [hg]; exact Nat.ne_of_gt (blk_lt (g := gb492) (o := .cells #[.bool a1_0, .string a1_1, .string a1_2] 23 (0, 0)) BK492.out) : gb493 ≠ gb492)); clear BK491; clear BK492; clear HB; have BK491 := n0_; have BK492 := n1_; have HB := n2_; have BK493 := n3_; have GW493 := n4_; have GE493 := n5_; have NB491_493 := n6_; have NB493_491 := n7_; have NB492_493 := n8_; have NB493_492 := n9_; clear n0_ n1_ n2_ n3_ n4_ n5_ n6_ n7_ n8_ n9_; clear hb hbox hg; have hnb9 := NB491_492.out; have hnc9 := NB492_491.out; have hnb10 := NB491_493.out; have hnc10 := NB493_491.out; have hcz11_0 : w8.cell? ⟨gb491, 0, none⟩ = some (.bool a0_0) := (blk_cell BK491.out 0).trans rfl; have hcz11_1 : w8.cell? ⟨gb491, 1, none⟩ = some (.string a0_1) := (blk_cell BK491.out 1).trans rfl; have hcz11_2 : w8.cell? ⟨gb491, 2, none⟩ = some (.string a0_2) := (blk_cell BK491.out 2).trans rfl; have hfz11_0 := blk_frozen BK491.out 0; have hfz11_1 := blk_frozen BK491.out 1; have hfz11_2 := blk_frozen BK491.out 2; have hnb12 := NB492_493.out; have hnc12 := NB493_492.out; have hcz13_0 : w8.cell? ⟨gb492, 0, none⟩ = some (.bool a1_0) := (blk_cell BK492.out 0).trans rfl; have hcz13_1 : w8.cell? ⟨gb492, 1, none⟩ = some (.string a1_1) := (blk_cell BK492.out 1).trans rfl; have hcz13_2 : w8.cell? ⟨gb492, 2, none⟩ = some (.string a1_2) := (blk_cell BK492.out 2).trans rfl; have hfz13_0 := blk_frozen BK492.out 0; have hfz13_1 := blk_frozen BK492.out 1; have hfz13_2 := blk_frozen BK492.out 2) | ((with_reducible refine gate_callee (f := 56) rfl ?_); refine goesL_ (some 13) rfl rfl Tryd.func56 (by kernel_rfl) rfl #[.agg #[.bool a0_0, .string a0_1, .string a0_2], .agg #[.bool a1_0, .string a1_1, .string a1_2]] rfl (by (try simp only [List.map_toArray, List.map_cons, List.map_nil]); first | done | rfl | (simp only [List.length_drop, List.length_take]; rfl)) ?_; (with_reducible refine (idiomref02_divided.calls k a0_0 a0_1 a0_2 a1_0 a1_1 a1_2 t494 t495 t496 t497 _ A3.out).mono ?_); rintro e w14 ⟨rfl, hb⟩; refine ⟨_, rfl, ?_⟩; have n0_ := Aside0.mk (blk_below (g := gb491) (o := .cells #[.bool a0_0, .string a0_1, .string a0_2] 23 (0, 0)) BK491.out hb); have n1_ := Aside0.mk (blk_below (g := gb492) (o := .cells #[.bool a1_0, .string a1_1, .string a1_2] 23 (0, 0)) BK492.out hb); have n2_ := Aside0.mk (blk_below (g := gb493) (o := .cells #[.bool false, .string (⟨#[]⟩ : ByteArray), .string (⟨#[]⟩ : ByteArray)] 23 (0, 0)) BK493.out hb); have n3_ := Aside0.mk (below_step HB.out hb); clear BK491; clear BK492; clear BK493; clear HB; have BK491 := n0_; have BK492 := n1_; have BK493 := n2_; have HB := n3_; clear n0_ n1_ n2_ n3_; have hcz15_0 : w14.cell? ⟨gb491, 0, none⟩ = some (.bool a0_0) := (blk_cell BK491.out 0).trans rfl; have hcz15_1 : w14.cell? ⟨gb491, 1, none⟩ = some (.string a0_1) := (blk_cell BK491.out 1).trans rfl; have hcz15_2 : w14.cell? ⟨gb491, 2, none⟩ = some (.string a0_2) := (blk_cell BK491.out 2).trans rfl; have hfz15_0 := blk_frozen BK491.out 0; have hfz15_1 := blk_frozen BK491.out 1; have hfz15_2 := blk_frozen BK491.out 2) | ((with_reducible refine gate_callee (f := 57) rfl ?_); refine goesL_ (some 26) rfl rfl Tryd.func57 (by kernel_rfl) rfl #[.bool a0_0, .string t495, .int .i64 t496] rfl (by (try simp only [List.map_toArray, List.map_cons, List.map_nil]); first | done | rfl | (simp only [List.length_drop, List.length_take]; rfl)) ?_; (with_reducible refine (idiomref02_Make.calls k a0_0 t495 t496 t498 t499 t500 t501 _ A5.out).mono ?_); rintro e w16 ⟨rfl, hb⟩; refine ⟨_, rfl, ?_⟩; have n0_ := Aside0.mk (blk_below (g := gb491) (o := .cells #[.bool a0_0, .string a0_1, .string a0_2] 23 (0, 0)) BK491.out hb); have n1_ := Aside0.mk (blk_below (g := gb492) (o := .cells #[.bool a1_0, .string a1_1, .string a1_2] 23 (0, 0)) BK492.out hb); have n2_ := Aside0.mk (blk_below (g := gb493) (o := .cells #[.bool false, .string (⟨#[]⟩ : ByteArray), .string (⟨#[]⟩ : ByteArray)] 23 (0, 0)) BK493.out hb); have n3_ := Aside0.mk (below_step HB.out hb); clear BK491; clear BK492; clear BK493; clear HB; have BK491 := n0_; have BK492 := n1_; have BK493 := n2_; have HB := n3_; clear n0_ n1_ n2_ n3_; have hcz17_0 : w16.cell? ⟨gb493, 0, none⟩ = some (.bool false) := (blk_cell BK493.out 0).trans rfl; have hcz17_1 : w16.cell? ⟨gb493, 1, none⟩ = some (.string (⟨#[]⟩ : ByteArray)) := (blk_cell BK493.out 1).trans rfl; have hcz17_2 : w16.cell? ⟨gb493, 2, none⟩ = some (.string (⟨#[]⟩ : ByteArray)) := (blk_cell BK493.out 2).trans rfl; have hfz17_0 := blk_frozen BK493.out 0; have hfz17_1 := blk_frozen BK493.out 1; have hfz17_2 := blk_frozen BK493.out 2))
  refine bodyPost_ret (results_ct rfl _ _ gb493 23 #[.bool t498, .string t499, .string t500] (0, 0) _ rfl (by refine blk_put (cs := #[.bool t498, .string t499, .string (⟨#[]⟩ : ByteArray)]) ?_ 2 _ rfl; refine blk_put (cs := #[.bool t498, .string (⟨#[]⟩ : ByteArray), .string (⟨#[]⟩ : ByteArray)]) ?_ 1 _ rfl; refine blk_put (cs := #[.bool false, .string (⟨#[]⟩ : ByteArray), .string (⟨#[]⟩ : ByteArray)]) ?_ 0 _ rfl; exact BK493.out) Tryd.underlying23 rfl (by kernel_rfl)) rfl ?_
  exact ⟨by first | rfl | (simp [errW_none, errW_some] <;> rfl) | (simp [*, errW_none, errW_some] <;> rfl) | (simp [bne_nil_]; done), by repeat (first | (with_reducible first | exact HB.out | apply below_alloc | apply pw_below_drewN | apply below_drew1 | refine below_set ?_ GE491.out | refine below_set ?_ GE492.out | refine below_set ?_ GE493.out) | exact HB.out)⟩
 ·rw [if_neg c4] at H
  have c4b0 : (t497 == 0) = false := beq_eq_false_iff_ne.mpr c4
  have c4b1 : (t497 != 0) = true := bne_iff_ne.mpr c4
  simp only [Option.some.injEq, Prod.mk.injEq] at H
  obtain ⟨rfl, rfl, rfl, rfl⟩ := H
  go_enter Tryd.func26, Tryd.ntmps26
  go_wp2_with (first | ((with_reducible refine gate_dst (N := 2) rfl ?_); refine box_event ?hg (N := 2) ?hd (cs := #[.bool a0_0, .string a0_1, .string a0_2]) (t := 23) ?hr ?_; (case hd => rfl); (case hg => rfl); (case hr => first | (go_simp; done) | (go_simp; rfl)); intro gb491 hg w18 hbox hb; have n0_ := Aside0.mk (below_step HB.out hb); have n1_ := Aside0.mk (hbox); have n2_ := Aside0.mk ((by rw [hg]; exact (below_size HB.out) : w.heap.size ≤ gb491)); have n3_ := Aside0.mk ((by rw [hg]; exact (below_size HB.out) : w.heap.size ≤ gb491)); clear HB; have HB := n0_; have BK491 := n1_; have GW491 := n2_; have GE491 := n3_; clear n0_ n1_ n2_ n3_; clear hb hbox hg) | ((with_reducible refine gate_dst (N := 3) rfl ?_); refine box_event ?hg (N := 3) ?hd (cs := #[.bool a1_0, .string a1_1, .string a1_2]) (t := 23) ?hr ?_; (case hd => rfl); (case hg => rfl); (case hr => first | (go_simp; done) | (go_simp; rfl)); intro gb492 hg w19 hbox hb; have n0_ := Aside0.mk (blk_below (g := gb491) (o := .cells #[.bool a0_0, .string a0_1, .string a0_2] 23 (0, 0)) BK491.out hb); have n1_ := Aside0.mk (below_step HB.out hb); have n2_ := Aside0.mk (hbox); have n3_ := Aside0.mk ((by rw [hg]; exact (below_size HB.out) : w.heap.size ≤ gb492)); have n4_ := Aside0.mk ((by rw [hg]; exact (below_size HB.out) : w.heap.size ≤ gb492)); have n5_ := Aside0.mk ((by rw [hg]; exact Nat.ne_of_lt (blk_lt (g := gb491) (o := .cells #[.bool a0_0, .string a0_1, .string a0_2] 23 (0, 0)) BK491.out) : gb491 ≠ gb492)); have n6_ := Aside0.mk ((by rw [hg]; exact Nat.ne_of_gt (blk_lt (g := gb491) (o := .cells #[.bool a0_0, .string a0_1, .string a0_2] 23 (0, 0)) BK491.out) : gb492 ≠ gb491)); clear BK491; clear HB; have BK491 := n0_; have HB := n1_; have BK492 := n2_; have GW492 := n3_; have GE492 := n4_; have NB491_492 := n5_; have NB492_491 := n6_; clear n0_ n1_ n2_ n3_ n4_ n5_ n6_; clear hb hbox hg) | ((with_reducible refine gate_dst (N := 4) rfl ?_); refine box_event ?hg (N := 4) ?hd (cs := #[.bool false, .string (⟨#[]⟩ : ByteArray), .string (⟨#[]⟩ : ByteArray)]) (t := 23) ?hr ?_; (case hd => rfl); (case hg => rfl); (case hr => first | (go_simp; done) | (go_simp; rfl)); intro gb493 hg w20 hbox hb; have n0_ := Aside0.mk (blk_below (g := gb491) (o := .cells #[.bool a0_0, .string a0_1, .string a0_2] 23 (0, 0)) BK491.out hb); have n1_ := Aside0.mk (blk_below (g := gb492) (o := .cells #[.bool a1_0, .string a1_1, .string a1_2] 23 (0, 0)) BK492.out hb); have n2_ := Aside0.mk (below_step HB.out hb); have n3_ := Aside0.mk (hbox); have n4_ := Aside0.mk ((by rw [hg]; exact (below_size HB.out) : w.heap.size ≤ gb493)); have n5_ := Aside0.mk ((by rw [hg]; exact (below_size HB.out) : w.heap.size ≤ gb493)); have n6_ := Aside0.mk ((by rw [hg]; exact Nat.ne_of_lt (blk_lt (g := gb491) (o := .cells #[.bool a0_0, .string a0_1, .string a0_2] 23 (0, 0)) BK491.out) : gb491 ≠ gb493)); have n7_ := Aside0.mk ((by rw [hg]; exact Nat.ne_of_gt (blk_lt (g := gb491) (o := .cells #[.bool a0_0, .string a0_1, .string a0_2] 23 (0, 0)) BK491.out) : gb493 ≠ gb491)); have n8_ := Aside0.mk ((by rw [hg]; exact Nat.ne_of_lt (blk_lt (g := gb492) (o := .cells #[.bool a1_0, .string a1_1, .string a1_2] 23 (0, 0)) BK492.out) : gb492 ≠ gb493)); have n9_ := Aside0.mk ((by rw [hg]; exact Nat.ne_of_gt (blk_lt (g := gb492) (o := .cells #[.bool a1_0, .string a1_1, .string a1_2] 23 (0, 0)) BK492.out) : gb493 ≠ gb492)); clear BK491; clear BK492; clear HB; have BK491 := n0_; have BK492 := n1_; have HB := n2_; have BK493 := n3_; have GW493 := n4_; have GE493 := n5_; have NB491_493 := n6_; have NB493_491 := n7_; have NB492_493 := n8_; have NB493_492 := n9_; clear n0_ n1_ n2_ n3_ n4_ n5_ n6_ n7_ n8_ n9_; clear hb hbox hg; have hnb21 := NB491_492.out; have hnc21 := NB492_491.out; have hnb22 := NB491_493.out; have hnc22 := NB493_491.out; have hcz23_0 : w20.cell? ⟨gb491, 0, none⟩ = some (.bool a0_0) := (blk_cell BK491.out 0).trans rfl; have hcz23_1 : w20.cell? ⟨gb491, 1, none⟩ = some (.string a0_1) := (blk_cell BK491.out 1).trans rfl; have hcz23_2 : w20.cell? ⟨gb491, 2, none⟩ = some (.string a0_2) := (blk_cell BK491.out 2).trans rfl; have hfz23_0 := blk_frozen BK491.out 0; have hfz23_1 := blk_frozen BK491.out 1; have hfz23_2 := blk_frozen BK491.out 2; have hnb24 := NB492_493.out; have hnc24 := NB493_492.out; have hcz25_0 : w20.cell? ⟨gb492, 0, none⟩ = some (.bool a1_0) := (blk_cell BK492.out 0).trans rfl; have hcz25_1 : w20.cell? ⟨gb492, 1, none⟩ = some (.string a1_1) := (blk_cell BK492.out 1).trans rfl; have hcz25_2 : w20.cell? ⟨gb492, 2, none⟩ = some (.string a1_2) := (blk_cell BK492.out 2).trans rfl; have hfz25_0 := blk_frozen BK492.out 0; have hfz25_1 := blk_frozen BK492.out 1; have hfz25_2 := blk_frozen BK492.out 2) | ((with_reducible refine gate_callee (f := 56) rfl ?_); refine goesL_ (some 13) rfl rfl Tryd.func56 (by kernel_rfl) rfl #[.agg #[.bool a0_0, .string a0_1, .string a0_2], .agg #[.bool a1_0, .string a1_1, .string a1_2]] rfl (by (try simp only [List.map_toArray, List.map_cons, List.map_nil]); first | done | rfl | (simp only [List.length_drop, List.length_take]; rfl)) ?_; (with_reducible refine (idiomref02_divided.calls k a0_0 a0_1 a0_2 a1_0 a1_1 a1_2 t494 t495 t496 t497 _ A3.out).mono ?_); rintro e w26 ⟨rfl, hb⟩; refine ⟨_, rfl, ?_⟩; have n0_ := Aside0.mk (blk_below (g := gb491) (o := .cells #[.bool a0_0, .string a0_1, .string a0_2] 23 (0, 0)) BK491.out hb); have n1_ := Aside0.mk (blk_below (g := gb492) (o := .cells #[.bool a1_0, .string a1_1, .string a1_2] 23 (0, 0)) BK492.out hb); have n2_ := Aside0.mk (blk_below (g := gb493) (o := .cells #[.bool false, .string (⟨#[]⟩ : ByteArray), .string (⟨#[]⟩ : ByteArray)] 23 (0, 0)) BK493.out hb); have n3_ := Aside0.mk (below_step HB.out hb); clear BK491; clear BK492; clear BK493; clear HB; have BK491 := n0_; have BK492 := n1_; have BK493 := n2_; have HB := n3_; clear n0_ n1_ n2_ n3_; have hcz27_0 : w26.cell? ⟨gb493, 0, none⟩ = some (.bool false) := (blk_cell BK493.out 0).trans rfl; have hcz27_1 : w26.cell? ⟨gb493, 1, none⟩ = some (.string (⟨#[]⟩ : ByteArray)) := (blk_cell BK493.out 1).trans rfl; have hcz27_2 : w26.cell? ⟨gb493, 2, none⟩ = some (.string (⟨#[]⟩ : ByteArray)) := (blk_cell BK493.out 2).trans rfl; have hfz27_0 := blk_frozen BK493.out 0; have hfz27_1 := blk_frozen BK493.out 1; have hfz27_2 := blk_frozen BK493.out 2))
  refine bodyPost_ret (results_ct rfl _ _ gb493 23 #[.bool false, .string (⟨#[]⟩ : ByteArray), .string (⟨#[]⟩ : ByteArray)] (0, 0) _ rfl (by refine blk_put (cs := #[.bool false, .string (⟨#[]⟩ : ByteArray), .string (⟨#[]⟩ : ByteArray)]) ?_ 2 _ rfl; refine blk_put (cs := #[.bool false, .string (⟨#[]⟩ : ByteArray), .string (⟨#[]⟩ : ByteArray)]) ?_ 1 _ rfl; refine blk_put (cs := #[.bool false, .string (⟨#[]⟩ : ByteArray), .string (⟨#[]⟩ : ByteArray)]) ?_ 0 _ rfl; exact BK493.out) Tryd.underlying23 rfl (by kernel_rfl)) rfl ?_
  exact ⟨by first | rfl | (simp [errW_none, errW_some] <;> rfl) | (simp [*, errW_none, errW_some] <;> rfl) | (simp [bne_nil_]; done), by repeat (first | (with_reducible first | exact HB.out | apply below_alloc | apply pw_below_drewN | apply below_drew1 | refine below_set ?_ GE491.out | refine below_set ?_ GE492.out | refine below_set ?_ GE493.out) | exact HB.out)⟩
end Go.Proofs.YtapbdblpdkoacaaDoor.P
namespace Go.Proofs.YtapbdblpdkoacaaDoor.P
open Go.RowKit Go.Proofs.YtapbdblpdkoacaaDoorW.PrintWords Go.Proofs.YtapbdblpdkoacaaDoorW.PrintLast Go.Proofs.YtapbdblpdkoacaaDoorW.PrintMore
attribute [local go_sem] max2_int max_two
set_option linter.unusedVariables false
set_option linter.unusedSimpArgs false
def idiomlaw02_DecimalDivides.j0 : Nat → Bool → Bool → ByteArray → ByteArray → Bool → ByteArray → ByteArray → Option (Bool)
  | 0, _, _, _, _, _, _, _ => none
  | k + 1, x30, x503000, x503001, x503002, x504000, x504001, x504002 => if x30 = true then (some false) else ((decimal_Rem.f k x503000 x503001 x503002 x504000 x504001 x504002).bind fun bt516 => ((idiomref02_Rem.f k x503000 x503001 x503002 x504000 x504001 x504002).bind fun bt520 => ((idiomlaw02_told.f bt516.1 bt516.2.1 bt516.2.2.1 bt516.2.2.2 bt520.1 bt520.2.1 bt520.2.2.1 bt520.2.2.2).bind fun t524 => (some t524))))
def idiomlaw02_DecimalDivides.f (k : Nat) (a0_0 : Bool) (a0_1 : ByteArray) (a0_2 : ByteArray) (a1_0 : Bool) (a1_1 : ByteArray) (a1_2 : ByteArray) : Option (Bool) := (decimal_Div.f k a0_0 a0_1 a0_2 a1_0 a1_1 a1_2).bind fun bt504 => ((idiomref02_Div.f k a0_0 a0_1 a0_2 a1_0 a1_1 a1_2).bind fun bt509 => ((idiomlaw02_told.f bt504.1 bt504.2.1 bt504.2.2.1 bt504.2.2.2 bt509.1 bt509.2.1 bt509.2.2.1 bt509.2.2.2).bind fun t514 => (if t514 = true then ((idiomlaw02_awake.f k).bind fun t515 => (idiomlaw02_DecimalDivides.j0 k (!t515) a0_0 a0_1 a0_2 a1_0 a1_1 a1_2)) else (idiomlaw02_DecimalDivides.j0 k true a0_0 a0_1 a0_2 a1_0 a1_1 a1_2))))
set_option maxHeartbeats 8000000 in
set_option maxRecDepth 100000 in
theorem idiomlaw02_DecimalDivides.calls (k : Nat) (a0_0 : Bool) (a0_1 : ByteArray) (a0_2 : ByteArray) (a1_0 : Bool) (a1_1 : ByteArray) (a1_2 : ByteArray) (r : Bool) (w : World) (h : idiomlaw02_DecimalDivides.f k a0_0 a0_1 a0_2 a1_0 a1_1 a1_2 = some r) :
    Calls Tryd.prog 6 #[.agg #[.bool a0_0, .string a0_1, .string a0_2], .agg #[.bool a1_0, .string a1_1, .string a1_2]] w fun e w' => e = .returned (.bool r) ∧ Below w.heap.size w w' := by
 have hu23 := Tryd.underlying23
 have HB := Aside0.mk (Below.refl w.heap.size w)
 unfold idiomlaw02_DecimalDivides.f at h
 have H := h
 clear h
 replace H := Option.bind_eq_some_iff.mp H
 obtain ⟨⟨t504, t505, t506, t507⟩, A30, H⟩ := H
 try dsimp only at H
 have A3 := Aside0.mk A30
 clear A30
 replace H := Option.bind_eq_some_iff.mp H
 obtain ⟨⟨t509, t510, t511, t512⟩, A40, H⟩ := H
 try dsimp only at H
 have A4 := Aside0.mk A40
 clear A40
 have HC5 := Aside0.mk H
 clear H
 go_enter Tryd.func6, Tryd.ntmps6
 go_upto_region 3 with (first | ((with_reducible refine gate_dst (N := 2) rfl ?_); refine box_event ?hg (N := 2) ?hd (cs := #[.bool a0_0, .string a0_1, .string a0_2]) (t := 23) ?hr ?_; (case hd => rfl); (case hg => rfl); (case hr => first | (go_simp; done) | (go_simp; rfl)); intro gb502 hg w6 hbox hb; have n0_ := Aside0.mk (below_step HB.out hb); have n1_ := Aside0.mk (hbox); have n2_ := Aside0.mk ((by rw [hg]; exact (below_size HB.out) : w.heap.size ≤ gb502)); have n3_ := Aside0.mk ((by rw [hg]; exact (below_size HB.out) : w.heap.size ≤ gb502)); clear HB; have HB := n0_; have BK502 := n1_; have GW502 := n2_; have GE502 := n3_; clear n0_ n1_ n2_ n3_; clear hb hbox hg) | ((with_reducible refine gate_dst (N := 3) rfl ?_); refine box_event ?hg (N := 3) ?hd (cs := #[.bool a1_0, .string a1_1, .string a1_2]) (t := 23) ?hr ?_; (case hd => rfl); (case hg => rfl); (case hr => first | (go_simp; done) | (go_simp; rfl)); intro gb503 hg w7 hbox hb; have n0_ := Aside0.mk (blk_below (g := gb502) (o := .cells #[.bool a0_0, .string a0_1, .string a0_2] 23 (0, 0)) BK502.out hb); have n1_ := Aside0.mk (below_step HB.out hb); have n2_ := Aside0.mk (hbox); have n3_ := Aside0.mk ((by rw [hg]; exact (below_size HB.out) : w.heap.size ≤ gb503)); have n4_ := Aside0.mk ((by rw [hg]; exact (below_size HB.out) : w.heap.size ≤ gb503)); have n5_ := Aside0.mk ((by rw [hg]; exact Nat.ne_of_lt (blk_lt (g := gb502) (o := .cells #[.bool a0_0, .string a0_1, .string a0_2] 23 (0, 0)) BK502.out) : gb502 ≠ gb503)); have n6_ := Aside0.mk ((by rw [hg]; exact Nat.ne_of_gt (blk_lt (g := gb502) (o := .cells #[.bool a0_0, .string a0_1, .string a0_2] 23 (0, 0)) BK502.out) : gb503 ≠ gb502)); clear BK502; clear HB; have BK502 := n0_; have HB := n1_; have BK503 := n2_; have GW503 := n3_; have GE503 := n4_; have NB502_503 := n5_; have NB503_502 := n6_; clear n0_ n1_ n2_ n3_ n4_ n5_ n6_; clear hb hbox hg; have hnb8 := NB502_503.out; have hnc8 := NB503_502.out; have hcz9_0 : w7.cell? ⟨gb502, 0, none⟩ = some (.bool a0_0) := (blk_cell BK502.out 0).trans rfl; have hcz9_1 : w7.cell? ⟨gb502, 1, none⟩ = some (.string a0_1) := (blk_cell BK502.out 1).trans rfl; have hcz9_2 : w7.cell? ⟨gb502, 2, none⟩ = some (.string a0_2) := (blk_cell BK502.out 2).trans rfl; have hfz9_0 := blk_frozen BK502.out 0; have hfz9_1 := blk_frozen BK502.out 1; have hfz9_2 := blk_frozen BK502.out 2; have hcz10_0 : w7.cell? ⟨gb503, 0, none⟩ = some (.bool a1_0) := (blk_cell BK503.out 0).trans rfl; have hcz10_1 : w7.cell? ⟨gb503, 1, none⟩ = some (.string a1_1) := (blk_cell BK503.out 1).trans rfl; have hcz10_2 : w7.cell? ⟨gb503, 2, none⟩ = some (.string a1_2) := (blk_cell BK503.out 2).trans rfl; have hfz10_0 := blk_frozen BK503.out 0; have hfz10_1 := blk_frozen BK503.out 1; have hfz10_2 := blk_frozen BK503.out 2) | ((with_reducible refine gate_callee (f := 22) rfl ?_); refine goesL_ (some 12) rfl rfl Tryd.func22 (by kernel_rfl) rfl #[.agg #[.bool a0_0, .string a0_1, .string a0_2], .agg #[.bool a1_0, .string a1_1, .string a1_2]] rfl (by (try simp only [List.map_toArray, List.map_cons, List.map_nil]); first | done | rfl | (simp only [List.length_drop, List.length_take]; rfl)) ?_; (with_reducible refine (decimal_Div.calls k a0_0 a0_1 a0_2 a1_0 a1_1 a1_2 t504 t505 t506 t507 _ A3.out).mono ?_); rintro e w11 ⟨rfl, hb⟩; refine ⟨_, rfl, ?_⟩; have n0_ := Aside0.mk (blk_below (g := gb502) (o := .cells #[.bool a0_0, .string a0_1, .string a0_2] 23 (0, 0)) BK502.out hb); have n1_ := Aside0.mk (blk_below (g := gb503) (o := .cells #[.bool a1_0, .string a1_1, .string a1_2] 23 (0, 0)) BK503.out hb); have n2_ := Aside0.mk (below_step HB.out hb); clear BK502; clear BK503; clear HB; have BK502 := n0_; have BK503 := n1_; have HB := n2_; clear n0_ n1_ n2_) | ((with_reducible refine gate_dst (N := 5) rfl ?_); refine box_event ?hg (N := 5) ?hd (cs := #[.bool false, .string (⟨#[]⟩ : ByteArray), .string (⟨#[]⟩ : ByteArray)]) (t := 23) ?hr ?_; (case hd => rfl); (case hg => rfl); (case hr => first | (go_simp; done) | (go_simp; rfl)); intro gb508 hg w12 hbox hb; have n0_ := Aside0.mk (blk_below (g := gb502) (o := .cells #[.bool a0_0, .string a0_1, .string a0_2] 23 (0, 0)) BK502.out hb); have n1_ := Aside0.mk (blk_below (g := gb503) (o := .cells #[.bool a1_0, .string a1_1, .string a1_2] 23 (0, 0)) BK503.out hb); have n2_ := Aside0.mk (below_step HB.out hb); have n3_ := Aside0.mk (hbox); have n4_ := Aside0.mk ((by rw [hg]; exact (below_size HB.out) : w.heap.size ≤ gb508)); have n5_ := Aside0.mk ((by rw [hg]; exact (below_size HB.out) : w.heap.size ≤ gb508)); have n6_ := Aside0.mk ((by rw [hg]; exact Nat.ne_of_lt (blk_lt (g := gb502) (o := .cells #[.bool a0_0, .string a0_1, .string a0_2] 23 (0, 0)) BK502.out) : gb502 ≠ gb508)); have n7_ := Aside0.mk ((by rw [hg]; exact Nat.ne_of_gt (blk_lt (g := gb502) (o := .cells #[.bool a0_0, .string a0_1, .string a0_2] 23 (0, 0)) BK502.out) : gb508 ≠ gb502)); have n8_ := Aside0.mk ((by rw [hg]; exact Nat.ne_of_lt (blk_lt (g := gb503) (o := .cells #[.bool a1_0, .string a1_1, .string a1_2] 23 (0, 0)) BK503.out) : gb503 ≠ gb508)); have n9_ := Aside0.mk ((by rw [hg]; exact Nat.ne_of_gt (blk_lt (g := gb503) (o := .cells #[.bool a1_0, .string a1_1, .string a1_2] 23 (0, 0)) BK503.out) : gb508 ≠ gb503)); clear BK502; clear BK503; clear HB; have BK502 := n0_; have BK503 := n1_; have HB := n2_; have BK508 := n3_; have GW508 := n4_; have GE508 := n5_; have NB502_508 := n6_; have NB508_502 := n7_; have NB503_508 := n8_; have NB508_503 := n9_; clear n0_ n1_ n2_ n3_ n4_ n5_ n6_ n7_ n8_ n9_; clear hb hbox hg; have hnb13 := NB508_502.out; have hnc13 := NB502_508.out; have hnb14 := NB508_503.out; have hnc14 := NB503_508.out; have hcz15_0 : w12.cell? ⟨gb508, 0, none⟩ = some (.bool false) := (blk_cell BK508.out 0).trans rfl; have hcz15_1 : w12.cell? ⟨gb508, 1, none⟩ = some (.string (⟨#[]⟩ : ByteArray)) := (blk_cell BK508.out 1).trans rfl; have hcz15_2 : w12.cell? ⟨gb508, 2, none⟩ = some (.string (⟨#[]⟩ : ByteArray)) := (blk_cell BK508.out 2).trans rfl; have hfz15_0 := blk_frozen BK508.out 0; have hfz15_1 := blk_frozen BK508.out 1; have hfz15_2 := blk_frozen BK508.out 2; have hcz16_0 : w12.cell? ⟨gb502, 0, none⟩ = some (.bool a0_0) := (blk_cell BK502.out 0).trans rfl; have hcz16_1 : w12.cell? ⟨gb502, 1, none⟩ = some (.string a0_1) := (blk_cell BK502.out 1).trans rfl; have hcz16_2 : w12.cell? ⟨gb502, 2, none⟩ = some (.string a0_2) := (blk_cell BK502.out 2).trans rfl; have hfz16_0 := blk_frozen BK502.out 0; have hfz16_1 := blk_frozen BK502.out 1; have hfz16_2 := blk_frozen BK502.out 2; have hcz17_0 : w12.cell? ⟨gb503, 0, none⟩ = some (.bool a1_0) := (blk_cell BK503.out 0).trans rfl; have hcz17_1 : w12.cell? ⟨gb503, 1, none⟩ = some (.string a1_1) := (blk_cell BK503.out 1).trans rfl; have hcz17_2 : w12.cell? ⟨gb503, 2, none⟩ = some (.string a1_2) := (blk_cell BK503.out 2).trans rfl; have hfz17_0 := blk_frozen BK503.out 0; have hfz17_1 := blk_frozen BK503.out 1; have hfz17_2 := blk_frozen BK503.out 2) | ((with_reducible refine gate_callee (f := 23) rfl ?_); refine goesL_ (some 18) rfl rfl Tryd.func23 (by kernel_rfl) rfl #[.agg #[.bool a0_0, .string a0_1, .string a0_2], .agg #[.bool a1_0, .string a1_1, .string a1_2]] rfl (by (try simp only [List.map_toArray, List.map_cons, List.map_nil]); first | done | rfl | (simp only [List.length_drop, List.length_take]; rfl)) ?_; (with_reducible refine (idiomref02_Div.calls k a0_0 a0_1 a0_2 a1_0 a1_1 a1_2 t509 t510 t511 t512 _ A4.out).mono ?_); rintro e w18 ⟨rfl, hb⟩; refine ⟨_, rfl, ?_⟩; have n0_ := Aside0.mk (blk_below (g := gb502) (o := .cells #[.bool a0_0, .string a0_1, .string a0_2] 23 (0, 0)) (by refine blk_far ?_ NB502_508.out _; refine blk_far ?_ NB502_508.out _; refine blk_far ?_ NB502_508.out _; exact BK502.out) hb); have n1_ := Aside0.mk (blk_below (g := gb503) (o := .cells #[.bool a1_0, .string a1_1, .string a1_2] 23 (0, 0)) (by refine blk_far ?_ NB503_508.out _; refine blk_far ?_ NB503_508.out _; refine blk_far ?_ NB503_508.out _; exact BK503.out) hb); have n2_ := Aside0.mk (blk_below (g := gb508) (o := .cells #[.bool t504, .string t505, .string t506] 23 (0, 0)) (by refine blk_put (cs := #[.bool t504, .string t505, .string (⟨#[]⟩ : ByteArray)]) ?_ 2 _ rfl; refine blk_put (cs := #[.bool t504, .string (⟨#[]⟩ : ByteArray), .string (⟨#[]⟩ : ByteArray)]) ?_ 1 _ rfl; refine blk_put (cs := #[.bool false, .string (⟨#[]⟩ : ByteArray), .string (⟨#[]⟩ : ByteArray)]) ?_ 0 _ rfl; exact BK508.out) hb); have n3_ := Aside0.mk (below_step (by repeat (first | (with_reducible first | exact HB.out | apply below_alloc | apply pw_below_drewN | apply below_drew1 | refine below_set ?_ GE502.out | refine below_set ?_ GE503.out | refine below_set ?_ GE508.out) | exact HB.out)) hb); clear BK502; clear BK503; clear BK508; clear HB; have BK502 := n0_; have BK503 := n1_; have BK508 := n2_; have HB := n3_; clear n0_ n1_ n2_ n3_) | ((with_reducible refine gate_dst (N := 7) rfl ?_); refine box_event ?hg (N := 7) ?hd (cs := #[.bool false, .string (⟨#[]⟩ : ByteArray), .string (⟨#[]⟩ : ByteArray)]) (t := 23) ?hr ?_; (case hd => rfl); (case hg => rfl); (case hr => first | (go_simp; done) | (go_simp; rfl)); intro gb513 hg w19 hbox hb; have n0_ := Aside0.mk (blk_below (g := gb502) (o := .cells #[.bool a0_0, .string a0_1, .string a0_2] 23 (0, 0)) BK502.out hb); have n1_ := Aside0.mk (blk_below (g := gb503) (o := .cells #[.bool a1_0, .string a1_1, .string a1_2] 23 (0, 0)) BK503.out hb); have n2_ := Aside0.mk (blk_below (g := gb508) (o := .cells #[.bool t504, .string t505, .string t506] 23 (0, 0)) BK508.out hb); have n3_ := Aside0.mk (below_step HB.out hb); have n4_ := Aside0.mk (hbox); have n5_ := Aside0.mk ((by rw [hg]; exact (below_size HB.out) : w.heap.size ≤ gb513)); have n6_ := Aside0.mk ((by rw [hg]; exact (below_size HB.out) : w.heap.size ≤ gb513)); have n7_ := Aside0.mk ((by rw [hg]; exact Nat.ne_of_lt (blk_lt (g := gb502) (o := .cells #[.bool a0_0, .string a0_1, .string a0_2] 23 (0, 0)) BK502.out) : gb502 ≠ gb513)); have n8_ := Aside0.mk ((by rw [hg]; exact Nat.ne_of_gt (blk_lt (g := gb502) (o := .cells #[.bool a0_0, .string a0_1, .string a0_2] 23 (0, 0)) BK502.out) : gb513 ≠ gb502)); have n9_ := Aside0.mk ((by rw [hg]; exact Nat.ne_of_lt (blk_lt (g := gb503) (o := .cells #[.bool a1_0, .string a1_1, .string a1_2] 23 (0, 0)) BK503.out) : gb503 ≠ gb513)); have n10_ := Aside0.mk ((by rw [hg]; exact Nat.ne_of_gt (blk_lt (g := gb503) (o := .cells #[.bool a1_0, .string a1_1, .string a1_2] 23 (0, 0)) BK503.out) : gb513 ≠ gb503)); have n11_ := Aside0.mk ((by rw [hg]; exact Nat.ne_of_lt (blk_lt (g := gb508) (o := .cells #[.bool t504, .string t505, .string t506] 23 (0, 0)) BK508.out) : gb508 ≠ gb513)); have n12_ := Aside0.mk ((by rw [hg]; exact Nat.ne_of_gt (blk_lt (g := gb508) (o := .cells #[.bool t504, .string t505, .string t506] 23 (0, 0)) BK508.out) : gb513 ≠ gb508)); clear BK502; clear BK503; clear BK508; clear HB; have BK502 := n0_; have BK503 := n1_; have BK508 := n2_; have HB := n3_; have BK513 := n4_; have GW513 := n5_; have GE513 := n6_; have NB502_513 := n7_; have NB513_502 := n8_; have NB503_513 := n9_; have NB513_503 := n10_; have NB508_513 := n11_; have NB513_508 := n12_; clear n0_ n1_ n2_ n3_ n4_ n5_ n6_ n7_ n8_ n9_ n10_ n11_ n12_; clear hb hbox hg; have hnb20 := NB513_502.out; have hnc20 := NB502_513.out; have hnb21 := NB513_503.out; have hnc21 := NB503_513.out; have hnb22 := NB513_508.out; have hnc22 := NB508_513.out; have hcz23_0 : w19.cell? ⟨gb513, 0, none⟩ = some (.bool false) := (blk_cell BK513.out 0).trans rfl; have hcz23_1 : w19.cell? ⟨gb513, 1, none⟩ = some (.string (⟨#[]⟩ : ByteArray)) := (blk_cell BK513.out 1).trans rfl; have hcz23_2 : w19.cell? ⟨gb513, 2, none⟩ = some (.string (⟨#[]⟩ : ByteArray)) := (blk_cell BK513.out 2).trans rfl; have hfz23_0 := blk_frozen BK513.out 0; have hfz23_1 := blk_frozen BK513.out 1; have hfz23_2 := blk_frozen BK513.out 2))
 (try simp only [Act.put, List.setIfInBounds_toArray, List.set_cons_zero, List.set_cons_succ])
 go_cut [30] (fun v30 wc => ∃ (kq : Nat) (x30_4 : Bool), v30 = .bool x30_4 ∧ Aside0 (idiomlaw02_DecimalDivides.j0 kq x30_4 a0_0 a0_1 a0_2 a1_0 a1_1 a1_2 = some r) ∧ Aside0 (kq ≤ k) ∧ Aside0 (wc.heap[gb502]? = some (.cells #[.bool a0_0, .string a0_1, .string a0_2] 23 (0, 0))) ∧ Aside0 (wc.heap[gb503]? = some (.cells #[.bool a1_0, .string a1_1, .string a1_2] 23 (0, 0))) ∧ Aside0 (wc.heap[gb508]? = some (.cells #[.bool t504, .string t505, .string t506] 23 (0, 0))) ∧ Aside0 (wc.heap[gb513]? = some (.cells #[.bool t509, .string t510, .string t511] 23 (0, 0))) ∧ Aside0 (Below w.heap.size w wc))
 case first =>
  have H := HC5.out
  clear HC5
  replace H := Option.bind_eq_some_iff.mp H
  obtain ⟨t514, A240, H⟩ := H
  try dsimp only at H
  have A24 := Aside0.mk A240
  clear A240
  by_cases c25 : t514 = true
  ·subst c25
   have H1 : ((idiomlaw02_awake.f k).bind fun t515 => (idiomlaw02_DecimalDivides.j0 k (!t515) a0_0 a0_1 a0_2 a1_0 a1_1 a1_2)) = some r := by rw [if_pos rfl] at H; exact H
   clear H
   have H := H1
   clear H1
   replace H := Option.bind_eq_some_iff.mp H
   obtain ⟨t515, A260, H⟩ := H
   try dsimp only at H
   have A26 := Aside0.mk A260
   clear A260
   have H' := Aside0.mk H
   clear H
   have hnb27 := NB508_502.out
   have hnc27 := NB502_508.out
   have hnb28 := NB508_503.out
   have hnc28 := NB503_508.out
   have hnb29 := NB508_513.out
   have hnc29 := NB513_508.out
   have hcz30_0 : w19.cell? ⟨gb508, 0, none⟩ = some (.bool t504) := (blk_cell BK508.out 0).trans rfl
   have hcz30_1 : w19.cell? ⟨gb508, 1, none⟩ = some (.string t505) := (blk_cell BK508.out 1).trans rfl
   have hcz30_2 : w19.cell? ⟨gb508, 2, none⟩ = some (.string t506) := (blk_cell BK508.out 2).trans rfl
   have hfz30_0 := blk_frozen BK508.out 0
   have hfz30_1 := blk_frozen BK508.out 1
   have hfz30_2 := blk_frozen BK508.out 2
   have hnb31 := NB513_502.out
   have hnc31 := NB502_513.out
   have hnb32 := NB513_503.out
   have hnc32 := NB503_513.out
   have hcz33_0 : w19.cell? ⟨gb513, 0, none⟩ = some (.bool false) := (blk_cell BK513.out 0).trans rfl
   have hcz33_1 : w19.cell? ⟨gb513, 1, none⟩ = some (.string (⟨#[]⟩ : ByteArray)) := (blk_cell BK513.out 1).trans rfl
   have hcz33_2 : w19.cell? ⟨gb513, 2, none⟩ = some (.string (⟨#[]⟩ : ByteArray)) := (blk_cell BK513.out 2).trans rfl
   have hfz33_0 := blk_frozen BK513.out 0
   have hfz33_1 := blk_frozen BK513.out 1
   have hfz33_2 := blk_frozen BK513.out 2
   go_wp2_with (first | ((with_reducible refine gate_callee (f := 24) rfl ?_); refine goesL_ (some 25) rfl rfl Tryd.func24 (by kernel_rfl) rfl #[.agg #[.bool t504, .string t505, .string t506], .int .i64 t507, .agg #[.bool t509, .string t510, .string t511], .int .i64 t512] rfl (by (try simp only [List.map_toArray, List.map_cons, List.map_nil]); first | done | rfl | (simp only [List.length_drop, List.length_take]; rfl)) ?_; (with_reducible refine (idiomlaw02_told.calls t504 t505 t506 t507 t509 t510 t511 t512 true _ A24.out).mono ?_); rintro e w34 ⟨rfl, hb⟩; refine ⟨_, rfl, ?_⟩; have n0_ := Aside0.mk (blk_below (g := gb502) (o := .cells #[.bool a0_0, .string a0_1, .string a0_2] 23 (0, 0)) (by refine blk_far ?_ NB502_513.out _; refine blk_far ?_ NB502_513.out _; refine blk_far ?_ NB502_513.out _; exact BK502.out) hb); have n1_ := Aside0.mk (blk_below (g := gb503) (o := .cells #[.bool a1_0, .string a1_1, .string a1_2] 23 (0, 0)) (by refine blk_far ?_ NB503_513.out _; refine blk_far ?_ NB503_513.out _; refine blk_far ?_ NB503_513.out _; exact BK503.out) hb); have n2_ := Aside0.mk (blk_below (g := gb508) (o := .cells #[.bool t504, .string t505, .string t506] 23 (0, 0)) (by refine blk_far ?_ NB508_513.out _; refine blk_far ?_ NB508_513.out _; refine blk_far ?_ NB508_513.out _; exact BK508.out) hb); have n3_ := Aside0.mk (blk_below (g := gb513) (o := .cells #[.bool t509, .string t510, .string t511] 23 (0, 0)) (by refine blk_put (cs := #[.bool t509, .string t510, .string (⟨#[]⟩ : ByteArray)]) ?_ 2 _ rfl; refine blk_put (cs := #[.bool t509, .string (⟨#[]⟩ : ByteArray), .string (⟨#[]⟩ : ByteArray)]) ?_ 1 _ rfl; refine blk_put (cs := #[.bool false, .string (⟨#[]⟩ : ByteArray), .string (⟨#[]⟩ : ByteArray)]) ?_ 0 _ rfl; exact BK513.out) hb); have n4_ := Aside0.mk (below_step (by repeat (first | (with_reducible first | exact HB.out | apply below_alloc | apply pw_below_drewN | apply below_drew1 | refine below_set ?_ GE502.out | refine below_set ?_ GE503.out | refine below_set ?_ GE508.out | refine below_set ?_ GE513.out) | exact HB.out)) hb); clear BK502; clear BK503; clear BK508; clear BK513; clear HB; have BK502 := n0_; have BK503 := n1_; have BK508 := n2_; have BK513 := n3_; have HB := n4_; clear n0_ n1_ n2_ n3_ n4_) | (go_at_call 19; (with_reducible refine (idiomlaw02_awake.calls k  t515 _ A26.out).mono ?_); rintro e w35 ⟨rfl, hb⟩; have n0_ := Aside0.mk (blk_below (g := gb502) (o := .cells #[.bool a0_0, .string a0_1, .string a0_2] 23 (0, 0)) BK502.out hb); have n1_ := Aside0.mk (blk_below (g := gb503) (o := .cells #[.bool a1_0, .string a1_1, .string a1_2] 23 (0, 0)) BK503.out hb); have n2_ := Aside0.mk (blk_below (g := gb508) (o := .cells #[.bool t504, .string t505, .string t506] 23 (0, 0)) BK508.out hb); have n3_ := Aside0.mk (blk_below (g := gb513) (o := .cells #[.bool t509, .string t510, .string t511] 23 (0, 0)) BK513.out hb); have n4_ := Aside0.mk (below_step HB.out hb); clear BK502; clear BK503; clear BK508; clear BK513; clear HB; have BK502 := n0_; have BK503 := n1_; have BK508 := n2_; have BK513 := n3_; have HB := n4_; clear n0_ n1_ n2_ n3_ n4_))
   go_meet
   case rel => exact ⟨_, (!t515), (by first | rfl | (simp; done) | (simp [*]; done)), H', ⟨by first | omega | exact Nat.le_refl _⟩, ⟨by exact BK502.out⟩, ⟨by exact BK503.out⟩, ⟨by exact BK508.out⟩, ⟨by exact BK513.out⟩, ⟨by repeat (first | (with_reducible first | exact HB.out | apply below_alloc | apply pw_below_drewN | apply below_drew1 | refine below_set ?_ GE502.out | refine below_set ?_ GE503.out | refine below_set ?_ GE508.out | refine below_set ?_ GE513.out) | exact HB.out)⟩⟩
  ·replace c25 := Bool.eq_false_iff.mpr c25
   subst c25
   have H1 : (idiomlaw02_DecimalDivides.j0 k true a0_0 a0_1 a0_2 a1_0 a1_1 a1_2) = some r := by rw [if_neg (show ¬ (false = true) by decide)] at H; exact H
   clear H
   have H := H1
   clear H1
   have H' := Aside0.mk H
   clear H
   have hnb36 := NB508_502.out
   have hnc36 := NB502_508.out
   have hnb37 := NB508_503.out
   have hnc37 := NB503_508.out
   have hnb38 := NB508_513.out
   have hnc38 := NB513_508.out
   have hcz39_0 : w19.cell? ⟨gb508, 0, none⟩ = some (.bool t504) := (blk_cell BK508.out 0).trans rfl
   have hcz39_1 : w19.cell? ⟨gb508, 1, none⟩ = some (.string t505) := (blk_cell BK508.out 1).trans rfl
   have hcz39_2 : w19.cell? ⟨gb508, 2, none⟩ = some (.string t506) := (blk_cell BK508.out 2).trans rfl
   have hfz39_0 := blk_frozen BK508.out 0
   have hfz39_1 := blk_frozen BK508.out 1
   have hfz39_2 := blk_frozen BK508.out 2
   have hnb40 := NB513_502.out
   have hnc40 := NB502_513.out
   have hnb41 := NB513_503.out
   have hnc41 := NB503_513.out
   have hcz42_0 : w19.cell? ⟨gb513, 0, none⟩ = some (.bool false) := (blk_cell BK513.out 0).trans rfl
   have hcz42_1 : w19.cell? ⟨gb513, 1, none⟩ = some (.string (⟨#[]⟩ : ByteArray)) := (blk_cell BK513.out 1).trans rfl
   have hcz42_2 : w19.cell? ⟨gb513, 2, none⟩ = some (.string (⟨#[]⟩ : ByteArray)) := (blk_cell BK513.out 2).trans rfl
   have hfz42_0 := blk_frozen BK513.out 0
   have hfz42_1 := blk_frozen BK513.out 1
   have hfz42_2 := blk_frozen BK513.out 2
   go_wp2_with (first | ((with_reducible refine gate_callee (f := 24) rfl ?_); refine goesL_ (some 25) rfl rfl Tryd.func24 (by kernel_rfl) rfl #[.agg #[.bool t504, .string t505, .string t506], .int .i64 t507, .agg #[.bool t509, .string t510, .string t511], .int .i64 t512] rfl (by (try simp only [List.map_toArray, List.map_cons, List.map_nil]); first | done | rfl | (simp only [List.length_drop, List.length_take]; rfl)) ?_; (with_reducible refine (idiomlaw02_told.calls t504 t505 t506 t507 t509 t510 t511 t512 false _ A24.out).mono ?_); rintro e w43 ⟨rfl, hb⟩; refine ⟨_, rfl, ?_⟩; have n0_ := Aside0.mk (blk_below (g := gb502) (o := .cells #[.bool a0_0, .string a0_1, .string a0_2] 23 (0, 0)) (by refine blk_far ?_ NB502_513.out _; refine blk_far ?_ NB502_513.out _; refine blk_far ?_ NB502_513.out _; exact BK502.out) hb); have n1_ := Aside0.mk (blk_below (g := gb503) (o := .cells #[.bool a1_0, .string a1_1, .string a1_2] 23 (0, 0)) (by refine blk_far ?_ NB503_513.out _; refine blk_far ?_ NB503_513.out _; refine blk_far ?_ NB503_513.out _; exact BK503.out) hb); have n2_ := Aside0.mk (blk_below (g := gb508) (o := .cells #[.bool t504, .string t505, .string t506] 23 (0, 0)) (by refine blk_far ?_ NB508_513.out _; refine blk_far ?_ NB508_513.out _; refine blk_far ?_ NB508_513.out _; exact BK508.out) hb); have n3_ := Aside0.mk (blk_below (g := gb513) (o := .cells #[.bool t509, .string t510, .string t511] 23 (0, 0)) (by refine blk_put (cs := #[.bool t509, .string t510, .string (⟨#[]⟩ : ByteArray)]) ?_ 2 _ rfl; refine blk_put (cs := #[.bool t509, .string (⟨#[]⟩ : ByteArray), .string (⟨#[]⟩ : ByteArray)]) ?_ 1 _ rfl; refine blk_put (cs := #[.bool false, .string (⟨#[]⟩ : ByteArray), .string (⟨#[]⟩ : ByteArray)]) ?_ 0 _ rfl; exact BK513.out) hb); have n4_ := Aside0.mk (below_step (by repeat (first | (with_reducible first | exact HB.out | apply below_alloc | apply pw_below_drewN | apply below_drew1 | refine below_set ?_ GE502.out | refine below_set ?_ GE503.out | refine below_set ?_ GE508.out | refine below_set ?_ GE513.out) | exact HB.out)) hb); clear BK502; clear BK503; clear BK508; clear BK513; clear HB; have BK502 := n0_; have BK503 := n1_; have BK508 := n2_; have BK513 := n3_; have HB := n4_; clear n0_ n1_ n2_ n3_ n4_))
   go_meet
   case rel => exact ⟨_, (true), (by first | rfl | (simp; done) | (simp [*]; done)), H', ⟨by first | omega | exact Nat.le_refl _⟩, ⟨by exact BK502.out⟩, ⟨by exact BK503.out⟩, ⟨by exact BK508.out⟩, ⟨by exact BK513.out⟩, ⟨by repeat (first | (with_reducible first | exact HB.out | apply below_alloc | apply pw_below_drewN | apply below_drew1 | refine below_set ?_ GE502.out | refine below_set ?_ GE503.out | refine below_set ?_ GE508.out | refine below_set ?_ GE513.out) | exact HB.out)⟩⟩
 case rest =>
  clear HC5
  try clear c1
  try clear c2
  try clear p2
  try clear c3
  try clear c4
  try clear c6
  try clear c8
  try clear c13
  try clear c14
  try clear c20
  try clear c21
  try clear c22
  try clear c23
  try clear c24
  try clear c25
  try clear c27
  try clear c28
  try clear c29
  try clear c31
  try clear c32
  try clear c36
  try clear c37
  try clear c38
  try clear c40
  try clear c41
  try clear hcz10_0
  try clear hcz10_1
  try clear hcz10_2
  try clear hcz15_0
  try clear hcz15_1
  try clear hcz15_2
  try clear hcz16_0
  try clear hcz16_1
  try clear hcz16_2
  try clear hcz17_0
  try clear hcz17_1
  try clear hcz17_2
  try clear hcz23_0
  try clear hcz23_1
  try clear hcz23_2
  try clear hcz30_0
  try clear hcz30_1
  try clear hcz30_2
  try clear hcz33_0
  try clear hcz33_1
  try clear hcz33_2
  try clear hcz39_0
  try clear hcz39_1
  try clear hcz39_2
  try clear hcz42_0
  try clear hcz42_1
  try clear hcz42_2
  try clear hcz9_0
  try clear hcz9_1
  try clear hcz9_2
  try clear hfz10_0
  try clear hfz10_1
  try clear hfz10_2
  try clear hfz15_0
  try clear hfz15_1
  try clear hfz15_2
  try clear hfz16_0
  try clear hfz16_1
  try clear hfz16_2
  try clear hfz17_0
  try clear hfz17_1
  try clear hfz17_2
  try clear hfz23_0
  try clear hfz23_1
  try clear hfz23_2
  try clear hfz30_0
  try clear hfz30_1
  try clear hfz30_2
  try clear hfz33_0
  try clear hfz33_1
  try clear hfz33_2
  try clear hfz39_0
  try clear hfz39_1
  try clear hfz39_2
  try clear hfz42_0
  try clear hfz42_1
  try clear hfz42_2
  try clear hfz9_0
  try clear hfz9_1
  try clear hfz9_2
  obtain ⟨kq, x30_4, rfl, HA, HJ4, BK502, BK503, BK508, BK513, HB⟩ := hcut
  cases kq with
  | zero => exact absurd HA.out (by simp [idiomlaw02_DecimalDivides.j0])
  | succ kj4 =>
   have H := HA.out
   clear HA
   simp only [idiomlaw02_DecimalDivides.j0] at H
   by_cases c44 : x30_4 = true
   ·subst c44
    have H1 : (some false) = some r := by rw [if_pos rfl] at H; exact H
    clear H
    have H := H1
    clear H1
    obtain rfl := Option.some.inj H
    go_wp2
    go_ret
    exact ⟨by first | rfl | (simp [errW_none, errW_some] <;> rfl) | (simp [*, errW_none, errW_some] <;> rfl) | (simp [bne_nil_]; done), by repeat (first | (with_reducible first | exact HB.out | apply below_alloc | apply pw_below_drewN | apply below_drew1 | refine below_set ?_ GE502.out | refine below_set ?_ GE503.out | refine below_set ?_ GE508.out | refine below_set ?_ GE513.out) | exact HB.out)⟩
   ·replace c44 := Bool.eq_false_iff.mpr c44
    subst c44
    have H1 : ((decimal_Rem.f kj4 a0_0 a0_1 a0_2 a1_0 a1_1 a1_2).bind fun bt516 => ((idiomref02_Rem.f kj4 a0_0 a0_1 a0_2 a1_0 a1_1 a1_2).bind fun bt520 => ((idiomlaw02_told.f bt516.1 bt516.2.1 bt516.2.2.1 bt516.2.2.2 bt520.1 bt520.2.1 bt520.2.2.1 bt520.2.2.2).bind fun t524 => (some t524)))) = some r := by rw [if_neg (show ¬ (false = true) by decide)] at H; exact H
    clear H
    have H := H1
    clear H1
    replace H := Option.bind_eq_some_iff.mp H
    obtain ⟨⟨t516, t517, t518, t519⟩, A450, H⟩ := H
    try dsimp only at H
    have A45 := Aside0.mk A450
    clear A450
    replace H := Option.bind_eq_some_iff.mp H
    obtain ⟨⟨t520, t521, t522, t523⟩, A460, H⟩ := H
    try dsimp only at H
    have A46 := Aside0.mk A460
    clear A460
    replace H := Option.bind_eq_some_iff.mp H
    obtain ⟨t524, A470, H⟩ := H
    try dsimp only at H
    have A47 := Aside0.mk A470
    clear A470
    obtain rfl := Option.some.inj H
    have hnb48 := NB502_503.out
    have hnc48 := NB503_502.out
    have hnb49 := NB502_508.out
    have hnc49 := NB508_502.out
    have hnb50 := NB502_513.out
    have hnc50 := NB513_502.out
    have hcz51_0 : wc.cell? ⟨gb502, 0, none⟩ = some (.bool a0_0) := (blk_cell BK502.out 0).trans rfl
    have hcz51_1 : wc.cell? ⟨gb502, 1, none⟩ = some (.string a0_1) := (blk_cell BK502.out 1).trans rfl
    have hcz51_2 : wc.cell? ⟨gb502, 2, none⟩ = some (.string a0_2) := (blk_cell BK502.out 2).trans rfl
    have hfz51_0 := blk_frozen BK502.out 0
    have hfz51_1 := blk_frozen BK502.out 1
    have hfz51_2 := blk_frozen BK502.out 2
    have hnb52 := NB503_508.out
    have hnc52 := NB508_503.out
    have hnb53 := NB503_513.out
    have hnc53 := NB513_503.out
    have hcz54_0 : wc.cell? ⟨gb503, 0, none⟩ = some (.bool a1_0) := (blk_cell BK503.out 0).trans rfl
    have hcz54_1 : wc.cell? ⟨gb503, 1, none⟩ = some (.string a1_1) := (blk_cell BK503.out 1).trans rfl
    have hcz54_2 : wc.cell? ⟨gb503, 2, none⟩ = some (.string a1_2) := (blk_cell BK503.out 2).trans rfl
    have hfz54_0 := blk_frozen BK503.out 0
    have hfz54_1 := blk_frozen BK503.out 1
    have hfz54_2 := blk_frozen BK503.out 2
    go_wp2_with (first | ((with_reducible refine gate_callee (f := 25) rfl ?_); refine goesL_ (some 34) rfl rfl Tryd.func25 (by kernel_rfl) rfl #[.agg #[.bool a0_0, .string a0_1, .string a0_2], .agg #[.bool a1_0, .string a1_1, .string a1_2]] rfl (by (try simp only [List.map_toArray, List.map_cons, List.map_nil]); first | done | rfl | (simp only [List.length_drop, List.length_take]; rfl)) ?_; (with_reducible refine (decimal_Rem.calls kj4 a0_0 a0_1 a0_2 a1_0 a1_1 a1_2 t516 t517 t518 t519 _ A45.out).mono ?_); rintro e w55 ⟨rfl, hb⟩; refine ⟨_, rfl, ?_⟩; have n0_ := Aside0.mk (blk_below (g := gb502) (o := .cells #[.bool a0_0, .string a0_1, .string a0_2] 23 (0, 0)) BK502.out hb); have n1_ := Aside0.mk (blk_below (g := gb503) (o := .cells #[.bool a1_0, .string a1_1, .string a1_2] 23 (0, 0)) BK503.out hb); have n2_ := Aside0.mk (blk_below (g := gb508) (o := .cells #[.bool t504, .string t505, .string t506] 23 (0, 0)) BK508.out hb); have n3_ := Aside0.mk (blk_below (g := gb513) (o := .cells #[.bool t509, .string t510, .string t511] 23 (0, 0)) BK513.out hb); have n4_ := Aside0.mk (below_step HB.out hb); clear BK502; clear BK503; clear BK508; clear BK513; clear HB; have BK502 := n0_; have BK503 := n1_; have BK508 := n2_; have BK513 := n3_; have HB := n4_; clear n0_ n1_ n2_ n3_ n4_; have hnb56 := NB508_513.out; have hnc56 := NB513_508.out; have hcz57_0 : w55.cell? ⟨gb508, 0, none⟩ = some (.bool t504) := (blk_cell BK508.out 0).trans rfl; have hcz57_1 : w55.cell? ⟨gb508, 1, none⟩ = some (.string t505) := (blk_cell BK508.out 1).trans rfl; have hcz57_2 : w55.cell? ⟨gb508, 2, none⟩ = some (.string t506) := (blk_cell BK508.out 2).trans rfl; have hfz57_0 := blk_frozen BK508.out 0; have hfz57_1 := blk_frozen BK508.out 1; have hfz57_2 := blk_frozen BK508.out 2; have hcz58_0 : w55.cell? ⟨gb502, 0, none⟩ = some (.bool a0_0) := (blk_cell BK502.out 0).trans rfl; have hcz58_1 : w55.cell? ⟨gb502, 1, none⟩ = some (.string a0_1) := (blk_cell BK502.out 1).trans rfl; have hcz58_2 : w55.cell? ⟨gb502, 2, none⟩ = some (.string a0_2) := (blk_cell BK502.out 2).trans rfl; have hfz58_0 := blk_frozen BK502.out 0; have hfz58_1 := blk_frozen BK502.out 1; have hfz58_2 := blk_frozen BK502.out 2; have hcz59_0 : w55.cell? ⟨gb503, 0, none⟩ = some (.bool a1_0) := (blk_cell BK503.out 0).trans rfl; have hcz59_1 : w55.cell? ⟨gb503, 1, none⟩ = some (.string a1_1) := (blk_cell BK503.out 1).trans rfl; have hcz59_2 : w55.cell? ⟨gb503, 2, none⟩ = some (.string a1_2) := (blk_cell BK503.out 2).trans rfl; have hfz59_0 := blk_frozen BK503.out 0; have hfz59_1 := blk_frozen BK503.out 1; have hfz59_2 := blk_frozen BK503.out 2) | ((with_reducible refine gate_callee (f := 26) rfl ?_); refine goesL_ (some 40) rfl rfl Tryd.func26 (by kernel_rfl) rfl #[.agg #[.bool a0_0, .string a0_1, .string a0_2], .agg #[.bool a1_0, .string a1_1, .string a1_2]] rfl (by (try simp only [List.map_toArray, List.map_cons, List.map_nil]); first | done | rfl | (simp only [List.length_drop, List.length_take]; rfl)) ?_; (with_reducible refine (idiomref02_Rem.calls kj4 a0_0 a0_1 a0_2 a1_0 a1_1 a1_2 t520 t521 t522 t523 _ A46.out).mono ?_); rintro e w60 ⟨rfl, hb⟩; refine ⟨_, rfl, ?_⟩; have n0_ := Aside0.mk (blk_below (g := gb502) (o := .cells #[.bool a0_0, .string a0_1, .string a0_2] 23 (0, 0)) (by refine blk_far ?_ NB502_508.out _; refine blk_far ?_ NB502_508.out _; refine blk_far ?_ NB502_508.out _; exact BK502.out) hb); have n1_ := Aside0.mk (blk_below (g := gb503) (o := .cells #[.bool a1_0, .string a1_1, .string a1_2] 23 (0, 0)) (by refine blk_far ?_ NB503_508.out _; refine blk_far ?_ NB503_508.out _; refine blk_far ?_ NB503_508.out _; exact BK503.out) hb); have n2_ := Aside0.mk (blk_below (g := gb508) (o := .cells #[.bool t516, .string t517, .string t518] 23 (0, 0)) (by refine blk_put (cs := #[.bool t516, .string t517, .string t506]) ?_ 2 _ rfl; refine blk_put (cs := #[.bool t516, .string t505, .string t506]) ?_ 1 _ rfl; refine blk_put (cs := #[.bool t504, .string t505, .string t506]) ?_ 0 _ rfl; exact BK508.out) hb); have n3_ := Aside0.mk (blk_below (g := gb513) (o := .cells #[.bool t509, .string t510, .string t511] 23 (0, 0)) (by refine blk_far ?_ NB513_508.out _; refine blk_far ?_ NB513_508.out _; refine blk_far ?_ NB513_508.out _; exact BK513.out) hb); have n4_ := Aside0.mk (below_step (by repeat (first | (with_reducible first | exact HB.out | apply below_alloc | apply pw_below_drewN | apply below_drew1 | refine below_set ?_ GE502.out | refine below_set ?_ GE503.out | refine below_set ?_ GE508.out | refine below_set ?_ GE513.out) | exact HB.out)) hb); clear BK502; clear BK503; clear BK508; clear BK513; clear HB; have BK502 := n0_; have BK503 := n1_; have BK508 := n2_; have BK513 := n3_; have HB := n4_; clear n0_ n1_ n2_ n3_ n4_; have hcz61_0 : w60.cell? ⟨gb513, 0, none⟩ = some (.bool t509) := (blk_cell BK513.out 0).trans rfl; have hcz61_1 : w60.cell? ⟨gb513, 1, none⟩ = some (.string t510) := (blk_cell BK513.out 1).trans rfl; have hcz61_2 : w60.cell? ⟨gb513, 2, none⟩ = some (.string t511) := (blk_cell BK513.out 2).trans rfl; have hfz61_0 := blk_frozen BK513.out 0; have hfz61_1 := blk_frozen BK513.out 1; have hfz61_2 := blk_frozen BK513.out 2; have hcz62_0 : w60.cell? ⟨gb508, 0, none⟩ = some (.bool t516) := (blk_cell BK508.out 0).trans rfl; have hcz62_1 : w60.cell? ⟨gb508, 1, none⟩ = some (.string t517) := (blk_cell BK508.out 1).trans rfl; have hcz62_2 : w60.cell? ⟨gb508, 2, none⟩ = some (.string t518) := (blk_cell BK508.out 2).trans rfl; have hfz62_0 := blk_frozen BK508.out 0; have hfz62_1 := blk_frozen BK508.out 1; have hfz62_2 := blk_frozen BK508.out 2) | ((with_reducible refine gate_callee (f := 24) rfl ?_); refine goesL_ (some 47) rfl rfl Tryd.func24 (by kernel_rfl) rfl #[.agg #[.bool t516, .string t517, .string t518], .int .i64 t519, .agg #[.bool t520, .string t521, .string t522], .int .i64 t523] rfl (by (try simp only [List.map_toArray, List.map_cons, List.map_nil]); first | done | rfl | (simp only [List.length_drop, List.length_take]; rfl)) ?_; (with_reducible refine (idiomlaw02_told.calls t516 t517 t518 t519 t520 t521 t522 t523 t524 _ A47.out).mono ?_); rintro e w63 ⟨rfl, hb⟩; refine ⟨_, rfl, ?_⟩; have n0_ := Aside0.mk (blk_below (g := gb502) (o := .cells #[.bool a0_0, .string a0_1, .string a0_2] 23 (0, 0)) (by refine blk_far ?_ NB502_513.out _; refine blk_far ?_ NB502_513.out _; refine blk_far ?_ NB502_513.out _; exact BK502.out) hb); have n1_ := Aside0.mk (blk_below (g := gb503) (o := .cells #[.bool a1_0, .string a1_1, .string a1_2] 23 (0, 0)) (by refine blk_far ?_ NB503_513.out _; refine blk_far ?_ NB503_513.out _; refine blk_far ?_ NB503_513.out _; exact BK503.out) hb); have n2_ := Aside0.mk (blk_below (g := gb508) (o := .cells #[.bool t516, .string t517, .string t518] 23 (0, 0)) (by refine blk_far ?_ NB508_513.out _; refine blk_far ?_ NB508_513.out _; refine blk_far ?_ NB508_513.out _; exact BK508.out) hb); have n3_ := Aside0.mk (blk_below (g := gb513) (o := .cells #[.bool t520, .string t521, .string t522] 23 (0, 0)) (by refine blk_put (cs := #[.bool t520, .string t521, .string t511]) ?_ 2 _ rfl; refine blk_put (cs := #[.bool t520, .string t510, .string t511]) ?_ 1 _ rfl; refine blk_put (cs := #[.bool t509, .string t510, .string t511]) ?_ 0 _ rfl; exact BK513.out) hb); have n4_ := Aside0.mk (below_step (by repeat (first | (with_reducible first | exact HB.out | apply below_alloc | apply pw_below_drewN | apply below_drew1 | refine below_set ?_ GE502.out | refine below_set ?_ GE503.out | refine below_set ?_ GE508.out | refine below_set ?_ GE513.out) | exact HB.out)) hb); clear BK502; clear BK503; clear BK508; clear BK513; clear HB; have BK502 := n0_; have BK503 := n1_; have BK508 := n2_; have BK513 := n3_; have HB := n4_; clear n0_ n1_ n2_ n3_ n4_))
    go_ret
    exact ⟨by first | rfl | (simp [errW_none, errW_some] <;> rfl) | (simp [*, errW_none, errW_some] <;> rfl) | (simp [bne_nil_]; done), by repeat (first | (with_reducible first | exact HB.out | apply below_alloc | apply pw_below_drewN | apply below_drew1 | refine below_set ?_ GE502.out | refine below_set ?_ GE503.out | refine below_set ?_ GE508.out | refine below_set ?_ GE513.out) | exact HB.out)⟩
end Go.Proofs.YtapbdblpdkoacaaDoor.P
