/- A part of the proof. Part 4 of 6; its texts were written by programs, some out of the kit's print. -/
import Derived.Test.YtapbdblpdkoacaaDoorZIn2
namespace Go.Proofs.YtapbdblpdkoacaaDoor.P
open Go.RowKit Go.Proofs.YtapbdblpdkoacaaDoorW.PrintWords Go.Proofs.YtapbdblpdkoacaaDoorW.PrintLast Go.Proofs.YtapbdblpdkoacaaDoorW.PrintMore
attribute [local go_sem] max2_int max_two
set_option linter.unusedVariables false
set_option linter.unusedSimpArgs false
mutual
def decimal_Int64.j0 : Nat → List Int → Bool → Bool → ByteArray → ByteArray → Option (Int × Int)
  | 0, _, _, _, _, _ => none
  | k + 1, x6, x39, x842000, x842001, x842002 => if x39 = true then (some (0, 22)) else (decimal_Int64.l0 k 0 x6 (x6.length : Int) 0 x842000 x842001 x842002)
def decimal_Int64.l0 : Nat → Int → List Int → Int → Int → Bool → ByteArray → ByteArray → Option (Int × Int)
  | 0, _, _, _, _, _, _, _ => none
  | k + 1, x8, x40, x41, x42, x842000, x842001, x842002 => if x42 < x41 then (if 0 ≤ x42 then (if x42 < (x40.length : Int) then (decimal_Int64.l0 k (IntKind.u64.wrap ((IntKind.u64.wrap (x8 * 10)) + (IntKind.u64.wrap (rd x40 x42)))) x40 x41 (wrap64 (x42 + 1)) x842000 x842001 x842002) else (none)) else (none)) else (if x842000 = true then (some (wrap64 (IntKind.u64.wrap (-x8)), 0)) else (some (wrap64 (x8), 0)))
end
def decimal_Int64.f (k : Nat) (a0_0 : Bool) (a0_1 : ByteArray) (a0_2 : ByteArray) : Option (Int × Int) := (decimal_Check.f k a0_0 a0_1 a0_2).bind fun t842 => (if t842 = 0 then ((decimal_of.f k (⟨#[57, 50, 50, 51, 51, 55, 50, 48, 51, 54, 56, 53, 52, 55, 55, 53, 56, 48, 56]⟩ : ByteArray)).bind fun t843 => ((decimal_of.f k a0_1).bind fun t846 => ((decimal_digits_cmp.f k t846 t843).bind fun t849 => ((strings_Trim.f k a0_2 (⟨#[48]⟩ : ByteArray)).bind fun t850 => (if t850.toList = ([] : List UInt8) then (if t849 > 0 then (decimal_Int64.j0 k t846 true a0_0 a0_1 a0_2) else (if t849 = 0 then (decimal_Int64.j0 k t846 (!a0_0) a0_0 a0_1 a0_2) else (decimal_Int64.j0 k t846 false a0_0 a0_1 a0_2))) else (decimal_Int64.j0 k t846 true a0_0 a0_1 a0_2)))))) else (some (0, t842)))
set_option maxHeartbeats 8000000 in
set_option maxRecDepth 100000 in
theorem decimal_Int64.calls (k : Nat) (a0_0 : Bool) (a0_1 : ByteArray) (a0_2 : ByteArray) (r1 : Int) (r2 : Int) (w : World) (h : decimal_Int64.f k a0_0 a0_1 a0_2 = some (r1, r2)) :
    Calls Tryd.prog 39 #[.agg #[.bool a0_0, .string a0_1, .string a0_2]] w fun e w' => e = .returned (.tuple #[.int .i64 r1, .int .i64 r2]) ∧ Below w.heap.size w w' := by
 have hu23 := Tryd.underlying23
 have HB := Aside0.mk (Below.refl w.heap.size w)
 unfold decimal_Int64.f at h
 have H := h
 clear h
 replace H := Option.bind_eq_some_iff.mp H
 obtain ⟨t842, A20, H⟩ := H
 try dsimp only at H
 have A2 := Aside0.mk A20
 clear A20
 by_cases c3 : t842 = 0
 ·rw [if_pos c3] at H
  have c3b0 : (t842 == 0) = true := beq_iff_eq.mpr c3
  have c3b1 : (t842 != 0) = false := bne_eq_false_iff_eq.mpr c3
  clear c3
  replace H := Option.bind_eq_some_iff.mp H
  obtain ⟨t843, A40, H⟩ := H
  try dsimp only at H
  have A4 := Aside0.mk A40
  clear A40
  replace H := Option.bind_eq_some_iff.mp H
  obtain ⟨t846, A50, H⟩ := H
  try dsimp only at H
  have A5 := Aside0.mk A50
  clear A50
  replace H := Option.bind_eq_some_iff.mp H
  obtain ⟨t849, A60, H⟩ := H
  try dsimp only at H
  have A6 := Aside0.mk A60
  clear A60
  have HC7 := Aside0.mk H
  clear H
  go_enter Tryd.func39, Tryd.ntmps39
  go_upto_region 7 with (first | ((with_reducible refine gate_dst (N := 1) rfl ?_); refine box_event ?hg (N := 1) ?hd (cs := #[.bool a0_0, .string a0_1, .string a0_2]) (t := 23) ?hr ?_; (case hd => rfl); (case hg => rfl); (case hr => first | (go_simp; done) | (go_simp; rfl)); intro gb841 hg w8 hbox hb; have n0_ := Aside0.mk (below_step HB.out hb); have n1_ := Aside0.mk (hbox); have n2_ := Aside0.mk ((by rw [hg]; exact (below_size HB.out) : w.heap.size ≤ gb841)); have n3_ := Aside0.mk ((by rw [hg]; exact (below_size HB.out) : w.heap.size ≤ gb841)); clear HB; have HB := n0_; have BK841 := n1_; have GW841 := n2_; have GE841 := n3_; clear n0_ n1_ n2_ n3_; clear hb hbox hg; have hcz9_0 : w8.cell? ⟨gb841, 0, none⟩ = some (.bool a0_0) := (blk_cell BK841.out 0).trans rfl; have hcz9_1 : w8.cell? ⟨gb841, 1, none⟩ = some (.string a0_1) := (blk_cell BK841.out 1).trans rfl; have hcz9_2 : w8.cell? ⟨gb841, 2, none⟩ = some (.string a0_2) := (blk_cell BK841.out 2).trans rfl; have hfz9_0 := blk_frozen BK841.out 0; have hfz9_1 := blk_frozen BK841.out 1; have hfz9_2 := blk_frozen BK841.out 2) | ((with_reducible refine gate_callee (f := 17) rfl ?_); refine goesL_ (some 12) rfl rfl Tryd.func17 (by kernel_rfl) rfl #[.agg #[.bool a0_0, .string a0_1, .string a0_2]] rfl (by (try simp only [List.map_toArray, List.map_cons, List.map_nil]); first | done | rfl | (simp only [List.length_drop, List.length_take]; rfl)) ?_; (with_reducible refine (decimal_Check.calls k a0_0 a0_1 a0_2 t842 _ A2.out).mono ?_); rintro e w10 ⟨rfl, hb⟩; refine ⟨_, rfl, ?_⟩; have n0_ := Aside0.mk (blk_below (g := gb841) (o := .cells #[.bool a0_0, .string a0_1, .string a0_2] 23 (0, 0)) BK841.out hb); have n1_ := Aside0.mk (below_step HB.out hb); clear BK841; clear HB; have BK841 := n0_; have HB := n1_; clear n0_ n1_) | ((with_reducible refine gate_callee (f := 67) rfl ?_); refine goesL_ (some 16) rfl rfl Tryd.func67 (by kernel_rfl) rfl #[.string (⟨#[57, 50, 50, 51, 51, 55, 50, 48, 51, 54, 56, 53, 52, 55, 55, 53, 56, 48, 56]⟩ : ByteArray)] rfl (by (try simp only [List.map_toArray, List.map_cons, List.map_nil]); first | done | rfl | (simp only [List.length_drop, List.length_take]; rfl)) ?_; (with_reducible refine (decimal_of.calls k (⟨#[57, 50, 50, 51, 51, 55, 50, 48, 51, 54, 56, 53, 52, 55, 55, 53, 56, 48, 56]⟩ : ByteArray) t843 _ A4.out).mono ?_); rintro e w11 ⟨v844, rfl, ho0, hb⟩; refine ⟨_, rfl, ?_⟩; have n0_ := Aside0.mk (Kd.R_lower ho0 (below_size HB.out)); have n1_ := Aside0.mk (blk_below (g := gb841) (o := .cells #[.bool a0_0, .string a0_1, .string a0_2] 23 (0, 0)) BK841.out hb); have n2_ := Aside0.mk (below_step HB.out hb); clear BK841; clear HB; have HO845 := n0_; have BK841 := n1_; have HB := n2_; clear n0_ n1_ n2_; (try clear ho0); have hcz12_0 : w11.cell? ⟨gb841, 0, none⟩ = some (.bool a0_0) := (blk_cell BK841.out 0).trans rfl; have hcz12_1 : w11.cell? ⟨gb841, 1, none⟩ = some (.string a0_1) := (blk_cell BK841.out 1).trans rfl; have hcz12_2 : w11.cell? ⟨gb841, 2, none⟩ = some (.string a0_2) := (blk_cell BK841.out 2).trans rfl; have hfz12_0 := blk_frozen BK841.out 0; have hfz12_1 := blk_frozen BK841.out 1; have hfz12_2 := blk_frozen BK841.out 2) | ((with_reducible refine gate_callee (f := 67) rfl ?_); refine goesL_ (some 19) rfl rfl Tryd.func67 (by kernel_rfl) rfl #[.string a0_1] rfl (by (try simp only [List.map_toArray, List.map_cons, List.map_nil]); first | done | rfl | (simp only [List.length_drop, List.length_take]; rfl)) ?_; (with_reducible refine (decimal_of.calls k a0_1 t846 _ A5.out).mono ?_); rintro e w13 ⟨v847, rfl, ho0, hb⟩; refine ⟨_, rfl, ?_⟩; have n0_ := Aside0.mk (Kd.R_elder' (by (with_reducible repeat (first | apply Kd.R_alloc | apply Kd.R_drewN | apply Kd.R_drew)); exact HO845.out) (Kd.R_base ho0) hb); have n1_ := Aside0.mk (Kd.R_lower (Kd.R_new' ho0 (Kd.R_lt (by (with_reducible repeat (first | apply Kd.R_alloc | apply Kd.R_drewN | apply Kd.R_drew)); exact HO845.out))) (below_size HB.out)); have n2_ := Aside0.mk (blk_below (g := gb841) (o := .cells #[.bool a0_0, .string a0_1, .string a0_2] 23 (0, 0)) BK841.out hb); have n3_ := Aside0.mk (below_step HB.out hb); clear HO845; clear BK841; clear HB; have HO845 := n0_; have HO848 := n1_; have BK841 := n2_; have HB := n3_; clear n0_ n1_ n2_ n3_; (try clear ho0); obtain ⟨Ao14, co14, eo14⟩ := Kd.R_slice HO848.out; subst eo14; obtain ⟨Ao15, co15, eo15⟩ := Kd.R_slice HO845.out; subst eo15) | ((with_reducible refine gate_callee (f := 60) rfl ?_); refine goesL_ (some 22) rfl rfl Tryd.func60 (by kernel_rfl) rfl #[.slice Ao14 t846.length co14, .slice Ao15 t843.length co15] rfl (by (try simp only [List.map_toArray, List.map_cons, List.map_nil]); first | done | rfl | (simp only [List.length_drop, List.length_take]; rfl)) ?_; (with_reducible refine (decimal_digits_cmp.calls k _ _ t846 _ _ t843 t849 _ ?side1 ?side2 ?side3 ?side4 A6.out).mono ?_); (case side1 => repeat (first | exact (Kd.R_reads' HO848.out).2.2 | (with_reducible refine Kd.C_alloc ?_ _) | (with_reducible refine Kd.C_drewN ?_ _) | (with_reducible refine Kd.C_drew ?_))); (case side2 => exact (Kd.R_reads' HO848.out).2.1); (case side3 => repeat (first | exact (Kd.R_reads' HO845.out).2.2 | (with_reducible refine Kd.C_alloc ?_ _) | (with_reducible refine Kd.C_drewN ?_ _) | (with_reducible refine Kd.C_drew ?_))); (case side4 => exact (Kd.R_reads' HO845.out).2.1); rintro e w' ⟨rfl, ⟨nd, rfl⟩⟩; refine ⟨_, rfl, ?_⟩))
  (try simp only [Act.put, List.setIfInBounds_toArray, List.set_cons_zero, List.set_cons_succ])
  go_cut [39] (fun v39 wc => ∃ (kq : Nat) (x39_6 : Bool), v39 = .bool x39_6 ∧ Aside0 (decimal_Int64.j0 kq t846 x39_6 a0_0 a0_1 a0_2 = some (r1, r2)) ∧ Aside0 (kq ≤ k) ∧ Aside0 (Kd.R (Kd.int .u8) 5 wc w.heap.size (fun _ => True) (.slice Ao14 t846.length co14) t846) ∧ Aside0 (wc.heap[gb841]? = some (.cells #[.bool a0_0, .string a0_1, .string a0_2] 23 (0, 0))) ∧ Aside0 (Below w.heap.size w wc))
  case first =>
   have H := HC7.out
   clear HC7
   replace H := Option.bind_eq_some_iff.mp H
   obtain ⟨t850, A160, H⟩ := H
   try dsimp only at H
   have A16 := Aside0.mk A160
   clear A160
   by_cases c17 : t850.toList = ([] : List UInt8)
   ·rw [if_pos c17] at H
    have c17b0 : (t850.toList == ([] : List UInt8)) = true := beq_iff_eq.mpr c17
    have c17b1 : (t850.toList != ([] : List UInt8)) = false := bne_eq_false_iff_eq.mpr c17
    clear c17
    (first | rw [c17b0] | (simp only [i64_w, i32_w]; rw [c17b0]) | rw [c17b1] | skip)
    by_cases c18 : t849 > 0
    ·rw [if_pos c18] at H
     have c18b0 : decide (0 < t849) = true := decide_eq_true c18
     clear c18
     have H' := Aside0.mk H
     clear H
     have hcz19_0 : w13.cell? ⟨gb841, 0, none⟩ = some (.bool a0_0) := (blk_cell BK841.out 0).trans rfl
     have hcz19_1 : w13.cell? ⟨gb841, 1, none⟩ = some (.string a0_1) := (blk_cell BK841.out 1).trans rfl
     have hcz19_2 : w13.cell? ⟨gb841, 2, none⟩ = some (.string a0_2) := (blk_cell BK841.out 2).trans rfl
     have hfz19_0 := blk_frozen BK841.out 0
     have hfz19_1 := blk_frozen BK841.out 1
     have hfz19_2 := blk_frozen BK841.out 2
     go_wp2_with (first | ((with_reducible refine gate_callee (f := 71) rfl ?_); refine goesL_ (some 25) rfl rfl Tryd.func71 (by kernel_rfl) rfl #[.string a0_2, .string (⟨#[48]⟩ : ByteArray)] rfl (by (try simp only [List.map_toArray, List.map_cons, List.map_nil]); first | done | rfl | (simp only [List.length_drop, List.length_take]; rfl)) ?_; (with_reducible refine (strings_Trim.calls k a0_2 (⟨#[48]⟩ : ByteArray) t850 _ A16.out).mono ?_); rintro e w20 ⟨rfl, hb⟩; refine ⟨_, rfl, ?_⟩; have n0_ := Aside0.mk (Kd.R_below (by (with_reducible repeat (first | apply Kd.R_alloc | apply Kd.R_drewN | apply Kd.R_drew)); exact HO845.out) hb); have n1_ := Aside0.mk (Kd.R_below (by (with_reducible repeat (first | apply Kd.R_alloc | apply Kd.R_drewN | apply Kd.R_drew)); exact HO848.out) hb); have n2_ := Aside0.mk (blk_below (g := gb841) (o := .cells #[.bool a0_0, .string a0_1, .string a0_2] 23 (0, 0)) (by (with_reducible repeat (first | refine blk_drewN ?_ _ | refine blk_drew ?_ | refine blk_alloc ?_ _)); exact BK841.out) hb); have n3_ := Aside0.mk (below_step (by repeat (first | (with_reducible first | exact HB.out | apply below_alloc | apply pw_below_drewN | apply below_drew1 | refine below_set ?_ GE841.out) | exact HB.out)) hb); clear HO845; clear HO848; clear BK841; clear HB; have HO845 := n0_; have HO848 := n1_; have BK841 := n2_; have HB := n3_; clear n0_ n1_ n2_ n3_))
     go_meet
     case rel => exact ⟨_, (true), (by first | rfl | (simp; done) | (simp [*]; done)), H', ⟨by first | omega | exact Nat.le_refl _⟩, ⟨by (with_reducible repeat (first | apply Kd.R_alloc | apply Kd.R_drewN | apply Kd.R_drew)); exact Kd.R_mono HO848.out (fun _ hk => trivial)⟩, ⟨by exact BK841.out⟩, ⟨by repeat (first | (with_reducible first | exact HB.out | apply below_alloc | apply pw_below_drewN | apply below_drew1 | refine below_set ?_ GE841.out) | exact HB.out)⟩⟩
    ·rw [if_neg c18] at H
     have c18b0 : decide (0 < t849) = false := decide_eq_false c18
     clear c18
     by_cases c21 : t849 = 0
     ·rw [if_pos c21] at H
      have c21b0 : (t849 == 0) = true := beq_iff_eq.mpr c21
      have c21b1 : (t849 != 0) = false := bne_eq_false_iff_eq.mpr c21
      clear c21
      have H' := Aside0.mk H
      clear H
      have hcz22_0 : w13.cell? ⟨gb841, 0, none⟩ = some (.bool a0_0) := (blk_cell BK841.out 0).trans rfl
      have hcz22_1 : w13.cell? ⟨gb841, 1, none⟩ = some (.string a0_1) := (blk_cell BK841.out 1).trans rfl
      have hcz22_2 : w13.cell? ⟨gb841, 2, none⟩ = some (.string a0_2) := (blk_cell BK841.out 2).trans rfl
      have hfz22_0 := blk_frozen BK841.out 0
      have hfz22_1 := blk_frozen BK841.out 1
      have hfz22_2 := blk_frozen BK841.out 2
      go_wp2_with (first | ((with_reducible refine gate_callee (f := 71) rfl ?_); refine goesL_ (some 25) rfl rfl Tryd.func71 (by kernel_rfl) rfl #[.string a0_2, .string (⟨#[48]⟩ : ByteArray)] rfl (by (try simp only [List.map_toArray, List.map_cons, List.map_nil]); first | done | rfl | (simp only [List.length_drop, List.length_take]; rfl)) ?_; (with_reducible refine (strings_Trim.calls k a0_2 (⟨#[48]⟩ : ByteArray) t850 _ A16.out).mono ?_); rintro e w23 ⟨rfl, hb⟩; refine ⟨_, rfl, ?_⟩; have n0_ := Aside0.mk (Kd.R_below (by (with_reducible repeat (first | apply Kd.R_alloc | apply Kd.R_drewN | apply Kd.R_drew)); exact HO845.out) hb); have n1_ := Aside0.mk (Kd.R_below (by (with_reducible repeat (first | apply Kd.R_alloc | apply Kd.R_drewN | apply Kd.R_drew)); exact HO848.out) hb); have n2_ := Aside0.mk (blk_below (g := gb841) (o := .cells #[.bool a0_0, .string a0_1, .string a0_2] 23 (0, 0)) (by (with_reducible repeat (first | refine blk_drewN ?_ _ | refine blk_drew ?_ | refine blk_alloc ?_ _)); exact BK841.out) hb); have n3_ := Aside0.mk (below_step (by repeat (first | (with_reducible first | exact HB.out | apply below_alloc | apply pw_below_drewN | apply below_drew1 | refine below_set ?_ GE841.out) | exact HB.out)) hb); clear HO845; clear HO848; clear BK841; clear HB; have HO845 := n0_; have HO848 := n1_; have BK841 := n2_; have HB := n3_; clear n0_ n1_ n2_ n3_; have hcz24_0 : w23.cell? ⟨gb841, 0, none⟩ = some (.bool a0_0) := (blk_cell BK841.out 0).trans rfl; have hcz24_1 : w23.cell? ⟨gb841, 1, none⟩ = some (.string a0_1) := (blk_cell BK841.out 1).trans rfl; have hcz24_2 : w23.cell? ⟨gb841, 2, none⟩ = some (.string a0_2) := (blk_cell BK841.out 2).trans rfl; have hfz24_0 := blk_frozen BK841.out 0; have hfz24_1 := blk_frozen BK841.out 1; have hfz24_2 := blk_frozen BK841.out 2))
      go_meet
      case rel => exact ⟨_, (!a0_0), (by first | rfl | (simp; done) | (simp [*]; done)), H', ⟨by first | omega | exact Nat.le_refl _⟩, ⟨by (with_reducible repeat (first | apply Kd.R_alloc | apply Kd.R_drewN | apply Kd.R_drew)); exact Kd.R_mono HO848.out (fun _ hk => trivial)⟩, ⟨by exact BK841.out⟩, ⟨by repeat (first | (with_reducible first | exact HB.out | apply below_alloc | apply pw_below_drewN | apply below_drew1 | refine below_set ?_ GE841.out) | exact HB.out)⟩⟩
     ·rw [if_neg c21] at H
      have c21b0 : (t849 == 0) = false := beq_eq_false_iff_ne.mpr c21
      have c21b1 : (t849 != 0) = true := bne_iff_ne.mpr c21
      have H' := Aside0.mk H
      clear H
      have hcz25_0 : w13.cell? ⟨gb841, 0, none⟩ = some (.bool a0_0) := (blk_cell BK841.out 0).trans rfl
      have hcz25_1 : w13.cell? ⟨gb841, 1, none⟩ = some (.string a0_1) := (blk_cell BK841.out 1).trans rfl
      have hcz25_2 : w13.cell? ⟨gb841, 2, none⟩ = some (.string a0_2) := (blk_cell BK841.out 2).trans rfl
      have hfz25_0 := blk_frozen BK841.out 0
      have hfz25_1 := blk_frozen BK841.out 1
      have hfz25_2 := blk_frozen BK841.out 2
      go_wp2_with (first | ((with_reducible refine gate_callee (f := 71) rfl ?_); refine goesL_ (some 25) rfl rfl Tryd.func71 (by kernel_rfl) rfl #[.string a0_2, .string (⟨#[48]⟩ : ByteArray)] rfl (by (try simp only [List.map_toArray, List.map_cons, List.map_nil]); first | done | rfl | (simp only [List.length_drop, List.length_take]; rfl)) ?_; (with_reducible refine (strings_Trim.calls k a0_2 (⟨#[48]⟩ : ByteArray) t850 _ A16.out).mono ?_); rintro e w26 ⟨rfl, hb⟩; refine ⟨_, rfl, ?_⟩; have n0_ := Aside0.mk (Kd.R_below (by (with_reducible repeat (first | apply Kd.R_alloc | apply Kd.R_drewN | apply Kd.R_drew)); exact HO845.out) hb); have n1_ := Aside0.mk (Kd.R_below (by (with_reducible repeat (first | apply Kd.R_alloc | apply Kd.R_drewN | apply Kd.R_drew)); exact HO848.out) hb); have n2_ := Aside0.mk (blk_below (g := gb841) (o := .cells #[.bool a0_0, .string a0_1, .string a0_2] 23 (0, 0)) (by (with_reducible repeat (first | refine blk_drewN ?_ _ | refine blk_drew ?_ | refine blk_alloc ?_ _)); exact BK841.out) hb); have n3_ := Aside0.mk (below_step (by repeat (first | (with_reducible first | exact HB.out | apply below_alloc | apply pw_below_drewN | apply below_drew1 | refine below_set ?_ GE841.out) | exact HB.out)) hb); clear HO845; clear HO848; clear BK841; clear HB; have HO845 := n0_; have HO848 := n1_; have BK841 := n2_; have HB := n3_; clear n0_ n1_ n2_ n3_))
      go_meet
      case rel => exact ⟨_, (false), (by first | rfl | (simp; done) | (simp [*]; done)), H', ⟨by first | omega | exact Nat.le_refl _⟩, ⟨by (with_reducible repeat (first | apply Kd.R_alloc | apply Kd.R_drewN | apply Kd.R_drew)); exact Kd.R_mono HO848.out (fun _ hk => trivial)⟩, ⟨by exact BK841.out⟩, ⟨by repeat (first | (with_reducible first | exact HB.out | apply below_alloc | apply pw_below_drewN | apply below_drew1 | refine below_set ?_ GE841.out) | exact HB.out)⟩⟩
   ·rw [if_neg c17] at H
    have c17b0 : (t850.toList == ([] : List UInt8)) = false := beq_eq_false_iff_ne.mpr c17
    have c17b1 : (t850.toList != ([] : List UInt8)) = true := bne_iff_ne.mpr c17
    (first | rw [c17b0] | (simp only [i64_w, i32_w]; rw [c17b0]) | rw [c17b1] | skip)
    have H' := Aside0.mk H
    clear H
    have hcz27_0 : w13.cell? ⟨gb841, 0, none⟩ = some (.bool a0_0) := (blk_cell BK841.out 0).trans rfl
    have hcz27_1 : w13.cell? ⟨gb841, 1, none⟩ = some (.string a0_1) := (blk_cell BK841.out 1).trans rfl
    have hcz27_2 : w13.cell? ⟨gb841, 2, none⟩ = some (.string a0_2) := (blk_cell BK841.out 2).trans rfl
    have hfz27_0 := blk_frozen BK841.out 0
    have hfz27_1 := blk_frozen BK841.out 1
    have hfz27_2 := blk_frozen BK841.out 2
    go_wp2_with (first | ((with_reducible refine gate_callee (f := 71) rfl ?_); refine goesL_ (some 25) rfl rfl Tryd.func71 (by kernel_rfl) rfl #[.string a0_2, .string (⟨#[48]⟩ : ByteArray)] rfl (by (try simp only [List.map_toArray, List.map_cons, List.map_nil]); first | done | rfl | (simp only [List.length_drop, List.length_take]; rfl)) ?_; (with_reducible refine (strings_Trim.calls k a0_2 (⟨#[48]⟩ : ByteArray) t850 _ A16.out).mono ?_); rintro e w28 ⟨rfl, hb⟩; refine ⟨_, rfl, ?_⟩; have n0_ := Aside0.mk (Kd.R_below (by (with_reducible repeat (first | apply Kd.R_alloc | apply Kd.R_drewN | apply Kd.R_drew)); exact HO845.out) hb); have n1_ := Aside0.mk (Kd.R_below (by (with_reducible repeat (first | apply Kd.R_alloc | apply Kd.R_drewN | apply Kd.R_drew)); exact HO848.out) hb); have n2_ := Aside0.mk (blk_below (g := gb841) (o := .cells #[.bool a0_0, .string a0_1, .string a0_2] 23 (0, 0)) (by (with_reducible repeat (first | refine blk_drewN ?_ _ | refine blk_drew ?_ | refine blk_alloc ?_ _)); exact BK841.out) hb); have n3_ := Aside0.mk (below_step (by repeat (first | (with_reducible first | exact HB.out | apply below_alloc | apply pw_below_drewN | apply below_drew1 | refine below_set ?_ GE841.out) | exact HB.out)) hb); clear HO845; clear HO848; clear BK841; clear HB; have HO845 := n0_; have HO848 := n1_; have BK841 := n2_; have HB := n3_; clear n0_ n1_ n2_ n3_))
    go_meet
    case rel => exact ⟨_, (true), (by first | rfl | (simp; done) | (simp [*]; done)), H', ⟨by first | omega | exact Nat.le_refl _⟩, ⟨by (with_reducible repeat (first | apply Kd.R_alloc | apply Kd.R_drewN | apply Kd.R_drew)); exact Kd.R_mono HO848.out (fun _ hk => trivial)⟩, ⟨by exact BK841.out⟩, ⟨by repeat (first | (with_reducible first | exact HB.out | apply below_alloc | apply pw_below_drewN | apply below_drew1 | refine below_set ?_ GE841.out) | exact HB.out)⟩⟩
  case rest =>
   clear HC7
   try clear c1
   try clear c2
   try clear p2
   try clear c3
   try clear c3b0
   try clear c3b1
   try clear c6
   try clear c7
   try clear c17
   try clear c17b0
   try clear c17b1
   try clear c18
   try clear c18b0
   try clear c21
   try clear c21b0
   try clear c21b1
   try clear hcz12_0
   try clear hcz12_1
   try clear hcz12_2
   try clear hcz19_0
   try clear hcz19_1
   try clear hcz19_2
   try clear hcz22_0
   try clear hcz22_1
   try clear hcz22_2
   try clear hcz24_0
   try clear hcz24_1
   try clear hcz24_2
   try clear hcz25_0
   try clear hcz25_1
   try clear hcz25_2
   try clear hcz27_0
   try clear hcz27_1
   try clear hcz27_2
   try clear hcz9_0
   try clear hcz9_1
   try clear hcz9_2
   try clear hfz12_0
   try clear hfz12_1
   try clear hfz12_2
   try clear hfz19_0
   try clear hfz19_1
   try clear hfz19_2
   try clear hfz22_0
   try clear hfz22_1
   try clear hfz22_2
   try clear hfz24_0
   try clear hfz24_1
   try clear hfz24_2
   try clear hfz25_0
   try clear hfz25_1
   try clear hfz25_2
   try clear hfz27_0
   try clear hfz27_1
   try clear hfz27_2
   try clear hfz9_0
   try clear hfz9_1
   try clear hfz9_2
   obtain ⟨kq, x39_6, rfl, HA, HJ6, HO_6, BK841, HB⟩ := hcut
   cases kq with
   | zero => exact absurd HA.out (by simp [decimal_Int64.j0])
   | succ kj6 =>
    have H := HA.out
    clear HA
    simp only [decimal_Int64.j0] at H
    by_cases c29 : x39_6 = true
    ·subst c29
     have H1 : (some (0, 22)) = some (r1, r2) := by rw [if_pos rfl] at H; exact H
     clear H
     have H := H1
     clear H1
     simp only [Option.some.injEq, Prod.mk.injEq] at H
     obtain ⟨rfl, rfl⟩ := H
     go_wp2
     go_ret2
     exact ⟨by first | rfl | (simp [errW_none, errW_some] <;> rfl) | (simp [*, errW_none, errW_some] <;> rfl) | (simp [bne_nil_]; done), by repeat (first | (with_reducible first | exact HB.out | apply below_alloc | apply pw_below_drewN | apply below_drew1 | refine below_set ?_ GE841.out) | exact HB.out)⟩
    ·replace c29 := Bool.eq_false_iff.mpr c29
     subst c29
     have H1 : (decimal_Int64.l0 kj6 0 t846 (t846.length : Int) 0 a0_0 a0_1 a0_2) = some (r1, r2) := by rw [if_neg (show ¬ (false = true) by decide)] at H; exact H
     clear H
     have H := H1
     clear H1
     have H' := Aside0.mk H
     clear H
     go_wp2
     go_loopg [8, 42] kj6 (fun kq v8 v42 w' => ∃ (x8_2 : Int) (x42_2 : Int), v8 = .int .u64 x8_2 ∧ v42 = .int .i64 x42_2 ∧ Aside0 (decimal_Int64.l0 kq x8_2 t846 (t846.length : Int) x42_2 a0_0 a0_1 a0_2 = some (r1, r2)) ∧ Aside0 (kq ≤ kj6) ∧ Aside0 (Kd.R (Kd.int .u8) 5 w' w.heap.size (fun _ => True) (.slice Ao14 t846.length co14) t846) ∧ Aside0 (w'.heap[gb841]? = some (.cells #[.bool a0_0, .string a0_1, .string a0_2] 23 (0, 0))) ∧ Aside0 (Below w.heap.size w w'))
     case atStart => exact ⟨(0), (0), (by first | rfl | (simp; done) | (simp [*]; done)), (by first | rfl | (simp; done) | (simp [*]; done)), H', ⟨Nat.le_refl _⟩, ⟨by (with_reducible repeat (first | apply Kd.R_alloc | apply Kd.R_drewN | apply Kd.R_drew)); exact HO_6.out⟩, ⟨by exact BK841.out⟩, ⟨by repeat (first | (with_reducible first | exact HB.out | apply below_alloc | apply pw_below_drewN | apply below_drew1 | refine below_set ?_ GE841.out) | exact HB.out)⟩⟩
     case round =>
      clear H'
      try clear c1
      try clear c2
      try clear p2
      try clear c3
      try clear c3b0
      try clear c3b1
      try clear c6
      try clear c7
      try clear c17
      try clear c17b0
      try clear c17b1
      try clear c18
      try clear c18b0
      try clear c21
      try clear c21b0
      try clear c21b1
      try clear c29
      try clear hcz12_0
      try clear hcz12_1
      try clear hcz12_2
      try clear hcz19_0
      try clear hcz19_1
      try clear hcz19_2
      try clear hcz22_0
      try clear hcz22_1
      try clear hcz22_2
      try clear hcz24_0
      try clear hcz24_1
      try clear hcz24_2
      try clear hcz25_0
      try clear hcz25_1
      try clear hcz25_2
      try clear hcz27_0
      try clear hcz27_1
      try clear hcz27_2
      try clear hcz9_0
      try clear hcz9_1
      try clear hcz9_2
      try clear hfz12_0
      try clear hfz12_1
      try clear hfz12_2
      try clear hfz19_0
      try clear hfz19_1
      try clear hfz19_2
      try clear hfz22_0
      try clear hfz22_1
      try clear hfz22_2
      try clear hfz24_0
      try clear hfz24_1
      try clear hfz24_2
      try clear hfz25_0
      try clear hfz25_1
      try clear hfz25_2
      try clear hfz27_0
      try clear hfz27_1
      try clear hfz27_2
      try clear hfz9_0
      try clear hfz9_1
      try clear hfz9_2
      try clear p2
      obtain ⟨x8_2, x42_2, rfl, rfl, HA, HK2, HO_40, BK841, HB⟩ := hrel
      cases gk with
      | zero => exact absurd HA.out (by simp [decimal_Int64.l0])
      | succ k2 =>
       have H := HA.out
       clear HA
       simp only [decimal_Int64.l0] at H
       by_cases c30 : x42_2 < (t846.length : Int)
       ·rw [if_pos c30] at H
        have c30b0 : decide (x42_2 < (t846.length : Int)) = true := decide_eq_true c30
        clear c30
        by_cases c31 : 0 ≤ x42_2
        ·rw [if_pos c31] at H
         have c31b0 : decide (0 ≤ x42_2) = true := decide_eq_true c31
         clear c31
         by_cases c32 : x42_2 < (t846.length : Int)
         ·rw [if_pos c32] at H
          have c32b0 : decide (x42_2 < (t846.length : Int)) = true := decide_eq_true c32
          clear c32
          have H' := Aside0.mk H
          clear H
          have p851 : 0 ≤ (x42_2 : Int) := of_decide_eq_true (by first | (with_reducible assumption) | assumption)
          have q851 : x42_2 < (t846.length : Int) := of_decide_eq_true (by first | (with_reducible assumption) | assumption)
          obtain ⟨ad851, e851, hx851_0⟩ := Kd.at_int (Kd.R_reads' HO_40.out).2.2 x42_2 p851 q851
          cases e851
          replace p851 := eq_true p851
          replace q851 := eq_true q851
          go_wp2
          go_roundg k2
          case measure => have := HJ6.out; have := HK2.out; omega
          case rel => exact ⟨(IntKind.u64.wrap ((IntKind.u64.wrap (x8_2 * 10)) + (IntKind.u64.wrap (rd t846 x42_2)))), (wrap64 (x42_2 + 1)), (by first | rfl | (simp; done) | (simp [*]; done)), (by first | rfl | (simp; done) | (simp [*]; done)), H', ⟨by have := HJ6.out; have := HK2.out; omega⟩, ⟨by (with_reducible repeat (first | apply Kd.R_alloc | apply Kd.R_drewN | apply Kd.R_drew)); exact HO_40.out⟩, ⟨by exact BK841.out⟩, ⟨by repeat (first | (with_reducible first | exact HB.out | apply below_alloc | apply pw_below_drewN | apply below_drew1 | refine below_set ?_ GE841.out) | exact HB.out)⟩⟩
         ·rw [if_neg c32] at H
          exact absurd H (by simp)
        ·rw [if_neg c31] at H
         exact absurd H (by simp)
       ·rw [if_neg c30] at H
        have c30b0 : decide (x42_2 < (t846.length : Int)) = false := decide_eq_false c30
        clear c30
        by_cases c33 : a0_0 = true
        ·subst c33
         have H1 : (some (wrap64 (IntKind.u64.wrap (-x8_2)), 0)) = some (r1, r2) := by rw [if_pos rfl] at H; exact H
         clear H
         have H := H1
         clear H1
         simp only [Option.some.injEq, Prod.mk.injEq] at H
         obtain ⟨rfl, rfl⟩ := H
         have hcz34_0 : wr.cell? ⟨gb841, 0, none⟩ = some (.bool true) := (blk_cell BK841.out 0).trans rfl
         have hcz34_1 : wr.cell? ⟨gb841, 1, none⟩ = some (.string a0_1) := (blk_cell BK841.out 1).trans rfl
         have hcz34_2 : wr.cell? ⟨gb841, 2, none⟩ = some (.string a0_2) := (blk_cell BK841.out 2).trans rfl
         have hfz34_0 := blk_frozen BK841.out 0
         have hfz34_1 := blk_frozen BK841.out 1
         have hfz34_2 := blk_frozen BK841.out 2
         go_wp2
         go_ret2
         exact ⟨by first | rfl | (simp [errW_none, errW_some] <;> rfl) | (simp [*, errW_none, errW_some] <;> rfl) | (simp [bne_nil_]; done), by repeat (first | (with_reducible first | exact HB.out | apply below_alloc | apply pw_below_drewN | apply below_drew1 | refine below_set ?_ GE841.out) | exact HB.out)⟩
        ·replace c33 := Bool.eq_false_iff.mpr c33
         subst c33
         have H1 : (some (wrap64 (x8_2), 0)) = some (r1, r2) := by rw [if_neg (show ¬ (false = true) by decide)] at H; exact H
         clear H
         have H := H1
         clear H1
         simp only [Option.some.injEq, Prod.mk.injEq] at H
         obtain ⟨rfl, rfl⟩ := H
         have hcz35_0 : wr.cell? ⟨gb841, 0, none⟩ = some (.bool false) := (blk_cell BK841.out 0).trans rfl
         have hcz35_1 : wr.cell? ⟨gb841, 1, none⟩ = some (.string a0_1) := (blk_cell BK841.out 1).trans rfl
         have hcz35_2 : wr.cell? ⟨gb841, 2, none⟩ = some (.string a0_2) := (blk_cell BK841.out 2).trans rfl
         have hfz35_0 := blk_frozen BK841.out 0
         have hfz35_1 := blk_frozen BK841.out 1
         have hfz35_2 := blk_frozen BK841.out 2
         go_wp2
         go_ret2
         exact ⟨by first | rfl | (simp [errW_none, errW_some] <;> rfl) | (simp [*, errW_none, errW_some] <;> rfl) | (simp [bne_nil_]; done), by repeat (first | (with_reducible first | exact HB.out | apply below_alloc | apply pw_below_drewN | apply below_drew1 | refine below_set ?_ GE841.out) | exact HB.out)⟩
 ·rw [if_neg c3] at H
  have c3b0 : (t842 == 0) = false := beq_eq_false_iff_ne.mpr c3
  have c3b1 : (t842 != 0) = true := bne_iff_ne.mpr c3
  simp only [Option.some.injEq, Prod.mk.injEq] at H
  obtain ⟨rfl, rfl⟩ := H
  go_enter Tryd.func39, Tryd.ntmps39
  go_wp2_with (first | ((with_reducible refine gate_dst (N := 1) rfl ?_); refine box_event ?hg (N := 1) ?hd (cs := #[.bool a0_0, .string a0_1, .string a0_2]) (t := 23) ?hr ?_; (case hd => rfl); (case hg => rfl); (case hr => first | (go_simp; done) | (go_simp; rfl)); intro gb841 hg w36 hbox hb; have n0_ := Aside0.mk (below_step HB.out hb); have n1_ := Aside0.mk (hbox); have n2_ := Aside0.mk ((by rw [hg]; exact (below_size HB.out) : w.heap.size ≤ gb841)); have n3_ := Aside0.mk ((by rw [hg]; exact (below_size HB.out) : w.heap.size ≤ gb841)); clear HB; have HB := n0_; have BK841 := n1_; have GW841 := n2_; have GE841 := n3_; clear n0_ n1_ n2_ n3_; clear hb hbox hg; have hcz37_0 : w36.cell? ⟨gb841, 0, none⟩ = some (.bool a0_0) := (blk_cell BK841.out 0).trans rfl; have hcz37_1 : w36.cell? ⟨gb841, 1, none⟩ = some (.string a0_1) := (blk_cell BK841.out 1).trans rfl; have hcz37_2 : w36.cell? ⟨gb841, 2, none⟩ = some (.string a0_2) := (blk_cell BK841.out 2).trans rfl; have hfz37_0 := blk_frozen BK841.out 0; have hfz37_1 := blk_frozen BK841.out 1; have hfz37_2 := blk_frozen BK841.out 2) | ((with_reducible refine gate_callee (f := 17) rfl ?_); refine goesL_ (some 12) rfl rfl Tryd.func17 (by kernel_rfl) rfl #[.agg #[.bool a0_0, .string a0_1, .string a0_2]] rfl (by (try simp only [List.map_toArray, List.map_cons, List.map_nil]); first | done | rfl | (simp only [List.length_drop, List.length_take]; rfl)) ?_; (with_reducible refine (decimal_Check.calls k a0_0 a0_1 a0_2 t842 _ A2.out).mono ?_); rintro e w38 ⟨rfl, hb⟩; refine ⟨_, rfl, ?_⟩; have n0_ := Aside0.mk (blk_below (g := gb841) (o := .cells #[.bool a0_0, .string a0_1, .string a0_2] 23 (0, 0)) BK841.out hb); have n1_ := Aside0.mk (below_step HB.out hb); clear BK841; clear HB; have BK841 := n0_; have HB := n1_; clear n0_ n1_))
  go_ret2
  exact ⟨by first | rfl | (simp [errW_none, errW_some] <;> rfl) | (simp [*, errW_none, errW_some] <;> rfl) | (simp [bne_nil_]; done), by repeat (first | (with_reducible first | exact HB.out | apply below_alloc | apply pw_below_drewN | apply below_drew1 | refine below_set ?_ GE841.out) | exact HB.out)⟩
end Go.Proofs.YtapbdblpdkoacaaDoor.P
namespace Go.Proofs.YtapbdblpdkoacaaDoor.P
open Go.RowKit Go.Proofs.YtapbdblpdkoacaaDoorW.PrintWords Go.Proofs.YtapbdblpdkoacaaDoorW.PrintLast Go.Proofs.YtapbdblpdkoacaaDoorW.PrintMore
attribute [local go_sem] max2_int max_two
set_option linter.unusedVariables false
set_option linter.unusedSimpArgs false
attribute [local go_sem high] eqA23
def idiomlaw02_DecimalInts.j0 : Nat → Bool → Bool → ByteArray → ByteArray → Option (Bool)
  | 0, _, _, _, _ => none
  | k + 1, x35, x853000, x853001, x853002 => if x35 = true then (some false) else ((decimal_Int64.f k x853000 x853001 x853002).bind fun bt861 => (if bt861.2 = 0 then ((decimal_Trim.f k x853000 x853001 x853002).bind fun bt863 => (if bt863.2.2.2 = 0 then ((decimal_Of.f k bt861.1).bind fun bt868 => (some (bt868.1 == bt863.1 && (bt868.2.1.toList == bt863.2.1.toList && (bt868.2.2.toList == bt863.2.2.1.toList))))) else (some false))) else (some (bt861.1 == 0))))
def idiomlaw02_DecimalInts.f (k : Nat) (a0 : Int) (a1_0 : Bool) (a1_1 : ByteArray) (a1_2 : ByteArray) : Option (Bool) := (idiomlaw02_awake.f k).bind fun t853 => (if t853 = true then ((decimal_Of.f k a0).bind fun bt854 => ((decimal_Int64.f k bt854.1 bt854.2.1 bt854.2.2).bind fun bt858 => (if bt858.1 = a0 then (if bt858.2 = 0 then (if bt854.2.2.toList = ([] : List UInt8) then ((decimal_Check.f k bt854.1 bt854.2.1 bt854.2.2).bind fun t860 => (idiomlaw02_DecimalInts.j0 k (t860 != 0) a1_0 a1_1 a1_2)) else (idiomlaw02_DecimalInts.j0 k true a1_0 a1_1 a1_2)) else (idiomlaw02_DecimalInts.j0 k true a1_0 a1_1 a1_2)) else (idiomlaw02_DecimalInts.j0 k true a1_0 a1_1 a1_2)))) else (some false))
def idiomlaw02_DecimalInts.T11 : Bool × List (List Nat × List Nat) := (true, [([], []), ([0], [0]), ([1], [1]), ([2], [2]), ([3, 2, 2], [2, 3]), ([2], [2]), ([4, 5, 2], [2, 4, 5]), ([2, 6], [2, 6]), ([7, 4, 0, 1, 2, 3, 4, 5, 6, 7], [7])])
def idiomlaw02_DecimalInts.B11 : List Nat := [0, 1, 3, 7, 15, 7, 63, 127, 255]
theorem idiomlaw02_DecimalInts.tab11 : rtab .any (opsOf Tryd.f10 11) = idiomlaw02_DecimalInts.T11 := by kernel_rfl
theorem idiomlaw02_DecimalInts.bits11 : waitsOk idiomlaw02_DecimalInts.T11.2 idiomlaw02_DecimalInts.B11 = true := by kernel_rfl
set_option maxHeartbeats 8000000 in
set_option maxRecDepth 100000 in
theorem idiomlaw02_DecimalInts.calls (k : Nat) (a0 : Int) (a1_0 : Bool) (a1_1 : ByteArray) (a1_2 : ByteArray) (r : Bool) (w : World) (h : idiomlaw02_DecimalInts.f k a0 a1_0 a1_1 a1_2 = some r) :
    Calls Tryd.prog 10 #[.int .i64 a0, .agg #[.bool a1_0, .string a1_1, .string a1_2]] w fun e w' => e = .returned (.bool r) ∧ Below w.heap.size w w' := by
 have hu23 := Tryd.underlying23
 have HB := Aside0.mk (Below.refl w.heap.size w)
 unfold idiomlaw02_DecimalInts.f at h
 have H := h
 clear h
 replace H := Option.bind_eq_some_iff.mp H
 obtain ⟨t853, A30, H⟩ := H
 try dsimp only at H
 have A3 := Aside0.mk A30
 clear A30
 by_cases c4 : t853 = true
 ·subst c4
  have H1 : ((decimal_Of.f k a0).bind fun bt854 => ((decimal_Int64.f k bt854.1 bt854.2.1 bt854.2.2).bind fun bt858 => (if bt858.1 = a0 then (if bt858.2 = 0 then (if bt854.2.2.toList = ([] : List UInt8) then ((decimal_Check.f k bt854.1 bt854.2.1 bt854.2.2).bind fun t860 => (idiomlaw02_DecimalInts.j0 k (t860 != 0) a1_0 a1_1 a1_2)) else (idiomlaw02_DecimalInts.j0 k true a1_0 a1_1 a1_2)) else (idiomlaw02_DecimalInts.j0 k true a1_0 a1_1 a1_2)) else (idiomlaw02_DecimalInts.j0 k true a1_0 a1_1 a1_2)))) = some r := by rw [if_pos rfl] at H; exact H
  clear H
  have H := H1
  clear H1
  replace H := Option.bind_eq_some_iff.mp H
  obtain ⟨⟨t854, t855, t856⟩, A50, H⟩ := H
  try dsimp only at H
  have A5 := Aside0.mk A50
  clear A50
  replace H := Option.bind_eq_some_iff.mp H
  obtain ⟨⟨t858, t859⟩, A60, H⟩ := H
  try dsimp only at H
  have A6 := Aside0.mk A60
  clear A60
  have HC7 := Aside0.mk H
  clear H
  go_enter Tryd.func10, Tryd.ntmps10
  go_upto_region 5 with (first | ((with_reducible refine gate_dst (N := 3) rfl ?_); refine box_event ?hg (N := 3) ?hd (cs := #[.bool a1_0, .string a1_1, .string a1_2]) (t := 23) ?hr ?_; (case hd => rfl); (case hg => rfl); (case hr => first | (go_simp; done) | (go_simp; rfl)); intro gb852 hg w8 hbox hb; have n0_ := Aside0.mk (below_step HB.out hb); have n1_ := Aside0.mk (hbox); have n2_ := Aside0.mk ((by rw [hg]; exact (below_size HB.out) : w.heap.size ≤ gb852)); have n3_ := Aside0.mk ((by rw [hg]; exact (below_size HB.out) : w.heap.size ≤ gb852)); clear HB; have HB := n0_; have BK852 := n1_; have GW852 := n2_; have GE852 := n3_; clear n0_ n1_ n2_ n3_; clear hb hbox hg) | ((with_reducible refine gate_callee (f := 19) rfl ?_); refine goesL_ (some 10) rfl rfl Tryd.func19 (by kernel_rfl) rfl #[] rfl (by simp only [List.map_toArray, List.map_cons, List.map_nil]) ?_; (with_reducible refine (idiomlaw02_awake.calls k  true _ A3.out).mono ?_); rintro e w9 ⟨rfl, hb⟩; refine ⟨_, rfl, ?_⟩; have n0_ := Aside0.mk (blk_below (g := gb852) (o := .cells #[.bool a1_0, .string a1_1, .string a1_2] 23 (0, 0)) BK852.out hb); have n1_ := Aside0.mk (below_step HB.out hb); clear BK852; clear HB; have BK852 := n0_; have HB := n1_; clear n0_ n1_) | ((with_reducible refine gate_callee (f := 38) rfl ?_); refine goesL_ (some 13) rfl rfl Tryd.func38 (by kernel_rfl) rfl #[.int .i64 a0] rfl (by (try simp only [List.map_toArray, List.map_cons, List.map_nil]); first | done | rfl | (simp only [List.length_drop, List.length_take]; rfl)) ?_; (with_reducible refine (decimal_Of.calls k a0 t854 t855 t856 _ A5.out).mono ?_); rintro e w10 ⟨rfl, hb⟩; refine ⟨_, rfl, ?_⟩; have n0_ := Aside0.mk (blk_below (g := gb852) (o := .cells #[.bool a1_0, .string a1_1, .string a1_2] 23 (0, 0)) BK852.out hb); have n1_ := Aside0.mk (below_step HB.out hb); clear BK852; clear HB; have BK852 := n0_; have HB := n1_; clear n0_ n1_) | ((with_reducible refine gate_dst (N := 5) rfl ?_); refine box_event ?hg (N := 5) ?hd (cs := #[.bool false, .string (⟨#[]⟩ : ByteArray), .string (⟨#[]⟩ : ByteArray)]) (t := 23) ?hr ?_; (case hd => rfl); (case hg => rfl); (case hr => first | (go_simp; done) | (go_simp; rfl)); intro gb857 hg w11 hbox hb; have n0_ := Aside0.mk (blk_below (g := gb852) (o := .cells #[.bool a1_0, .string a1_1, .string a1_2] 23 (0, 0)) BK852.out hb); have n1_ := Aside0.mk (below_step HB.out hb); have n2_ := Aside0.mk (hbox); have n3_ := Aside0.mk ((by rw [hg]; exact (below_size HB.out) : w.heap.size ≤ gb857)); have n4_ := Aside0.mk ((by rw [hg]; exact (below_size HB.out) : w.heap.size ≤ gb857)); have n5_ := Aside0.mk ((by rw [hg]; exact Nat.ne_of_lt (blk_lt (g := gb852) (o := .cells #[.bool a1_0, .string a1_1, .string a1_2] 23 (0, 0)) BK852.out) : gb852 ≠ gb857)); have n6_ := Aside0.mk ((by rw [hg]; exact Nat.ne_of_gt (blk_lt (g := gb852) (o := .cells #[.bool a1_0, .string a1_1, .string a1_2] 23 (0, 0)) BK852.out) : gb857 ≠ gb852)); clear BK852; clear HB; have BK852 := n0_; have HB := n1_; have BK857 := n2_; have GW857 := n3_; have GE857 := n4_; have NB852_857 := n5_; have NB857_852 := n6_; clear n0_ n1_ n2_ n3_ n4_ n5_ n6_; clear hb hbox hg; have hnb12 := NB857_852.out; have hnc12 := NB852_857.out; have hcz13_0 : w11.cell? ⟨gb857, 0, none⟩ = some (.bool false) := (blk_cell BK857.out 0).trans rfl; have hcz13_1 : w11.cell? ⟨gb857, 1, none⟩ = some (.string (⟨#[]⟩ : ByteArray)) := (blk_cell BK857.out 1).trans rfl; have hcz13_2 : w11.cell? ⟨gb857, 2, none⟩ = some (.string (⟨#[]⟩ : ByteArray)) := (blk_cell BK857.out 2).trans rfl; have hfz13_0 := blk_frozen BK857.out 0; have hfz13_1 := blk_frozen BK857.out 1; have hfz13_2 := blk_frozen BK857.out 2) | ((with_reducible refine gate_callee (f := 39) rfl ?_); refine goesL_ (some 16) rfl rfl Tryd.func39 (by kernel_rfl) rfl #[.agg #[.bool t854, .string t855, .string t856]] rfl (by (try simp only [List.map_toArray, List.map_cons, List.map_nil]); first | done | rfl | (simp only [List.length_drop, List.length_take]; rfl)) ?_; (with_reducible refine (decimal_Int64.calls k t854 t855 t856 t858 t859 _ A6.out).mono ?_); rintro e w14 ⟨rfl, hb⟩; refine ⟨_, rfl, ?_⟩; have n0_ := Aside0.mk (blk_below (g := gb852) (o := .cells #[.bool a1_0, .string a1_1, .string a1_2] 23 (0, 0)) (by refine blk_far ?_ NB852_857.out _; refine blk_far ?_ NB852_857.out _; refine blk_far ?_ NB852_857.out _; exact BK852.out) hb); have n1_ := Aside0.mk (blk_below (g := gb857) (o := .cells #[.bool t854, .string t855, .string t856] 23 (0, 0)) (by refine blk_put (cs := #[.bool t854, .string t855, .string (⟨#[]⟩ : ByteArray)]) ?_ 2 _ rfl; refine blk_put (cs := #[.bool t854, .string (⟨#[]⟩ : ByteArray), .string (⟨#[]⟩ : ByteArray)]) ?_ 1 _ rfl; refine blk_put (cs := #[.bool false, .string (⟨#[]⟩ : ByteArray), .string (⟨#[]⟩ : ByteArray)]) ?_ 0 _ rfl; exact BK857.out) hb); have n2_ := Aside0.mk (below_step (by repeat (first | (with_reducible first | exact HB.out | apply below_alloc | apply pw_below_drewN | apply below_drew1 | refine below_set ?_ GE852.out | refine below_set ?_ GE857.out) | exact HB.out)) hb); clear BK852; clear BK857; clear HB; have BK852 := n0_; have BK857 := n1_; have HB := n2_; clear n0_ n1_ n2_))
  (try simp only [Act.put, List.setIfInBounds_toArray, List.set_cons_zero, List.set_cons_succ])
  go_cut [35] (fun v35 wc => ∃ (kq : Nat) (x35_6 : Bool), v35 = .bool x35_6 ∧ Aside0 (idiomlaw02_DecimalInts.j0 kq x35_6 a1_0 a1_1 a1_2 = some r) ∧ Aside0 (kq ≤ k) ∧ Aside0 (wc.heap[gb852]? = some (.cells #[.bool a1_0, .string a1_1, .string a1_2] 23 (0, 0))) ∧ Aside0 (wc.heap[gb857]? = some (.cells #[.bool t854, .string t855, .string t856] 23 (0, 0))) ∧ Aside0 (Below w.heap.size w wc))
  case first =>
   have H := HC7.out
   clear HC7
   by_cases c15 : t858 = a0
   ·rw [if_pos c15] at H
    have c15b0 : (t858 == a0) = true := beq_iff_eq.mpr c15
    have c15b1 : (t858 != a0) = false := bne_eq_false_iff_eq.mpr c15
    clear c15
    (first | rw [c15b0] | (simp only [i64_w, i32_w]; rw [c15b0]) | rw [c15b1] | skip)
    by_cases c16 : t859 = 0
    ·rw [if_pos c16] at H
     have c16b0 : (t859 == 0) = true := beq_iff_eq.mpr c16
     have c16b1 : (t859 != 0) = false := bne_eq_false_iff_eq.mpr c16
     clear c16
     by_cases c17 : t856.toList = ([] : List UInt8)
     ·rw [if_pos c17] at H
      have c17b0 : (t856.toList == ([] : List UInt8)) = true := beq_iff_eq.mpr c17
      have c17b1 : (t856.toList != ([] : List UInt8)) = false := bne_eq_false_iff_eq.mpr c17
      clear c17
      replace H := Option.bind_eq_some_iff.mp H
      obtain ⟨t860, A180, H⟩ := H
      try dsimp only at H
      have A18 := Aside0.mk A180
      clear A180
      have H' := Aside0.mk H
      clear H
      have hnb19 := NB857_852.out
      have hnc19 := NB852_857.out
      have hcz20_0 : w14.cell? ⟨gb857, 0, none⟩ = some (.bool t854) := (blk_cell BK857.out 0).trans rfl
      have hcz20_1 : w14.cell? ⟨gb857, 1, none⟩ = some (.string t855) := (blk_cell BK857.out 1).trans rfl
      have hcz20_2 : w14.cell? ⟨gb857, 2, none⟩ = some (.string t856) := (blk_cell BK857.out 2).trans rfl
      have hfz20_0 := blk_frozen BK857.out 0
      have hfz20_1 := blk_frozen BK857.out 1
      have hfz20_2 := blk_frozen BK857.out 2
      go_wp2_with (first | (go_at_call 17; (with_reducible refine (decimal_Check.calls k t854 t855 t856 t860 _ A18.out).mono ?_); rintro e w21 ⟨rfl, hb⟩; have n0_ := Aside0.mk (blk_below (g := gb852) (o := .cells #[.bool a1_0, .string a1_1, .string a1_2] 23 (0, 0)) BK852.out hb); have n1_ := Aside0.mk (blk_below (g := gb857) (o := .cells #[.bool t854, .string t855, .string t856] 23 (0, 0)) BK857.out hb); have n2_ := Aside0.mk (below_step HB.out hb); clear BK852; clear BK857; clear HB; have BK852 := n0_; have BK857 := n1_; have HB := n2_; clear n0_ n1_ n2_))
      go_meet
      case rel => exact ⟨_, ((t860 != 0)), (by first | rfl | (simp; done) | (simp [*]; done)), H', ⟨by first | omega | exact Nat.le_refl _⟩, ⟨by exact BK852.out⟩, ⟨by exact BK857.out⟩, ⟨by repeat (first | (with_reducible first | exact HB.out | apply below_alloc | apply pw_below_drewN | apply below_drew1 | refine below_set ?_ GE852.out | refine below_set ?_ GE857.out) | exact HB.out)⟩⟩
     ·rw [if_neg c17] at H
      have c17b0 : (t856.toList == ([] : List UInt8)) = false := beq_eq_false_iff_ne.mpr c17
      have c17b1 : (t856.toList != ([] : List UInt8)) = true := bne_iff_ne.mpr c17
      have H' := Aside0.mk H
      clear H
      have hnb22 := NB857_852.out
      have hnc22 := NB852_857.out
      have hcz23_0 : w14.cell? ⟨gb857, 0, none⟩ = some (.bool t854) := (blk_cell BK857.out 0).trans rfl
      have hcz23_1 : w14.cell? ⟨gb857, 1, none⟩ = some (.string t855) := (blk_cell BK857.out 1).trans rfl
      have hcz23_2 : w14.cell? ⟨gb857, 2, none⟩ = some (.string t856) := (blk_cell BK857.out 2).trans rfl
      have hfz23_0 := blk_frozen BK857.out 0
      have hfz23_1 := blk_frozen BK857.out 1
      have hfz23_2 := blk_frozen BK857.out 2
      go_wp2
      go_meet
      case rel => exact ⟨_, (true), (by first | rfl | (simp; done) | (simp [*]; done)), H', ⟨by first | omega | exact Nat.le_refl _⟩, ⟨by exact BK852.out⟩, ⟨by exact BK857.out⟩, ⟨by repeat (first | (with_reducible first | exact HB.out | apply below_alloc | apply pw_below_drewN | apply below_drew1 | refine below_set ?_ GE852.out | refine below_set ?_ GE857.out) | exact HB.out)⟩⟩
    ·rw [if_neg c16] at H
     have c16b0 : (t859 == 0) = false := beq_eq_false_iff_ne.mpr c16
     have c16b1 : (t859 != 0) = true := bne_iff_ne.mpr c16
     have H' := Aside0.mk H
     clear H
     go_wp2
     go_meet
     case rel => exact ⟨_, (true), (by first | rfl | (simp; done) | (simp [*]; done)), H', ⟨by first | omega | exact Nat.le_refl _⟩, ⟨by exact BK852.out⟩, ⟨by exact BK857.out⟩, ⟨by repeat (first | (with_reducible first | exact HB.out | apply below_alloc | apply pw_below_drewN | apply below_drew1 | refine below_set ?_ GE852.out | refine below_set ?_ GE857.out) | exact HB.out)⟩⟩
   ·rw [if_neg c15] at H
    have c15b0 : (t858 == a0) = false := beq_eq_false_iff_ne.mpr c15
    have c15b1 : (t858 != a0) = true := bne_iff_ne.mpr c15
    (first | rw [c15b0] | (simp only [i64_w, i32_w]; rw [c15b0]) | rw [c15b1] | skip)
    have H' := Aside0.mk H
    clear H
    go_wp2
    go_meet
    case rel => exact ⟨_, (true), (by first | rfl | (simp; done) | (simp [*]; done)), H', ⟨by first | omega | exact Nat.le_refl _⟩, ⟨by exact BK852.out⟩, ⟨by exact BK857.out⟩, ⟨by repeat (first | (with_reducible first | exact HB.out | apply below_alloc | apply pw_below_drewN | apply below_drew1 | refine below_set ?_ GE852.out | refine below_set ?_ GE857.out) | exact HB.out)⟩⟩
  case rest =>
   clear HC7
   try clear c1
   try clear c2
   try clear p2
   try clear c3
   try clear c4
   try clear c10
   try clear c12
   try clear c15
   try clear c15b0
   try clear c15b1
   try clear c16
   try clear c16b0
   try clear c16b1
   try clear c17
   try clear c17b0
   try clear c17b1
   try clear c19
   try clear c22
   try clear hcz13_0
   try clear hcz13_1
   try clear hcz13_2
   try clear hcz20_0
   try clear hcz20_1
   try clear hcz20_2
   try clear hcz23_0
   try clear hcz23_1
   try clear hcz23_2
   try clear hfz13_0
   try clear hfz13_1
   try clear hfz13_2
   try clear hfz20_0
   try clear hfz20_1
   try clear hfz20_2
   try clear hfz23_0
   try clear hfz23_1
   try clear hfz23_2
   obtain ⟨kq, x35_6, rfl, HA, HJ6, BK852, BK857, HB⟩ := hcut
   cases kq with
   | zero => exact absurd HA.out (by simp [idiomlaw02_DecimalInts.j0])
   | succ kj6 =>
    have H := HA.out
    clear HA
    simp only [idiomlaw02_DecimalInts.j0] at H
    by_cases c24 : x35_6 = true
    ·subst c24
     have H1 : (some false) = some r := by rw [if_pos rfl] at H; exact H
     clear H
     have H := H1
     clear H1
     obtain rfl := Option.some.inj H
     go_wp2
     go_ret
     exact ⟨by first | rfl | (simp [errW_none, errW_some] <;> rfl) | (simp [*, errW_none, errW_some] <;> rfl) | (simp [bne_nil_]; done), by repeat (first | (with_reducible first | exact HB.out | apply below_alloc | apply pw_below_drewN | apply below_drew1 | refine below_set ?_ GE852.out | refine below_set ?_ GE857.out) | exact HB.out)⟩
    ·replace c24 := Bool.eq_false_iff.mpr c24
     subst c24
     have H1 : ((decimal_Int64.f kj6 a1_0 a1_1 a1_2).bind fun bt861 => (if bt861.2 = 0 then ((decimal_Trim.f kj6 a1_0 a1_1 a1_2).bind fun bt863 => (if bt863.2.2.2 = 0 then ((decimal_Of.f kj6 bt861.1).bind fun bt868 => (some (bt868.1 == bt863.1 && (bt868.2.1.toList == bt863.2.1.toList && (bt868.2.2.toList == bt863.2.2.1.toList))))) else (some false))) else (some (bt861.1 == 0)))) = some r := by rw [if_neg (show ¬ (false = true) by decide)] at H; exact H
     clear H
     have H := H1
     clear H1
     replace H := Option.bind_eq_some_iff.mp H
     obtain ⟨⟨t861, t862⟩, A250, H⟩ := H
     try dsimp only at H
     have A25 := Aside0.mk A250
     clear A250
     by_cases c26 : t862 = 0
     ·rw [if_pos c26] at H
      have c26b0 : (t862 == 0) = true := beq_iff_eq.mpr c26
      have c26b1 : (t862 != 0) = false := bne_eq_false_iff_eq.mpr c26
      clear c26
      replace H := Option.bind_eq_some_iff.mp H
      obtain ⟨⟨t863, t864, t865, t866⟩, A270, H⟩ := H
      try dsimp only at H
      have A27 := Aside0.mk A270
      clear A270
      by_cases c28 : t866 = 0
      ·rw [if_pos c28] at H
       have c28b0 : (t866 == 0) = true := beq_iff_eq.mpr c28
       have c28b1 : (t866 != 0) = false := bne_eq_false_iff_eq.mpr c28
       clear c28
       replace H := Option.bind_eq_some_iff.mp H
       obtain ⟨⟨t868, t869, t870⟩, A290, H⟩ := H
       try dsimp only at H
       have A29 := Aside0.mk A290
       clear A290
       obtain rfl := Option.some.inj H
       have hnb30 := NB852_857.out
       have hnc30 := NB857_852.out
       have hcz31_0 : wc.cell? ⟨gb852, 0, none⟩ = some (.bool a1_0) := (blk_cell BK852.out 0).trans rfl
       have hcz31_1 : wc.cell? ⟨gb852, 1, none⟩ = some (.string a1_1) := (blk_cell BK852.out 1).trans rfl
       have hcz31_2 : wc.cell? ⟨gb852, 2, none⟩ = some (.string a1_2) := (blk_cell BK852.out 2).trans rfl
       have hfz31_0 := blk_frozen BK852.out 0
       have hfz31_1 := blk_frozen BK852.out 1
       have hfz31_2 := blk_frozen BK852.out 2
       try go_wp2_with (first | ((with_reducible refine gate_callee (f := 39) rfl ?_); refine goesL_ (some 38) rfl rfl Tryd.func39 (by kernel_rfl) rfl #[.agg #[.bool a1_0, .string a1_1, .string a1_2]] rfl (by (try simp only [List.map_toArray, List.map_cons, List.map_nil]); first | done | rfl | (simp only [List.length_drop, List.length_take]; rfl)) ?_; (with_reducible refine (decimal_Int64.calls kj6 a1_0 a1_1 a1_2 t861 t862 _ A25.out).mono ?_); rintro e w32 ⟨rfl, hb⟩; refine ⟨_, rfl, ?_⟩; have n0_ := Aside0.mk (blk_below (g := gb852) (o := .cells #[.bool a1_0, .string a1_1, .string a1_2] 23 (0, 0)) BK852.out hb); have n1_ := Aside0.mk (blk_below (g := gb857) (o := .cells #[.bool t854, .string t855, .string t856] 23 (0, 0)) BK857.out hb); have n2_ := Aside0.mk (below_step HB.out hb); clear BK852; clear BK857; clear HB; have BK852 := n0_; have BK857 := n1_; have HB := n2_; clear n0_ n1_ n2_; have hcz33_0 : w32.cell? ⟨gb852, 0, none⟩ = some (.bool a1_0) := (blk_cell BK852.out 0).trans rfl; have hcz33_1 : w32.cell? ⟨gb852, 1, none⟩ = some (.string a1_1) := (blk_cell BK852.out 1).trans rfl; have hcz33_2 : w32.cell? ⟨gb852, 2, none⟩ = some (.string a1_2) := (blk_cell BK852.out 2).trans rfl; have hfz33_0 := blk_frozen BK852.out 0; have hfz33_1 := blk_frozen BK852.out 1; have hfz33_2 := blk_frozen BK852.out 2) | ((with_reducible refine gate_callee (f := 30) rfl ?_); refine goesL_ (some 47) rfl rfl Tryd.func30 (by kernel_rfl) rfl #[.agg #[.bool a1_0, .string a1_1, .string a1_2]] rfl (by (try simp only [List.map_toArray, List.map_cons, List.map_nil]); first | done | rfl | (simp only [List.length_drop, List.length_take]; rfl)) ?_; (with_reducible refine (decimal_Trim.calls kj6 a1_0 a1_1 a1_2 t863 t864 t865 t866 _ A27.out).mono ?_); rintro e w34 ⟨rfl, hb⟩; refine ⟨_, rfl, ?_⟩; have n0_ := Aside0.mk (blk_below (g := gb852) (o := .cells #[.bool a1_0, .string a1_1, .string a1_2] 23 (0, 0)) BK852.out hb); have n1_ := Aside0.mk (blk_below (g := gb857) (o := .cells #[.bool t854, .string t855, .string t856] 23 (0, 0)) BK857.out hb); have n2_ := Aside0.mk (below_step HB.out hb); clear BK852; clear BK857; clear HB; have BK852 := n0_; have BK857 := n1_; have HB := n2_; clear n0_ n1_ n2_) | ((with_reducible refine gate_dst (N := 9) rfl ?_); refine box_event ?hg (N := 9) ?hd (cs := #[.bool false, .string (⟨#[]⟩ : ByteArray), .string (⟨#[]⟩ : ByteArray)]) (t := 23) ?hr ?_; (case hd => rfl); (case hg => rfl); (case hr => first | (go_simp; done) | (go_simp; rfl)); intro gb867 hg w35 hbox hb; have n0_ := Aside0.mk (blk_below (g := gb852) (o := .cells #[.bool a1_0, .string a1_1, .string a1_2] 23 (0, 0)) BK852.out hb); have n1_ := Aside0.mk (blk_below (g := gb857) (o := .cells #[.bool t854, .string t855, .string t856] 23 (0, 0)) BK857.out hb); have n2_ := Aside0.mk (below_step HB.out hb); have n3_ := Aside0.mk (hbox); have n4_ := Aside0.mk ((by rw [hg]; exact (below_size HB.out) : w.heap.size ≤ gb867)); have n5_ := Aside0.mk ((by rw [hg]; exact (below_size HB.out) : w.heap.size ≤ gb867)); have n6_ := Aside0.mk ((by rw [hg]; exact Nat.ne_of_lt (blk_lt (g := gb852) (o := .cells #[.bool a1_0, .string a1_1, .string a1_2] 23 (0, 0)) BK852.out) : gb852 ≠ gb867)); have n7_ := Aside0.mk ((by rw [hg]; exact Nat.ne_of_gt (blk_lt (g := gb852) (o := .cells #[.bool a1_0, .string a1_1, .string a1_2] 23 (0, 0)) BK852.out) : gb867 ≠ gb852)); have n8_ := Aside0.mk ((by rw [hg]; exact Nat.ne_of_lt (blk_lt (g := gb857) (o := .cells #[.bool t854, .string t855, .string t856] 23 (0, 0)) BK857.out) : gb857 ≠ gb867)); have n9_ := Aside0.mk ((by rw [hg]; exact Nat.ne_of_gt (blk_lt (g := gb857) (o := .cells #[.bool t854, .string t855, .string t856] 23 (0, 0)) BK857.out) : gb867 ≠ gb857)); clear BK852; clear BK857; clear HB; have BK852 := n0_; have BK857 := n1_; have HB := n2_; have BK867 := n3_; have GW867 := n4_; have GE867 := n5_; have NB852_867 := n6_; have NB867_852 := n7_; have NB857_867 := n8_; have NB867_857 := n9_; clear n0_ n1_ n2_ n3_ n4_ n5_ n6_ n7_ n8_ n9_; clear hb hbox hg; have hnb36 := NB867_852.out; have hnc36 := NB852_867.out; have hnb37 := NB867_857.out; have hnc37 := NB857_867.out; have hcz38_0 : w35.cell? ⟨gb867, 0, none⟩ = some (.bool false) := (blk_cell BK867.out 0).trans rfl; have hcz38_1 : w35.cell? ⟨gb867, 1, none⟩ = some (.string (⟨#[]⟩ : ByteArray)) := (blk_cell BK867.out 1).trans rfl; have hcz38_2 : w35.cell? ⟨gb867, 2, none⟩ = some (.string (⟨#[]⟩ : ByteArray)) := (blk_cell BK867.out 2).trans rfl; have hfz38_0 := blk_frozen BK867.out 0; have hfz38_1 := blk_frozen BK867.out 1; have hfz38_2 := blk_frozen BK867.out 2))
       have n0_ : Aside0 ((((w35.setCell ⟨gb867, 0, none⟩ (.bool t863)).setCell ⟨gb867, 1, none⟩ (.string t864)).setCell ⟨gb867, 2, none⟩ (.string t865)).heap[gb852]? = some (.cells #[.bool a1_0, .string a1_1, .string a1_2] 23 (0, 0))) := ⟨by refine blk_far ?_ NB852_867.out _; refine blk_far ?_ NB852_867.out _; refine blk_far ?_ NB852_867.out _; exact BK852.out⟩
       have n1_ : Aside0 ((((w35.setCell ⟨gb867, 0, none⟩ (.bool t863)).setCell ⟨gb867, 1, none⟩ (.string t864)).setCell ⟨gb867, 2, none⟩ (.string t865)).heap[gb857]? = some (.cells #[.bool t854, .string t855, .string t856] 23 (0, 0))) := ⟨by refine blk_far ?_ NB857_867.out _; refine blk_far ?_ NB857_867.out _; refine blk_far ?_ NB857_867.out _; exact BK857.out⟩
       have n2_ : Aside0 ((((w35.setCell ⟨gb867, 0, none⟩ (.bool t863)).setCell ⟨gb867, 1, none⟩ (.string t864)).setCell ⟨gb867, 2, none⟩ (.string t865)).heap[gb867]? = some (.cells #[.bool t863, .string t864, .string t865] 23 (0, 0))) := ⟨by refine blk_put (cs := #[.bool t863, .string t864, .string (⟨#[]⟩ : ByteArray)]) ?_ 2 _ rfl; refine blk_put (cs := #[.bool t863, .string (⟨#[]⟩ : ByteArray), .string (⟨#[]⟩ : ByteArray)]) ?_ 1 _ rfl; refine blk_put (cs := #[.bool false, .string (⟨#[]⟩ : ByteArray), .string (⟨#[]⟩ : ByteArray)]) ?_ 0 _ rfl; exact BK867.out⟩
       have n3_ : Aside0 (Below w.heap.size w (((w35.setCell ⟨gb867, 0, none⟩ (.bool t863)).setCell ⟨gb867, 1, none⟩ (.string t864)).setCell ⟨gb867, 2, none⟩ (.string t865))) := ⟨by repeat (first | (with_reducible first | exact HB.out | apply below_alloc | apply pw_below_drewN | apply below_drew1 | refine below_set ?_ GE852.out | refine below_set ?_ GE857.out | refine below_set ?_ GE867.out) | exact HB.out)⟩
       (try clear BK852)
       (try clear BK857)
       (try clear BK867)
       (try clear HB)
       generalize (((w35.setCell ⟨gb867, 0, none⟩ (.bool t863)).setCell ⟨gb867, 1, none⟩ (.string t864)).setCell ⟨gb867, 2, none⟩ (.string t865)) = w39 at n0_ n1_ n2_ n3_ ⊢
       have BK852 := n0_
       have BK857 := n1_
       have BK867 := n2_
       have HB := n3_
       clear n0_ n1_ n2_ n3_
       have n0_ := Aside0.mk (blk_drew BK852.out)
       have n1_ := Aside0.mk (blk_drew BK857.out)
       have n2_ := Aside0.mk (blk_drew BK867.out)
       have n3_ := Aside0.mk (below_drew1 HB.out)
       clear BK852
       clear BK857
       clear BK867
       clear HB
       have BK852 := n0_
       have BK857 := n1_
       have BK867 := n2_
       have HB := n3_
       clear n0_ n1_ n2_ n3_
       refine start_ (n := 9) (S := fun w' => w'.cell? ⟨gb867, 0, none⟩ = some (.bool t863) ∧ w'.cell? ⟨gb867, 1, none⟩ = some (.string t864) ∧ w'.cell? ⟨gb867, 2, none⟩ = some (.string t865)) (ds := []) #[false, false, false, false, false, false, false, false, false] (by kernel_rfl) rfl rfl ⟨(blk_cell BK867.out 0).trans rfl, (blk_cell BK867.out 1).trans rfl, (blk_cell BK867.out 2).trans rfl⟩ (fun hHeld => ?_); refine with_tabW idiomlaw02_DecimalInts.tab11 idiomlaw02_DecimalInts.bits11 (fun HT_ HW_ => ?_)
       generalize w39.drew = w40 at BK852 BK857 BK867 HB hHeld ⊢
       refine pure_ (i := 0) (N := some 50) (v := ?_) (a' := ?_) #[true, false, false, false, false, false, false, false, false] rfl rfl (any_of HT_.out (by kernel_rfl)) (fun _ _ _ h => h) (Or.inl ⟨by rfl, ?_⟩) ?_ ?_
       rotate_left
       ·intro w'
        go_simp
        with_reducible rfl
       rotate_left
       ·simp only [Act.put, List.setIfInBounds_toArray, List.set_cons_zero, List.set_cons_succ, i64_w, i32_w]
        rfl
       refine pure_ (i := 1) (N := some 51) (v := ?_) (a' := ?_) #[true, true, false, false, false, false, false, false, false] rfl rfl (any_of HT_.out (by kernel_rfl)) (fun _ _ _ h => h) (Or.inl ⟨by rfl, ?_⟩) ?_ ?_
       rotate_left
       ·intro w'
        go_simp
        with_reducible rfl
       rotate_left
       ·simp only [Act.put, List.setIfInBounds_toArray, List.set_cons_zero, List.set_cons_succ, i64_w, i32_w]
        rfl
       refine pure_ (i := 2) (N := some 52) (v := ?_) (a' := ?_) #[true, true, true, false, false, false, false, false, false] rfl rfl (any_of HT_.out (by kernel_rfl)) (fun _ _ _ h => h) (Or.inl ⟨by rfl, ?_⟩) ?_ ?_
       rotate_left
       ·intro w'
        go_simp
        with_reducible rfl
       rotate_left
       ·simp only [Act.put, List.setIfInBounds_toArray, List.set_cons_zero, List.set_cons_succ, i64_w, i32_w]
        rfl
       refine pure_ (i := 3) (N := some 53) (v := ?_) (a' := ?_) #[true, true, true, true, false, false, false, false, false] rfl rfl (any_of HT_.out (by kernel_rfl)) (fun _ _ _ h => h) (Or.inl ⟨by rfl, ?_⟩) ?_ ?_
       rotate_left
       ·intro w'
        go_simp
        with_reducible rfl
       rotate_left
       ·simp only [Act.put, List.setIfInBounds_toArray, List.set_cons_zero, List.set_cons_succ, i64_w, i32_w]
        rfl
       refine take_ (i := 5) (N := some 55) (v := ?_) (a' := ?_) #[true, true, true, true, false, true, false, false, false] rfl rfl (take_ofW HT_.out HW_.out (by kernel_rfl)) (fun _ _ _ h => h) (Or.inl ⟨by rfl, ?_⟩) hHeld ?_ ?_
       rotate_left
       ·rintro w' ⟨s0, s1, s2⟩
        go_simp
        with_reducible rfl
       rotate_left
       ·simp only [Act.put, List.setIfInBounds_toArray, List.set_cons_zero, List.set_cons_succ, i64_w, i32_w]
        rfl
       refine one_ (i := 4) (N := some 54) #[true, true, true, true, true, true, false, false, false] rfl rfl (one_of HT_.out (by kernel_rfl)) (by decide) (fun K hK => ?_)
       refine goes_ Tryd.func38 (by kernel_rfl) rfl #[.int .i64 t861] (by rfl) rfl rfl (by (try simp only [List.map_toArray, List.map_cons, List.map_nil]); first | done | rfl | (simp only [List.length_drop, List.length_take]; rfl)) ?_
       with_reducible refine (decimal_Of.calls kj6 t861 t868 t869 t870 _ A29.out).mono ?_
       rintro e w41 ⟨rfl, hb⟩
       refine ⟨_, rfl, ?_⟩
       have n0_ := Aside0.mk (blk_below (g := gb852) (o := .cells #[.bool a1_0, .string a1_1, .string a1_2] 23 (0, 0)) BK852.out hb)
       have n1_ := Aside0.mk (blk_below (g := gb857) (o := .cells #[.bool t854, .string t855, .string t856] 23 (0, 0)) BK857.out hb)
       have n2_ := Aside0.mk (blk_below (g := gb867) (o := .cells #[.bool t863, .string t864, .string t865] 23 (0, 0)) BK867.out hb)
       have n3_ := Aside0.mk (below_step HB.out hb)
       clear BK852
       clear BK857
       clear BK867
       clear HB
       have BK852 := n0_
       have BK857 := n1_
       have BK867 := n2_
       have HB := n3_
       clear n0_ n1_ n2_ n3_
       (try clear hb)
       (try clear hb2)
       (try clear hk)
       (try clear hi)
       refine hK.out _ _ ⟨(blk_cell BK867.out 0).trans rfl, (blk_cell BK867.out 1).trans rfl, (blk_cell BK867.out 2).trans rfl⟩ (fun hHeld => ?_)
       clear hK K
       refine norm_ (a' := ?_) ?_ ?_
       rotate_left
       ·show Act.put _ (some 54) _ = _
        simp only [Act.put, List.setIfInBounds_toArray, List.set_cons_zero, List.set_cons_succ, i64_w, i32_w]
        rfl
       refine pure_ (i := 6) (N := some 56) (v := ?_) (a' := ?_) #[true, true, true, true, true, true, true, false, false] rfl rfl (any_of HT_.out (by kernel_rfl)) (fun _ _ _ h => h) (Or.inl ⟨by rfl, ?_⟩) ?_ ?_
       rotate_left
       ·intro w'
        go_simp
        with_reducible rfl
       rotate_left
       ·simp only [Act.put, List.setIfInBounds_toArray, List.set_cons_zero, List.set_cons_succ, i64_w, i32_w]
        rfl
       refine pure_ (i := 7) (N := some 57) (v := ?_) (a' := ?_) #[true, true, true, true, true, true, true, true, false] rfl rfl (any_of HT_.out (by kernel_rfl)) (fun _ _ _ h => h) (Or.inl ⟨by rfl, ?_⟩) ?_ ?_
       rotate_left
       ·intro w'
        go_simp
        with_reducible rfl
       rotate_left
       ·simp only [Act.put, List.setIfInBounds_toArray, List.set_cons_zero, List.set_cons_succ, i64_w, i32_w]
        rfl
       refine pure_ (i := 8) (N := some 4) (v := ?_) (a' := ?_) #[true, true, true, true, true, true, true, true, true] rfl rfl (any_of HT_.out (by kernel_rfl)) (fun _ _ _ h => h) (Or.inl ⟨by rfl, ?_⟩) ?_ ?_
       rotate_left
       ·intro w'
        go_simp
        with_reducible rfl
       rotate_left
       ·simp only [Act.put, List.setIfInBounds_toArray, List.set_cons_zero, List.set_cons_succ, i64_w, i32_w]
        rfl
       refine done_ (done_of HT_.out (by kernel_rfl)) ?_
       try go_wp2
       go_ret
       exact ⟨by first | rfl | (simp [errW_none, errW_some] <;> rfl) | (simp [*, errW_none, errW_some] <;> rfl) | (simp [bne_nil_]; done), by repeat (first | (with_reducible first | exact HB.out | apply below_alloc | apply pw_below_drewN | apply below_drew1 | refine below_set ?_ GE852.out | refine below_set ?_ GE857.out | refine below_set ?_ GE867.out) | exact HB.out)⟩
      ·rw [if_neg c28] at H
       have c28b0 : (t866 == 0) = false := beq_eq_false_iff_ne.mpr c28
       have c28b1 : (t866 != 0) = true := bne_iff_ne.mpr c28
       obtain rfl := Option.some.inj H
       have hnb42 := NB852_857.out
       have hnc42 := NB857_852.out
       have hcz43_0 : wc.cell? ⟨gb852, 0, none⟩ = some (.bool a1_0) := (blk_cell BK852.out 0).trans rfl
       have hcz43_1 : wc.cell? ⟨gb852, 1, none⟩ = some (.string a1_1) := (blk_cell BK852.out 1).trans rfl
       have hcz43_2 : wc.cell? ⟨gb852, 2, none⟩ = some (.string a1_2) := (blk_cell BK852.out 2).trans rfl
       have hfz43_0 := blk_frozen BK852.out 0
       have hfz43_1 := blk_frozen BK852.out 1
       have hfz43_2 := blk_frozen BK852.out 2
       try go_wp2_with (first | ((with_reducible refine gate_callee (f := 39) rfl ?_); refine goesL_ (some 38) rfl rfl Tryd.func39 (by kernel_rfl) rfl #[.agg #[.bool a1_0, .string a1_1, .string a1_2]] rfl (by (try simp only [List.map_toArray, List.map_cons, List.map_nil]); first | done | rfl | (simp only [List.length_drop, List.length_take]; rfl)) ?_; (with_reducible refine (decimal_Int64.calls kj6 a1_0 a1_1 a1_2 t861 t862 _ A25.out).mono ?_); rintro e w44 ⟨rfl, hb⟩; refine ⟨_, rfl, ?_⟩; have n0_ := Aside0.mk (blk_below (g := gb852) (o := .cells #[.bool a1_0, .string a1_1, .string a1_2] 23 (0, 0)) BK852.out hb); have n1_ := Aside0.mk (blk_below (g := gb857) (o := .cells #[.bool t854, .string t855, .string t856] 23 (0, 0)) BK857.out hb); have n2_ := Aside0.mk (below_step HB.out hb); clear BK852; clear BK857; clear HB; have BK852 := n0_; have BK857 := n1_; have HB := n2_; clear n0_ n1_ n2_; have hcz45_0 : w44.cell? ⟨gb852, 0, none⟩ = some (.bool a1_0) := (blk_cell BK852.out 0).trans rfl; have hcz45_1 : w44.cell? ⟨gb852, 1, none⟩ = some (.string a1_1) := (blk_cell BK852.out 1).trans rfl; have hcz45_2 : w44.cell? ⟨gb852, 2, none⟩ = some (.string a1_2) := (blk_cell BK852.out 2).trans rfl; have hfz45_0 := blk_frozen BK852.out 0; have hfz45_1 := blk_frozen BK852.out 1; have hfz45_2 := blk_frozen BK852.out 2) | ((with_reducible refine gate_callee (f := 30) rfl ?_); refine goesL_ (some 47) rfl rfl Tryd.func30 (by kernel_rfl) rfl #[.agg #[.bool a1_0, .string a1_1, .string a1_2]] rfl (by (try simp only [List.map_toArray, List.map_cons, List.map_nil]); first | done | rfl | (simp only [List.length_drop, List.length_take]; rfl)) ?_; (with_reducible refine (decimal_Trim.calls kj6 a1_0 a1_1 a1_2 t863 t864 t865 t866 _ A27.out).mono ?_); rintro e w46 ⟨rfl, hb⟩; refine ⟨_, rfl, ?_⟩; have n0_ := Aside0.mk (blk_below (g := gb852) (o := .cells #[.bool a1_0, .string a1_1, .string a1_2] 23 (0, 0)) BK852.out hb); have n1_ := Aside0.mk (blk_below (g := gb857) (o := .cells #[.bool t854, .string t855, .string t856] 23 (0, 0)) BK857.out hb); have n2_ := Aside0.mk (below_step HB.out hb); clear BK852; clear BK857; clear HB; have BK852 := n0_; have BK857 := n1_; have HB := n2_; clear n0_ n1_ n2_) | ((with_reducible refine gate_dst (N := 9) rfl ?_); refine box_event ?hg (N := 9) ?hd (cs := #[.bool false, .string (⟨#[]⟩ : ByteArray), .string (⟨#[]⟩ : ByteArray)]) (t := 23) ?hr ?_; (case hd => rfl); (case hg => rfl); (case hr => first | (go_simp; done) | (go_simp; rfl)); intro gb867 hg w47 hbox hb; have n0_ := Aside0.mk (blk_below (g := gb852) (o := .cells #[.bool a1_0, .string a1_1, .string a1_2] 23 (0, 0)) BK852.out hb); have n1_ := Aside0.mk (blk_below (g := gb857) (o := .cells #[.bool t854, .string t855, .string t856] 23 (0, 0)) BK857.out hb); have n2_ := Aside0.mk (below_step HB.out hb); have n3_ := Aside0.mk (hbox); have n4_ := Aside0.mk ((by rw [hg]; exact (below_size HB.out) : w.heap.size ≤ gb867)); have n5_ := Aside0.mk ((by rw [hg]; exact (below_size HB.out) : w.heap.size ≤ gb867)); have n6_ := Aside0.mk ((by rw [hg]; exact Nat.ne_of_lt (blk_lt (g := gb852) (o := .cells #[.bool a1_0, .string a1_1, .string a1_2] 23 (0, 0)) BK852.out) : gb852 ≠ gb867)); have n7_ := Aside0.mk ((by rw [hg]; exact Nat.ne_of_gt (blk_lt (g := gb852) (o := .cells #[.bool a1_0, .string a1_1, .string a1_2] 23 (0, 0)) BK852.out) : gb867 ≠ gb852)); have n8_ := Aside0.mk ((by rw [hg]; exact Nat.ne_of_lt (blk_lt (g := gb857) (o := .cells #[.bool t854, .string t855, .string t856] 23 (0, 0)) BK857.out) : gb857 ≠ gb867)); have n9_ := Aside0.mk ((by rw [hg]; exact Nat.ne_of_gt (blk_lt (g := gb857) (o := .cells #[.bool t854, .string t855, .string t856] 23 (0, 0)) BK857.out) : gb867 ≠ gb857)); clear BK852; clear BK857; clear HB; have BK852 := n0_; have BK857 := n1_; have HB := n2_; have BK867 := n3_; have GW867 := n4_; have GE867 := n5_; have NB852_867 := n6_; have NB867_852 := n7_; have NB857_867 := n8_; have NB867_857 := n9_; clear n0_ n1_ n2_ n3_ n4_ n5_ n6_ n7_ n8_ n9_; clear hb hbox hg; have hnb48 := NB867_852.out; have hnc48 := NB852_867.out; have hnb49 := NB867_857.out; have hnc49 := NB857_867.out; have hcz50_0 : w47.cell? ⟨gb867, 0, none⟩ = some (.bool false) := (blk_cell BK867.out 0).trans rfl; have hcz50_1 : w47.cell? ⟨gb867, 1, none⟩ = some (.string (⟨#[]⟩ : ByteArray)) := (blk_cell BK867.out 1).trans rfl; have hcz50_2 : w47.cell? ⟨gb867, 2, none⟩ = some (.string (⟨#[]⟩ : ByteArray)) := (blk_cell BK867.out 2).trans rfl; have hfz50_0 := blk_frozen BK867.out 0; have hfz50_1 := blk_frozen BK867.out 1; have hfz50_2 := blk_frozen BK867.out 2))
       have n0_ : Aside0 ((((w47.setCell ⟨gb867, 0, none⟩ (.bool t863)).setCell ⟨gb867, 1, none⟩ (.string t864)).setCell ⟨gb867, 2, none⟩ (.string t865)).heap[gb852]? = some (.cells #[.bool a1_0, .string a1_1, .string a1_2] 23 (0, 0))) := ⟨by refine blk_far ?_ NB852_867.out _; refine blk_far ?_ NB852_867.out _; refine blk_far ?_ NB852_867.out _; exact BK852.out⟩
       have n1_ : Aside0 ((((w47.setCell ⟨gb867, 0, none⟩ (.bool t863)).setCell ⟨gb867, 1, none⟩ (.string t864)).setCell ⟨gb867, 2, none⟩ (.string t865)).heap[gb857]? = some (.cells #[.bool t854, .string t855, .string t856] 23 (0, 0))) := ⟨by refine blk_far ?_ NB857_867.out _; refine blk_far ?_ NB857_867.out _; refine blk_far ?_ NB857_867.out _; exact BK857.out⟩
       have n2_ : Aside0 ((((w47.setCell ⟨gb867, 0, none⟩ (.bool t863)).setCell ⟨gb867, 1, none⟩ (.string t864)).setCell ⟨gb867, 2, none⟩ (.string t865)).heap[gb867]? = some (.cells #[.bool t863, .string t864, .string t865] 23 (0, 0))) := ⟨by refine blk_put (cs := #[.bool t863, .string t864, .string (⟨#[]⟩ : ByteArray)]) ?_ 2 _ rfl; refine blk_put (cs := #[.bool t863, .string (⟨#[]⟩ : ByteArray), .string (⟨#[]⟩ : ByteArray)]) ?_ 1 _ rfl; refine blk_put (cs := #[.bool false, .string (⟨#[]⟩ : ByteArray), .string (⟨#[]⟩ : ByteArray)]) ?_ 0 _ rfl; exact BK867.out⟩
       have n3_ : Aside0 (Below w.heap.size w (((w47.setCell ⟨gb867, 0, none⟩ (.bool t863)).setCell ⟨gb867, 1, none⟩ (.string t864)).setCell ⟨gb867, 2, none⟩ (.string t865))) := ⟨by repeat (first | (with_reducible first | exact HB.out | apply below_alloc | apply pw_below_drewN | apply below_drew1 | refine below_set ?_ GE852.out | refine below_set ?_ GE857.out | refine below_set ?_ GE867.out) | exact HB.out)⟩
       (try clear BK852)
       (try clear BK857)
       (try clear BK867)
       (try clear HB)
       generalize (((w47.setCell ⟨gb867, 0, none⟩ (.bool t863)).setCell ⟨gb867, 1, none⟩ (.string t864)).setCell ⟨gb867, 2, none⟩ (.string t865)) = w51 at n0_ n1_ n2_ n3_ ⊢
       have BK852 := n0_
       have BK857 := n1_
       have BK867 := n2_
       have HB := n3_
       clear n0_ n1_ n2_ n3_
       have n0_ := Aside0.mk (blk_drew BK852.out)
       have n1_ := Aside0.mk (blk_drew BK857.out)
       have n2_ := Aside0.mk (blk_drew BK867.out)
       have n3_ := Aside0.mk (below_drew1 HB.out)
       clear BK852
       clear BK857
       clear BK867
       clear HB
       have BK852 := n0_
       have BK857 := n1_
       have BK867 := n2_
       have HB := n3_
       clear n0_ n1_ n2_ n3_
       refine start_ (n := 9) (S := fun w' => True) (ds := []) #[false, false, false, false, false, false, false, false, false] (by kernel_rfl) rfl rfl trivial (fun hHeld => ?_); refine with_tabW idiomlaw02_DecimalInts.tab11 idiomlaw02_DecimalInts.bits11 (fun HT_ HW_ => ?_)
       generalize w51.drew = w52 at BK852 BK857 BK867 HB hHeld ⊢
       refine pure_ (i := 0) (N := some 50) (v := ?_) (a' := ?_) #[true, false, false, false, false, false, false, false, false] rfl rfl (any_of HT_.out (by kernel_rfl)) (fun _ _ _ h => h) (Or.inl ⟨by rfl, ?_⟩) ?_ ?_
       rotate_left
       ·intro w'
        go_simp
        with_reducible rfl
       rotate_left
       ·simp only [Act.put, List.setIfInBounds_toArray, List.set_cons_zero, List.set_cons_succ, i64_w, i32_w]
        rfl
       refine pure_ (i := 1) (N := some 51) (v := ?_) (a' := ?_) #[true, true, false, false, false, false, false, false, false] rfl rfl (any_of HT_.out (by kernel_rfl)) (fun _ _ _ h => h) (Or.inl ⟨by rfl, ?_⟩) ?_ ?_
       rotate_left
       ·intro w'
        go_simp
        with_reducible rfl
       rotate_left
       ·simp only [Act.put, List.setIfInBounds_toArray, List.set_cons_zero, List.set_cons_succ, i64_w, i32_w]
        rfl
       refine pure_ (i := 2) (N := some 52) (v := ?_) (a' := ?_) #[true, true, true, false, false, false, false, false, false] rfl rfl (any_of HT_.out (by kernel_rfl)) (fun _ _ _ h => h) (Or.inl ⟨by rfl, ?_⟩) ?_ ?_
       rotate_left
       ·intro w'
        go_simp
        with_reducible rfl
       rotate_left
       ·simp only [Act.put, List.setIfInBounds_toArray, List.set_cons_zero, List.set_cons_succ, i64_w, i32_w]
        rfl
       refine pure_ (i := 3) (N := some 53) (v := undef) (a' := ?_) #[true, true, true, true, false, false, false, false, false] rfl rfl (any_of HT_.out (by kernel_rfl)) (fun _ _ _ h => h) (Or.inr ⟨by rfl, rfl⟩) ?_ ?_
       rotate_left
       ·simp only [Act.put, List.setIfInBounds_toArray, List.set_cons_zero, List.set_cons_succ, i64_w, i32_w]
        rfl
       refine pure_ (i := 4) (N := some 54) (v := undef) (a' := ?_) #[true, true, true, true, true, false, false, false, false] rfl rfl (any_of HT_.out (by kernel_rfl)) (fun _ _ _ h => h) (Or.inr ⟨by rfl, rfl⟩) ?_ ?_
       rotate_left
       ·simp only [Act.put, List.setIfInBounds_toArray, List.set_cons_zero, List.set_cons_succ, i64_w, i32_w]
        rfl
       refine pure_ (i := 5) (N := some 55) (v := undef) (a' := ?_) #[true, true, true, true, true, true, false, false, false] rfl rfl (any_of HT_.out (by kernel_rfl)) (fun _ _ _ h => h) (Or.inr ⟨by rfl, rfl⟩) ?_ ?_
       rotate_left
       ·simp only [Act.put, List.setIfInBounds_toArray, List.set_cons_zero, List.set_cons_succ, i64_w, i32_w]
        rfl
       refine pure_ (i := 6) (N := some 56) (v := undef) (a' := ?_) #[true, true, true, true, true, true, true, false, false] rfl rfl (any_of HT_.out (by kernel_rfl)) (fun _ _ _ h => h) (Or.inr ⟨by rfl, rfl⟩) ?_ ?_
       rotate_left
       ·simp only [Act.put, List.setIfInBounds_toArray, List.set_cons_zero, List.set_cons_succ, i64_w, i32_w]
        rfl
       refine pure_ (i := 7) (N := some 57) (v := ?_) (a' := ?_) #[true, true, true, true, true, true, true, true, false] rfl rfl (any_of HT_.out (by kernel_rfl)) (fun _ _ _ h => h) (Or.inl ⟨by rfl, ?_⟩) ?_ ?_
       rotate_left
       ·intro w'
        go_simp
        with_reducible rfl
       rotate_left
       ·simp only [Act.put, List.setIfInBounds_toArray, List.set_cons_zero, List.set_cons_succ, i64_w, i32_w]
        rfl
       refine pure_ (i := 8) (N := some 4) (v := ?_) (a' := ?_) #[true, true, true, true, true, true, true, true, true] rfl rfl (any_of HT_.out (by kernel_rfl)) (fun _ _ _ h => h) (Or.inl ⟨by rfl, ?_⟩) ?_ ?_
       rotate_left
       ·intro w'
        go_simp
        with_reducible rfl
       rotate_left
       ·simp only [Act.put, List.setIfInBounds_toArray, List.set_cons_zero, List.set_cons_succ, i64_w, i32_w]
        rfl
       refine done_ (done_of HT_.out (by kernel_rfl)) ?_
       try go_wp2
       go_ret
       exact ⟨by first | rfl | (simp [errW_none, errW_some] <;> rfl) | (simp [*, errW_none, errW_some] <;> rfl) | (simp [bne_nil_]; done), by repeat (first | (with_reducible first | exact HB.out | apply below_alloc | apply pw_below_drewN | apply below_drew1 | refine below_set ?_ GE852.out | refine below_set ?_ GE857.out | refine below_set ?_ GE867.out) | exact HB.out)⟩
     ·rw [if_neg c26] at H
      have c26b0 : (t862 == 0) = false := beq_eq_false_iff_ne.mpr c26
      have c26b1 : (t862 != 0) = true := bne_iff_ne.mpr c26
      obtain rfl := Option.some.inj H
      have hnb53 := NB852_857.out
      have hnc53 := NB857_852.out
      have hcz54_0 : wc.cell? ⟨gb852, 0, none⟩ = some (.bool a1_0) := (blk_cell BK852.out 0).trans rfl
      have hcz54_1 : wc.cell? ⟨gb852, 1, none⟩ = some (.string a1_1) := (blk_cell BK852.out 1).trans rfl
      have hcz54_2 : wc.cell? ⟨gb852, 2, none⟩ = some (.string a1_2) := (blk_cell BK852.out 2).trans rfl
      have hfz54_0 := blk_frozen BK852.out 0
      have hfz54_1 := blk_frozen BK852.out 1
      have hfz54_2 := blk_frozen BK852.out 2
      go_wp2_with (first | ((with_reducible refine gate_callee (f := 39) rfl ?_); refine goesL_ (some 38) rfl rfl Tryd.func39 (by kernel_rfl) rfl #[.agg #[.bool a1_0, .string a1_1, .string a1_2]] rfl (by (try simp only [List.map_toArray, List.map_cons, List.map_nil]); first | done | rfl | (simp only [List.length_drop, List.length_take]; rfl)) ?_; (with_reducible refine (decimal_Int64.calls kj6 a1_0 a1_1 a1_2 t861 t862 _ A25.out).mono ?_); rintro e w55 ⟨rfl, hb⟩; refine ⟨_, rfl, ?_⟩; have n0_ := Aside0.mk (blk_below (g := gb852) (o := .cells #[.bool a1_0, .string a1_1, .string a1_2] 23 (0, 0)) BK852.out hb); have n1_ := Aside0.mk (blk_below (g := gb857) (o := .cells #[.bool t854, .string t855, .string t856] 23 (0, 0)) BK857.out hb); have n2_ := Aside0.mk (below_step HB.out hb); clear BK852; clear BK857; clear HB; have BK852 := n0_; have BK857 := n1_; have HB := n2_; clear n0_ n1_ n2_))
      go_ret
      exact ⟨by first | rfl | (simp [errW_none, errW_some] <;> rfl) | (simp [*, errW_none, errW_some] <;> rfl) | (simp [bne_nil_]; done), by repeat (first | (with_reducible first | exact HB.out | apply below_alloc | apply pw_below_drewN | apply below_drew1 | refine below_set ?_ GE852.out | refine below_set ?_ GE857.out) | exact HB.out)⟩
 ·replace c4 := Bool.eq_false_iff.mpr c4
  subst c4
  have H1 : (some false) = some r := by rw [if_neg (show ¬ (false = true) by decide)] at H; exact H
  clear H
  have H := H1
  clear H1
  obtain rfl := Option.some.inj H
  go_enter Tryd.func10, Tryd.ntmps10
  go_wp2_with (first | ((with_reducible refine gate_dst (N := 3) rfl ?_); refine box_event ?hg (N := 3) ?hd (cs := #[.bool a1_0, .string a1_1, .string a1_2]) (t := 23) ?hr ?_; (case hd => rfl); (case hg => rfl); (case hr => first | (go_simp; done) | (go_simp; rfl)); intro gb852 hg w56 hbox hb; have n0_ := Aside0.mk (below_step HB.out hb); have n1_ := Aside0.mk (hbox); have n2_ := Aside0.mk ((by rw [hg]; exact (below_size HB.out) : w.heap.size ≤ gb852)); have n3_ := Aside0.mk ((by rw [hg]; exact (below_size HB.out) : w.heap.size ≤ gb852)); clear HB; have HB := n0_; have BK852 := n1_; have GW852 := n2_; have GE852 := n3_; clear n0_ n1_ n2_ n3_; clear hb hbox hg) | ((with_reducible refine gate_callee (f := 19) rfl ?_); refine goesL_ (some 10) rfl rfl Tryd.func19 (by kernel_rfl) rfl #[] rfl (by simp only [List.map_toArray, List.map_cons, List.map_nil]) ?_; (with_reducible refine (idiomlaw02_awake.calls k  false _ A3.out).mono ?_); rintro e w57 ⟨rfl, hb⟩; refine ⟨_, rfl, ?_⟩; have n0_ := Aside0.mk (blk_below (g := gb852) (o := .cells #[.bool a1_0, .string a1_1, .string a1_2] 23 (0, 0)) BK852.out hb); have n1_ := Aside0.mk (below_step HB.out hb); clear BK852; clear HB; have BK852 := n0_; have HB := n1_; clear n0_ n1_))
  go_ret
  exact ⟨by first | rfl | (simp [errW_none, errW_some] <;> rfl) | (simp [*, errW_none, errW_some] <;> rfl) | (simp [bne_nil_]; done), by repeat (first | (with_reducible first | exact HB.out | apply below_alloc | apply pw_below_drewN | apply below_drew1 | refine below_set ?_ GE852.out) | exact HB.out)⟩
end Go.Proofs.YtapbdblpdkoacaaDoor.P
