/- A part of the proof. Part 4 of 6; its texts were written by programs, some out of the kit's print. -/
import Derived.Test.YtihjcaglhjepdaaDoorZRest2
namespace Go.Proofs.YtihjcaglhjepdaaDoor.P
open Go.RowKit Go.Proofs.YtihjcaglhjepdaaDoorW.PrintWords Go.Proofs.YtihjcaglhjepdaaDoorW.PrintLast Go.Proofs.YtihjcaglhjepdaaDoorW.PrintMore
attribute [local go_sem] max2_int max_two
set_option linter.unusedVariables false
set_option linter.unusedSimpArgs false
def decimal_divided.f (k : Nat) (a0_0 : Bool) (a0_1 : ByteArray) (a0_2 : ByteArray) (a1_0 : Bool) (a1_1 : ByteArray) (a1_2 : ByteArray) : Option (List Int × List Int × Int × Int) := (decimal_both.f k a0_0 a0_1 a0_2 a1_0 a1_1 a1_2).bind fun t354 => (if t354 = 0 then ((decimal_aligned.f k a0_0 a0_1 a0_2 a1_0 a1_1 a1_2).bind fun bt355 => (if (bt355.2.1.length : Int) = 0 then (some (([] : List Int), ([] : List Int), 0, 21)) else ((decimal_digits_by.f k bt355.1 bt355.2.1).bind fun bt362 => (some (bt362.1, bt362.2, bt355.2.2, 0))))) else (some (([] : List Int), ([] : List Int), 0, t354)))
set_option maxHeartbeats 8000000 in
set_option maxRecDepth 100000 in
theorem decimal_divided.calls (k : Nat) (a0_0 : Bool) (a0_1 : ByteArray) (a0_2 : ByteArray) (a1_0 : Bool) (a1_1 : ByteArray) (a1_2 : ByteArray) (r1 : List Int) (r2 : List Int) (r3 : Int) (r4 : Int) (w : World) (h : decimal_divided.f k a0_0 a0_1 a0_2 a1_0 a1_1 a1_2 = some (r1, r2, r3, r4)) :
    Calls Tryd.prog 61 #[.agg #[.bool a0_0, .string a0_1, .string a0_2], .agg #[.bool a1_0, .string a1_1, .string a1_2]] w fun e w' => ∃ v0_ v1_ : Value, e = .returned (.tuple #[v0_, v1_, .int .i64 r3, .int .i64 r4]) ∧ Kd.V (Kd.int .u8) 5 w' w.heap.size (fun k_ => (w.heap.size ≤ k_)) v0_ r1 ∧ Kd.V (Kd.int .u8) 5 w' w.heap.size (fun k_ => (w.heap.size ≤ k_)) v1_ r2 ∧ Below w.heap.size w w' := by
 have hu23 := Tryd.underlying23
 have HB := Aside0.mk (Below.refl w.heap.size w)
 unfold decimal_divided.f at h
 have H := h
 clear h
 replace H := Option.bind_eq_some_iff.mp H
 obtain ⟨t354, A30, H⟩ := H
 try dsimp only at H
 have A3 := Aside0.mk A30
 clear A30
 have HF4 := Aside0.mk H
 clear H
 go_enter Tryd.func61, Tryd.ntmps61
 go_upto_if 15 with (first | ((with_reducible refine gate_dst (N := 2) rfl ?_); refine bx_ #[.bool a0_0, .string a0_1, .string a0_2] 23 ?_; intro gb352 hg w5 hbox hb; have BK352 := Aside0.mk (hbox); have GW352 := Aside0.mk ((by rw [hg]; exact (below_size hb_) : w.heap.size ≤ gb352)); have GE352 := Aside0.mk ((by rw [hg]; exact (below_size hb_) : w.heap.size ≤ gb352)); replace HB := Aside0.mk (below_step hb_ hb); clear hb hbox hg) | ((with_reducible refine gate_dst (N := 3) rfl ?_); refine bx_ #[.bool a1_0, .string a1_1, .string a1_2] 23 ?_; intro gb353 hg w6 hbox hb; have BK353 := Aside0.mk (hbox); have GW353 := Aside0.mk ((by rw [hg]; exact (below_size hb_) : w.heap.size ≤ gb353)); have GE353 := Aside0.mk ((by rw [hg]; exact (below_size hb_) : w.heap.size ≤ gb353)); have NB352_353 := BK352.nl hg; have NB353_352 := BK352.ng hg; replace BK352 := BK352.bl hb; replace HB := Aside0.mk (below_step hb_ hb); clear hb hbox hg; have hnb7 := NB352_353.out; have hnc7 := NB353_352.out; obtain ⟨hcz8_0, hcz8_1, hcz8_2, hfz8_0, hfz8_1, hfz8_2⟩ := BK352.c3; obtain ⟨hcz9_0, hcz9_1, hcz9_2, hfz9_0, hfz9_1, hfz9_2⟩ := BK353.c3) | ((with_reducible refine gate_callee (f := 65) rfl ?_); refine gL_ (some 13) Tryd.func65 #[.agg #[.bool a0_0, .string a0_1, .string a0_2], .agg #[.bool a1_0, .string a1_1, .string a1_2]] ?_; (with_reducible refine (decimal_both.calls k a0_0 a0_1 a0_2 a1_0 a1_1 a1_2 t354 _ A3.out).mono ?_); rintro e w10 ⟨rfl, hb⟩; refine ⟨_, rfl, ?_⟩; replace BK352 := BK352.bl hb; replace BK353 := BK353.bl hb; replace HB := Aside0.mk (below_step hb_ hb)))
 (try simp only [Act.put, List.setIfInBounds_toArray, List.set_cons_zero, List.set_cons_succ])
 have H := HF4.out
 clear HF4
 by_cases c11 : t354 = 0
 ·rw [if_pos c11] at H
  have c11b0 : (t354 == 0) = true := beq_iff_eq.mpr c11
  have c11b1 : (t354 != 0) = false := bne_eq_false_iff_eq.mpr c11
  clear c11
  (first | rw [c11b0] | (simp only [i64_w, i32_w]; rw [c11b0]) | rw [c11b1] | skip)
  replace H := Option.bind_eq_some_iff.mp H
  obtain ⟨⟨t355, t358, t361⟩, A120, H⟩ := H
  try dsimp only at H
  have A12 := Aside0.mk A120
  clear A120
  have HF13 := Aside0.mk H
  clear H
  have hnb14 := NB352_353.out
  have hnc14 := NB353_352.out
  obtain ⟨hcz15_0, hcz15_1, hcz15_2, hfz15_0, hfz15_1, hfz15_2⟩ := BK352.c3
  obtain ⟨hcz16_0, hcz16_1, hcz16_2, hfz16_0, hfz16_1, hfz16_2⟩ := BK353.c3
  go_upto_if 26 with (first | ((with_reducible refine gate_callee (f := 66) rfl ?_); refine gL_ (some 20) Tryd.func66 #[.agg #[.bool a0_0, .string a0_1, .string a0_2], .agg #[.bool a1_0, .string a1_1, .string a1_2]] ?_; (with_reducible refine (decimal_aligned.calls k a0_0 a0_1 a0_2 a1_0 a1_1 a1_2 t355 t358 t361 _ A12.out).mono ?_); rintro e w17 ⟨v356, v359, rfl, ho0, ho1, hb⟩; refine ⟨_, rfl, ?_⟩; have HO357 := Aside0.mk (Kd.V_lower (Kd.V_mono (ok' := fun k_ => (w.heap.size ≤ k_) ∧ k_ ≠ gb352 ∧ k_ ≠ gb353) ho0 (fun k_ hk_ => ⟨(Nat.le_trans (below_size hb_) hk_), (Kd.freshB (g := gb352) (o := .cells #[.bool a0_0, .string a0_1, .string a0_2] 23 (0, 0)) BK352.out k_ hk_), (Kd.freshB (g := gb353) (o := .cells #[.bool a1_0, .string a1_1, .string a1_2] 23 (0, 0)) BK353.out k_ hk_)⟩)) (below_size hb_)); have HO360 := Aside0.mk (Kd.V_lower (Kd.V_mono (ok' := fun k_ => (w.heap.size ≤ k_) ∧ k_ ≠ gb352 ∧ k_ ≠ gb353) ho1 (fun k_ hk_ => ⟨(Nat.le_trans (below_size hb_) hk_), (Kd.freshB (g := gb352) (o := .cells #[.bool a0_0, .string a0_1, .string a0_2] 23 (0, 0)) BK352.out k_ hk_), (Kd.freshB (g := gb353) (o := .cells #[.bool a1_0, .string a1_1, .string a1_2] 23 (0, 0)) BK353.out k_ hk_)⟩)) (below_size hb_)); replace BK352 := BK352.bl hb; replace BK353 := BK353.bl hb; replace HB := Aside0.mk (below_step hb_ hb); (try clear ho0); (try clear ho1); obtain ⟨Ao18, co18, eo18⟩ := Kd.V_slice HO360.out; subst eo18))
  (try simp only [Act.put, List.setIfInBounds_toArray, List.set_cons_zero, List.set_cons_succ])
  have H := HF13.out
  clear HF13
  by_cases c19 : (t358.length : Int) = 0
  ·rw [if_pos c19] at H
   have c19b0 : ((t358.length : Int) == 0) = true := beq_iff_eq.mpr c19
   have c19b1 : ((t358.length : Int) != 0) = false := bne_eq_false_iff_eq.mpr c19
   clear c19
   (first | rw [c19b0] | (simp only [i64_w, i32_w]; rw [c19b0]) | rw [c19b1] | skip)
   simp only [Option.some.injEq, Prod.mk.injEq] at H
   obtain ⟨rfl, rfl, rfl, rfl⟩ := H
   go_wp2
   refine bodyPost_ret (results_list (rs := [.tmp 4, .tmp 5, .tmp 6, .tmp 7]) rfl (by simp) (.tmp (.tmp (.tmp (.tmp .nil))))) rfl ?_
   exact ⟨_, _, by first | rfl | (simp [errW_none, errW_some] <;> rfl) | (simp [*, errW_none, errW_some] <;> rfl) | (simp [bne_nil_]; done), Kd.V_nil _ _ _ _ _, Kd.V_nil _ _ _ _ _, by repeat (first | (with_reducible first | exact HB.out | apply below_alloc | apply pw_below_drewN | apply below_drew1 | refine below_set ?_ GE352.out | refine below_set ?_ GE353.out) | exact HB.out)⟩
  ·rw [if_neg c19] at H
   have c19b0 : ((t358.length : Int) == 0) = false := beq_eq_false_iff_ne.mpr c19
   have c19b1 : ((t358.length : Int) != 0) = true := bne_iff_ne.mpr c19
   have c19b2 : ¬ (t358 = []) := fun h_ => c19 (by rw [h_]; rfl)
   (first | rw [c19b0] | (simp only [i64_w, i32_w]; rw [c19b0]) | rw [c19b1] | skip)
   replace H := Option.bind_eq_some_iff.mp H
   obtain ⟨⟨t362, t365⟩, A200, H⟩ := H
   try dsimp only at H
   have A20 := Aside0.mk A200
   clear A200
   simp only [Option.some.injEq, Prod.mk.injEq] at H
   obtain ⟨rfl, rfl, rfl, rfl⟩ := H
   obtain ⟨Ao21, co21, eo21⟩ := Kd.V_slice HO357.out
   subst eo21
   go_wp2_with (first | ((with_reducible refine gate_callee (f := 92) rfl ?_); refine gL_ (some 30) Tryd.func92 #[.slice Ao21 t355.length co21, .slice Ao18 t358.length co18] ?_; (with_reducible refine (decimal_digits_by.calls k _ _ t355 _ _ t358 t362 t365 _ ?side1 ?side2 ?side3 ?side4 A20.out).mono ?_); (case side1 => repeat (first | exact (Kd.V_reads' HO357.out).2.2 | (with_reducible refine Kd.C_alloc ?_ _) | (with_reducible refine Kd.C_drewN ?_ _) | (with_reducible refine Kd.C_drew ?_))); (case side2 => exact (Kd.V_reads' HO357.out).2.1); (case side3 => repeat (first | exact (Kd.V_reads' HO360.out).2.2 | (with_reducible refine Kd.C_alloc ?_ _) | (with_reducible refine Kd.C_drewN ?_ _) | (with_reducible refine Kd.C_drew ?_))); (case side4 => exact (Kd.V_reads' HO360.out).2.1); rintro e w22 ⟨v363, v366, rfl, ho0, ho1, hb⟩; refine ⟨_, rfl, ?_⟩; have HO364 := Aside0.mk (Kd.V_lower (Kd.V_mono (ok' := fun k_ => (w.heap.size ≤ k_) ∧ k_ ≠ gb352 ∧ k_ ≠ gb353) ho0 (fun k_ hk_ => ⟨(Nat.le_trans (below_size hb_) hk_), (Kd.freshB (g := gb352) (o := .cells #[.bool a0_0, .string a0_1, .string a0_2] 23 (0, 0)) BK352.out k_ hk_), (Kd.freshB (g := gb353) (o := .cells #[.bool a1_0, .string a1_1, .string a1_2] 23 (0, 0)) BK353.out k_ hk_)⟩)) (below_size hb_)); have HO367 := Aside0.mk (Kd.V_lower (Kd.V_mono (ok' := fun k_ => (w.heap.size ≤ k_) ∧ k_ ≠ gb352 ∧ k_ ≠ gb353) ho1 (fun k_ hk_ => ⟨(Nat.le_trans (below_size hb_) hk_), (Kd.freshB (g := gb352) (o := .cells #[.bool a0_0, .string a0_1, .string a0_2] 23 (0, 0)) BK352.out k_ hk_), (Kd.freshB (g := gb353) (o := .cells #[.bool a1_0, .string a1_1, .string a1_2] 23 (0, 0)) BK353.out k_ hk_)⟩)) (below_size hb_)); replace HO357 := Aside0.mk (Kd.V_below (by (with_reducible repeat (first | apply Kd.V_alloc | apply Kd.V_drewN | apply Kd.V_drew)); exact HO357.out) hb); replace HO360 := Aside0.mk (Kd.V_below (by (with_reducible repeat (first | apply Kd.V_alloc | apply Kd.V_drewN | apply Kd.V_drew)); exact HO360.out) hb); replace BK352 := BK352.bl hb; replace BK353 := BK353.bl hb; replace HB := Aside0.mk (below_step hb_ hb); (try clear ho0); (try clear ho1)))
   refine bodyPost_ret (results_list (rs := [.tmp 4, .tmp 5, .tmp 6, .tmp 7]) rfl (by simp) (.tmp (.tmp (.tmp (.tmp .nil))))) rfl ?_
   exact ⟨_, _, by first | rfl | (simp [errW_none, errW_some] <;> rfl) | (simp [*, errW_none, errW_some] <;> rfl) | (simp [bne_nil_]; done), by (with_reducible repeat (first | apply Kd.V_alloc | apply Kd.V_drewN | apply Kd.V_drew)); exact Kd.V_mono HO364.out (fun _ hk => hk.1), by (with_reducible repeat (first | apply Kd.V_alloc | apply Kd.V_drewN | apply Kd.V_drew)); exact Kd.V_mono HO367.out (fun _ hk => hk.1), by repeat (first | (with_reducible first | exact HB.out | apply below_alloc | apply pw_below_drewN | apply below_drew1 | refine below_set ?_ GE352.out | refine below_set ?_ GE353.out) | exact HB.out)⟩
 ·rw [if_neg c11] at H
  have c11b0 : (t354 == 0) = false := beq_eq_false_iff_ne.mpr c11
  have c11b1 : (t354 != 0) = true := bne_iff_ne.mpr c11
  (first | rw [c11b0] | (simp only [i64_w, i32_w]; rw [c11b0]) | rw [c11b1] | skip)
  simp only [Option.some.injEq, Prod.mk.injEq] at H
  obtain ⟨rfl, rfl, rfl, rfl⟩ := H
  go_wp2
  refine bodyPost_ret (results_list (rs := [.tmp 4, .tmp 5, .tmp 6, .tmp 7]) rfl (by simp) (.tmp (.tmp (.tmp (.tmp .nil))))) rfl ?_
  exact ⟨_, _, by first | rfl | (simp [errW_none, errW_some] <;> rfl) | (simp [*, errW_none, errW_some] <;> rfl) | (simp [bne_nil_]; done), Kd.V_nil _ _ _ _ _, Kd.V_nil _ _ _ _ _, by repeat (first | (with_reducible first | exact HB.out | apply below_alloc | apply pw_below_drewN | apply below_drew1 | refine below_set ?_ GE352.out | refine below_set ?_ GE353.out) | exact HB.out)⟩
end Go.Proofs.YtihjcaglhjepdaaDoor.P
namespace Go.Proofs.YtihjcaglhjepdaaDoor.P
open Go.RowKit Go.Proofs.YtihjcaglhjepdaaDoorW.PrintWords Go.Proofs.YtihjcaglhjepdaaDoorW.PrintLast Go.Proofs.YtihjcaglhjepdaaDoorW.PrintMore
attribute [local go_sem] max2_int max_two
set_option linter.unusedVariables false
set_option linter.unusedSimpArgs false
def decimal_Div.f (k : Nat) (a0_0 : Bool) (a0_1 : ByteArray) (a0_2 : ByteArray) (a1_0 : Bool) (a1_1 : ByteArray) (a1_2 : ByteArray) : Option (Bool × ByteArray × ByteArray × Int) := (decimal_divided.f k a0_0 a0_1 a0_2 a1_0 a1_1 a1_2).bind fun bt371 => (if bt371.2.2.2 = 0 then ((decimal_made.f k (a0_0 != a1_0) bt371.1 0).bind fun bt379 => (some (bt379.1, bt379.2.1, bt379.2.2.1, bt379.2.2.2))) else (some (false, (⟨#[]⟩ : ByteArray), (⟨#[]⟩ : ByteArray), bt371.2.2.2)))
set_option maxHeartbeats 8000000 in
set_option maxRecDepth 100000 in
theorem decimal_Div.calls (k : Nat) (a0_0 : Bool) (a0_1 : ByteArray) (a0_2 : ByteArray) (a1_0 : Bool) (a1_1 : ByteArray) (a1_2 : ByteArray) (r1 : Bool) (r2 : ByteArray) (r3 : ByteArray) (r4 : Int) (w : World) (h : decimal_Div.f k a0_0 a0_1 a0_2 a1_0 a1_1 a1_2 = some (r1, r2, r3, r4)) :
    Calls Tryd.prog 24 #[.agg #[.bool a0_0, .string a0_1, .string a0_2], .agg #[.bool a1_0, .string a1_1, .string a1_2]] w fun e w' => e = .returned (.tuple #[.agg #[.bool r1, .string r2, .string r3], .int .i64 r4]) ∧ Below w.heap.size w w' := by
 have hu23 := Tryd.underlying23
 have HB := Aside0.mk (Below.refl w.heap.size w)
 unfold decimal_Div.f at h
 have H := h
 clear h
 replace H := Option.bind_eq_some_iff.mp H
 obtain ⟨⟨t371, t374, t377, t378⟩, A30, H⟩ := H
 try dsimp only at H
 have A3 := Aside0.mk A30
 clear A30
 have HF4 := Aside0.mk H
 clear H
 go_enter Tryd.func24, Tryd.ntmps24
 go_upto_if 19 with (first | ((with_reducible refine gate_dst (N := 2) rfl ?_); refine bx_ #[.bool a0_0, .string a0_1, .string a0_2] 23 ?_; intro gb368 hg w5 hbox hb; have BK368 := Aside0.mk (hbox); have GW368 := Aside0.mk ((by rw [hg]; exact (below_size hb_) : w.heap.size ≤ gb368)); have GE368 := Aside0.mk ((by rw [hg]; exact (below_size hb_) : w.heap.size ≤ gb368)); replace HB := Aside0.mk (below_step hb_ hb); clear hb hbox hg) | ((with_reducible refine gate_dst (N := 3) rfl ?_); refine bx_ #[.bool a1_0, .string a1_1, .string a1_2] 23 ?_; intro gb369 hg w6 hbox hb; have BK369 := Aside0.mk (hbox); have GW369 := Aside0.mk ((by rw [hg]; exact (below_size hb_) : w.heap.size ≤ gb369)); have GE369 := Aside0.mk ((by rw [hg]; exact (below_size hb_) : w.heap.size ≤ gb369)); have NB368_369 := BK368.nl hg; have NB369_368 := BK368.ng hg; replace BK368 := BK368.bl hb; replace HB := Aside0.mk (below_step hb_ hb); clear hb hbox hg) | ((with_reducible refine gate_dst (N := 4) rfl ?_); refine bx_ #[.bool false, .string (⟨#[]⟩ : ByteArray), .string (⟨#[]⟩ : ByteArray)] 23 ?_; intro gb370 hg w7 hbox hb; have BK370 := Aside0.mk (hbox); have GW370 := Aside0.mk ((by rw [hg]; exact (below_size hb_) : w.heap.size ≤ gb370)); have GE370 := Aside0.mk ((by rw [hg]; exact (below_size hb_) : w.heap.size ≤ gb370)); have NB368_370 := BK368.nl hg; have NB370_368 := BK368.ng hg; have NB369_370 := BK369.nl hg; have NB370_369 := BK369.ng hg; replace BK368 := BK368.bl hb; replace BK369 := BK369.bl hb; replace HB := Aside0.mk (below_step hb_ hb); clear hb hbox hg; have hnb8 := NB368_369.out; have hnc8 := NB369_368.out; have hnb9 := NB368_370.out; have hnc9 := NB370_368.out; obtain ⟨hcz10_0, hcz10_1, hcz10_2, hfz10_0, hfz10_1, hfz10_2⟩ := BK368.c3; have hnb11 := NB369_370.out; have hnc11 := NB370_369.out; obtain ⟨hcz12_0, hcz12_1, hcz12_2, hfz12_0, hfz12_1, hfz12_2⟩ := BK369.c3) | ((with_reducible refine gate_callee (f := 61) rfl ?_); refine gL_ (some 13) Tryd.func61 #[.agg #[.bool a0_0, .string a0_1, .string a0_2], .agg #[.bool a1_0, .string a1_1, .string a1_2]] ?_; (with_reducible refine (decimal_divided.calls k a0_0 a0_1 a0_2 a1_0 a1_1 a1_2 t371 t374 t377 t378 _ A3.out).mono ?_); rintro e w13 ⟨v372, v375, rfl, ho0, ho1, hb⟩; refine ⟨_, rfl, ?_⟩; have HO373 := Aside0.mk (Kd.V_lower (Kd.V_mono (ok' := fun k_ => k_ ≠ gb368 ∧ k_ ≠ gb369 ∧ k_ ≠ gb370) ho0 (fun k_ hk_ => ⟨(Kd.freshB (g := gb368) (o := .cells #[.bool a0_0, .string a0_1, .string a0_2] 23 (0, 0)) BK368.out k_ hk_), (Kd.freshB (g := gb369) (o := .cells #[.bool a1_0, .string a1_1, .string a1_2] 23 (0, 0)) BK369.out k_ hk_), (Kd.freshB (g := gb370) (o := .cells #[.bool false, .string (⟨#[]⟩ : ByteArray), .string (⟨#[]⟩ : ByteArray)] 23 (0, 0)) BK370.out k_ hk_)⟩)) (below_size hb_)); have HO376 := Aside0.mk (Kd.V_lower (Kd.V_mono (ok' := fun k_ => k_ ≠ gb368 ∧ k_ ≠ gb369 ∧ k_ ≠ gb370) ho1 (fun k_ hk_ => ⟨(Kd.freshB (g := gb368) (o := .cells #[.bool a0_0, .string a0_1, .string a0_2] 23 (0, 0)) BK368.out k_ hk_), (Kd.freshB (g := gb369) (o := .cells #[.bool a1_0, .string a1_1, .string a1_2] 23 (0, 0)) BK369.out k_ hk_), (Kd.freshB (g := gb370) (o := .cells #[.bool false, .string (⟨#[]⟩ : ByteArray), .string (⟨#[]⟩ : ByteArray)] 23 (0, 0)) BK370.out k_ hk_)⟩)) (below_size hb_)); replace BK368 := BK368.bl hb; replace BK369 := BK369.bl hb; replace BK370 := BK370.bl hb; replace HB := Aside0.mk (below_step hb_ hb); (try clear ho0); (try clear ho1)))
 (try simp only [Act.put, List.setIfInBounds_toArray, List.set_cons_zero, List.set_cons_succ])
 have H := HF4.out
 clear HF4
 by_cases c14 : t378 = 0
 ·rw [if_pos c14] at H
  have c14b0 : (t378 == 0) = true := beq_iff_eq.mpr c14
  have c14b1 : (t378 != 0) = false := bne_eq_false_iff_eq.mpr c14
  clear c14
  (first | rw [c14b0] | (simp only [i64_w, i32_w]; rw [c14b0]) | rw [c14b1] | skip)
  replace H := Option.bind_eq_some_iff.mp H
  obtain ⟨⟨t379, t380, t381, t382⟩, A150, H⟩ := H
  try dsimp only at H
  have A15 := Aside0.mk A150
  clear A150
  simp only [Option.some.injEq, Prod.mk.injEq] at H
  obtain ⟨rfl, rfl, rfl, rfl⟩ := H
  have hnb16 := NB368_369.out
  have hnc16 := NB369_368.out
  have hnb17 := NB368_370.out
  have hnc17 := NB370_368.out
  obtain ⟨hcz18_0, hcz18_1, hcz18_2, hfz18_0, hfz18_1, hfz18_2⟩ := BK368.c3
  have hnb19 := NB369_370.out
  have hnc19 := NB370_369.out
  obtain ⟨hcz20_0, hcz20_1, hcz20_2, hfz20_0, hfz20_1, hfz20_2⟩ := BK369.c3
  obtain ⟨Ao21, co21, eo21⟩ := Kd.V_slice HO373.out
  subst eo21
  go_wp2_with (first | ((with_reducible refine gate_callee (f := 62) rfl ?_); refine gL_ (some 28) Tryd.func62 #[.bool (a0_0 != a1_0), .slice Ao21 t371.length co21, .int .i64 0] ?_; (with_reducible refine (decimal_made.calls k (a0_0 != a1_0) _ _ t371 0 t379 t380 t381 t382 _ ?side1 ?side2 A15.out).mono ?_); (case side1 => repeat (first | exact (Kd.V_reads' HO373.out).2.2 | (with_reducible refine Kd.C_alloc ?_ _) | (with_reducible refine Kd.C_drewN ?_ _) | (with_reducible refine Kd.C_drew ?_))); (case side2 => exact (Kd.V_reads' HO373.out).2.1); rintro e w22 ⟨rfl, hb⟩; refine ⟨_, rfl, ?_⟩; replace HO373 := Aside0.mk (Kd.V_below (by (with_reducible repeat (first | apply Kd.V_alloc | apply Kd.V_drewN | apply Kd.V_drew)); exact HO373.out) hb); replace HO376 := Aside0.mk (Kd.V_below (by (with_reducible repeat (first | apply Kd.V_alloc | apply Kd.V_drewN | apply Kd.V_drew)); exact HO376.out) hb); replace BK368 := BK368.bl hb; replace BK369 := BK369.bl hb; replace BK370 := BK370.bl hb; replace HB := Aside0.mk (below_step hb_ hb); obtain ⟨hcz23_0, hcz23_1, hcz23_2, hfz23_0, hfz23_1, hfz23_2⟩ := BK370.c3))
  refine bodyPost_ret (results_ct rfl _ _ gb370 23 #[.bool t379, .string t380, .string t381] (0, 0) _ rfl (by refine blk_put (cs := #[.bool t379, .string t380, .string (⟨#[]⟩ : ByteArray)]) ?_ 2 _ rfl; refine blk_put (cs := #[.bool t379, .string (⟨#[]⟩ : ByteArray), .string (⟨#[]⟩ : ByteArray)]) ?_ 1 _ rfl; refine blk_put (cs := #[.bool false, .string (⟨#[]⟩ : ByteArray), .string (⟨#[]⟩ : ByteArray)]) ?_ 0 _ rfl; exact BK370.out) Tryd.underlying23 rfl (by kernel_rfl)) rfl ?_
  exact ⟨by first | rfl | (simp [errW_none, errW_some] <;> rfl) | (simp [*, errW_none, errW_some] <;> rfl) | (simp [bne_nil_]; done), by repeat (first | (with_reducible first | exact HB.out | apply below_alloc | apply pw_below_drewN | apply below_drew1 | refine below_set ?_ GE368.out | refine below_set ?_ GE369.out | refine below_set ?_ GE370.out) | exact HB.out)⟩
 ·rw [if_neg c14] at H
  have c14b0 : (t378 == 0) = false := beq_eq_false_iff_ne.mpr c14
  have c14b1 : (t378 != 0) = true := bne_iff_ne.mpr c14
  (first | rw [c14b0] | (simp only [i64_w, i32_w]; rw [c14b0]) | rw [c14b1] | skip)
  simp only [Option.some.injEq, Prod.mk.injEq] at H
  obtain ⟨rfl, rfl, rfl, rfl⟩ := H
  have hnb24 := NB370_368.out
  have hnc24 := NB368_370.out
  have hnb25 := NB370_369.out
  have hnc25 := NB369_370.out
  obtain ⟨hcz26_0, hcz26_1, hcz26_2, hfz26_0, hfz26_1, hfz26_2⟩ := BK370.c3
  go_wp2
  refine bodyPost_ret (results_ct rfl _ _ gb370 23 #[.bool false, .string (⟨#[]⟩ : ByteArray), .string (⟨#[]⟩ : ByteArray)] (0, 0) _ rfl (by refine blk_put (cs := #[.bool false, .string (⟨#[]⟩ : ByteArray), .string (⟨#[]⟩ : ByteArray)]) ?_ 2 _ rfl; refine blk_put (cs := #[.bool false, .string (⟨#[]⟩ : ByteArray), .string (⟨#[]⟩ : ByteArray)]) ?_ 1 _ rfl; refine blk_put (cs := #[.bool false, .string (⟨#[]⟩ : ByteArray), .string (⟨#[]⟩ : ByteArray)]) ?_ 0 _ rfl; exact BK370.out) Tryd.underlying23 rfl (by kernel_rfl)) rfl ?_
  exact ⟨by first | rfl | (simp [errW_none, errW_some] <;> rfl) | (simp [*, errW_none, errW_some] <;> rfl) | (simp [bne_nil_]; done), by repeat (first | (with_reducible first | exact HB.out | apply below_alloc | apply pw_below_drewN | apply below_drew1 | refine below_set ?_ GE368.out | refine below_set ?_ GE369.out | refine below_set ?_ GE370.out) | exact HB.out)⟩
end Go.Proofs.YtihjcaglhjepdaaDoor.P
namespace Go.Proofs.YtihjcaglhjepdaaDoor.P
open Go.RowKit Go.Proofs.YtihjcaglhjepdaaDoorW.PrintWords Go.Proofs.YtihjcaglhjepdaaDoorW.PrintLast Go.Proofs.YtihjcaglhjepdaaDoorW.PrintMore
attribute [local go_sem] max2_int max_two
set_option linter.unusedVariables false
set_option linter.unusedSimpArgs false
def decimal_Rem.f (k : Nat) (a0_0 : Bool) (a0_1 : ByteArray) (a0_2 : ByteArray) (a1_0 : Bool) (a1_1 : ByteArray) (a1_2 : ByteArray) : Option (Bool × ByteArray × ByteArray × Int) := (decimal_divided.f k a0_0 a0_1 a0_2 a1_0 a1_1 a1_2).bind fun bt451 => (if bt451.2.2.2 = 0 then ((decimal_made.f k a0_0 bt451.2.1 bt451.2.2.1).bind fun bt459 => (some (bt459.1, bt459.2.1, bt459.2.2.1, bt459.2.2.2))) else (some (false, (⟨#[]⟩ : ByteArray), (⟨#[]⟩ : ByteArray), bt451.2.2.2)))
set_option maxHeartbeats 8000000 in
set_option maxRecDepth 100000 in
theorem decimal_Rem.calls (k : Nat) (a0_0 : Bool) (a0_1 : ByteArray) (a0_2 : ByteArray) (a1_0 : Bool) (a1_1 : ByteArray) (a1_2 : ByteArray) (r1 : Bool) (r2 : ByteArray) (r3 : ByteArray) (r4 : Int) (w : World) (h : decimal_Rem.f k a0_0 a0_1 a0_2 a1_0 a1_1 a1_2 = some (r1, r2, r3, r4)) :
    Calls Tryd.prog 27 #[.agg #[.bool a0_0, .string a0_1, .string a0_2], .agg #[.bool a1_0, .string a1_1, .string a1_2]] w fun e w' => e = .returned (.tuple #[.agg #[.bool r1, .string r2, .string r3], .int .i64 r4]) ∧ Below w.heap.size w w' := by
 have hu23 := Tryd.underlying23
 have HB := Aside0.mk (Below.refl w.heap.size w)
 unfold decimal_Rem.f at h
 have H := h
 clear h
 replace H := Option.bind_eq_some_iff.mp H
 obtain ⟨⟨t451, t454, t457, t458⟩, A30, H⟩ := H
 try dsimp only at H
 have A3 := Aside0.mk A30
 clear A30
 have HF4 := Aside0.mk H
 clear H
 go_enter Tryd.func27, Tryd.ntmps27
 go_upto_if 19 with (first | ((with_reducible refine gate_dst (N := 2) rfl ?_); refine bx_ #[.bool a0_0, .string a0_1, .string a0_2] 23 ?_; intro gb448 hg w5 hbox hb; have BK448 := Aside0.mk (hbox); have GW448 := Aside0.mk ((by rw [hg]; exact (below_size hb_) : w.heap.size ≤ gb448)); have GE448 := Aside0.mk ((by rw [hg]; exact (below_size hb_) : w.heap.size ≤ gb448)); replace HB := Aside0.mk (below_step hb_ hb); clear hb hbox hg) | ((with_reducible refine gate_dst (N := 3) rfl ?_); refine bx_ #[.bool a1_0, .string a1_1, .string a1_2] 23 ?_; intro gb449 hg w6 hbox hb; have BK449 := Aside0.mk (hbox); have GW449 := Aside0.mk ((by rw [hg]; exact (below_size hb_) : w.heap.size ≤ gb449)); have GE449 := Aside0.mk ((by rw [hg]; exact (below_size hb_) : w.heap.size ≤ gb449)); have NB448_449 := BK448.nl hg; have NB449_448 := BK448.ng hg; replace BK448 := BK448.bl hb; replace HB := Aside0.mk (below_step hb_ hb); clear hb hbox hg) | ((with_reducible refine gate_dst (N := 4) rfl ?_); refine bx_ #[.bool false, .string (⟨#[]⟩ : ByteArray), .string (⟨#[]⟩ : ByteArray)] 23 ?_; intro gb450 hg w7 hbox hb; have BK450 := Aside0.mk (hbox); have GW450 := Aside0.mk ((by rw [hg]; exact (below_size hb_) : w.heap.size ≤ gb450)); have GE450 := Aside0.mk ((by rw [hg]; exact (below_size hb_) : w.heap.size ≤ gb450)); have NB448_450 := BK448.nl hg; have NB450_448 := BK448.ng hg; have NB449_450 := BK449.nl hg; have NB450_449 := BK449.ng hg; replace BK448 := BK448.bl hb; replace BK449 := BK449.bl hb; replace HB := Aside0.mk (below_step hb_ hb); clear hb hbox hg; have hnb8 := NB448_449.out; have hnc8 := NB449_448.out; have hnb9 := NB448_450.out; have hnc9 := NB450_448.out; obtain ⟨hcz10_0, hcz10_1, hcz10_2, hfz10_0, hfz10_1, hfz10_2⟩ := BK448.c3; have hnb11 := NB449_450.out; have hnc11 := NB450_449.out; obtain ⟨hcz12_0, hcz12_1, hcz12_2, hfz12_0, hfz12_1, hfz12_2⟩ := BK449.c3) | ((with_reducible refine gate_callee (f := 61) rfl ?_); refine gL_ (some 13) Tryd.func61 #[.agg #[.bool a0_0, .string a0_1, .string a0_2], .agg #[.bool a1_0, .string a1_1, .string a1_2]] ?_; (with_reducible refine (decimal_divided.calls k a0_0 a0_1 a0_2 a1_0 a1_1 a1_2 t451 t454 t457 t458 _ A3.out).mono ?_); rintro e w13 ⟨v452, v455, rfl, ho0, ho1, hb⟩; refine ⟨_, rfl, ?_⟩; have HO453 := Aside0.mk (Kd.V_lower (Kd.V_mono (ok' := fun k_ => k_ ≠ gb448 ∧ k_ ≠ gb449 ∧ k_ ≠ gb450) ho0 (fun k_ hk_ => ⟨(Kd.freshB (g := gb448) (o := .cells #[.bool a0_0, .string a0_1, .string a0_2] 23 (0, 0)) BK448.out k_ hk_), (Kd.freshB (g := gb449) (o := .cells #[.bool a1_0, .string a1_1, .string a1_2] 23 (0, 0)) BK449.out k_ hk_), (Kd.freshB (g := gb450) (o := .cells #[.bool false, .string (⟨#[]⟩ : ByteArray), .string (⟨#[]⟩ : ByteArray)] 23 (0, 0)) BK450.out k_ hk_)⟩)) (below_size hb_)); have HO456 := Aside0.mk (Kd.V_lower (Kd.V_mono (ok' := fun k_ => k_ ≠ gb448 ∧ k_ ≠ gb449 ∧ k_ ≠ gb450) ho1 (fun k_ hk_ => ⟨(Kd.freshB (g := gb448) (o := .cells #[.bool a0_0, .string a0_1, .string a0_2] 23 (0, 0)) BK448.out k_ hk_), (Kd.freshB (g := gb449) (o := .cells #[.bool a1_0, .string a1_1, .string a1_2] 23 (0, 0)) BK449.out k_ hk_), (Kd.freshB (g := gb450) (o := .cells #[.bool false, .string (⟨#[]⟩ : ByteArray), .string (⟨#[]⟩ : ByteArray)] 23 (0, 0)) BK450.out k_ hk_)⟩)) (below_size hb_)); replace BK448 := BK448.bl hb; replace BK449 := BK449.bl hb; replace BK450 := BK450.bl hb; replace HB := Aside0.mk (below_step hb_ hb); (try clear ho0); (try clear ho1)))
 (try simp only [Act.put, List.setIfInBounds_toArray, List.set_cons_zero, List.set_cons_succ])
 have H := HF4.out
 clear HF4
 by_cases c14 : t458 = 0
 ·rw [if_pos c14] at H
  have c14b0 : (t458 == 0) = true := beq_iff_eq.mpr c14
  have c14b1 : (t458 != 0) = false := bne_eq_false_iff_eq.mpr c14
  clear c14
  (first | rw [c14b0] | (simp only [i64_w, i32_w]; rw [c14b0]) | rw [c14b1] | skip)
  replace H := Option.bind_eq_some_iff.mp H
  obtain ⟨⟨t459, t460, t461, t462⟩, A150, H⟩ := H
  try dsimp only at H
  have A15 := Aside0.mk A150
  clear A150
  simp only [Option.some.injEq, Prod.mk.injEq] at H
  obtain ⟨rfl, rfl, rfl, rfl⟩ := H
  have hnb16 := NB448_449.out
  have hnc16 := NB449_448.out
  have hnb17 := NB448_450.out
  have hnc17 := NB450_448.out
  obtain ⟨hcz18_0, hcz18_1, hcz18_2, hfz18_0, hfz18_1, hfz18_2⟩ := BK448.c3
  obtain ⟨Ao19, co19, eo19⟩ := Kd.V_slice HO456.out
  subst eo19
  go_wp2_with (first | ((with_reducible refine gate_callee (f := 62) rfl ?_); refine gL_ (some 26) Tryd.func62 #[.bool a0_0, .slice Ao19 t454.length co19, .int .i64 t457] ?_; (with_reducible refine (decimal_made.calls k a0_0 _ _ t454 t457 t459 t460 t461 t462 _ ?side1 ?side2 A15.out).mono ?_); (case side1 => repeat (first | exact (Kd.V_reads' HO456.out).2.2 | (with_reducible refine Kd.C_alloc ?_ _) | (with_reducible refine Kd.C_drewN ?_ _) | (with_reducible refine Kd.C_drew ?_))); (case side2 => exact (Kd.V_reads' HO456.out).2.1); rintro e w20 ⟨rfl, hb⟩; refine ⟨_, rfl, ?_⟩; replace HO453 := Aside0.mk (Kd.V_below (by (with_reducible repeat (first | apply Kd.V_alloc | apply Kd.V_drewN | apply Kd.V_drew)); exact HO453.out) hb); replace HO456 := Aside0.mk (Kd.V_below (by (with_reducible repeat (first | apply Kd.V_alloc | apply Kd.V_drewN | apply Kd.V_drew)); exact HO456.out) hb); replace BK448 := BK448.bl hb; replace BK449 := BK449.bl hb; replace BK450 := BK450.bl hb; replace HB := Aside0.mk (below_step hb_ hb); have hnb21 := NB450_449.out; have hnc21 := NB449_450.out; obtain ⟨hcz22_0, hcz22_1, hcz22_2, hfz22_0, hfz22_1, hfz22_2⟩ := BK450.c3))
  refine bodyPost_ret (results_ct rfl _ _ gb450 23 #[.bool t459, .string t460, .string t461] (0, 0) _ rfl (by refine blk_put (cs := #[.bool t459, .string t460, .string (⟨#[]⟩ : ByteArray)]) ?_ 2 _ rfl; refine blk_put (cs := #[.bool t459, .string (⟨#[]⟩ : ByteArray), .string (⟨#[]⟩ : ByteArray)]) ?_ 1 _ rfl; refine blk_put (cs := #[.bool false, .string (⟨#[]⟩ : ByteArray), .string (⟨#[]⟩ : ByteArray)]) ?_ 0 _ rfl; exact BK450.out) Tryd.underlying23 rfl (by kernel_rfl)) rfl ?_
  exact ⟨by first | rfl | (simp [errW_none, errW_some] <;> rfl) | (simp [*, errW_none, errW_some] <;> rfl) | (simp [bne_nil_]; done), by repeat (first | (with_reducible first | exact HB.out | apply below_alloc | apply pw_below_drewN | apply below_drew1 | refine below_set ?_ GE448.out | refine below_set ?_ GE449.out | refine below_set ?_ GE450.out) | exact HB.out)⟩
 ·rw [if_neg c14] at H
  have c14b0 : (t458 == 0) = false := beq_eq_false_iff_ne.mpr c14
  have c14b1 : (t458 != 0) = true := bne_iff_ne.mpr c14
  (first | rw [c14b0] | (simp only [i64_w, i32_w]; rw [c14b0]) | rw [c14b1] | skip)
  simp only [Option.some.injEq, Prod.mk.injEq] at H
  obtain ⟨rfl, rfl, rfl, rfl⟩ := H
  have hnb23 := NB450_448.out
  have hnc23 := NB448_450.out
  have hnb24 := NB450_449.out
  have hnc24 := NB449_450.out
  obtain ⟨hcz25_0, hcz25_1, hcz25_2, hfz25_0, hfz25_1, hfz25_2⟩ := BK450.c3
  go_wp2
  refine bodyPost_ret (results_ct rfl _ _ gb450 23 #[.bool false, .string (⟨#[]⟩ : ByteArray), .string (⟨#[]⟩ : ByteArray)] (0, 0) _ rfl (by refine blk_put (cs := #[.bool false, .string (⟨#[]⟩ : ByteArray), .string (⟨#[]⟩ : ByteArray)]) ?_ 2 _ rfl; refine blk_put (cs := #[.bool false, .string (⟨#[]⟩ : ByteArray), .string (⟨#[]⟩ : ByteArray)]) ?_ 1 _ rfl; refine blk_put (cs := #[.bool false, .string (⟨#[]⟩ : ByteArray), .string (⟨#[]⟩ : ByteArray)]) ?_ 0 _ rfl; exact BK450.out) Tryd.underlying23 rfl (by kernel_rfl)) rfl ?_
  exact ⟨by first | rfl | (simp [errW_none, errW_some] <;> rfl) | (simp [*, errW_none, errW_some] <;> rfl) | (simp [bne_nil_]; done), by repeat (first | (with_reducible first | exact HB.out | apply below_alloc | apply pw_below_drewN | apply below_drew1 | refine below_set ?_ GE448.out | refine below_set ?_ GE449.out | refine below_set ?_ GE450.out) | exact HB.out)⟩
end Go.Proofs.YtihjcaglhjepdaaDoor.P
namespace Go.Proofs.YtihjcaglhjepdaaDoor.P
open Go.RowKit Go.Proofs.YtihjcaglhjepdaaDoorW.PrintWords Go.Proofs.YtihjcaglhjepdaaDoorW.PrintLast Go.Proofs.YtihjcaglhjepdaaDoorW.PrintMore
attribute [local go_sem] max2_int max_two
set_option linter.unusedVariables false
set_option linter.unusedSimpArgs false
def idiomlaw02_fine.l0 : Nat → List (S23) → Int → Option (Bool)
  | 0, _, _ => none
  | k + 1, x0, x3 => if x3 < (x0.length : Int) then (if 0 ≤ x3 then ((idiomref02_Check.f k ((rd_T23 x0 x3).f0) ((rd_T23 x0 x3).f1) ((rd_T23 x0 x3).f2)).bind fun t664 => (if t664 = 0 then (idiomlaw02_fine.l0 k x0 (wrap64 (x3 + 1))) else (some false))) else (none)) else (some true)
def idiomlaw02_fine.f (k : Nat) (l0 : List (S23)) : Option (Bool) := idiomlaw02_fine.l0 k l0 0
set_option maxHeartbeats 8000000 in
set_option maxRecDepth 100000 in
theorem idiomlaw02_fine.calls (k : Nat) (A0 : Option Addr) (c0 : Nat) (l0 : List (S23)) (r : Bool) (w : World) (hr0 : Kd.C k23 w A0 l0.length l0) (hc0 : l0.length ≤ c0) (h : idiomlaw02_fine.f k l0 = some r) :
    Calls Tryd.prog 37 #[.slice A0 l0.length c0] w fun e w' => e = .returned (.bool r) ∧ Below w.heap.size w w' := by
 have hu23 := Tryd.underlying23
 have HR0 := Aside0.mk hr0
 have HC0 := Aside0.mk hc0
 clear hr0 hc0
 have HB := Aside0.mk (Below.refl w.heap.size w)
 unfold idiomlaw02_fine.f at h
 have H := h
 clear h
 have H' := Aside0.mk H
 clear H
 go_enter Tryd.func37, Tryd.ntmps37
 go_wp2
 go_loopg [3] k (fun kq v3 w' => ∃ (x3_1 : Int), v3 = .int .i64 x3_1 ∧ Aside0 (idiomlaw02_fine.l0 kq l0 x3_1 = some r) ∧ Aside0 (kq ≤ k) ∧ Aside0 (Below w.heap.size w w'))
 case atStart => exact ⟨(0), (by first | rfl | (simp; done) | (simp [*]; done)), H', ⟨Nat.le_refl _⟩, ⟨by repeat (first | (with_reducible first | exact HB.out | apply below_alloc | apply pw_below_drewN | apply below_drew1) | exact HB.out)⟩⟩
 case round =>
  clear H'
  obtain ⟨x3_1, rfl, HA, HK1, HB⟩ := hrel
  cases gk with
  | zero => exact absurd HA.out (by simp [idiomlaw02_fine.l0])
  | succ k1 =>
   have H := HA.out
   clear HA
   simp only [idiomlaw02_fine.l0] at H
   by_cases c2 : x3_1 < (l0.length : Int)
   ·rw [if_pos c2] at H
    have c2b0 : decide (x3_1 < (l0.length : Int)) = true := decide_eq_true c2
    clear c2
    by_cases c3 : 0 ≤ x3_1
    ·rw [if_pos c3] at H
     have c3b0 : decide (0 ≤ x3_1) = true := decide_eq_true c3
     clear c3
     replace H := Option.bind_eq_some_iff.mp H
     obtain ⟨t664, A40, H⟩ := H
     try dsimp only at H
     have A4 := Aside0.mk A40
     clear A40
     have HF5 := Aside0.mk H
     clear H
     have p663 : 0 ≤ (x3_1 : Int) := of_decide_eq_true (by first | (with_reducible assumption) | assumption)
     have q663 : x3_1 < (l0.length : Int) := of_decide_eq_true (by first | (with_reducible assumption) | assumption)
     obtain ⟨ad663, e663, hx663_0, hx663_1, hx663_2⟩ := at_T23 HR0.out x3_1 p663 q663
     cases e663
     replace hx663_0 := (HB.out.cell (World.block_lt_of_cell? w _ hx663_0)).trans hx663_0
     replace hx663_1 := (HB.out.cell (World.block_lt_of_cell? w _ hx663_1)).trans hx663_1
     replace hx663_2 := (HB.out.cell (World.block_lt_of_cell? w _ hx663_2)).trans hx663_2
     replace p663 := eq_true p663
     replace q663 := eq_true q663
     go_upto_if 15 with (first | ((with_reducible refine gate_callee (f := 20) rfl ?_); refine gL_ (some 14) Tryd.func20 #[.agg #[.bool ((rd_T23 l0 x3_1).f0), .string ((rd_T23 l0 x3_1).f1), .string ((rd_T23 l0 x3_1).f2)]] ?_; (with_reducible refine (idiomref02_Check.calls k1 ((rd_T23 l0 x3_1).f0) ((rd_T23 l0 x3_1).f1) ((rd_T23 l0 x3_1).f2) t664 _ A4.out).mono ?_); rintro e w6 ⟨rfl, hb⟩; refine ⟨_, rfl, ?_⟩; replace HB := Aside0.mk (below_step hb_ hb)))
     (try simp only [Act.put, List.setIfInBounds_toArray, List.set_cons_zero, List.set_cons_succ])
     have H := HF5.out
     clear HF5
     by_cases c7 : t664 = 0
     ·rw [if_pos c7] at H
      have c7b0 : (t664 == 0) = true := beq_iff_eq.mpr c7
      have c7b1 : (t664 != 0) = false := bne_eq_false_iff_eq.mpr c7
      clear c7
      (first | rw [c7b0] | (simp only [i64_w, i32_w]; rw [c7b0]) | rw [c7b1] | skip)
      have H' := Aside0.mk H
      clear H
      go_wp2
      go_roundg k1
      case measure => have := HK1.out; omega
      case rel => exact ⟨(wrap64 (x3_1 + 1)), (by first | rfl | (simp; done) | (simp [*]; done)), H', ⟨by have := HK1.out; omega⟩, ⟨by repeat (first | (with_reducible first | exact HB.out | apply below_alloc | apply pw_below_drewN | apply below_drew1) | exact HB.out)⟩⟩
     ·rw [if_neg c7] at H
      have c7b0 : (t664 == 0) = false := beq_eq_false_iff_ne.mpr c7
      have c7b1 : (t664 != 0) = true := bne_iff_ne.mpr c7
      (first | rw [c7b0] | (simp only [i64_w, i32_w]; rw [c7b0]) | rw [c7b1] | skip)
      obtain rfl := Option.some.inj H
      go_wp2
      go_ret
      exact ⟨by first | rfl | (simp [errW_none, errW_some] <;> rfl) | (simp [*, errW_none, errW_some] <;> rfl) | (simp [bne_nil_]; done), by repeat (first | (with_reducible first | exact HB.out | apply below_alloc | apply pw_below_drewN | apply below_drew1) | exact HB.out)⟩
    ·rw [if_neg c3] at H
     exact absurd H (by simp)
   ·rw [if_neg c2] at H
    have c2b0 : decide (x3_1 < (l0.length : Int)) = false := decide_eq_false c2
    clear c2
    obtain rfl := Option.some.inj H
    go_wp2
    go_ret
    exact ⟨by first | rfl | (simp [errW_none, errW_some] <;> rfl) | (simp [*, errW_none, errW_some] <;> rfl) | (simp [bne_nil_]; done), by repeat (first | (with_reducible first | exact HB.out | apply below_alloc | apply pw_below_drewN | apply below_drew1) | exact HB.out)⟩
end Go.Proofs.YtihjcaglhjepdaaDoor.P
namespace Go.Proofs.YtihjcaglhjepdaaDoor.P
open Go.RowKit Go.Proofs.YtihjcaglhjepdaaDoorW.PrintWords Go.Proofs.YtihjcaglhjepdaaDoorW.PrintLast Go.Proofs.YtihjcaglhjepdaaDoorW.PrintMore
attribute [local go_sem] max2_int max_two
set_option linter.unusedVariables false
set_option linter.unusedSimpArgs false
def idiomlaw02_great.f (k : Nat) (a0_0 : Bool) (a0_1 : ByteArray) (a0_2 : ByteArray) (a1_0 : Bool) (a1_1 : ByteArray) (a1_2 : ByteArray) : Option (Bool) := (decimal_Compare.f k a0_0 a0_1 a0_2 a1_0 a1_1 a1_2).bind fun bt667 => (if bt667.2 = 0 then (some (bt667.1 == 0)) else (some false))
set_option maxHeartbeats 8000000 in
set_option maxRecDepth 100000 in
theorem idiomlaw02_great.calls (k : Nat) (a0_0 : Bool) (a0_1 : ByteArray) (a0_2 : ByteArray) (a1_0 : Bool) (a1_1 : ByteArray) (a1_2 : ByteArray) (r : Bool) (w : World) (h : idiomlaw02_great.f k a0_0 a0_1 a0_2 a1_0 a1_1 a1_2 = some r) :
    Calls Tryd.prog 38 #[.agg #[.bool a0_0, .string a0_1, .string a0_2], .agg #[.bool a1_0, .string a1_1, .string a1_2]] w fun e w' => e = .returned (.bool r) ∧ Below w.heap.size w w' := by
 have hu23 := Tryd.underlying23
 have HB := Aside0.mk (Below.refl w.heap.size w)
 unfold idiomlaw02_great.f at h
 have H := h
 clear h
 replace H := Option.bind_eq_some_iff.mp H
 obtain ⟨⟨t667, t668⟩, A30, H⟩ := H
 try dsimp only at H
 have A3 := Aside0.mk A30
 clear A30
 by_cases c4 : t668 = 0
 ·rw [if_pos c4] at H
  have c4b0 : (t668 == 0) = true := beq_iff_eq.mpr c4
  have c4b1 : (t668 != 0) = false := bne_eq_false_iff_eq.mpr c4
  clear c4
  obtain rfl := Option.some.inj H
  go_enter Tryd.func38, Tryd.ntmps38
  go_wp2_with (first | ((with_reducible refine gate_dst (N := 2) rfl ?_); refine bx_ #[.bool a0_0, .string a0_1, .string a0_2] 23 ?_; intro gb665 hg w5 hbox hb; have BK665 := Aside0.mk (hbox); have GW665 := Aside0.mk ((by rw [hg]; exact (below_size hb_) : w.heap.size ≤ gb665)); have GE665 := Aside0.mk ((by rw [hg]; exact (below_size hb_) : w.heap.size ≤ gb665)); replace HB := Aside0.mk (below_step hb_ hb); clear hb hbox hg) | ((with_reducible refine gate_dst (N := 3) rfl ?_); refine bx_ #[.bool a1_0, .string a1_1, .string a1_2] 23 ?_; intro gb666 hg w6 hbox hb; have BK666 := Aside0.mk (hbox); have GW666 := Aside0.mk ((by rw [hg]; exact (below_size hb_) : w.heap.size ≤ gb666)); have GE666 := Aside0.mk ((by rw [hg]; exact (below_size hb_) : w.heap.size ≤ gb666)); have NB665_666 := BK665.nl hg; have NB666_665 := BK665.ng hg; replace BK665 := BK665.bl hb; replace HB := Aside0.mk (below_step hb_ hb); clear hb hbox hg; have hnb7 := NB665_666.out; have hnc7 := NB666_665.out; obtain ⟨hcz8_0, hcz8_1, hcz8_2, hfz8_0, hfz8_1, hfz8_2⟩ := BK665.c3; obtain ⟨hcz9_0, hcz9_1, hcz9_2, hfz9_0, hfz9_1, hfz9_2⟩ := BK666.c3) | ((with_reducible refine gate_callee (f := 29) rfl ?_); refine gL_ (some 10) Tryd.func29 #[.agg #[.bool a0_0, .string a0_1, .string a0_2], .agg #[.bool a1_0, .string a1_1, .string a1_2]] ?_; (with_reducible refine (decimal_Compare.calls k a0_0 a0_1 a0_2 a1_0 a1_1 a1_2 t667 t668 _ A3.out).mono ?_); rintro e w10 ⟨rfl, hb⟩; refine ⟨_, rfl, ?_⟩; replace BK665 := BK665.bl hb; replace BK666 := BK666.bl hb; replace HB := Aside0.mk (below_step hb_ hb)))
  go_ret
  exact ⟨by first | rfl | (simp [errW_none, errW_some] <;> rfl) | (simp [*, errW_none, errW_some] <;> rfl) | (simp [bne_nil_]; done), by repeat (first | (with_reducible first | exact HB.out | apply below_alloc | apply pw_below_drewN | apply below_drew1 | refine below_set ?_ GE665.out | refine below_set ?_ GE666.out) | exact HB.out)⟩
 ·rw [if_neg c4] at H
  have c4b0 : (t668 == 0) = false := beq_eq_false_iff_ne.mpr c4
  have c4b1 : (t668 != 0) = true := bne_iff_ne.mpr c4
  obtain rfl := Option.some.inj H
  go_enter Tryd.func38, Tryd.ntmps38
  go_wp2_with (first | ((with_reducible refine gate_dst (N := 2) rfl ?_); refine bx_ #[.bool a0_0, .string a0_1, .string a0_2] 23 ?_; intro gb665 hg w11 hbox hb; have BK665 := Aside0.mk (hbox); have GW665 := Aside0.mk ((by rw [hg]; exact (below_size hb_) : w.heap.size ≤ gb665)); have GE665 := Aside0.mk ((by rw [hg]; exact (below_size hb_) : w.heap.size ≤ gb665)); replace HB := Aside0.mk (below_step hb_ hb); clear hb hbox hg) | ((with_reducible refine gate_dst (N := 3) rfl ?_); refine bx_ #[.bool a1_0, .string a1_1, .string a1_2] 23 ?_; intro gb666 hg w12 hbox hb; have BK666 := Aside0.mk (hbox); have GW666 := Aside0.mk ((by rw [hg]; exact (below_size hb_) : w.heap.size ≤ gb666)); have GE666 := Aside0.mk ((by rw [hg]; exact (below_size hb_) : w.heap.size ≤ gb666)); have NB665_666 := BK665.nl hg; have NB666_665 := BK665.ng hg; replace BK665 := BK665.bl hb; replace HB := Aside0.mk (below_step hb_ hb); clear hb hbox hg; have hnb13 := NB665_666.out; have hnc13 := NB666_665.out; obtain ⟨hcz14_0, hcz14_1, hcz14_2, hfz14_0, hfz14_1, hfz14_2⟩ := BK665.c3; obtain ⟨hcz15_0, hcz15_1, hcz15_2, hfz15_0, hfz15_1, hfz15_2⟩ := BK666.c3) | ((with_reducible refine gate_callee (f := 29) rfl ?_); refine gL_ (some 10) Tryd.func29 #[.agg #[.bool a0_0, .string a0_1, .string a0_2], .agg #[.bool a1_0, .string a1_1, .string a1_2]] ?_; (with_reducible refine (decimal_Compare.calls k a0_0 a0_1 a0_2 a1_0 a1_1 a1_2 t667 t668 _ A3.out).mono ?_); rintro e w16 ⟨rfl, hb⟩; refine ⟨_, rfl, ?_⟩; replace BK665 := BK665.bl hb; replace BK666 := BK666.bl hb; replace HB := Aside0.mk (below_step hb_ hb)))
  go_ret
  exact ⟨by first | rfl | (simp [errW_none, errW_some] <;> rfl) | (simp [*, errW_none, errW_some] <;> rfl) | (simp [bne_nil_]; done), by repeat (first | (with_reducible first | exact HB.out | apply below_alloc | apply pw_below_drewN | apply below_drew1 | refine below_set ?_ GE665.out | refine below_set ?_ GE666.out) | exact HB.out)⟩
end Go.Proofs.YtihjcaglhjepdaaDoor.P
namespace Go.Proofs.YtihjcaglhjepdaaDoor.P
open Go.RowKit Go.Proofs.YtihjcaglhjepdaaDoorW.PrintWords Go.Proofs.YtihjcaglhjepdaaDoorW.PrintLast Go.Proofs.YtihjcaglhjepdaaDoorW.PrintMore
attribute [local go_sem] max2_int max_two
set_option linter.unusedVariables false
set_option linter.unusedSimpArgs false
attribute [local go_sem high] eqA23
mutual
def idiomlaw02_DecimalRest.j0 : Nat → Int → Bool → Bool → ByteArray → ByteArray → Bool → ByteArray → ByteArray → Bool → ByteArray → ByteArray → Option (Bool)
  | 0, _, _, _, _, _, _, _, _, _, _, _ => none
  | k + 1, x2, x56, x772000, x772001, x772002, x773000, x773001, x773002, x779000, x779001, x779002 => if x56 = true then (some false) else ((decimal_Compare.f k false x779001 x779002 false x773001 x773002).bind fun bt785 => (if bt785.2 = 0 then (if bt785.1 ≥ 0 then (idiomlaw02_DecimalRest.j1 k x2 true x772000 x772001 x772002 x773000 x773001 x773002 x779000 x779001 x779002) else (if x779000 = true then (if x772000 = true then (idiomlaw02_DecimalRest.j1 k x2 false x772000 x772001 x772002 x773000 x773001 x773002 x779000 x779001 x779002) else (idiomlaw02_DecimalRest.j1 k x2 true x772000 x772001 x772002 x773000 x773001 x773002 x779000 x779001 x779002)) else (if x772000 = true then ((idiomlaw02_great.f k x779000 x779001 x779002 false (⟨#[48]⟩ : ByteArray) (⟨#[]⟩ : ByteArray)).bind fun t787 => (idiomlaw02_DecimalRest.j1 k x2 (!t787) x772000 x772001 x772002 x773000 x773001 x773002 x779000 x779001 x779002)) else (idiomlaw02_DecimalRest.j1 k x2 false x772000 x772001 x772002 x773000 x773001 x773002 x779000 x779001 x779002)))) else (idiomlaw02_DecimalRest.j1 k x2 true x772000 x772001 x772002 x773000 x773001 x773002 x779000 x779001 x779002)))
def idiomlaw02_DecimalRest.j1 : Nat → Int → Bool → Bool → ByteArray → ByteArray → Bool → ByteArray → ByteArray → Bool → ByteArray → ByteArray → Option (Bool)
  | 0, _, _, _, _, _, _, _, _, _, _, _ => none
  | k + 1, x2, x96, x772000, x772001, x772002, x773000, x773001, x773002, x779000, x779001, x779002 => if x96 = true then (some false) else ((decimal_Div.f k x772000 x772001 x772002 x773000 x773001 x773002).bind fun bt788 => (if bt788.2.2.2 = 0 then (if bt788.2.2.1.toList = ([] : List UInt8) then ((idiomlaw02_fine.f k (([(⟨bt788.1, bt788.2.1, bt788.2.2.1⟩ : S23)] : List (S23)))).bind fun t796 => (idiomlaw02_DecimalRest.j2 k x2 (!t796) x772000 x772001 x772002 x773000 x773001 x773002 x779000 x779001 x779002 bt788.1 bt788.2.1 bt788.2.2.1)) else (idiomlaw02_DecimalRest.j2 k x2 true x772000 x772001 x772002 x773000 x773001 x773002 x779000 x779001 x779002 bt788.1 bt788.2.1 bt788.2.2.1)) else (idiomlaw02_DecimalRest.j3 k x2 x772000 x772001 x772002 x773000 x773001 x773002 x779000 x779001 x779002)))
def idiomlaw02_DecimalRest.j3 : Nat → Int → Bool → ByteArray → ByteArray → Bool → ByteArray → ByteArray → Bool → ByteArray → ByteArray → Option (Bool)
  | 0, _, _, _, _, _, _, _, _, _, _ => none
  | k + 1, x2, x772000, x772001, x772002, x773000, x773001, x773002, x779000, x779001, x779002 => (decimal_Shift.f k x772000 x772001 x772002 x2).bind fun bt808 => ((decimal_Shift.f k x773000 x773001 x773002 x2).bind fun bt813 => (if bt808.2.2.2 = 0 then (idiomlaw02_DecimalRest.j4 k x2 (bt813.2.2.2 != 0) x779000 x779001 x779002 bt808.1 bt808.2.1 bt808.2.2.1 bt813.1 bt813.2.1 bt813.2.2.1) else (idiomlaw02_DecimalRest.j4 k x2 true x779000 x779001 x779002 bt808.1 bt808.2.1 bt808.2.2.1 bt813.1 bt813.2.1 bt813.2.2.1)))
def idiomlaw02_DecimalRest.j4 : Nat → Int → Bool → Bool → ByteArray → ByteArray → Bool → ByteArray → ByteArray → Bool → ByteArray → ByteArray → Option (Bool)
  | 0, _, _, _, _, _, _, _, _, _, _, _ => none
  | k + 1, x2, x153, x779000, x779001, x779002, x813000, x813001, x813002, x818000, x818001, x818002 => if x153 = true then (some true) else ((decimal_Rem.f k x813000 x813001 x813002 x818000 x818001 x818002).bind fun bt818 => ((decimal_Shift.f k x779000 x779001 x779002 x2).bind fun bt823 => (if bt818.2.2.2 = 0 then (if bt823.2.2.2 = 0 then ((idiomlaw02_great.f k bt818.1 bt818.2.1 bt818.2.2.1 bt823.1 bt823.2.1 bt823.2.2.1).bind fun t828 => (some t828)) else (some true)) else (some false))))
def idiomlaw02_DecimalRest.j2 : Nat → Int → Bool → Bool → ByteArray → ByteArray → Bool → ByteArray → ByteArray → Bool → ByteArray → ByteArray → Bool → ByteArray → ByteArray → Option (Bool)
  | 0, _, _, _, _, _, _, _, _, _, _, _, _, _, _ => none
  | k + 1, x2, x113, x772000, x772001, x772002, x773000, x773001, x773002, x779000, x779001, x779002, x793000, x793001, x793002 => if x113 = true then (some false) else ((decimal_Mul.f k x793000 x793001 x793002 x773000 x773001 x773002).bind fun bt797 => (if bt797.2.2.2 = 0 then ((decimal_Add.f k bt797.1 bt797.2.1 bt797.2.2.1 x779000 x779001 x779002).bind fun bt802 => (if bt802.2.2.2 = 0 then ((idiomlaw02_great.f k bt802.1 bt802.2.1 bt802.2.2.1 x772000 x772001 x772002).bind fun t807 => (if t807 = true then (idiomlaw02_DecimalRest.j3 k x2 x772000 x772001 x772002 x773000 x773001 x773002 x779000 x779001 x779002) else (some false))) else (idiomlaw02_DecimalRest.j3 k x2 x772000 x772001 x772002 x773000 x773001 x773002 x779000 x779001 x779002))) else (idiomlaw02_DecimalRest.j3 k x2 x772000 x772001 x772002 x773000 x773001 x773002 x779000 x779001 x779002)))
end
def idiomlaw02_DecimalRest.f (k : Nat) (a0_0 : Bool) (a0_1 : ByteArray) (a0_2 : ByteArray) (a1_0 : Bool) (a1_1 : ByteArray) (a1_2 : ByteArray) (a2 : Int) : Option (Bool) := (idiomlaw02_awake.f k).bind fun t773 => (if t773 = true then ((decimal_Rem.f k a0_0 a0_1 a0_2 a1_0 a1_1 a1_2).bind fun bt774 => (if bt774.2.2.2 = 0 then ((idiomlaw02_fine.f k (([(⟨a0_0, a0_1, a0_2⟩ : S23), (⟨a1_0, a1_1, a1_2⟩ : S23), (⟨bt774.1, bt774.2.1, bt774.2.2.1⟩ : S23)] : List (S23)))).bind fun t782 => (if t782 = true then (idiomlaw02_DecimalRest.j0 k a2 ((bt774.2.2.1.size : Int) != (mx (a0_2.size : Int) (a1_2.size : Int))) a0_0 a0_1 a0_2 a1_0 a1_1 a1_2 bt774.1 bt774.2.1 bt774.2.2.1) else (idiomlaw02_DecimalRest.j0 k a2 true a0_0 a0_1 a0_2 a1_0 a1_1 a1_2 bt774.1 bt774.2.1 bt774.2.2.1))) else (some (!bt774.1 && (bt774.2.1.toList == ([] : List UInt8) && (bt774.2.2.1.toList == ([] : List UInt8))))))) else (some false))
structure idiomlaw02_DecimalRest.Kept (p : Prop) : Prop where
  out : p
set_option maxHeartbeats 0 in
set_option maxRecDepth 100000 in
def idiomlaw02_DecimalRest.calls_all_s : PSigma fun T0 : Prop => idiomlaw02_DecimalRest.Kept T0 → (∀ (k : Nat) (a0_0 : Bool) (a0_1 : ByteArray) (a0_2 : ByteArray) (a1_0 : Bool) (a1_1 : ByteArray) (a1_2 : ByteArray) (a2 : Int) (r : Bool) (w : World) (h : idiomlaw02_DecimalRest.f k a0_0 a0_1 a0_2 a1_0 a1_1 a1_2 a2 = some r), Calls Tryd.prog 8 #[.agg #[.bool a0_0, .string a0_1, .string a0_2], .agg #[.bool a1_0, .string a1_1, .string a1_2], .int .i64 a2] w fun e w' => e = .returned (.bool r) ∧ Below w.heap.size w w') := by
  apply PSigma.mk
  case snd =>
   intro hrest0
   intro k a0_0 a0_1 a0_2 a1_0 a1_1 a1_2 a2 r w h
   have hu23 := Tryd.underlying23
   have HB := Aside0.mk (Below.refl w.heap.size w)
   unfold idiomlaw02_DecimalRest.f at h
   have H := h
   clear h
   replace H := Option.bind_eq_some_iff.mp H
   obtain ⟨t773, A40, H⟩ := H
   try dsimp only at H
   have A4 := Aside0.mk A40
   clear A40
   have HF5 := Aside0.mk H
   clear H
   go_enter Tryd.func8, Tryd.ntmps8
   go_upto_if 26 with (first | ((with_reducible refine gate_dst (N := 3) rfl ?_); (try (refine gate_guard (by rfl) ?_; dsimp only)); refine box_event ?hg (N := 3) ?hd (cs := #[.bool a0_0, .string a0_1, .string a0_2]) (t := 23) ?hr ?_; (case hd => rfl); (case hg => rfl); (case hr => first | (go_simp; done) | (go_simp; rfl)); intro gb771 hg w6 hbox hb; have BK771 := Aside0.mk (hbox); have GW771 := Aside0.mk ((by rw [hg]; exact (below_size hb_) : w.heap.size ≤ gb771)); have GE771 := Aside0.mk ((by rw [hg]; exact (below_size hb_) : w.heap.size ≤ gb771)); replace HB := Aside0.mk (below_step hb_ hb); clear hb hbox hg) | ((with_reducible refine gate_dst (N := 4) rfl ?_); (try (refine gate_guard (by rfl) ?_; dsimp only)); refine box_event ?hg (N := 4) ?hd (cs := #[.bool a1_0, .string a1_1, .string a1_2]) (t := 23) ?hr ?_; (case hd => rfl); (case hg => rfl); (case hr => first | (go_simp; done) | (go_simp; rfl)); intro gb772 hg w7 hbox hb; have BK772 := Aside0.mk (hbox); have GW772 := Aside0.mk ((by rw [hg]; exact (below_size hb_) : w.heap.size ≤ gb772)); have GE772 := Aside0.mk ((by rw [hg]; exact (below_size hb_) : w.heap.size ≤ gb772)); have NB771_772 := BK771.nl hg; have NB772_771 := BK771.ng hg; replace BK771 := BK771.bl hb; replace HB := Aside0.mk (below_step hb_ hb); clear hb hbox hg) | ((with_reducible refine gate_callee (f := 21) rfl ?_); refine gL_ (some 25) Tryd.func21 #[] ?_; (with_reducible refine (idiomlaw02_awake.calls k  t773 _ A4.out).mono ?_); rintro e w8 ⟨rfl, hb⟩; refine ⟨_, rfl, ?_⟩; replace BK771 := BK771.bl hb; replace BK772 := BK772.bl hb; replace HB := Aside0.mk (below_step hb_ hb)))
   (try simp only [Act.put, List.setIfInBounds_toArray, List.set_cons_zero, List.set_cons_succ])
   have H := HF5.out
   clear HF5
   by_cases c9 : t773 = true
   ·subst c9
    have H1 : ((decimal_Rem.f k a0_0 a0_1 a0_2 a1_0 a1_1 a1_2).bind fun bt774 => (if bt774.2.2.2 = 0 then ((idiomlaw02_fine.f k (([(⟨a0_0, a0_1, a0_2⟩ : S23), (⟨a1_0, a1_1, a1_2⟩ : S23), (⟨bt774.1, bt774.2.1, bt774.2.2.1⟩ : S23)] : List (S23)))).bind fun t782 => (if t782 = true then (idiomlaw02_DecimalRest.j0 k a2 ((bt774.2.2.1.size : Int) != (mx (a0_2.size : Int) (a1_2.size : Int))) a0_0 a0_1 a0_2 a1_0 a1_1 a1_2 bt774.1 bt774.2.1 bt774.2.2.1) else (idiomlaw02_DecimalRest.j0 k a2 true a0_0 a0_1 a0_2 a1_0 a1_1 a1_2 bt774.1 bt774.2.1 bt774.2.2.1))) else (some (!bt774.1 && (bt774.2.1.toList == ([] : List UInt8) && (bt774.2.2.1.toList == ([] : List UInt8))))))) = some r := by rw [if_pos rfl] at H; exact H
    clear H
    have H := H1
    clear H1
    replace H := Option.bind_eq_some_iff.mp H
    obtain ⟨⟨t774, t775, t776, t777⟩, A100, H⟩ := H
    try dsimp only at H
    have A10 := Aside0.mk A100
    clear A100
    have HF11 := Aside0.mk H
    clear H
    have hnb12 := NB771_772.out
    have hnc12 := NB772_771.out
    obtain ⟨hcz13_0, hcz13_1, hcz13_2, hfz13_0, hfz13_1, hfz13_2⟩ := BK771.c3
    obtain ⟨hcz14_0, hcz14_1, hcz14_2, hfz14_0, hfz14_1, hfz14_2⟩ := BK772.c3
    go_upto_if 34 with (first | ((with_reducible refine gate_callee (f := 27) rfl ?_); refine gL_ (some 30) Tryd.func27 #[.agg #[.bool a0_0, .string a0_1, .string a0_2], .agg #[.bool a1_0, .string a1_1, .string a1_2]] ?_; (with_reducible refine (decimal_Rem.calls k a0_0 a0_1 a0_2 a1_0 a1_1 a1_2 t774 t775 t776 t777 _ A10.out).mono ?_); rintro e w15 ⟨rfl, hb⟩; refine ⟨_, rfl, ?_⟩; replace BK771 := BK771.bl hb; replace BK772 := BK772.bl hb; replace HB := Aside0.mk (below_step hb_ hb)) | ((with_reducible refine gate_dst (N := 7) rfl ?_); (try (refine gate_guard (by rfl) ?_; dsimp only)); refine box_event ?hg (N := 7) ?hd (cs := #[.bool false, .string (⟨#[]⟩ : ByteArray), .string (⟨#[]⟩ : ByteArray)]) (t := 23) ?hr ?_; (case hd => rfl); (case hg => rfl); (case hr => first | (go_simp; done) | (go_simp; rfl)); intro gb778 hg w16 hbox hb; have BK778 := Aside0.mk (hbox); have GW778 := Aside0.mk ((by rw [hg]; exact (below_size hb_) : w.heap.size ≤ gb778)); have GE778 := Aside0.mk ((by rw [hg]; exact (below_size hb_) : w.heap.size ≤ gb778)); have NB771_778 := BK771.nl hg; have NB778_771 := BK771.ng hg; have NB772_778 := BK772.nl hg; have NB778_772 := BK772.ng hg; replace BK771 := BK771.bl hb; replace BK772 := BK772.bl hb; replace HB := Aside0.mk (below_step hb_ hb); clear hb hbox hg; have hnb17 := NB778_771.out; have hnc17 := NB771_778.out; have hnb18 := NB778_772.out; have hnc18 := NB772_778.out; obtain ⟨hcz19_0, hcz19_1, hcz19_2, hfz19_0, hfz19_1, hfz19_2⟩ := BK778.c3))
    (try simp only [Act.put, List.setIfInBounds_toArray, List.set_cons_zero, List.set_cons_succ])
    have H := HF11.out
    clear HF11
    by_cases c20 : t777 = 0
    ·rw [if_pos c20] at H
     have c20b0 : (t777 == 0) = true := beq_iff_eq.mpr c20
     have c20b1 : (t777 != 0) = false := bne_eq_false_iff_eq.mpr c20
     clear c20
     (first | rw [c20b0] | (simp only [i64_w, i32_w]; rw [c20b0]) | rw [c20b1] | skip)
     have HC21 := Aside0.mk H
     clear H
     go_upto_region 6 with (fail)
     go_cut [56] (fun v56 wc => ∃ (kq : Nat) (x56_20 : Bool), v56 = .bool x56_20 ∧ Aside0 (idiomlaw02_DecimalRest.j0 kq a2 x56_20 a0_0 a0_1 a0_2 a1_0 a1_1 a1_2 t774 t775 t776 = some r) ∧ Aside0 (kq ≤ k) ∧ Aside0 (wc.heap[gb771]? = some (.cells #[.bool a0_0, .string a0_1, .string a0_2] 23 (0, 0))) ∧ Aside0 (wc.heap[gb772]? = some (.cells #[.bool a1_0, .string a1_1, .string a1_2] 23 (0, 0))) ∧ Aside0 (wc.heap[gb778]? = some (.cells #[.bool t774, .string t775, .string t776] 23 (0, 0))) ∧ Aside0 (Below w.heap.size w wc))
     case first =>
      have H := HC21.out
      clear HC21
      obtain ⟨y779, hy779⟩ : ∃ y_ : List (S23), y_ = (([(⟨a0_0, a0_1, a0_2⟩ : S23), (⟨a1_0, a1_1, a1_2⟩ : S23), (⟨t774, t775, t776⟩ : S23)] : List (S23))) := ⟨_, rfl⟩
      rw [← hy779] at H
      have Ny779 := Aside0.mk hy779
      clear hy779
      replace H := Option.bind_eq_some_iff.mp H
      obtain ⟨t782, A220, H⟩ := H
      try dsimp only at H
      have A22 := Aside0.mk A220
      clear A220
      by_cases c23 : t782 = true
      ·subst c23
       have H1 : (idiomlaw02_DecimalRest.j0 k a2 ((t776.size : Int) != (mx (a0_2.size : Int) (a1_2.size : Int))) a0_0 a0_1 a0_2 a1_0 a1_1 a1_2 t774 t775 t776) = some r := by rw [if_pos rfl] at H; exact H
       clear H
       have H := H1
       clear H1
       obtain ⟨ji24, hji24⟩ : ∃ j_ : Int, (mx (a0_2.size : Int) (a1_2.size : Int)) = j_ := ⟨_, rfl⟩
       replace H : (idiomlaw02_DecimalRest.j0 k a2 ((t776.size : Int) != (ji24)) a0_0 a0_1 a0_2 a1_0 a1_1 a1_2 t774 t775 t776) = some r := by first | (rw [hji24] at H; exact H) | (simp only [hji24] at H ⊢; exact H)
       (try rw [hji24] at A22)
       (try (have hji24l : 0 ≤ ji24 := by (rw [← hji24]; unfold mx; (repeat' split) <;> omega)))
       (try (have hji24m : 0 ≤ ji24 := by omega))
       have hji24_ : (if (a0_2.size : Int) < (a1_2.size : Int) then (a1_2.size : Int) else (a0_2.size : Int)) = ji24 := hji24
       (try (have hji24n := hji24_; simp only [Int.ofNat_lt] at hji24n))
       have H' := Aside0.mk H
       clear H
       have hnb25 := NB771_772.out
       have hnc25 := NB772_771.out
       have hnb26 := NB771_778.out
       have hnc26 := NB778_771.out
       obtain ⟨hcz27_0, hcz27_1, hcz27_2, hfz27_0, hfz27_1, hfz27_2⟩ := BK771.c3
       have hnb28 := NB772_778.out
       have hnc28 := NB778_772.out
       obtain ⟨hcz29_0, hcz29_1, hcz29_2, hfz29_0, hfz29_1, hfz29_2⟩ := BK772.c3
       obtain ⟨hcz30_0, hcz30_1, hcz30_2, hfz30_0, hfz30_1, hfz30_2⟩ := BK778.c3
       go_wp2_with (first | ((with_reducible refine gate_dst (N := 41) rfl ?_); (try (refine gate_guard (by rfl) ?_; dsimp only)); refine Kd.R_lit k23 _ 23 ?hg (N := 41) ?hd (xs := ([(⟨a0_0, a0_1, a0_2⟩ : S23), (⟨a1_0, a1_1, a1_2⟩ : S23), (⟨t774, t775, t776⟩ : S23)] : List (S23))) (inner := [.bool a0_0, .string a0_1, .string a0_2, .bool a1_0, .string a1_1, .string a1_2, .bool t774, .string t775, .string t776]) (ok := fun _ => True) (okp := fun _ => True) ?hr ?hp (fun _ hk => hk) trivial (Below.refl _ _) (Nat.le_refl _) (by simp) ?_; (case hd => rfl); (case hg => rfl); (case hr => first | (go_simp; done) | (go_simp; rfl)); (case hp => exact (Reps.c3 (show Kd.M k23 _ _ _ (⟨a0_0, a0_1, a0_2⟩ : S23) [.bool a0_0, .string a0_1, .string a0_2] from (k23_mkM _ _ _ (⟨a0_0, a0_1, a0_2⟩ : S23) )) (Reps.c3 (show Kd.M k23 _ _ _ (⟨a1_0, a1_1, a1_2⟩ : S23) [.bool a1_0, .string a1_1, .string a1_2] from (k23_mkM _ _ _ (⟨a1_0, a1_1, a1_2⟩ : S23) )) (Reps.c3 (show Kd.M k23 _ _ _ (⟨t774, t775, t776⟩ : S23) [.bool t774, .string t775, .string t776] from (k23_mkM _ _ _ (⟨t774, t775, t776⟩ : S23) )) (Reps.none _ _))))); intro v780 w31 ho32 hb hg_ hnew_; clear hg_ hnew_; (first | rw [← Ny779.out] at ho32 | (simp only [Int.reduceToNat] at ho32; rw [← Ny779.out] at ho32)); have HO781 := Aside0.mk (Kd.R_lower (Kd.R_newB (Kd.R_newB (Kd.R_newB ho32 (g := gb771) (o := .cells #[.bool a0_0, .string a0_1, .string a0_2] 23 (0, 0)) (by refine blk_far ?_ NB771_778.out _; refine blk_far ?_ NB771_778.out _; refine blk_far ?_ NB771_778.out _; exact BK771.out)) (g := gb772) (o := .cells #[.bool a1_0, .string a1_1, .string a1_2] 23 (0, 0)) (by refine blk_far ?_ NB772_778.out _; refine blk_far ?_ NB772_778.out _; refine blk_far ?_ NB772_778.out _; exact BK772.out)) (g := gb778) (o := .cells #[.bool t774, .string t775, .string t776] 23 (0, 0)) (by refine blk_put (cs := #[.bool t774, .string t775, .string (⟨#[]⟩ : ByteArray)]) ?_ 2 _ rfl; refine blk_put (cs := #[.bool t774, .string (⟨#[]⟩ : ByteArray), .string (⟨#[]⟩ : ByteArray)]) ?_ 1 _ rfl; refine blk_put (cs := #[.bool false, .string (⟨#[]⟩ : ByteArray), .string (⟨#[]⟩ : ByteArray)]) ?_ 0 _ rfl; exact BK778.out)) (below_size hb_)); replace BK771 := Aside0.mk (blk_below (g := gb771) (o := .cells #[.bool a0_0, .string a0_1, .string a0_2] 23 (0, 0)) (by refine blk_far ?_ NB771_778.out _; refine blk_far ?_ NB771_778.out _; refine blk_far ?_ NB771_778.out _; exact BK771.out) hb); replace BK772 := Aside0.mk (blk_below (g := gb772) (o := .cells #[.bool a1_0, .string a1_1, .string a1_2] 23 (0, 0)) (by refine blk_far ?_ NB772_778.out _; refine blk_far ?_ NB772_778.out _; refine blk_far ?_ NB772_778.out _; exact BK772.out) hb); replace BK778 := Aside0.mk (blk_below (g := gb778) (o := .cells #[.bool t774, .string t775, .string t776] 23 (0, 0)) (by refine blk_put (cs := #[.bool t774, .string t775, .string (⟨#[]⟩ : ByteArray)]) ?_ 2 _ rfl; refine blk_put (cs := #[.bool t774, .string (⟨#[]⟩ : ByteArray), .string (⟨#[]⟩ : ByteArray)]) ?_ 1 _ rfl; refine blk_put (cs := #[.bool false, .string (⟨#[]⟩ : ByteArray), .string (⟨#[]⟩ : ByteArray)]) ?_ 0 _ rfl; exact BK778.out) hb); replace HB := Aside0.mk (below_step hb_ hb); clear hb ho32; obtain ⟨Ao33, co33, eo33⟩ := Kd.R_slice HO781.out; subst eo33) | ((with_reducible refine gate_callee (f := 37) rfl ?_); refine gL_ (some 42) Tryd.func37 #[.slice Ao33 y779.length co33] ?_; (with_reducible refine (idiomlaw02_fine.calls k _ _ y779 true _ ?side1 ?side2 A22.out).mono ?_); (case side1 => repeat (first | exact (Kd.R_reads' HO781.out).2.2 | (with_reducible refine Kd.C_alloc ?_ _) | (with_reducible refine Kd.C_drewN ?_ _) | (with_reducible refine Kd.C_drew ?_))); (case side2 => exact (Kd.R_reads' HO781.out).2.1); rintro e w34 ⟨rfl, hb⟩; refine ⟨_, rfl, ?_⟩; replace HO781 := Aside0.mk (Kd.R_below (by (with_reducible repeat (first | apply Kd.R_alloc | apply Kd.R_drewN | apply Kd.R_drew)); exact HO781.out) hb); replace BK771 := BK771.bl hb; replace BK772 := BK772.bl hb; replace BK778 := BK778.bl hb; replace HB := Aside0.mk (below_step hb_ hb); obtain ⟨hcz35_0, hcz35_1, hcz35_2, hfz35_0, hfz35_1, hfz35_2⟩ := BK778.c3; obtain ⟨hcz36_0, hcz36_1, hcz36_2, hfz36_0, hfz36_1, hfz36_2⟩ := BK771.c3; obtain ⟨hcz37_0, hcz37_1, hcz37_2, hfz37_0, hfz37_1, hfz37_2⟩ := BK772.c3))
       go_meet
       case rel => exact ⟨_, (((t776.size : Int) != (ji24))), (by first | rfl | (simp; done) | (simp only [← hji24] <;> (first | rfl | simp)) | (simp [*]; done)), H', ⟨by first | omega | exact Nat.le_refl _⟩, ⟨by exact BK771.out⟩, ⟨by exact BK772.out⟩, ⟨by exact BK778.out⟩, ⟨by repeat (first | (with_reducible first | exact HB.out | apply below_alloc | apply pw_below_drewN | apply below_drew1 | refine below_set ?_ GE771.out | refine below_set ?_ GE772.out | refine below_set ?_ GE778.out) | exact HB.out)⟩⟩
      ·replace c23 := Bool.eq_false_iff.mpr c23
       subst c23
       have H1 : (idiomlaw02_DecimalRest.j0 k a2 true a0_0 a0_1 a0_2 a1_0 a1_1 a1_2 t774 t775 t776) = some r := by rw [if_neg (show ¬ (false = true) by decide)] at H; exact H
       clear H
       have H := H1
       clear H1
       have H' := Aside0.mk H
       clear H
       have hnb38 := NB771_772.out
       have hnc38 := NB772_771.out
       have hnb39 := NB771_778.out
       have hnc39 := NB778_771.out
       obtain ⟨hcz40_0, hcz40_1, hcz40_2, hfz40_0, hfz40_1, hfz40_2⟩ := BK771.c3
       have hnb41 := NB772_778.out
       have hnc41 := NB778_772.out
       obtain ⟨hcz42_0, hcz42_1, hcz42_2, hfz42_0, hfz42_1, hfz42_2⟩ := BK772.c3
       obtain ⟨hcz43_0, hcz43_1, hcz43_2, hfz43_0, hfz43_1, hfz43_2⟩ := BK778.c3
       go_wp2_with (first | ((with_reducible refine gate_dst (N := 41) rfl ?_); (try (refine gate_guard (by rfl) ?_; dsimp only)); refine Kd.R_lit k23 _ 23 ?hg (N := 41) ?hd (xs := ([(⟨a0_0, a0_1, a0_2⟩ : S23), (⟨a1_0, a1_1, a1_2⟩ : S23), (⟨t774, t775, t776⟩ : S23)] : List (S23))) (inner := [.bool a0_0, .string a0_1, .string a0_2, .bool a1_0, .string a1_1, .string a1_2, .bool t774, .string t775, .string t776]) (ok := fun _ => True) (okp := fun _ => True) ?hr ?hp (fun _ hk => hk) trivial (Below.refl _ _) (Nat.le_refl _) (by simp) ?_; (case hd => rfl); (case hg => rfl); (case hr => first | (go_simp; done) | (go_simp; rfl)); (case hp => exact (Reps.c3 (show Kd.M k23 _ _ _ (⟨a0_0, a0_1, a0_2⟩ : S23) [.bool a0_0, .string a0_1, .string a0_2] from (k23_mkM _ _ _ (⟨a0_0, a0_1, a0_2⟩ : S23) )) (Reps.c3 (show Kd.M k23 _ _ _ (⟨a1_0, a1_1, a1_2⟩ : S23) [.bool a1_0, .string a1_1, .string a1_2] from (k23_mkM _ _ _ (⟨a1_0, a1_1, a1_2⟩ : S23) )) (Reps.c3 (show Kd.M k23 _ _ _ (⟨t774, t775, t776⟩ : S23) [.bool t774, .string t775, .string t776] from (k23_mkM _ _ _ (⟨t774, t775, t776⟩ : S23) )) (Reps.none _ _))))); intro v780 w44 ho45 hb hg_ hnew_; clear hg_ hnew_; (first | rw [← Ny779.out] at ho45 | (simp only [Int.reduceToNat] at ho45; rw [← Ny779.out] at ho45)); have HO781 := Aside0.mk (Kd.R_lower (Kd.R_newB (Kd.R_newB (Kd.R_newB ho45 (g := gb771) (o := .cells #[.bool a0_0, .string a0_1, .string a0_2] 23 (0, 0)) (by refine blk_far ?_ NB771_778.out _; refine blk_far ?_ NB771_778.out _; refine blk_far ?_ NB771_778.out _; exact BK771.out)) (g := gb772) (o := .cells #[.bool a1_0, .string a1_1, .string a1_2] 23 (0, 0)) (by refine blk_far ?_ NB772_778.out _; refine blk_far ?_ NB772_778.out _; refine blk_far ?_ NB772_778.out _; exact BK772.out)) (g := gb778) (o := .cells #[.bool t774, .string t775, .string t776] 23 (0, 0)) (by refine blk_put (cs := #[.bool t774, .string t775, .string (⟨#[]⟩ : ByteArray)]) ?_ 2 _ rfl; refine blk_put (cs := #[.bool t774, .string (⟨#[]⟩ : ByteArray), .string (⟨#[]⟩ : ByteArray)]) ?_ 1 _ rfl; refine blk_put (cs := #[.bool false, .string (⟨#[]⟩ : ByteArray), .string (⟨#[]⟩ : ByteArray)]) ?_ 0 _ rfl; exact BK778.out)) (below_size hb_)); replace BK771 := Aside0.mk (blk_below (g := gb771) (o := .cells #[.bool a0_0, .string a0_1, .string a0_2] 23 (0, 0)) (by refine blk_far ?_ NB771_778.out _; refine blk_far ?_ NB771_778.out _; refine blk_far ?_ NB771_778.out _; exact BK771.out) hb); replace BK772 := Aside0.mk (blk_below (g := gb772) (o := .cells #[.bool a1_0, .string a1_1, .string a1_2] 23 (0, 0)) (by refine blk_far ?_ NB772_778.out _; refine blk_far ?_ NB772_778.out _; refine blk_far ?_ NB772_778.out _; exact BK772.out) hb); replace BK778 := Aside0.mk (blk_below (g := gb778) (o := .cells #[.bool t774, .string t775, .string t776] 23 (0, 0)) (by refine blk_put (cs := #[.bool t774, .string t775, .string (⟨#[]⟩ : ByteArray)]) ?_ 2 _ rfl; refine blk_put (cs := #[.bool t774, .string (⟨#[]⟩ : ByteArray), .string (⟨#[]⟩ : ByteArray)]) ?_ 1 _ rfl; refine blk_put (cs := #[.bool false, .string (⟨#[]⟩ : ByteArray), .string (⟨#[]⟩ : ByteArray)]) ?_ 0 _ rfl; exact BK778.out) hb); replace HB := Aside0.mk (below_step hb_ hb); clear hb ho45; obtain ⟨Ao46, co46, eo46⟩ := Kd.R_slice HO781.out; subst eo46) | ((with_reducible refine gate_callee (f := 37) rfl ?_); refine gL_ (some 42) Tryd.func37 #[.slice Ao46 y779.length co46] ?_; (with_reducible refine (idiomlaw02_fine.calls k _ _ y779 false _ ?side1 ?side2 A22.out).mono ?_); (case side1 => repeat (first | exact (Kd.R_reads' HO781.out).2.2 | (with_reducible refine Kd.C_alloc ?_ _) | (with_reducible refine Kd.C_drewN ?_ _) | (with_reducible refine Kd.C_drew ?_))); (case side2 => exact (Kd.R_reads' HO781.out).2.1); rintro e w47 ⟨rfl, hb⟩; refine ⟨_, rfl, ?_⟩; replace HO781 := Aside0.mk (Kd.R_below (by (with_reducible repeat (first | apply Kd.R_alloc | apply Kd.R_drewN | apply Kd.R_drew)); exact HO781.out) hb); replace BK771 := BK771.bl hb; replace BK772 := BK772.bl hb; replace BK778 := BK778.bl hb; replace HB := Aside0.mk (below_step hb_ hb)))
       go_meet
       case rel => exact ⟨_, (true), (by first | rfl | (simp; done) | (simp [*]; done)), H', ⟨by first | omega | exact Nat.le_refl _⟩, ⟨by exact BK771.out⟩, ⟨by exact BK772.out⟩, ⟨by exact BK778.out⟩, ⟨by repeat (first | (with_reducible first | exact HB.out | apply below_alloc | apply pw_below_drewN | apply below_drew1 | refine below_set ?_ GE771.out | refine below_set ?_ GE772.out | refine below_set ?_ GE778.out) | exact HB.out)⟩⟩
     case rest =>
      clear HC21
      (try clear c9); (try clear c20); (try clear c20b0); (try clear c20b1); (try clear hcz13_0); (try clear hcz13_1); (try clear hcz13_2); (try clear hcz14_0); (try clear hcz14_1); (try clear hcz14_2); (try clear hcz19_0); (try clear hcz19_1); (try clear hcz19_2); (try clear hfz13_0); (try clear hfz13_1); (try clear hfz13_2); (try clear hfz14_0); (try clear hfz14_1); (try clear hfz14_2); (try clear hfz19_0); (try clear hfz19_1); (try clear hfz19_2)
      rename_i z0_1 z0_2 z0_3 z0_4 z0_5 z0_6 z0_7
      revert k a0_0 a0_1 a0_2 a1_0 a1_1 a1_2 a2 r w hu23 z0_1 gb771 w6 GW771 GE771 gb772 w7 GW772 GE772 NB771_772 NB772_771 w8 z0_2 A4 t774 t775 t776 t777 A10 hnb12 hnc12 z0_3 w15 hb gb778 w16 BK778 GW778 GE778 NB771_778 NB778_771 NB772_778 NB778_772 BK771 BK772 HB hnb17 hnc17 hnb18 hnc18 z0_4 z0_5 z0_6 z0_7 wc u25 u26 u27 u28 u29 u30 u31 u32 u33 u34 u35 u36 u37 u38 u39 u40 u41 u42 u43 u44 u45 u46 u47 u48 u49 u50 u51 u52 u53 u54 u55 u56 u57 u58 u59 u60 u61 u62 u63 u64 u65 u66 u67 u68 u69 u70 u71 u72 u73 u74 u75 u76 u77 u78 u79 u80 u81 u82 u83 u84 u85 u86 u87 u88 u89 u90 u91 u92 u93 u94 u95 u96 u97 u98 u99 u100 u101 u102 u103 u104 u105 u106 u107 u108 u109 u110 u111 u112 u113 u114 u115 u116 u117 u118 u119 u120 u121 u122 u123 u124 u125 u126 u127 u128 u129 u130 u131 u132 u133 u134 u135 u136 u137 u138 u139 u140 u141 u142 u143 u144 u145 u146 u147 u148 u149 u150 u151 u152 u153 u154 u155 u156 u157 u158 u159 u160 u161 u162 u163 u164 u165 u166 u167 u168 u169 u170 u171 u172 u173 u174 u175 u176 hcut
      exact hrest0.out
    ·rw [if_neg c20] at H
     have c20b0 : (t777 == 0) = false := beq_eq_false_iff_ne.mpr c20
     have c20b1 : (t777 != 0) = true := bne_iff_ne.mpr c20
     (first | rw [c20b0] | (simp only [i64_w, i32_w]; rw [c20b0]) | rw [c20b1] | skip)
     obtain rfl := Option.some.inj H
     have hnb410 := NB778_771.out
     have hnc410 := NB771_778.out
     have hnb411 := NB778_772.out
     have hnc411 := NB772_778.out
     obtain ⟨hcz412_0, hcz412_1, hcz412_2, hfz412_0, hfz412_1, hfz412_2⟩ := BK778.c3
     go_wp2
     go_ret
     exact ⟨by first | rfl | (simp [errW_none, errW_some] <;> rfl) | (simp [*, errW_none, errW_some] <;> rfl) | (simp [bne_nil_]; done), by repeat (first | (with_reducible first | exact HB.out | apply below_alloc | apply pw_below_drewN | apply below_drew1 | refine below_set ?_ GE771.out | refine below_set ?_ GE772.out | refine below_set ?_ GE778.out) | exact HB.out)⟩
   ·replace c9 := Bool.eq_false_iff.mpr c9
    subst c9
    have H1 : (some false) = some r := by rw [if_neg (show ¬ (false = true) by decide)] at H; exact H
    clear H
    have H := H1
    clear H1
    obtain rfl := Option.some.inj H
    go_wp2
    go_ret
    exact ⟨by first | rfl | (simp [errW_none, errW_some] <;> rfl) | (simp [*, errW_none, errW_some] <;> rfl) | (simp [bne_nil_]; done), by repeat (first | (with_reducible first | exact HB.out | apply below_alloc | apply pw_below_drewN | apply below_drew1 | refine below_set ?_ GE771.out | refine below_set ?_ GE772.out) | exact HB.out)⟩
set_option maxHeartbeats 0 in
set_option maxRecDepth 100000 in
def idiomlaw02_DecimalRest.calls_r0_s : PSigma fun T1 : Prop => idiomlaw02_DecimalRest.Kept T1 → (idiomlaw02_DecimalRest.calls_all_s.1) := by
  apply PSigma.mk
  case snd =>
   intro hrest1
   intro k a0_0 a0_1 a0_2 a1_0 a1_1 a1_2 a2 r w hu23 z0_1 gb771 w6 GW771 GE771 gb772 w7 GW772 GE772 NB771_772 NB772_771 w8 z0_2 A4 t774 t775 t776 t777 A10 hnb12 hnc12 z0_3 w15 hb gb778 w16 BK778 GW778 GE778 NB771_778 NB778_771 NB772_778 NB778_772 BK771 BK772 HB hnb17 hnc17 hnb18 hnc18 z0_4 z0_5 z0_6 z0_7 wc u25 u26 u27 u28 u29 u30 u31 u32 u33 u34 u35 u36 u37 u38 u39 u40 u41 u42 u43 u44 u45 u46 u47 u48 u49 u50 u51 u52 u53 u54 u55 u56 u57 u58 u59 u60 u61 u62 u63 u64 u65 u66 u67 u68 u69 u70 u71 u72 u73 u74 u75 u76 u77 u78 u79 u80 u81 u82 u83 u84 u85 u86 u87 u88 u89 u90 u91 u92 u93 u94 u95 u96 u97 u98 u99 u100 u101 u102 u103 u104 u105 u106 u107 u108 u109 u110 u111 u112 u113 u114 u115 u116 u117 u118 u119 u120 u121 u122 u123 u124 u125 u126 u127 u128 u129 u130 u131 u132 u133 u134 u135 u136 u137 u138 u139 u140 u141 u142 u143 u144 u145 u146 u147 u148 u149 u150 u151 u152 u153 u154 u155 u156 u157 u158 u159 u160 u161 u162 u163 u164 u165 u166 u167 u168 u169 u170 u171 u172 u173 u174 u175 u176 hcut
   obtain ⟨kq, x56_20, rfl, HA, HJ20, BK771, BK772, BK778, HB⟩ := hcut
   cases kq with
   | zero => exact absurd HA.out (by simp [idiomlaw02_DecimalRest.j0])
   | succ kj20 =>
    have H := HA.out
    clear HA
    simp only [idiomlaw02_DecimalRest.j0] at H
    by_cases c48 : x56_20 = true
    ·subst c48
     have H1 : (some false) = some r := by rw [if_pos rfl] at H; exact H
     clear H
     have H := H1
     clear H1
     obtain rfl := Option.some.inj H
     go_wp2
     go_ret
     exact ⟨by first | rfl | (simp [errW_none, errW_some] <;> rfl) | (simp [*, errW_none, errW_some] <;> rfl) | (simp [bne_nil_]; done), by repeat (first | (with_reducible first | exact HB.out | apply below_alloc | apply pw_below_drewN | apply below_drew1 | refine below_set ?_ GE771.out | refine below_set ?_ GE772.out | refine below_set ?_ GE778.out) | exact HB.out)⟩
    ·replace c48 := Bool.eq_false_iff.mpr c48
     subst c48
     have H1 : ((decimal_Compare.f kj20 false t775 t776 false a1_1 a1_2).bind fun bt785 => (if bt785.2 = 0 then (if bt785.1 ≥ 0 then (idiomlaw02_DecimalRest.j1 kj20 a2 true a0_0 a0_1 a0_2 a1_0 a1_1 a1_2 t774 t775 t776) else (if t774 = true then (if a0_0 = true then (idiomlaw02_DecimalRest.j1 kj20 a2 false a0_0 a0_1 a0_2 a1_0 a1_1 a1_2 t774 t775 t776) else (idiomlaw02_DecimalRest.j1 kj20 a2 true a0_0 a0_1 a0_2 a1_0 a1_1 a1_2 t774 t775 t776)) else (if a0_0 = true then ((idiomlaw02_great.f kj20 t774 t775 t776 false (⟨#[48]⟩ : ByteArray) (⟨#[]⟩ : ByteArray)).bind fun t787 => (idiomlaw02_DecimalRest.j1 kj20 a2 (!t787) a0_0 a0_1 a0_2 a1_0 a1_1 a1_2 t774 t775 t776)) else (idiomlaw02_DecimalRest.j1 kj20 a2 false a0_0 a0_1 a0_2 a1_0 a1_1 a1_2 t774 t775 t776)))) else (idiomlaw02_DecimalRest.j1 kj20 a2 true a0_0 a0_1 a0_2 a1_0 a1_1 a1_2 t774 t775 t776))) = some r := by rw [if_neg (show ¬ (false = true) by decide)] at H; exact H
     clear H
     have H := H1
     clear H1
     replace H := Option.bind_eq_some_iff.mp H
     obtain ⟨⟨t785, t786⟩, A490, H⟩ := H
     try dsimp only at H
     have A49 := Aside0.mk A490
     clear A490
     have HC50 := Aside0.mk H
     clear H
     try go_wp2
     replace BK771 := Aside0.mk (blk_drew BK771.out)
     replace BK772 := Aside0.mk (blk_drew BK772.out)
     replace BK778 := Aside0.mk (blk_drew BK778.out)
     replace HB := Aside0.mk (below_drew1 HB.out)
     refine start_ (n := 6) (S := fun w' => w'.cell? ⟨gb778, 0, none⟩ = some (.bool t774) ∧ w'.cell? ⟨gb778, 1, none⟩ = some (.string t775) ∧ w'.cell? ⟨gb778, 2, none⟩ = some (.string t776) ∧ w'.cell? ⟨gb772, 0, none⟩ = some (.bool a1_0) ∧ w'.cell? ⟨gb772, 1, none⟩ = some (.string a1_1) ∧ w'.cell? ⟨gb772, 2, none⟩ = some (.string a1_2)) (ds := []) #[false, false, false, false, false, false] (by kernel_rfl) rfl rfl ⟨(blk_cell BK778.out 0).trans rfl, (blk_cell BK778.out 1).trans rfl, (blk_cell BK778.out 2).trans rfl, (blk_cell BK772.out 0).trans rfl, (blk_cell BK772.out 1).trans rfl, (blk_cell BK772.out 2).trans rfl⟩ (fun hHeld => ?_)
     generalize wc.drew = w51 at BK771 BK772 BK778 HB hHeld ⊢
     refine tk_ 0 (some 57) hHeld ?_
     refine tk_ 1 (some 58) hHeld ?_
     refine join_ (σ := Nat × Nat) 2 #[true, true, true, true, false, false] (fun s_ => [(9, .pointer (some ⟨s_.1, 0, none⟩)), (10, .pointer (some ⟨s_.2, 0, none⟩))]) (fun s_ w' => (w'.cell? ⟨gb778, 0, none⟩ = some (.bool t774) ∧ w'.cell? ⟨gb778, 1, none⟩ = some (.string t775) ∧ w'.cell? ⟨gb778, 2, none⟩ = some (.string t776) ∧ w'.cell? ⟨gb772, 0, none⟩ = some (.bool a1_0) ∧ w'.cell? ⟨gb772, 1, none⟩ = some (.string a1_1) ∧ w'.cell? ⟨gb772, 2, none⟩ = some (.string a1_2)) ∧ (w'.heap[gb771]? = some (.cells #[.bool a0_0, .string a0_1, .string a0_2] 23 (0, 0))) ∧ (w'.heap[gb772]? = some (.cells #[.bool a1_0, .string a1_1, .string a1_2] 23 (0, 0))) ∧ (w'.heap[gb778]? = some (.cells #[.bool t774, .string t775, .string t776] 23 (0, 0))) ∧ (w'.heap[s_.1]? = some (.cells #[.bool false, .string (⟨#[]⟩ : ByteArray), .string (⟨#[]⟩ : ByteArray)] 23 (0, 0))) ∧ (w'.heap[s_.2]? = some (.cells #[.bool false, .string (⟨#[]⟩ : ByteArray), .string (⟨#[]⟩ : ByteArray)] 23 (0, 0))) ∧ (w.heap.size ≤ s_.1) ∧ (w.heap.size ≤ s_.1) ∧ (gb771 ≠ s_.1) ∧ (s_.1 ≠ gb771) ∧ (gb772 ≠ s_.1) ∧ (s_.1 ≠ gb772) ∧ (gb778 ≠ s_.1) ∧ (s_.1 ≠ gb778) ∧ (s_.2 ≠ s_.1) ∧ (s_.1 ≠ s_.2) ∧ (w.heap.size ≤ s_.2) ∧ (w.heap.size ≤ s_.2) ∧ (gb771 ≠ s_.2) ∧ (s_.2 ≠ gb771) ∧ (gb772 ≠ s_.2) ∧ (s_.2 ≠ gb772) ∧ (gb778 ≠ s_.2) ∧ (s_.2 ≠ gb778) ∧ (Below w.heap.size w w')) ?_ ?_
     rotate_left
     ·intro hCont
      refine two_ (i := 2) (j := 3) (Ni := some 9) (Nj := some 10) #[true, true, true, false, false, false] #[true, true, false, true, false, false] rfl rfl rfl rfl (by kernel_rfl) (by decide) (by decide) (fun K hK => ?_) (fun K hK => ?_)
      ·skip
       refine box_step ?hg (N := 9) ?hd (cs := #[.bool false, .string (⟨#[]⟩ : ByteArray), .string (⟨#[]⟩ : ByteArray)]) (t := 23) ?hr ?_; (case hd => rfl); (case hg => rfl); (case hr => first | (go_simp; done) | (go_simp; rfl))
       intro gb783 hg w52 hbox hb
       have BK783 := Aside0.mk (hbox)
       have GW783 := Aside0.mk ((by rw [hg]; exact (below_size hb_) : w.heap.size ≤ gb783))
       have GE783 := Aside0.mk ((by rw [hg]; exact (below_size hb_) : w.heap.size ≤ gb783))
       have NB771_783 := BK771.nl hg
       have NB783_771 := BK771.ng hg
       have NB772_783 := BK772.nl hg
       have NB783_772 := BK772.ng hg
       have NB778_783 := BK778.nl hg
       have NB783_778 := BK778.ng hg
       replace BK771 := BK771.bl hb
       replace BK772 := BK772.bl hb
       replace BK778 := BK778.bl hb
       replace HB := Aside0.mk (below_step hb_ hb)
       clear hb hbox hg
       refine hK.out _ _ ⟨(blk_cell BK778.out 0).trans rfl, (blk_cell BK778.out 1).trans rfl, (blk_cell BK778.out 2).trans rfl, (blk_cell BK772.out 0).trans rfl, (blk_cell BK772.out 1).trans rfl, (blk_cell BK772.out 2).trans rfl⟩ (fun hHeld => ?_)
       clear hK K
       refine norm_ (a' := ?_) ?_ ?_
       rotate_left
       ·show Act.put _ (some 9) _ = _
        simp only [Act.put, List.setIfInBounds_toArray, List.set_cons_zero, List.set_cons_succ, i64_w, i32_w]
        rfl
       refine one_ (i := 3) (N := some 10) #[true, true, true, true, false, false] rfl rfl (by kernel_rfl) (by decide) (fun K hK => ?_)
       refine box_step ?hg (N := 10) ?hd (cs := #[.bool false, .string (⟨#[]⟩ : ByteArray), .string (⟨#[]⟩ : ByteArray)]) (t := 23) ?hr ?_; (case hd => rfl); (case hg => rfl); (case hr => first | (go_simp; done) | (go_simp; rfl))
       intro gb784 hg w53 hbox hb
       have BK784 := Aside0.mk (hbox)
       have GW784 := Aside0.mk ((by rw [hg]; exact (below_size hb_) : w.heap.size ≤ gb784))
       have GE784 := Aside0.mk ((by rw [hg]; exact (below_size hb_) : w.heap.size ≤ gb784))
       have NB771_784 := BK771.nl hg
       have NB784_771 := BK771.ng hg
       have NB772_784 := BK772.nl hg
       have NB784_772 := BK772.ng hg
       have NB778_784 := BK778.nl hg
       have NB784_778 := BK778.ng hg
       have NB783_784 := BK783.nl hg
       have NB784_783 := BK783.ng hg
       replace BK771 := BK771.bl hb
       replace BK772 := BK772.bl hb
       replace BK778 := BK778.bl hb
       replace BK783 := BK783.bl hb
       replace HB := Aside0.mk (below_step hb_ hb)
       clear hb hbox hg
       refine hK.out _ _ ⟨(blk_cell BK778.out 0).trans rfl, (blk_cell BK778.out 1).trans rfl, (blk_cell BK778.out 2).trans rfl, (blk_cell BK772.out 0).trans rfl, (blk_cell BK772.out 1).trans rfl, (blk_cell BK772.out 2).trans rfl⟩ (fun hHeld => ?_)
       clear hK K
       refine norm_ (a' := ?_) ?_ ?_
       rotate_left
       ·show Act.put _ (some 10) _ = _
        simp only [Act.put, List.setIfInBounds_toArray, List.set_cons_zero, List.set_cons_succ, i64_w, i32_w]
        rfl
       exact norm_ (by simp only [putAll, Act.put, List.setIfInBounds_toArray, List.set_cons_zero, List.set_cons_succ]) (hCont (gb783, gb784) _ ⟨hHeld, BK771.out, BK772.out, BK778.out, BK783.out, BK784.out, GW783.out, GE783.out, NB771_783.out, NB783_771.out, NB772_783.out, NB783_772.out, NB778_783.out, NB783_778.out, NB784_783.out, NB783_784.out, GW784.out, GE784.out, NB771_784.out, NB784_771.out, NB772_784.out, NB784_772.out, NB778_784.out, NB784_778.out, hb_⟩)
      ·skip
       refine box_step ?hg (N := 10) ?hd (cs := #[.bool false, .string (⟨#[]⟩ : ByteArray), .string (⟨#[]⟩ : ByteArray)]) (t := 23) ?hr ?_; (case hd => rfl); (case hg => rfl); (case hr => first | (go_simp; done) | (go_simp; rfl))
       intro gb784 hg w52 hbox hb
       have BK784 := Aside0.mk (hbox)
       have GW784 := Aside0.mk ((by rw [hg]; exact (below_size hb_) : w.heap.size ≤ gb784))
       have GE784 := Aside0.mk ((by rw [hg]; exact (below_size hb_) : w.heap.size ≤ gb784))
       have NB771_784 := BK771.nl hg
       have NB784_771 := BK771.ng hg
       have NB772_784 := BK772.nl hg
       have NB784_772 := BK772.ng hg
       have NB778_784 := BK778.nl hg
       have NB784_778 := BK778.ng hg
       replace BK771 := BK771.bl hb
       replace BK772 := BK772.bl hb
       replace BK778 := BK778.bl hb
       replace HB := Aside0.mk (below_step hb_ hb)
       clear hb hbox hg
       refine hK.out _ _ ⟨(blk_cell BK778.out 0).trans rfl, (blk_cell BK778.out 1).trans rfl, (blk_cell BK778.out 2).trans rfl, (blk_cell BK772.out 0).trans rfl, (blk_cell BK772.out 1).trans rfl, (blk_cell BK772.out 2).trans rfl⟩ (fun hHeld => ?_)
       clear hK K
       refine norm_ (a' := ?_) ?_ ?_
       rotate_left
       ·show Act.put _ (some 10) _ = _
        simp only [Act.put, List.setIfInBounds_toArray, List.set_cons_zero, List.set_cons_succ, i64_w, i32_w]
        rfl
       refine one_ (i := 2) (N := some 9) #[true, true, true, true, false, false] rfl rfl (by kernel_rfl) (by decide) (fun K hK => ?_)
       refine box_step ?hg (N := 9) ?hd (cs := #[.bool false, .string (⟨#[]⟩ : ByteArray), .string (⟨#[]⟩ : ByteArray)]) (t := 23) ?hr ?_; (case hd => rfl); (case hg => rfl); (case hr => first | (go_simp; done) | (go_simp; rfl))
       intro gb783 hg w53 hbox hb
       have BK783 := Aside0.mk (hbox)
       have GW783 := Aside0.mk ((by rw [hg]; exact (below_size hb_) : w.heap.size ≤ gb783))
       have GE783 := Aside0.mk ((by rw [hg]; exact (below_size hb_) : w.heap.size ≤ gb783))
       have NB771_783 := BK771.nl hg
       have NB783_771 := BK771.ng hg
       have NB772_783 := BK772.nl hg
       have NB783_772 := BK772.ng hg
       have NB778_783 := BK778.nl hg
       have NB783_778 := BK778.ng hg
       have NB784_783 := BK784.nl hg
       have NB783_784 := BK784.ng hg
       replace BK771 := BK771.bl hb
       replace BK772 := BK772.bl hb
       replace BK778 := BK778.bl hb
       replace BK784 := BK784.bl hb
       replace HB := Aside0.mk (below_step hb_ hb)
       clear hb hbox hg
       refine hK.out _ _ ⟨(blk_cell BK778.out 0).trans rfl, (blk_cell BK778.out 1).trans rfl, (blk_cell BK778.out 2).trans rfl, (blk_cell BK772.out 0).trans rfl, (blk_cell BK772.out 1).trans rfl, (blk_cell BK772.out 2).trans rfl⟩ (fun hHeld => ?_)
       clear hK K
       refine norm_ (a' := ?_) ?_ ?_
       rotate_left
       ·show Act.put _ (some 9) _ = _
        simp only [Act.put, List.setIfInBounds_toArray, List.set_cons_zero, List.set_cons_succ, i64_w, i32_w]
        rfl
       exact norm_ (by simp only [putAll, Act.put, List.setIfInBounds_toArray, List.set_cons_zero, List.set_cons_succ]) (hCont (gb783, gb784) _ ⟨hHeld, BK771.out, BK772.out, BK778.out, BK783.out, BK784.out, GW783.out, GE783.out, NB771_783.out, NB783_771.out, NB772_783.out, NB783_772.out, NB778_783.out, NB783_778.out, NB784_783.out, NB783_784.out, GW784.out, GE784.out, NB771_784.out, NB784_771.out, NB772_784.out, NB784_772.out, NB778_784.out, NB784_778.out, hb_⟩)
     rintro ⟨gb783, gb784⟩ w54 ⟨hS_, h0_, h1_, h2_, h3_, h4_, h5_, h6_, h7_, h8_, h9_, h10_, h11_, h12_, h13_, h14_, h15_, h16_, h17_, h18_, h19_, h20_, h21_, h22_, h23_⟩
     have n0_ : Aside0 (w54.heap[gb771]? = some (.cells #[.bool a0_0, .string a0_1, .string a0_2] 23 (0, 0))) := ⟨h0_⟩
     have n1_ : Aside0 (w54.heap[gb772]? = some (.cells #[.bool a1_0, .string a1_1, .string a1_2] 23 (0, 0))) := ⟨h1_⟩
     have n2_ : Aside0 (w54.heap[gb778]? = some (.cells #[.bool t774, .string t775, .string t776] 23 (0, 0))) := ⟨h2_⟩
     have n3_ : Aside0 (w54.heap[gb783]? = some (.cells #[.bool false, .string (⟨#[]⟩ : ByteArray), .string (⟨#[]⟩ : ByteArray)] 23 (0, 0))) := ⟨h3_⟩
     have n4_ : Aside0 (w54.heap[gb784]? = some (.cells #[.bool false, .string (⟨#[]⟩ : ByteArray), .string (⟨#[]⟩ : ByteArray)] 23 (0, 0))) := ⟨h4_⟩
     have n5_ : Aside0 (w.heap.size ≤ gb783) := ⟨h5_⟩
     have n6_ : Aside0 (w.heap.size ≤ gb783) := ⟨h6_⟩
     have n7_ : Aside0 (gb771 ≠ gb783) := ⟨h7_⟩
     have n8_ : Aside0 (gb783 ≠ gb771) := ⟨h8_⟩
     have n9_ : Aside0 (gb772 ≠ gb783) := ⟨h9_⟩
     have n10_ : Aside0 (gb783 ≠ gb772) := ⟨h10_⟩
     have n11_ : Aside0 (gb778 ≠ gb783) := ⟨h11_⟩
     have n12_ : Aside0 (gb783 ≠ gb778) := ⟨h12_⟩
     have n13_ : Aside0 (gb784 ≠ gb783) := ⟨h13_⟩
     have n14_ : Aside0 (gb783 ≠ gb784) := ⟨h14_⟩
     have n15_ : Aside0 (w.heap.size ≤ gb784) := ⟨h15_⟩
     have n16_ : Aside0 (w.heap.size ≤ gb784) := ⟨h16_⟩
     have n17_ : Aside0 (gb771 ≠ gb784) := ⟨h17_⟩
     have n18_ : Aside0 (gb784 ≠ gb771) := ⟨h18_⟩
     have n19_ : Aside0 (gb772 ≠ gb784) := ⟨h19_⟩
     have n20_ : Aside0 (gb784 ≠ gb772) := ⟨h20_⟩
     have n21_ : Aside0 (gb778 ≠ gb784) := ⟨h21_⟩
     have n22_ : Aside0 (gb784 ≠ gb778) := ⟨h22_⟩
     have n23_ : Aside0 (Below w.heap.size w w54) := ⟨h23_⟩
     clear BK771
     clear BK772
     clear BK778
     clear HB
     clear h0_ h1_ h2_ h3_ h4_ h5_ h6_ h7_ h8_ h9_ h10_ h11_ h12_ h13_ h14_ h15_ h16_ h17_ h18_ h19_ h20_ h21_ h22_ h23_
     have BK771 := n0_
     have BK772 := n1_
     have BK778 := n2_
     have BK783 := n3_
     have BK784 := n4_
     have GW783 := n5_
     have GE783 := n6_
     have NB771_783 := n7_
     have NB783_771 := n8_
     have NB772_783 := n9_
     have NB783_772 := n10_
     have NB778_783 := n11_
     have NB783_778 := n12_
     have NB784_783 := n13_
     have NB783_784 := n14_
     have GW784 := n15_
     have GE784 := n16_
     have NB771_784 := n17_
     have NB784_771 := n18_
     have NB772_784 := n19_
     have NB784_772 := n20_
     have NB778_784 := n21_
     have NB784_778 := n22_
     have HB := n23_
     clear n0_ n1_ n2_ n3_ n4_ n5_ n6_ n7_ n8_ n9_ n10_ n11_ n12_ n13_ n14_ n15_ n16_ n17_ n18_ n19_ n20_ n21_ n22_ n23_
     have hHeld : w54.cell? ⟨gb778, 0, none⟩ = some (.bool t774) ∧ w54.cell? ⟨gb778, 1, none⟩ = some (.string t775) ∧ w54.cell? ⟨gb778, 2, none⟩ = some (.string t776) ∧ w54.cell? ⟨gb772, 0, none⟩ = some (.bool a1_0) ∧ w54.cell? ⟨gb772, 1, none⟩ = some (.string a1_1) ∧ w54.cell? ⟨gb772, 2, none⟩ = some (.string a1_2) := hS_
     refine norm_ (a' := ?_) ?_ ?_
     rotate_left
     ·simp only [putAll, Act.put, List.setIfInBounds_toArray, List.set_cons_zero, List.set_cons_succ]
      rfl
     refine one_ (i := 4) (N := none) #[true, true, true, true, true, false] rfl rfl (by kernel_rfl) (by decide) (fun K hK => ?_)
     have hs55 : w54.cell? ⟨gb783, 0, none⟩ = some (.bool false) := (blk_cell BK783.out 0).trans rfl
     have hfs55 := blk_frozen BK783.out 0
     have hns55_0 := NB771_783.out
     have hns55_1 := NB772_783.out
     have hns55_2 := NB778_783.out
     have hns55_4 := NB784_783.out
     have hms55_0 := NB783_771.out
     have hms55_1 := NB783_772.out
     have hms55_2 := NB783_778.out
     have hms55_4 := NB783_784.out
     have hs56 : w54.cell? ⟨gb783, 1, none⟩ = some (.string (⟨#[]⟩ : ByteArray)) := (blk_cell BK783.out 1).trans rfl
     have hfs56 := blk_frozen BK783.out 1
     have hns56_0 := NB771_783.out
     have hns56_1 := NB772_783.out
     have hns56_2 := NB778_783.out
     have hns56_4 := NB784_783.out
     have hms56_0 := NB783_771.out
     have hms56_1 := NB783_772.out
     have hms56_2 := NB783_778.out
     have hms56_4 := NB783_784.out
     have hs57 : w54.cell? ⟨gb783, 2, none⟩ = some (.string (⟨#[]⟩ : ByteArray)) := (blk_cell BK783.out 2).trans rfl
     have hfs57 := blk_frozen BK783.out 2
     have hns57_0 := NB771_783.out
     have hns57_1 := NB772_783.out
     have hns57_2 := NB778_783.out
     have hns57_4 := NB784_783.out
     have hms57_0 := NB783_771.out
     have hms57_1 := NB783_772.out
     have hms57_2 := NB783_778.out
     have hms57_4 := NB783_784.out
     refine skip_ (w1 := ?_) (by rfl) rfl ?_ ?_
     rotate_left
     ·go_simp
      rfl
     refine hK.out _ _ ⟨((cell_far (p := ⟨gb783, _, none⟩) NB778_783.out _).trans (((cell_far (p := ⟨gb783, _, none⟩) NB778_783.out _).trans (((cell_far (p := ⟨gb783, _, none⟩) NB778_783.out _).trans (hHeld.1)))))), ((cell_far (p := ⟨gb783, _, none⟩) NB778_783.out _).trans (((cell_far (p := ⟨gb783, _, none⟩) NB778_783.out _).trans (((cell_far (p := ⟨gb783, _, none⟩) NB778_783.out _).trans (hHeld.2.1)))))), ((cell_far (p := ⟨gb783, _, none⟩) NB778_783.out _).trans (((cell_far (p := ⟨gb783, _, none⟩) NB778_783.out _).trans (((cell_far (p := ⟨gb783, _, none⟩) NB778_783.out _).trans (hHeld.2.2.1)))))), ((cell_far (p := ⟨gb783, _, none⟩) NB772_783.out _).trans (((cell_far (p := ⟨gb783, _, none⟩) NB772_783.out _).trans (((cell_far (p := ⟨gb783, _, none⟩) NB772_783.out _).trans (hHeld.2.2.2.1)))))), ((cell_far (p := ⟨gb783, _, none⟩) NB772_783.out _).trans (((cell_far (p := ⟨gb783, _, none⟩) NB772_783.out _).trans (((cell_far (p := ⟨gb783, _, none⟩) NB772_783.out _).trans (hHeld.2.2.2.2.1)))))), ((cell_far (p := ⟨gb783, _, none⟩) NB772_783.out _).trans (((cell_far (p := ⟨gb783, _, none⟩) NB772_783.out _).trans (((cell_far (p := ⟨gb783, _, none⟩) NB772_783.out _).trans (hHeld.2.2.2.2.2))))))⟩ (fun hHeld => ?_)
     clear hK K
     refine one_ (i := 5) (N := none) #[true, true, true, true, true, true] rfl rfl (by kernel_rfl) (by decide) (fun K hK => ?_)
     have hs58 : w54.cell? ⟨gb784, 0, none⟩ = some (.bool false) := (blk_cell BK784.out 0).trans rfl
     have hfs58 := blk_frozen BK784.out 0
     have hns58_0 := NB771_784.out
     have hns58_1 := NB772_784.out
     have hns58_2 := NB778_784.out
     have hns58_3 := NB783_784.out
     have hms58_0 := NB784_771.out
     have hms58_1 := NB784_772.out
     have hms58_2 := NB784_778.out
     have hms58_3 := NB784_783.out
     have hs59 : w54.cell? ⟨gb784, 1, none⟩ = some (.string (⟨#[]⟩ : ByteArray)) := (blk_cell BK784.out 1).trans rfl
     have hfs59 := blk_frozen BK784.out 1
     have hns59_0 := NB771_784.out
     have hns59_1 := NB772_784.out
     have hns59_2 := NB778_784.out
     have hns59_3 := NB783_784.out
     have hms59_0 := NB784_771.out
     have hms59_1 := NB784_772.out
     have hms59_2 := NB784_778.out
     have hms59_3 := NB784_783.out
     have hs60 : w54.cell? ⟨gb784, 2, none⟩ = some (.string (⟨#[]⟩ : ByteArray)) := (blk_cell BK784.out 2).trans rfl
     have hfs60 := blk_frozen BK784.out 2
     have hns60_0 := NB771_784.out
     have hns60_1 := NB772_784.out
     have hns60_2 := NB778_784.out
     have hns60_3 := NB783_784.out
     have hms60_0 := NB784_771.out
     have hms60_1 := NB784_772.out
     have hms60_2 := NB784_778.out
     have hms60_3 := NB784_783.out
     refine skip_ (w1 := ?_) (by rfl) rfl ?_ ?_
     rotate_left
     ·go_simp
      rfl
     refine hK.out _ _ ⟨((cell_far (p := ⟨gb784, _, none⟩) NB778_784.out _).trans (((cell_far (p := ⟨gb784, _, none⟩) NB778_784.out _).trans (((cell_far (p := ⟨gb784, _, none⟩) NB778_784.out _).trans (hHeld.1)))))), ((cell_far (p := ⟨gb784, _, none⟩) NB778_784.out _).trans (((cell_far (p := ⟨gb784, _, none⟩) NB778_784.out _).trans (((cell_far (p := ⟨gb784, _, none⟩) NB778_784.out _).trans (hHeld.2.1)))))), ((cell_far (p := ⟨gb784, _, none⟩) NB778_784.out _).trans (((cell_far (p := ⟨gb784, _, none⟩) NB778_784.out _).trans (((cell_far (p := ⟨gb784, _, none⟩) NB778_784.out _).trans (hHeld.2.2.1)))))), ((cell_far (p := ⟨gb784, _, none⟩) NB772_784.out _).trans (((cell_far (p := ⟨gb784, _, none⟩) NB772_784.out _).trans (((cell_far (p := ⟨gb784, _, none⟩) NB772_784.out _).trans (hHeld.2.2.2.1)))))), ((cell_far (p := ⟨gb784, _, none⟩) NB772_784.out _).trans (((cell_far (p := ⟨gb784, _, none⟩) NB772_784.out _).trans (((cell_far (p := ⟨gb784, _, none⟩) NB772_784.out _).trans (hHeld.2.2.2.2.1)))))), ((cell_far (p := ⟨gb784, _, none⟩) NB772_784.out _).trans (((cell_far (p := ⟨gb784, _, none⟩) NB772_784.out _).trans (((cell_far (p := ⟨gb784, _, none⟩) NB772_784.out _).trans (hHeld.2.2.2.2.2))))))⟩ (fun hHeld => ?_)
     clear hK K
     refine done_ (by kernel_rfl) ?_
     (try clear hms60_3 hms60_2 hms60_1 hms60_0 hns60_3 hns60_2 hns60_1 hns60_0 hfs60 hs60 hms59_3 hms59_2 hms59_1 hms59_0 hns59_3 hns59_2 hns59_1 hns59_0 hfs59 hs59 hms58_3 hms58_2 hms58_1 hms58_0 hns58_3 hns58_2 hns58_1 hns58_0 hfs58 hs58 hms57_4 hms57_2 hms57_1 hms57_0 hns57_4 hns57_2 hns57_1 hns57_0 hfs57 hs57 hms56_4 hms56_2 hms56_1 hms56_0 hns56_4 hns56_2 hns56_1 hns56_0 hfs56 hs56 hms55_4 hms55_2 hms55_1 hms55_0 hns55_4 hns55_2 hns55_1 hns55_0 hfs55 hs55)
     have n0_ : Aside0 (((((((w54.setCell ⟨gb783, 0, none⟩ (.bool t774)).setCell ⟨gb783, 1, none⟩ (.string t775)).setCell ⟨gb783, 2, none⟩ (.string t776)).setCell ⟨gb784, 0, none⟩ (.bool a1_0)).setCell ⟨gb784, 1, none⟩ (.string a1_1)).setCell ⟨gb784, 2, none⟩ (.string a1_2)).heap[gb771]? = some (.cells #[.bool a0_0, .string a0_1, .string a0_2] 23 (0, 0))) := ⟨by refine blk_far ?_ NB771_784.out _; refine blk_far ?_ NB771_784.out _; refine blk_far ?_ NB771_784.out _; refine blk_far ?_ NB771_783.out _; refine blk_far ?_ NB771_783.out _; refine blk_far ?_ NB771_783.out _; exact BK771.out⟩
     have n1_ : Aside0 (((((((w54.setCell ⟨gb783, 0, none⟩ (.bool t774)).setCell ⟨gb783, 1, none⟩ (.string t775)).setCell ⟨gb783, 2, none⟩ (.string t776)).setCell ⟨gb784, 0, none⟩ (.bool a1_0)).setCell ⟨gb784, 1, none⟩ (.string a1_1)).setCell ⟨gb784, 2, none⟩ (.string a1_2)).heap[gb772]? = some (.cells #[.bool a1_0, .string a1_1, .string a1_2] 23 (0, 0))) := ⟨by refine blk_far ?_ NB772_784.out _; refine blk_far ?_ NB772_784.out _; refine blk_far ?_ NB772_784.out _; refine blk_far ?_ NB772_783.out _; refine blk_far ?_ NB772_783.out _; refine blk_far ?_ NB772_783.out _; exact BK772.out⟩
     have n2_ : Aside0 (((((((w54.setCell ⟨gb783, 0, none⟩ (.bool t774)).setCell ⟨gb783, 1, none⟩ (.string t775)).setCell ⟨gb783, 2, none⟩ (.string t776)).setCell ⟨gb784, 0, none⟩ (.bool a1_0)).setCell ⟨gb784, 1, none⟩ (.string a1_1)).setCell ⟨gb784, 2, none⟩ (.string a1_2)).heap[gb778]? = some (.cells #[.bool t774, .string t775, .string t776] 23 (0, 0))) := ⟨by refine blk_far ?_ NB778_784.out _; refine blk_far ?_ NB778_784.out _; refine blk_far ?_ NB778_784.out _; refine blk_far ?_ NB778_783.out _; refine blk_far ?_ NB778_783.out _; refine blk_far ?_ NB778_783.out _; exact BK778.out⟩
     have n3_ : Aside0 (((((((w54.setCell ⟨gb783, 0, none⟩ (.bool t774)).setCell ⟨gb783, 1, none⟩ (.string t775)).setCell ⟨gb783, 2, none⟩ (.string t776)).setCell ⟨gb784, 0, none⟩ (.bool a1_0)).setCell ⟨gb784, 1, none⟩ (.string a1_1)).setCell ⟨gb784, 2, none⟩ (.string a1_2)).heap[gb783]? = some (.cells #[.bool t774, .string t775, .string t776] 23 (0, 0))) := ⟨by refine blk_far ?_ NB783_784.out _; refine blk_far ?_ NB783_784.out _; refine blk_far ?_ NB783_784.out _; refine blk_put (cs := #[.bool t774, .string t775, .string (⟨#[]⟩ : ByteArray)]) ?_ 2 _ rfl; refine blk_put (cs := #[.bool t774, .string (⟨#[]⟩ : ByteArray), .string (⟨#[]⟩ : ByteArray)]) ?_ 1 _ rfl; refine blk_put (cs := #[.bool false, .string (⟨#[]⟩ : ByteArray), .string (⟨#[]⟩ : ByteArray)]) ?_ 0 _ rfl; exact BK783.out⟩
     have n4_ : Aside0 (((((((w54.setCell ⟨gb783, 0, none⟩ (.bool t774)).setCell ⟨gb783, 1, none⟩ (.string t775)).setCell ⟨gb783, 2, none⟩ (.string t776)).setCell ⟨gb784, 0, none⟩ (.bool a1_0)).setCell ⟨gb784, 1, none⟩ (.string a1_1)).setCell ⟨gb784, 2, none⟩ (.string a1_2)).heap[gb784]? = some (.cells #[.bool a1_0, .string a1_1, .string a1_2] 23 (0, 0))) := ⟨by refine blk_put (cs := #[.bool a1_0, .string a1_1, .string (⟨#[]⟩ : ByteArray)]) ?_ 2 _ rfl; refine blk_put (cs := #[.bool a1_0, .string (⟨#[]⟩ : ByteArray), .string (⟨#[]⟩ : ByteArray)]) ?_ 1 _ rfl; refine blk_put (cs := #[.bool false, .string (⟨#[]⟩ : ByteArray), .string (⟨#[]⟩ : ByteArray)]) ?_ 0 _ rfl; refine blk_far ?_ NB784_783.out _; refine blk_far ?_ NB784_783.out _; refine blk_far ?_ NB784_783.out _; exact BK784.out⟩
     have n5_ : Aside0 (Below w.heap.size w ((((((w54.setCell ⟨gb783, 0, none⟩ (.bool t774)).setCell ⟨gb783, 1, none⟩ (.string t775)).setCell ⟨gb783, 2, none⟩ (.string t776)).setCell ⟨gb784, 0, none⟩ (.bool a1_0)).setCell ⟨gb784, 1, none⟩ (.string a1_1)).setCell ⟨gb784, 2, none⟩ (.string a1_2))) := ⟨by repeat (first | (with_reducible first | exact HB.out | apply below_alloc | apply pw_below_drewN | apply below_drew1 | refine below_set ?_ GE771.out | refine below_set ?_ GE772.out | refine below_set ?_ GE778.out | refine below_set ?_ GE783.out | refine below_set ?_ GE784.out) | exact HB.out)⟩
     (try clear BK771)
     (try clear BK772)
     (try clear BK778)
     (try clear BK783)
     (try clear BK784)
     (try clear HB)
     generalize ((((((w54.setCell ⟨gb783, 0, none⟩ (.bool t774)).setCell ⟨gb783, 1, none⟩ (.string t775)).setCell ⟨gb783, 2, none⟩ (.string t776)).setCell ⟨gb784, 0, none⟩ (.bool a1_0)).setCell ⟨gb784, 1, none⟩ (.string a1_1)).setCell ⟨gb784, 2, none⟩ (.string a1_2)) = w61 at n0_ n1_ n2_ n3_ n4_ n5_ ⊢
     have BK771 := n0_
     have BK772 := n1_
     have BK778 := n2_
     have BK783 := n3_
     have BK784 := n4_
     have HB := n5_
     clear n0_ n1_ n2_ n3_ n4_ n5_
     have hnb62 := NB783_771.out
     have hnc62 := NB771_783.out
     have hnb63 := NB783_772.out
     have hnc63 := NB772_783.out
     have hnb64 := NB783_778.out
     have hnc64 := NB778_783.out
     have hnb65 := NB783_784.out
     have hnc65 := NB784_783.out
     obtain ⟨hcz66_0, hcz66_1, hcz66_2, hfz66_0, hfz66_1, hfz66_2⟩ := BK783.c3
     have hnb67 := NB784_771.out
     have hnc67 := NB771_784.out
     have hnb68 := NB784_772.out
     have hnc68 := NB772_784.out
     have hnb69 := NB784_778.out
     have hnc69 := NB778_784.out
     obtain ⟨hcz70_0, hcz70_1, hcz70_2, hfz70_0, hfz70_1, hfz70_2⟩ := BK784.c3
     go_upto_region 11 with (first | ((with_reducible refine gate_callee (f := 29) rfl ?_); refine gL_ (some 64) Tryd.func29 #[.agg #[.bool false, .string t775, .string t776], .agg #[.bool false, .string a1_1, .string a1_2]] ?_; (with_reducible refine (decimal_Compare.calls kj20 false t775 t776 false a1_1 a1_2 t785 t786 _ A49.out).mono ?_); rintro e w71 ⟨rfl, hb⟩; refine ⟨_, rfl, ?_⟩; replace BK771 := Aside0.mk (blk_below (g := gb771) (o := .cells #[.bool a0_0, .string a0_1, .string a0_2] 23 (0, 0)) (by refine blk_far ?_ NB771_784.out _; refine blk_far ?_ NB771_783.out _; exact BK771.out) hb); replace BK772 := Aside0.mk (blk_below (g := gb772) (o := .cells #[.bool a1_0, .string a1_1, .string a1_2] 23 (0, 0)) (by refine blk_far ?_ NB772_784.out _; refine blk_far ?_ NB772_783.out _; exact BK772.out) hb); replace BK778 := Aside0.mk (blk_below (g := gb778) (o := .cells #[.bool t774, .string t775, .string t776] 23 (0, 0)) (by refine blk_far ?_ NB778_784.out _; refine blk_far ?_ NB778_783.out _; exact BK778.out) hb); replace BK783 := Aside0.mk (blk_below (g := gb783) (o := .cells #[.bool false, .string t775, .string t776] 23 (0, 0)) (by refine blk_far ?_ NB783_784.out _; refine blk_put (cs := #[.bool t774, .string t775, .string t776]) ?_ 0 _ rfl; exact BK783.out) hb); replace BK784 := Aside0.mk (blk_below (g := gb784) (o := .cells #[.bool false, .string a1_1, .string a1_2] 23 (0, 0)) (by refine blk_put (cs := #[.bool a1_0, .string a1_1, .string a1_2]) ?_ 0 _ rfl; refine blk_far ?_ NB784_783.out _; exact BK784.out) hb); replace HB := Aside0.mk (below_step hb_ hb)))
     (try simp only [Act.put, List.setIfInBounds_toArray, List.set_cons_zero, List.set_cons_succ])
     go_cut [96] (fun v96 wc => ∃ (kq : Nat) (x96_49 : Bool), v96 = .bool x96_49 ∧ Aside0 (idiomlaw02_DecimalRest.j1 kq a2 x96_49 a0_0 a0_1 a0_2 a1_0 a1_1 a1_2 t774 t775 t776 = some r) ∧ Aside0 (kq ≤ kj20) ∧ Aside0 (wc.heap[gb771]? = some (.cells #[.bool a0_0, .string a0_1, .string a0_2] 23 (0, 0))) ∧ Aside0 (wc.heap[gb772]? = some (.cells #[.bool a1_0, .string a1_1, .string a1_2] 23 (0, 0))) ∧ Aside0 (wc.heap[gb778]? = some (.cells #[.bool t774, .string t775, .string t776] 23 (0, 0))) ∧ Aside0 (wc.heap[gb783]? = some (.cells #[.bool false, .string t775, .string t776] 23 (0, 0))) ∧ Aside0 (wc.heap[gb784]? = some (.cells #[.bool false, .string a1_1, .string a1_2] 23 (0, 0))) ∧ Aside0 (Below w.heap.size w wc))
     case first =>
      have H := HC50.out
      clear HC50
      by_cases c72 : t786 = 0
      ·rw [if_pos c72] at H
       have c72b0 : (t786 == 0) = true := beq_iff_eq.mpr c72
       have c72b1 : (t786 != 0) = false := bne_eq_false_iff_eq.mpr c72
       clear c72
       (first | rw [c72b0] | (simp only [i64_w, i32_w]; rw [c72b0]) | rw [c72b1] | skip)
       by_cases c73 : t785 ≥ 0
       ·rw [if_pos c73] at H
        have c73b0 : decide (0 ≤ t785) = true := decide_eq_true c73
        clear c73
        have H' := Aside0.mk H
        clear H
        go_wp2
        go_meet
        case rel => exact ⟨_, (true), (by first | rfl | (simp; done) | (simp [*]; done)), H', ⟨by have := HJ20.out; first | omega | exact Nat.le_refl _⟩, ⟨by exact BK771.out⟩, ⟨by exact BK772.out⟩, ⟨by exact BK778.out⟩, ⟨by exact BK783.out⟩, ⟨by exact BK784.out⟩, ⟨by repeat (first | (with_reducible first | exact HB.out | apply below_alloc | apply pw_below_drewN | apply below_drew1 | refine below_set ?_ GE771.out | refine below_set ?_ GE772.out | refine below_set ?_ GE778.out | refine below_set ?_ GE783.out | refine below_set ?_ GE784.out) | exact HB.out)⟩⟩
       ·rw [if_neg c73] at H
        have c73b0 : decide (0 ≤ t785) = false := decide_eq_false c73
        clear c73
        by_cases c74 : t774 = true
        ·subst c74
         have H1 : (if a0_0 = true then (idiomlaw02_DecimalRest.j1 kj20 a2 false a0_0 a0_1 a0_2 a1_0 a1_1 a1_2 true t775 t776) else (idiomlaw02_DecimalRest.j1 kj20 a2 true a0_0 a0_1 a0_2 a1_0 a1_1 a1_2 true t775 t776)) = some r := by rw [if_pos rfl] at H; exact H
         clear H
         have H := H1
         clear H1
         by_cases c75 : a0_0 = true
         ·subst c75
          have H1 : (idiomlaw02_DecimalRest.j1 kj20 a2 false true a0_1 a0_2 a1_0 a1_1 a1_2 true t775 t776) = some r := by rw [if_pos rfl] at H; exact H
          clear H
          have H := H1
          clear H1
          have H' := Aside0.mk H
          clear H
          have hnb76 := NB778_771.out
          have hnc76 := NB771_778.out
          have hnb77 := NB778_772.out
          have hnc77 := NB772_778.out
          have hnb78 := NB778_783.out
          have hnc78 := NB783_778.out
          have hnb79 := NB778_784.out
          have hnc79 := NB784_778.out
          obtain ⟨hcz80_0, hcz80_1, hcz80_2, hfz80_0, hfz80_1, hfz80_2⟩ := BK778.c3
          have hnb81 := NB771_772.out
          have hnc81 := NB772_771.out
          have hnb82 := NB771_783.out
          have hnc82 := NB783_771.out
          have hnb83 := NB771_784.out
          have hnc83 := NB784_771.out
          obtain ⟨hcz84_0, hcz84_1, hcz84_2, hfz84_0, hfz84_1, hfz84_2⟩ := BK771.c3
          go_wp2
          go_meet
          case rel => exact ⟨_, (false), (by first | rfl | (simp; done) | (simp [*]; done)), H', ⟨by have := HJ20.out; first | omega | exact Nat.le_refl _⟩, ⟨by exact BK771.out⟩, ⟨by exact BK772.out⟩, ⟨by exact BK778.out⟩, ⟨by exact BK783.out⟩, ⟨by exact BK784.out⟩, ⟨by repeat (first | (with_reducible first | exact HB.out | apply below_alloc | apply pw_below_drewN | apply below_drew1 | refine below_set ?_ GE771.out | refine below_set ?_ GE772.out | refine below_set ?_ GE778.out | refine below_set ?_ GE783.out | refine below_set ?_ GE784.out) | exact HB.out)⟩⟩
         ·replace c75 := Bool.eq_false_iff.mpr c75
          subst c75
          have H1 : (idiomlaw02_DecimalRest.j1 kj20 a2 true false a0_1 a0_2 a1_0 a1_1 a1_2 true t775 t776) = some r := by rw [if_neg (show ¬ (false = true) by decide)] at H; exact H
          clear H
          have H := H1
          clear H1
          have H' := Aside0.mk H
          clear H
          have hnb85 := NB778_771.out
          have hnc85 := NB771_778.out
          have hnb86 := NB778_772.out
          have hnc86 := NB772_778.out
          have hnb87 := NB778_783.out
          have hnc87 := NB783_778.out
          have hnb88 := NB778_784.out
          have hnc88 := NB784_778.out
          obtain ⟨hcz89_0, hcz89_1, hcz89_2, hfz89_0, hfz89_1, hfz89_2⟩ := BK778.c3
          have hnb90 := NB771_772.out
          have hnc90 := NB772_771.out
          have hnb91 := NB771_783.out
          have hnc91 := NB783_771.out
          have hnb92 := NB771_784.out
          have hnc92 := NB784_771.out
          obtain ⟨hcz93_0, hcz93_1, hcz93_2, hfz93_0, hfz93_1, hfz93_2⟩ := BK771.c3
          go_wp2
          go_meet
          case rel => exact ⟨_, (true), (by first | rfl | (simp; done) | (simp [*]; done)), H', ⟨by have := HJ20.out; first | omega | exact Nat.le_refl _⟩, ⟨by exact BK771.out⟩, ⟨by exact BK772.out⟩, ⟨by exact BK778.out⟩, ⟨by exact BK783.out⟩, ⟨by exact BK784.out⟩, ⟨by repeat (first | (with_reducible first | exact HB.out | apply below_alloc | apply pw_below_drewN | apply below_drew1 | refine below_set ?_ GE771.out | refine below_set ?_ GE772.out | refine below_set ?_ GE778.out | refine below_set ?_ GE783.out | refine below_set ?_ GE784.out) | exact HB.out)⟩⟩
        ·replace c74 := Bool.eq_false_iff.mpr c74
         subst c74
         have H1 : (if a0_0 = true then ((idiomlaw02_great.f kj20 false t775 t776 false (⟨#[48]⟩ : ByteArray) (⟨#[]⟩ : ByteArray)).bind fun t787 => (idiomlaw02_DecimalRest.j1 kj20 a2 (!t787) a0_0 a0_1 a0_2 a1_0 a1_1 a1_2 false t775 t776)) else (idiomlaw02_DecimalRest.j1 kj20 a2 false a0_0 a0_1 a0_2 a1_0 a1_1 a1_2 false t775 t776)) = some r := by rw [if_neg (show ¬ (false = true) by decide)] at H; exact H
         clear H
         have H := H1
         clear H1
         by_cases c94 : a0_0 = true
         ·subst c94
          have H1 : ((idiomlaw02_great.f kj20 false t775 t776 false (⟨#[48]⟩ : ByteArray) (⟨#[]⟩ : ByteArray)).bind fun t787 => (idiomlaw02_DecimalRest.j1 kj20 a2 (!t787) true a0_1 a0_2 a1_0 a1_1 a1_2 false t775 t776)) = some r := by rw [if_pos rfl] at H; exact H
          clear H
          have H := H1
          clear H1
          replace H := Option.bind_eq_some_iff.mp H
          obtain ⟨t787, A950, H⟩ := H
          try dsimp only at H
          have A95 := Aside0.mk A950
          clear A950
          have H' := Aside0.mk H
          clear H
          have hnb96 := NB778_771.out
          have hnc96 := NB771_778.out
          have hnb97 := NB778_772.out
          have hnc97 := NB772_778.out
          have hnb98 := NB778_783.out
          have hnc98 := NB783_778.out
          have hnb99 := NB778_784.out
          have hnc99 := NB784_778.out
          obtain ⟨hcz100_0, hcz100_1, hcz100_2, hfz100_0, hfz100_1, hfz100_2⟩ := BK778.c3
          have hnb101 := NB771_772.out
          have hnc101 := NB772_771.out
          have hnb102 := NB771_783.out
          have hnc102 := NB783_771.out
          have hnb103 := NB771_784.out
          have hnc103 := NB784_771.out
          obtain ⟨hcz104_0, hcz104_1, hcz104_2, hfz104_0, hfz104_1, hfz104_2⟩ := BK771.c3
          go_wp2_with (first | (go_at_call 38; (with_reducible refine (idiomlaw02_great.calls kj20 false t775 t776 false (⟨#[48]⟩ : ByteArray) (⟨#[]⟩ : ByteArray) t787 _ A95.out).mono ?_); rintro e w105 ⟨rfl, hb⟩; replace BK771 := BK771.bl hb; replace BK772 := BK772.bl hb; replace BK778 := BK778.bl hb; replace BK783 := BK783.bl hb; replace BK784 := BK784.bl hb; replace HB := Aside0.mk (below_step hb_ hb)))
          go_meet
          case rel => exact ⟨_, (!t787), (by first | rfl | (simp; done) | (simp [*]; done)), H', ⟨by have := HJ20.out; first | omega | exact Nat.le_refl _⟩, ⟨by exact BK771.out⟩, ⟨by exact BK772.out⟩, ⟨by exact BK778.out⟩, ⟨by exact BK783.out⟩, ⟨by exact BK784.out⟩, ⟨by repeat (first | (with_reducible first | exact HB.out | apply below_alloc | apply pw_below_drewN | apply below_drew1 | refine below_set ?_ GE771.out | refine below_set ?_ GE772.out | refine below_set ?_ GE778.out | refine below_set ?_ GE783.out | refine below_set ?_ GE784.out) | exact HB.out)⟩⟩
         ·replace c94 := Bool.eq_false_iff.mpr c94
          subst c94
          have H1 : (idiomlaw02_DecimalRest.j1 kj20 a2 false false a0_1 a0_2 a1_0 a1_1 a1_2 false t775 t776) = some r := by rw [if_neg (show ¬ (false = true) by decide)] at H; exact H
          clear H
          have H := H1
          clear H1
          have H' := Aside0.mk H
          clear H
          have hnb106 := NB778_771.out
          have hnc106 := NB771_778.out
          have hnb107 := NB778_772.out
          have hnc107 := NB772_778.out
          have hnb108 := NB778_783.out
          have hnc108 := NB783_778.out
          have hnb109 := NB778_784.out
          have hnc109 := NB784_778.out
          obtain ⟨hcz110_0, hcz110_1, hcz110_2, hfz110_0, hfz110_1, hfz110_2⟩ := BK778.c3
          have hnb111 := NB771_772.out
          have hnc111 := NB772_771.out
          have hnb112 := NB771_783.out
          have hnc112 := NB783_771.out
          have hnb113 := NB771_784.out
          have hnc113 := NB784_771.out
          obtain ⟨hcz114_0, hcz114_1, hcz114_2, hfz114_0, hfz114_1, hfz114_2⟩ := BK771.c3
          go_wp2
          go_meet
          case rel => exact ⟨_, (false), (by first | rfl | (simp; done) | (simp [*]; done)), H', ⟨by have := HJ20.out; first | omega | exact Nat.le_refl _⟩, ⟨by exact BK771.out⟩, ⟨by exact BK772.out⟩, ⟨by exact BK778.out⟩, ⟨by exact BK783.out⟩, ⟨by exact BK784.out⟩, ⟨by repeat (first | (with_reducible first | exact HB.out | apply below_alloc | apply pw_below_drewN | apply below_drew1 | refine below_set ?_ GE771.out | refine below_set ?_ GE772.out | refine below_set ?_ GE778.out | refine below_set ?_ GE783.out | refine below_set ?_ GE784.out) | exact HB.out)⟩⟩
      ·rw [if_neg c72] at H
       have c72b0 : (t786 == 0) = false := beq_eq_false_iff_ne.mpr c72
       have c72b1 : (t786 != 0) = true := bne_iff_ne.mpr c72
       (first | rw [c72b0] | (simp only [i64_w, i32_w]; rw [c72b0]) | rw [c72b1] | skip)
       have H' := Aside0.mk H
       clear H
       go_wp2
       go_meet
       case rel => exact ⟨_, (true), (by first | rfl | (simp; done) | (simp [*]; done)), H', ⟨by have := HJ20.out; first | omega | exact Nat.le_refl _⟩, ⟨by exact BK771.out⟩, ⟨by exact BK772.out⟩, ⟨by exact BK778.out⟩, ⟨by exact BK783.out⟩, ⟨by exact BK784.out⟩, ⟨by repeat (first | (with_reducible first | exact HB.out | apply below_alloc | apply pw_below_drewN | apply below_drew1 | refine below_set ?_ GE771.out | refine below_set ?_ GE772.out | refine below_set ?_ GE778.out | refine below_set ?_ GE783.out | refine below_set ?_ GE784.out) | exact HB.out)⟩⟩
     case rest =>
      clear HC50
      (try clear c9); (try clear hcz66_0); (try clear hcz66_1); (try clear hcz66_2); (try clear hcz70_0); (try clear hcz70_1); (try clear hcz70_2); (try clear hfz66_0); (try clear hfz66_1); (try clear hfz66_2); (try clear hfz70_0); (try clear hfz70_1); (try clear hfz70_2)
      rename_i z1_1 z1_2 z1_3 z1_4 z1_5 z1_6 z1_7 z1_8 z1_9 z1_10 z1_11 z1_12 z1_13 z1_14 z1_15 z1_16 z1_17 z1_18 z1_19 z1_20 z1_21 z1_22 z1_23 z1_24 z1_25 z1_26 z1_27 z1_28 z1_29 z1_30 z1_31 z1_32 z1_33 z1_34 z1_35 z1_36 z1_37 z1_38 z1_39 z1_40 z1_41 z1_42 z1_43 z1_44 z1_45 z1_46 z1_47 z1_48 z1_49 z1_50 z1_51 z1_52 z1_53 z1_54 z1_55 z1_56 z1_57 z1_58 z1_59 z1_60 z1_61 z1_62 z1_63 z1_64 z1_65 z1_66 z1_67 z1_68 z1_69 z1_70 z1_71 z1_72 z1_73 z1_74 z1_75 z1_76 z1_77 z1_78 z1_79 z1_80 z1_81 z1_82 z1_83 z1_84 z1_85 z1_86 z1_87 z1_88 z1_89 z1_90 z1_91 z1_92 z1_93 z1_94 z1_95 z1_96 z1_97 z1_98 z1_99 z1_100 z1_101 z1_102 z1_103 z1_104 z1_105 z1_106 z1_107 z1_108 z1_109 z1_110 z1_111 z1_112 z1_113 z1_114 z1_115 z1_116 z1_117 z1_118 z1_119 z1_120 z1_121 z1_122 z1_123 z1_124 z1_125 z1_126 z1_127 z1_128 z1_129 z1_130 z1_131 z1_132 z1_133 z1_134 z1_135 z1_136 z1_137 z1_138 z1_139 z1_140 z1_141 z1_142 z1_143 z1_144 z1_145 z1_146 z1_147 z1_148 z1_149 z1_150 z1_151 z1_152 z1_153 z1_154 z1_155 z1_156 z1_157 z1_158 z1_159 z1_160 z1_161 z1_162 z1_163 z1_164
      revert k a0_0 a0_1 a0_2 a1_0 a1_1 a1_2 a2 r w hu23 z0_1 gb771 w6 GW771 GE771 gb772 w7 GW772 GE772 NB771_772 NB772_771 w8 z0_2 A4 t774 t775 t776 t777 A10 hnb12 hnc12 z0_3 w15 z1_1 gb778 w16 z1_2 GW778 GE778 NB771_778 NB778_771 NB772_778 NB778_772 z1_3 z1_4 z1_5 hnb17 hnc17 hnb18 hnc18 z1_6 z1_7 z1_8 z1_9 z1_10 z1_11 z1_12 z1_13 z1_14 z1_15 z1_16 z1_17 z1_18 z1_19 z1_20 z1_21 z1_22 z1_23 z1_24 z1_25 z1_26 z1_27 z1_28 z1_29 z1_30 z1_31 z1_32 z1_33 z1_34 z1_35 z1_36 z1_37 z1_38 z1_39 z1_40 z1_41 z1_42 z1_43 z1_44 z1_45 z1_46 z1_47 z1_48 z1_49 z1_50 z1_51 z1_52 z1_53 z1_54 z1_55 z1_56 z1_57 z1_58 z1_59 z1_60 z1_61 z1_62 z1_63 z1_64 z1_65 z1_66 z1_67 z1_68 z1_69 z1_70 z1_71 z1_72 z1_73 z1_74 z1_75 z1_76 z1_77 z1_78 z1_79 z1_80 z1_81 z1_82 z1_83 z1_84 z1_85 z1_86 z1_87 z1_88 z1_89 z1_90 z1_91 z1_92 z1_93 z1_94 z1_95 z1_96 z1_97 z1_98 z1_99 z1_100 z1_101 z1_102 z1_103 z1_104 z1_105 z1_106 z1_107 z1_108 z1_109 z1_110 z1_111 z1_112 z1_113 z1_114 z1_115 z1_116 z1_117 z1_118 z1_119 z1_120 z1_121 z1_122 z1_123 z1_124 z1_125 z1_126 z1_127 z1_128 z1_129 z1_130 z1_131 z1_132 z1_133 z1_134 z1_135 z1_136 z1_137 z1_138 z1_139 z1_140 z1_141 z1_142 z1_143 z1_144 z1_145 z1_146 z1_147 z1_148 z1_149 z1_150 z1_151 z1_152 z1_153 z1_154 z1_155 z1_156 z1_157 kj20 HJ20 t785 t786 A49 w51 z1_158 gb783 gb784 w54 hS_ GW783 GE783 NB771_783 NB783_771 NB772_783 NB783_772 NB778_783 NB783_778 NB784_783 NB783_784 GW784 GE784 NB771_784 NB784_771 NB772_784 NB784_772 NB778_784 NB784_778 z1_159 z1_160 hHeld w61 hnb62 hnc62 hnb63 hnc63 hnb64 hnc64 hnb65 hnc65 hnb67 hnc67 hnb68 hnc68 hnb69 hnc69 z1_161 z1_162 w71 hb BK771 BK772 BK778 BK783 BK784 HB z1_163 z1_164 wc u25 u26 u27 u28 u29 u30 u31 u32 u33 u34 u35 u36 u37 u38 u39 u40 u41 u42 u43 u44 u45 u46 u47 u48 u49 u50 u51 u52 u53 u54 u55 u56 u57 u58 u59 u60 u61 u62 u63 u64 u65 u66 u67 u68 u69 u70 u71 u72 u73 u74 u75 u76 u77 u78 u79 u80 u81 u82 u83 u84 u85 u86 u87 u88 u89 u90 u91 u92 u93 u94 u95 u96 u97 u98 u99 u100 u101 u102 u103 u104 u105 u106 u107 u108 u109 u110 u111 u112 u113 u114 u115 u116 u117 u118 u119 u120 u121 u122 u123 u124 u125 u126 u127 u128 u129 u130 u131 u132 u133 u134 u135 u136 u137 u138 u139 u140 u141 u142 u143 u144 u145 u146 u147 u148 u149 u150 u151 u152 u153 u154 u155 u156 u157 u158 u159 u160 u161 u162 u163 u164 u165 u166 u167 u168 u169 u170 u171 u172 u173 u174 u175 u176 hcut
      exact hrest1.out
set_option maxHeartbeats 0 in
set_option maxRecDepth 100000 in
def idiomlaw02_DecimalRest.calls_r1_s : PSigma fun T2 : Prop => PSigma fun T3 : Prop => idiomlaw02_DecimalRest.Kept T2 → idiomlaw02_DecimalRest.Kept T3 → (idiomlaw02_DecimalRest.calls_r0_s.1) := by
  apply PSigma.mk
  case snd =>
   apply PSigma.mk
   case snd =>
    intro hrest2 hrest3
    intro k a0_0 a0_1 a0_2 a1_0 a1_1 a1_2 a2 r w hu23 z0_1 gb771 w6 GW771 GE771 gb772 w7 GW772 GE772 NB771_772 NB772_771 w8 z0_2 A4 t774 t775 t776 t777 A10 hnb12 hnc12 z0_3 w15 z1_1 gb778 w16 z1_2 GW778 GE778 NB771_778 NB778_771 NB772_778 NB778_772 z1_3 z1_4 z1_5 hnb17 hnc17 hnb18 hnc18 z1_6 z1_7 z1_8 z1_9 z1_10 z1_11 z1_12 z1_13 z1_14 z1_15 z1_16 z1_17 z1_18 z1_19 z1_20 z1_21 z1_22 z1_23 z1_24 z1_25 z1_26 z1_27 z1_28 z1_29 z1_30 z1_31 z1_32 z1_33 z1_34 z1_35 z1_36 z1_37 z1_38 z1_39 z1_40 z1_41 z1_42 z1_43 z1_44 z1_45 z1_46 z1_47 z1_48 z1_49 z1_50 z1_51 z1_52 z1_53 z1_54 z1_55 z1_56 z1_57 z1_58 z1_59 z1_60 z1_61 z1_62 z1_63 z1_64 z1_65 z1_66 z1_67 z1_68 z1_69 z1_70 z1_71 z1_72 z1_73 z1_74 z1_75 z1_76 z1_77 z1_78 z1_79 z1_80 z1_81 z1_82 z1_83 z1_84 z1_85 z1_86 z1_87 z1_88 z1_89 z1_90 z1_91 z1_92 z1_93 z1_94 z1_95 z1_96 z1_97 z1_98 z1_99 z1_100 z1_101 z1_102 z1_103 z1_104 z1_105 z1_106 z1_107 z1_108 z1_109 z1_110 z1_111 z1_112 z1_113 z1_114 z1_115 z1_116 z1_117 z1_118 z1_119 z1_120 z1_121 z1_122 z1_123 z1_124 z1_125 z1_126 z1_127 z1_128 z1_129 z1_130 z1_131 z1_132 z1_133 z1_134 z1_135 z1_136 z1_137 z1_138 z1_139 z1_140 z1_141 z1_142 z1_143 z1_144 z1_145 z1_146 z1_147 z1_148 z1_149 z1_150 z1_151 z1_152 z1_153 z1_154 z1_155 z1_156 z1_157 kj20 HJ20 t785 t786 A49 w51 z1_158 gb783 gb784 w54 hS_ GW783 GE783 NB771_783 NB783_771 NB772_783 NB783_772 NB778_783 NB783_778 NB784_783 NB783_784 GW784 GE784 NB771_784 NB784_771 NB772_784 NB784_772 NB778_784 NB784_778 z1_159 z1_160 hHeld w61 hnb62 hnc62 hnb63 hnc63 hnb64 hnc64 hnb65 hnc65 hnb67 hnc67 hnb68 hnc68 hnb69 hnc69 z1_161 z1_162 w71 hb BK771 BK772 BK778 BK783 BK784 HB z1_163 z1_164 wc u25 u26 u27 u28 u29 u30 u31 u32 u33 u34 u35 u36 u37 u38 u39 u40 u41 u42 u43 u44 u45 u46 u47 u48 u49 u50 u51 u52 u53 u54 u55 u56 u57 u58 u59 u60 u61 u62 u63 u64 u65 u66 u67 u68 u69 u70 u71 u72 u73 u74 u75 u76 u77 u78 u79 u80 u81 u82 u83 u84 u85 u86 u87 u88 u89 u90 u91 u92 u93 u94 u95 u96 u97 u98 u99 u100 u101 u102 u103 u104 u105 u106 u107 u108 u109 u110 u111 u112 u113 u114 u115 u116 u117 u118 u119 u120 u121 u122 u123 u124 u125 u126 u127 u128 u129 u130 u131 u132 u133 u134 u135 u136 u137 u138 u139 u140 u141 u142 u143 u144 u145 u146 u147 u148 u149 u150 u151 u152 u153 u154 u155 u156 u157 u158 u159 u160 u161 u162 u163 u164 u165 u166 u167 u168 u169 u170 u171 u172 u173 u174 u175 u176 hcut
    obtain ⟨kq, x96_49, rfl, HA, HJ49, BK771, BK772, BK778, BK783, BK784, HB⟩ := hcut
    cases kq with
    | zero => exact absurd HA.out (by simp [idiomlaw02_DecimalRest.j1])
    | succ kj49 =>
     have H := HA.out
     clear HA
     simp only [idiomlaw02_DecimalRest.j1] at H
     by_cases c115 : x96_49 = true
     ·subst c115
      have H1 : (some false) = some r := by rw [if_pos rfl] at H; exact H
      clear H
      have H := H1
      clear H1
      obtain rfl := Option.some.inj H
      go_wp2
      go_ret
      exact ⟨by first | rfl | (simp [errW_none, errW_some] <;> rfl) | (simp [*, errW_none, errW_some] <;> rfl) | (simp [bne_nil_]; done), by repeat (first | (with_reducible first | exact HB.out | apply below_alloc | apply pw_below_drewN | apply below_drew1 | refine below_set ?_ GE771.out | refine below_set ?_ GE772.out | refine below_set ?_ GE778.out | refine below_set ?_ GE783.out | refine below_set ?_ GE784.out) | exact HB.out)⟩
     ·replace c115 := Bool.eq_false_iff.mpr c115
      subst c115
      have H1 : ((decimal_Div.f kj49 a0_0 a0_1 a0_2 a1_0 a1_1 a1_2).bind fun bt788 => (if bt788.2.2.2 = 0 then (if bt788.2.2.1.toList = ([] : List UInt8) then ((idiomlaw02_fine.f kj49 (([(⟨bt788.1, bt788.2.1, bt788.2.2.1⟩ : S23)] : List (S23)))).bind fun t796 => (idiomlaw02_DecimalRest.j2 kj49 a2 (!t796) a0_0 a0_1 a0_2 a1_0 a1_1 a1_2 t774 t775 t776 bt788.1 bt788.2.1 bt788.2.2.1)) else (idiomlaw02_DecimalRest.j2 kj49 a2 true a0_0 a0_1 a0_2 a1_0 a1_1 a1_2 t774 t775 t776 bt788.1 bt788.2.1 bt788.2.2.1)) else (idiomlaw02_DecimalRest.j3 kj49 a2 a0_0 a0_1 a0_2 a1_0 a1_1 a1_2 t774 t775 t776))) = some r := by rw [if_neg (show ¬ (false = true) by decide)] at H; exact H
      clear H
      have H := H1
      clear H1
      replace H := Option.bind_eq_some_iff.mp H
      obtain ⟨⟨t788, t789, t790, t791⟩, A1160, H⟩ := H
      try dsimp only at H
      have A116 := Aside0.mk A1160
      clear A1160
      have HC117 := Aside0.mk H
      clear H
      have hnb118 := NB771_772.out
      have hnc118 := NB772_771.out
      have hnb119 := NB771_778.out
      have hnc119 := NB778_771.out
      have hnb120 := NB771_783.out
      have hnc120 := NB783_771.out
      have hnb121 := NB771_784.out
      have hnc121 := NB784_771.out
      obtain ⟨hcz122_0, hcz122_1, hcz122_2, hfz122_0, hfz122_1, hfz122_2⟩ := BK771.c3
      have hnb123 := NB772_778.out
      have hnc123 := NB778_772.out
      have hnb124 := NB772_783.out
      have hnc124 := NB783_772.out
      have hnb125 := NB772_784.out
      have hnc125 := NB784_772.out
      obtain ⟨hcz126_0, hcz126_1, hcz126_2, hfz126_0, hfz126_1, hfz126_2⟩ := BK772.c3
      go_upto_if 104 with (first | ((with_reducible refine gate_callee (f := 24) rfl ?_); refine gL_ (some 100) Tryd.func24 #[.agg #[.bool a0_0, .string a0_1, .string a0_2], .agg #[.bool a1_0, .string a1_1, .string a1_2]] ?_; (with_reducible refine (decimal_Div.calls kj49 a0_0 a0_1 a0_2 a1_0 a1_1 a1_2 t788 t789 t790 t791 _ A116.out).mono ?_); rintro e w127 ⟨rfl, hb⟩; refine ⟨_, rfl, ?_⟩; replace BK771 := BK771.bl hb; replace BK772 := BK772.bl hb; replace BK778 := BK778.bl hb; replace BK783 := BK783.bl hb; replace BK784 := BK784.bl hb; replace HB := Aside0.mk (below_step hb_ hb)) | ((with_reducible refine gate_dst (N := 13) rfl ?_); (try (refine gate_guard (by rfl) ?_; dsimp only)); refine box_event ?hg (N := 13) ?hd (cs := #[.bool false, .string (⟨#[]⟩ : ByteArray), .string (⟨#[]⟩ : ByteArray)]) (t := 23) ?hr ?_; (case hd => rfl); (case hg => rfl); (case hr => first | (go_simp; done) | (go_simp; rfl)); intro gb792 hg w128 hbox hb; have BK792 := Aside0.mk (hbox); have GW792 := Aside0.mk ((by rw [hg]; exact (below_size hb_) : w.heap.size ≤ gb792)); have GE792 := Aside0.mk ((by rw [hg]; exact (below_size hb_) : w.heap.size ≤ gb792)); have NB771_792 := BK771.nl hg; have NB792_771 := BK771.ng hg; have NB772_792 := BK772.nl hg; have NB792_772 := BK772.ng hg; have NB778_792 := BK778.nl hg; have NB792_778 := BK778.ng hg; have NB783_792 := BK783.nl hg; have NB792_783 := BK783.ng hg; have NB784_792 := BK784.nl hg; have NB792_784 := BK784.ng hg; replace BK771 := BK771.bl hb; replace BK772 := BK772.bl hb; replace BK778 := BK778.bl hb; replace BK783 := BK783.bl hb; replace BK784 := BK784.bl hb; replace HB := Aside0.mk (below_step hb_ hb); clear hb hbox hg; have hnb129 := NB792_771.out; have hnc129 := NB771_792.out; have hnb130 := NB792_772.out; have hnc130 := NB772_792.out; have hnb131 := NB792_778.out; have hnc131 := NB778_792.out; have hnb132 := NB792_783.out; have hnc132 := NB783_792.out; have hnb133 := NB792_784.out; have hnc133 := NB784_792.out; obtain ⟨hcz134_0, hcz134_1, hcz134_2, hfz134_0, hfz134_1, hfz134_2⟩ := BK792.c3))
      (try simp only [Act.put, List.setIfInBounds_toArray, List.set_cons_zero, List.set_cons_succ])
      go_cut [] (fun wc => ∃ (kq : Nat), Aside0 (idiomlaw02_DecimalRest.j3 kq a2 a0_0 a0_1 a0_2 a1_0 a1_1 a1_2 t774 t775 t776 = some r) ∧ Aside0 (kq ≤ kj49) ∧ Aside0 (wc.heap[gb771]? = some (.cells #[.bool a0_0, .string a0_1, .string a0_2] 23 (0, 0))) ∧ Aside0 (wc.heap[gb772]? = some (.cells #[.bool a1_0, .string a1_1, .string a1_2] 23 (0, 0))) ∧ Aside0 (wc.heap[gb778]? = some (.cells #[.bool t774, .string t775, .string t776] 23 (0, 0))) ∧ Aside0 (wc.heap[gb783]? = some (.cells #[.bool false, .string t775, .string t776] 23 (0, 0))) ∧ Aside0 (wc.heap[gb784]? = some (.cells #[.bool false, .string a1_1, .string a1_2] 23 (0, 0))) ∧ Aside0 (wc.heap[gb792]? = some (.cells #[.bool t788, .string t789, .string t790] 23 (0, 0))) ∧ Aside0 (Below w.heap.size w wc))
      case first =>
       have H := HC117.out
       clear HC117
       by_cases c135 : t791 = 0
       ·rw [if_pos c135] at H
        have c135b0 : (t791 == 0) = true := beq_iff_eq.mpr c135
        have c135b1 : (t791 != 0) = false := bne_eq_false_iff_eq.mpr c135
        clear c135
        (first | rw [c135b0] | (simp only [i64_w, i32_w]; rw [c135b0]) | rw [c135b1] | skip)
        have HC136 := Aside0.mk H
        clear H
        go_upto_region 15 with (fail)
        go_cut [113] (fun v113 wc => ∃ (kq : Nat) (x113_135 : Bool), v113 = .bool x113_135 ∧ Aside0 (idiomlaw02_DecimalRest.j2 kq a2 x113_135 a0_0 a0_1 a0_2 a1_0 a1_1 a1_2 t774 t775 t776 t788 t789 t790 = some r) ∧ Aside0 (kq ≤ kj49) ∧ Aside0 (wc.heap[gb771]? = some (.cells #[.bool a0_0, .string a0_1, .string a0_2] 23 (0, 0))) ∧ Aside0 (wc.heap[gb772]? = some (.cells #[.bool a1_0, .string a1_1, .string a1_2] 23 (0, 0))) ∧ Aside0 (wc.heap[gb778]? = some (.cells #[.bool t774, .string t775, .string t776] 23 (0, 0))) ∧ Aside0 (wc.heap[gb783]? = some (.cells #[.bool false, .string t775, .string t776] 23 (0, 0))) ∧ Aside0 (wc.heap[gb784]? = some (.cells #[.bool false, .string a1_1, .string a1_2] 23 (0, 0))) ∧ Aside0 (wc.heap[gb792]? = some (.cells #[.bool t788, .string t789, .string t790] 23 (0, 0))) ∧ Aside0 (Below w.heap.size w wc))
        case first =>
         have H := HC136.out
         clear HC136
         by_cases c137 : t790.toList = ([] : List UInt8)
         ·rw [if_pos c137] at H
          have c137b0 : (t790.toList == ([] : List UInt8)) = true := beq_iff_eq.mpr c137
          have c137b1 : (t790.toList != ([] : List UInt8)) = false := bne_eq_false_iff_eq.mpr c137
          clear c137
          (first | rw [c137b0] | (simp only [i64_w, i32_w]; rw [c137b0]) | rw [c137b1] | rw [(by rw [← c137b0]; cases t790.toList <;> rfl : t790.toList.isEmpty = true)] | skip)
          obtain ⟨y793, hy793⟩ : ∃ y_ : List (S23), y_ = (([(⟨t788, t789, t790⟩ : S23)] : List (S23))) := ⟨_, rfl⟩
          rw [← hy793] at H
          have Ny793 := Aside0.mk hy793
          clear hy793
          replace H := Option.bind_eq_some_iff.mp H
          obtain ⟨t796, A1380, H⟩ := H
          try dsimp only at H
          have A138 := Aside0.mk A1380
          clear A1380
          have H' := Aside0.mk H
          clear H
          have hnb139 := NB792_771.out
          have hnc139 := NB771_792.out
          have hnb140 := NB792_772.out
          have hnc140 := NB772_792.out
          have hnb141 := NB792_778.out
          have hnc141 := NB778_792.out
          have hnb142 := NB792_783.out
          have hnc142 := NB783_792.out
          have hnb143 := NB792_784.out
          have hnc143 := NB784_792.out
          obtain ⟨hcz144_0, hcz144_1, hcz144_2, hfz144_0, hfz144_1, hfz144_2⟩ := BK792.c3
          go_wp2_with (first | ((with_reducible refine gate_dst (N := 110) rfl ?_); (try (refine gate_guard (by rfl) ?_; dsimp only)); refine Kd.R_lit k23 _ 23 ?hg (N := 110) ?hd (xs := ([(⟨t788, t789, t790⟩ : S23)] : List (S23))) (inner := [.bool t788, .string t789, .string t790]) (ok := fun _ => True) (okp := fun _ => True) ?hr ?hp (fun _ hk => hk) trivial (Below.refl _ _) (Nat.le_refl _) (by simp) ?_; (case hd => rfl); (case hg => rfl); (case hr => first | (go_simp; done) | (go_simp; rfl)); (case hp => exact (Reps.c3 (show Kd.M k23 _ _ _ (⟨t788, t789, t790⟩ : S23) [.bool t788, .string t789, .string t790] from (k23_mkM _ _ _ (⟨t788, t789, t790⟩ : S23) )) (Reps.none _ _))); intro v794 w145 ho146 hb hg_ hnew_; clear hg_ hnew_; (first | rw [← Ny793.out] at ho146 | (simp only [Int.reduceToNat] at ho146; rw [← Ny793.out] at ho146)); have HO795 := Aside0.mk (Kd.R_lower (Kd.R_newB (Kd.R_newB (Kd.R_newB (Kd.R_newB (Kd.R_newB (Kd.R_newB ho146 (g := gb771) (o := .cells #[.bool a0_0, .string a0_1, .string a0_2] 23 (0, 0)) (by refine blk_far ?_ NB771_792.out _; refine blk_far ?_ NB771_792.out _; refine blk_far ?_ NB771_792.out _; exact BK771.out)) (g := gb772) (o := .cells #[.bool a1_0, .string a1_1, .string a1_2] 23 (0, 0)) (by refine blk_far ?_ NB772_792.out _; refine blk_far ?_ NB772_792.out _; refine blk_far ?_ NB772_792.out _; exact BK772.out)) (g := gb778) (o := .cells #[.bool t774, .string t775, .string t776] 23 (0, 0)) (by refine blk_far ?_ NB778_792.out _; refine blk_far ?_ NB778_792.out _; refine blk_far ?_ NB778_792.out _; exact BK778.out)) (g := gb783) (o := .cells #[.bool false, .string t775, .string t776] 23 (0, 0)) (by refine blk_far ?_ NB783_792.out _; refine blk_far ?_ NB783_792.out _; refine blk_far ?_ NB783_792.out _; exact BK783.out)) (g := gb784) (o := .cells #[.bool false, .string a1_1, .string a1_2] 23 (0, 0)) (by refine blk_far ?_ NB784_792.out _; refine blk_far ?_ NB784_792.out _; refine blk_far ?_ NB784_792.out _; exact BK784.out)) (g := gb792) (o := .cells #[.bool t788, .string t789, .string t790] 23 (0, 0)) (by refine blk_put (cs := #[.bool t788, .string t789, .string (⟨#[]⟩ : ByteArray)]) ?_ 2 _ rfl; refine blk_put (cs := #[.bool t788, .string (⟨#[]⟩ : ByteArray), .string (⟨#[]⟩ : ByteArray)]) ?_ 1 _ rfl; refine blk_put (cs := #[.bool false, .string (⟨#[]⟩ : ByteArray), .string (⟨#[]⟩ : ByteArray)]) ?_ 0 _ rfl; exact BK792.out)) (below_size hb_)); replace BK771 := Aside0.mk (blk_below (g := gb771) (o := .cells #[.bool a0_0, .string a0_1, .string a0_2] 23 (0, 0)) (by refine blk_far ?_ NB771_792.out _; refine blk_far ?_ NB771_792.out _; refine blk_far ?_ NB771_792.out _; exact BK771.out) hb); replace BK772 := Aside0.mk (blk_below (g := gb772) (o := .cells #[.bool a1_0, .string a1_1, .string a1_2] 23 (0, 0)) (by refine blk_far ?_ NB772_792.out _; refine blk_far ?_ NB772_792.out _; refine blk_far ?_ NB772_792.out _; exact BK772.out) hb); replace BK778 := Aside0.mk (blk_below (g := gb778) (o := .cells #[.bool t774, .string t775, .string t776] 23 (0, 0)) (by refine blk_far ?_ NB778_792.out _; refine blk_far ?_ NB778_792.out _; refine blk_far ?_ NB778_792.out _; exact BK778.out) hb); replace BK783 := Aside0.mk (blk_below (g := gb783) (o := .cells #[.bool false, .string t775, .string t776] 23 (0, 0)) (by refine blk_far ?_ NB783_792.out _; refine blk_far ?_ NB783_792.out _; refine blk_far ?_ NB783_792.out _; exact BK783.out) hb); replace BK784 := Aside0.mk (blk_below (g := gb784) (o := .cells #[.bool false, .string a1_1, .string a1_2] 23 (0, 0)) (by refine blk_far ?_ NB784_792.out _; refine blk_far ?_ NB784_792.out _; refine blk_far ?_ NB784_792.out _; exact BK784.out) hb); replace BK792 := Aside0.mk (blk_below (g := gb792) (o := .cells #[.bool t788, .string t789, .string t790] 23 (0, 0)) (by refine blk_put (cs := #[.bool t788, .string t789, .string (⟨#[]⟩ : ByteArray)]) ?_ 2 _ rfl; refine blk_put (cs := #[.bool t788, .string (⟨#[]⟩ : ByteArray), .string (⟨#[]⟩ : ByteArray)]) ?_ 1 _ rfl; refine blk_put (cs := #[.bool false, .string (⟨#[]⟩ : ByteArray), .string (⟨#[]⟩ : ByteArray)]) ?_ 0 _ rfl; exact BK792.out) hb); replace HB := Aside0.mk (below_step hb_ hb); clear hb ho146; obtain ⟨Ao147, co147, eo147⟩ := Kd.R_slice HO795.out; subst eo147) | (go_at_call 37; (with_reducible refine (idiomlaw02_fine.calls kj49 _ _ y793 t796 _ ?side1 ?side2 A138.out).mono ?_); (case side1 => repeat (first | exact (Kd.R_reads' HO795.out).2.2 | (with_reducible refine Kd.C_alloc ?_ _) | (with_reducible refine Kd.C_drewN ?_ _) | (with_reducible refine Kd.C_drew ?_))); (case side2 => exact (Kd.R_reads' HO795.out).2.1); rintro e w148 ⟨rfl, hb⟩; replace HO795 := Aside0.mk (Kd.R_below (by (with_reducible repeat (first | apply Kd.R_alloc | apply Kd.R_drewN | apply Kd.R_drew)); exact HO795.out) hb); replace BK771 := BK771.bl hb; replace BK772 := BK772.bl hb; replace BK778 := BK778.bl hb; replace BK783 := BK783.bl hb; replace BK784 := BK784.bl hb; replace BK792 := BK792.bl hb; replace HB := Aside0.mk (below_step hb_ hb)))
          go_meet
          case rel => exact ⟨_, (!t796), (by first | rfl | (simp; done) | (simp [*]; done)), H', ⟨by have := HJ20.out; have := HJ49.out; first | omega | exact Nat.le_refl _⟩, ⟨by exact BK771.out⟩, ⟨by exact BK772.out⟩, ⟨by exact BK778.out⟩, ⟨by exact BK783.out⟩, ⟨by exact BK784.out⟩, ⟨by exact BK792.out⟩, ⟨by repeat (first | (with_reducible first | exact HB.out | apply below_alloc | apply pw_below_drewN | apply below_drew1 | refine below_set ?_ GE771.out | refine below_set ?_ GE772.out | refine below_set ?_ GE778.out | refine below_set ?_ GE783.out | refine below_set ?_ GE784.out | refine below_set ?_ GE792.out) | exact HB.out)⟩⟩
         ·rw [if_neg c137] at H
          have c137b0 : (t790.toList == ([] : List UInt8)) = false := beq_eq_false_iff_ne.mpr c137
          have c137b1 : (t790.toList != ([] : List UInt8)) = true := bne_iff_ne.mpr c137
          (first | rw [c137b0] | (simp only [i64_w, i32_w]; rw [c137b0]) | rw [c137b1] | rw [(by rw [← c137b0]; cases t790.toList <;> rfl : t790.toList.isEmpty = false)] | skip)
          have H' := Aside0.mk H
          clear H
          have hnb149 := NB792_771.out
          have hnc149 := NB771_792.out
          have hnb150 := NB792_772.out
          have hnc150 := NB772_792.out
          have hnb151 := NB792_778.out
          have hnc151 := NB778_792.out
          have hnb152 := NB792_783.out
          have hnc152 := NB783_792.out
          have hnb153 := NB792_784.out
          have hnc153 := NB784_792.out
          obtain ⟨hcz154_0, hcz154_1, hcz154_2, hfz154_0, hfz154_1, hfz154_2⟩ := BK792.c3
          go_wp2
          go_meet
          case rel => exact ⟨_, (true), (by first | rfl | (simp; done) | (simp [*]; done)), H', ⟨by have := HJ20.out; have := HJ49.out; first | omega | exact Nat.le_refl _⟩, ⟨by refine blk_far ?_ NB771_792.out _; refine blk_far ?_ NB771_792.out _; refine blk_far ?_ NB771_792.out _; exact BK771.out⟩, ⟨by refine blk_far ?_ NB772_792.out _; refine blk_far ?_ NB772_792.out _; refine blk_far ?_ NB772_792.out _; exact BK772.out⟩, ⟨by refine blk_far ?_ NB778_792.out _; refine blk_far ?_ NB778_792.out _; refine blk_far ?_ NB778_792.out _; exact BK778.out⟩, ⟨by refine blk_far ?_ NB783_792.out _; refine blk_far ?_ NB783_792.out _; refine blk_far ?_ NB783_792.out _; exact BK783.out⟩, ⟨by refine blk_far ?_ NB784_792.out _; refine blk_far ?_ NB784_792.out _; refine blk_far ?_ NB784_792.out _; exact BK784.out⟩, ⟨by refine blk_put (cs := #[.bool t788, .string t789, .string (⟨#[]⟩ : ByteArray)]) ?_ 2 _ rfl; refine blk_put (cs := #[.bool t788, .string (⟨#[]⟩ : ByteArray), .string (⟨#[]⟩ : ByteArray)]) ?_ 1 _ rfl; refine blk_put (cs := #[.bool false, .string (⟨#[]⟩ : ByteArray), .string (⟨#[]⟩ : ByteArray)]) ?_ 0 _ rfl; exact BK792.out⟩, ⟨by repeat (first | (with_reducible first | exact HB.out | apply below_alloc | apply pw_below_drewN | apply below_drew1 | refine below_set ?_ GE771.out | refine below_set ?_ GE772.out | refine below_set ?_ GE778.out | refine below_set ?_ GE783.out | refine below_set ?_ GE784.out | refine below_set ?_ GE792.out) | exact HB.out)⟩⟩
        case rest =>
         clear HC136
         (try clear c9); (try clear c115); (try clear c135); (try clear c135b0); (try clear c135b1); (try clear hcz122_0); (try clear hcz122_1); (try clear hcz122_2); (try clear hcz126_0); (try clear hcz126_1); (try clear hcz126_2); (try clear hcz134_0); (try clear hcz134_1); (try clear hcz134_2); (try clear hcz66_0); (try clear hcz66_1); (try clear hcz66_2); (try clear hcz70_0); (try clear hcz70_1); (try clear hcz70_2); (try clear hfz122_0); (try clear hfz122_1); (try clear hfz122_2); (try clear hfz126_0); (try clear hfz126_1); (try clear hfz126_2); (try clear hfz134_0); (try clear hfz134_1); (try clear hfz134_2); (try clear hfz66_0); (try clear hfz66_1); (try clear hfz66_2); (try clear hfz70_0); (try clear hfz70_1); (try clear hfz70_2)
         rename_i z2_1 z2_2 z2_3 z2_4 z2_5 z2_6 z2_7 z2_8 z2_9 z2_10 z2_11 z2_12 z2_13 z2_14 z2_15 z2_16 z2_17 z2_18 z2_19 z2_20 z2_21 z2_22 z2_23 z2_24 z2_25 z2_26 z2_27 z2_28 z2_29 z2_30 z2_31 z2_32 z2_33 z2_34 z2_35 z2_36 z2_37 z2_38 z2_39 z2_40 z2_41 z2_42 z2_43 z2_44 z2_45 z2_46 z2_47 z2_48 z2_49 z2_50 z2_51 z2_52 z2_53 z2_54 z2_55 z2_56 z2_57 z2_58 z2_59 z2_60 z2_61 z2_62 z2_63 z2_64 z2_65 z2_66 z2_67 z2_68 z2_69 z2_70 z2_71 z2_72 z2_73 z2_74 z2_75 z2_76 z2_77 z2_78 z2_79 z2_80 z2_81 z2_82 z2_83 z2_84 z2_85 z2_86 z2_87 z2_88 z2_89 z2_90 z2_91 z2_92 z2_93 z2_94 z2_95 z2_96 z2_97 z2_98 z2_99 z2_100 z2_101 z2_102 z2_103 z2_104 z2_105 z2_106 z2_107 z2_108 z2_109 z2_110 z2_111 z2_112 z2_113 z2_114 z2_115 z2_116 z2_117 z2_118 z2_119 z2_120 z2_121 z2_122 z2_123 z2_124 z2_125 z2_126 z2_127 z2_128 z2_129 z2_130 z2_131 z2_132 z2_133 z2_134 z2_135 z2_136 z2_137 z2_138 z2_139 z2_140 z2_141 z2_142 z2_143 z2_144 z2_145 z2_146 z2_147 z2_148 z2_149 z2_150 z2_151 z2_152 z2_153 z2_154 z2_155 z2_156 z2_157 z2_158 z2_159 z2_160 z2_161 z2_162 z2_163 z2_164 z2_165 z2_166 z2_167 z2_168 z2_169
         revert k a0_0 a0_1 a0_2 a1_0 a1_1 a1_2 a2 r w hu23 z0_1 gb771 w6 GW771 GE771 gb772 w7 GW772 GE772 NB771_772 NB772_771 w8 z0_2 A4 t774 t775 t776 t777 A10 hnb12 hnc12 z0_3 w15 z1_1 gb778 w16 z1_2 GW778 GE778 NB771_778 NB778_771 NB772_778 NB778_772 z1_3 z1_4 z1_5 hnb17 hnc17 hnb18 hnc18 z1_6 z1_7 z1_8 z1_9 z1_10 z1_11 z1_12 z1_13 z1_14 z1_15 z1_16 z1_17 z1_18 z1_19 z1_20 z1_21 z1_22 z1_23 z1_24 z1_25 z1_26 z1_27 z1_28 z1_29 z1_30 z1_31 z1_32 z1_33 z1_34 z1_35 z1_36 z1_37 z1_38 z1_39 z1_40 z1_41 z1_42 z1_43 z1_44 z1_45 z1_46 z1_47 z1_48 z1_49 z1_50 z1_51 z1_52 z1_53 z1_54 z1_55 z1_56 z1_57 z1_58 z1_59 z1_60 z1_61 z1_62 z1_63 z1_64 z1_65 z1_66 z1_67 z1_68 z1_69 z1_70 z1_71 z1_72 z1_73 z1_74 z1_75 z1_76 z1_77 z1_78 z1_79 z1_80 z1_81 z1_82 z1_83 z1_84 z1_85 z1_86 z1_87 z1_88 z1_89 z1_90 z1_91 z1_92 z1_93 z1_94 z1_95 z1_96 z1_97 z1_98 z1_99 z1_100 z1_101 z1_102 z1_103 z1_104 z1_105 z1_106 z1_107 z1_108 z1_109 z1_110 z1_111 z1_112 z1_113 z1_114 z1_115 z1_116 z1_117 z1_118 z1_119 z1_120 z1_121 z1_122 z1_123 z1_124 z1_125 z1_126 z1_127 z1_128 z1_129 z1_130 z1_131 z1_132 z1_133 z1_134 z1_135 z1_136 z1_137 z1_138 z1_139 z1_140 z1_141 z1_142 z1_143 z1_144 z1_145 z1_146 z1_147 z1_148 z1_149 z1_150 z1_151 z1_152 z1_153 z1_154 z1_155 z1_156 z1_157 kj20 HJ20 t785 t786 A49 w51 z1_158 gb783 gb784 w54 hS_ GW783 GE783 NB771_783 NB783_771 NB772_783 NB783_772 NB778_783 NB783_778 NB784_783 NB783_784 GW784 GE784 NB771_784 NB784_771 NB772_784 NB784_772 NB778_784 NB784_778 z1_159 z1_160 hHeld w61 hnb62 hnc62 hnb63 hnc63 hnb64 hnc64 hnb65 hnc65 hnb67 hnc67 hnb68 hnc68 hnb69 hnc69 w71 z2_1 z2_2 z2_3 z2_4 z2_5 z2_6 z2_7 z2_8 z2_9 z2_10 z2_11 z2_12 z2_13 z2_14 z2_15 z2_16 z2_17 z2_18 z2_19 z2_20 z2_21 z2_22 z2_23 z2_24 z2_25 z2_26 z2_27 z2_28 z2_29 z2_30 z2_31 z2_32 z2_33 z2_34 z2_35 z2_36 z2_37 z2_38 z2_39 z2_40 z2_41 z2_42 z2_43 z2_44 z2_45 z2_46 z2_47 z2_48 z2_49 z2_50 z2_51 z2_52 z2_53 z2_54 z2_55 z2_56 z2_57 z2_58 z2_59 z2_60 z2_61 z2_62 z2_63 z2_64 z2_65 z2_66 z2_67 z2_68 z2_69 z2_70 z2_71 z2_72 z2_73 z2_74 z2_75 z2_76 z2_77 z2_78 z2_79 z2_80 z2_81 z2_82 z2_83 z2_84 z2_85 z2_86 z2_87 z2_88 z2_89 z2_90 z2_91 z2_92 z2_93 z2_94 z2_95 z2_96 z2_97 z2_98 z2_99 z2_100 z2_101 z2_102 z2_103 z2_104 z2_105 z2_106 z2_107 z2_108 z2_109 z2_110 z2_111 z2_112 z2_113 z2_114 z2_115 z2_116 z2_117 z2_118 z2_119 z2_120 z2_121 z2_122 z2_123 z2_124 z2_125 z2_126 z2_127 z2_128 z2_129 z2_130 z2_131 z2_132 z2_133 z2_134 z2_135 z2_136 z2_137 z2_138 z2_139 z2_140 z2_141 z2_142 z2_143 z2_144 z2_145 z2_146 z2_147 z2_148 z2_149 z2_150 z2_151 z2_152 z2_153 z2_154 z2_155 z2_156 z2_157 z2_158 z2_159 kj49 HJ49 t788 t789 t790 t791 A116 hnb118 hnc118 hnb119 hnc119 hnb120 hnc120 hnb121 hnc121 hnb123 hnc123 hnb124 hnc124 hnb125 hnc125 z2_160 z2_161 w127 hb gb792 w128 BK792 GW792 GE792 NB771_792 NB792_771 NB772_792 NB792_772 NB778_792 NB792_778 NB783_792 NB792_783 NB784_792 NB792_784 BK771 BK772 BK778 BK783 BK784 HB hnb129 hnc129 hnb130 hnc130 hnb131 hnc131 hnb132 hnc132 hnb133 hnc133 z2_162 z2_163 z2_164 z2_165 z2_166 z2_167 z2_168 z2_169 wc u25 u26 u27 u28 u29 u30 u31 u32 u33 u34 u35 u36 u37 u38 u39 u40 u41 u42 u43 u44 u45 u46 u47 u48 u49 u50 u51 u52 u53 u54 u55 u56 u57 u58 u59 u60 u61 u62 u63 u64 u65 u66 u67 u68 u69 u70 u71 u72 u73 u74 u75 u76 u77 u78 u79 u80 u81 u82 u83 u84 u85 u86 u87 u88 u89 u90 u91 u92 u93 u94 u95 u96 u97 u98 u99 u100 u101 u102 u103 u104 u105 u106 u107 u108 u109 u110 u111 u112 u113 u114 u115 u116 u117 u118 u119 u120 u121 u122 u123 u124 u125 u126 u127 u128 u129 u130 u131 u132 u133 u134 u135 u136 u137 u138 u139 u140 u141 u142 u143 u144 u145 u146 u147 u148 u149 u150 u151 u152 u153 u154 u155 u156 u157 u158 u159 u160 u161 u162 u163 u164 u165 u166 u167 u168 u169 u170 u171 u172 u173 u174 u175 u176 hcut
         exact hrest2.out
       ·rw [if_neg c135] at H
        have c135b0 : (t791 == 0) = false := beq_eq_false_iff_ne.mpr c135
        have c135b1 : (t791 != 0) = true := bne_iff_ne.mpr c135
        (first | rw [c135b0] | (simp only [i64_w, i32_w]; rw [c135b0]) | rw [c135b1] | skip)
        have H' := Aside0.mk H
        clear H
        go_wp2
        go_meet
        case rel => exact ⟨_, H', ⟨by have := HJ20.out; have := HJ49.out; first | omega | exact Nat.le_refl _⟩, ⟨by refine blk_far ?_ NB771_792.out _; refine blk_far ?_ NB771_792.out _; refine blk_far ?_ NB771_792.out _; exact BK771.out⟩, ⟨by refine blk_far ?_ NB772_792.out _; refine blk_far ?_ NB772_792.out _; refine blk_far ?_ NB772_792.out _; exact BK772.out⟩, ⟨by refine blk_far ?_ NB778_792.out _; refine blk_far ?_ NB778_792.out _; refine blk_far ?_ NB778_792.out _; exact BK778.out⟩, ⟨by refine blk_far ?_ NB783_792.out _; refine blk_far ?_ NB783_792.out _; refine blk_far ?_ NB783_792.out _; exact BK783.out⟩, ⟨by refine blk_far ?_ NB784_792.out _; refine blk_far ?_ NB784_792.out _; refine blk_far ?_ NB784_792.out _; exact BK784.out⟩, ⟨by refine blk_put (cs := #[.bool t788, .string t789, .string (⟨#[]⟩ : ByteArray)]) ?_ 2 _ rfl; refine blk_put (cs := #[.bool t788, .string (⟨#[]⟩ : ByteArray), .string (⟨#[]⟩ : ByteArray)]) ?_ 1 _ rfl; refine blk_put (cs := #[.bool false, .string (⟨#[]⟩ : ByteArray), .string (⟨#[]⟩ : ByteArray)]) ?_ 0 _ rfl; exact BK792.out⟩, ⟨by repeat (first | (with_reducible first | exact HB.out | apply below_alloc | apply pw_below_drewN | apply below_drew1 | refine below_set ?_ GE771.out | refine below_set ?_ GE772.out | refine below_set ?_ GE778.out | refine below_set ?_ GE783.out | refine below_set ?_ GE784.out | refine below_set ?_ GE792.out) | exact HB.out)⟩⟩
      case rest =>
       clear HC117
       (try clear c9); (try clear c20); (try clear c115); (try clear hcz122_0); (try clear hcz122_1); (try clear hcz122_2); (try clear hcz126_0); (try clear hcz126_1); (try clear hcz126_2); (try clear hcz134_0); (try clear hcz134_1); (try clear hcz134_2); (try clear hcz66_0); (try clear hcz66_1); (try clear hcz66_2); (try clear hcz70_0); (try clear hcz70_1); (try clear hcz70_2); (try clear hfz122_0); (try clear hfz122_1); (try clear hfz122_2); (try clear hfz126_0); (try clear hfz126_1); (try clear hfz126_2); (try clear hfz134_0); (try clear hfz134_1); (try clear hfz134_2); (try clear hfz66_0); (try clear hfz66_1); (try clear hfz66_2); (try clear hfz70_0); (try clear hfz70_1); (try clear hfz70_2)
       rename_i z3_1 z3_2 z3_3 z3_4 z3_5 z3_6 z3_7 z3_8 z3_9 z3_10 z3_11 z3_12 z3_13 z3_14 z3_15 z3_16 z3_17 z3_18 z3_19 z3_20 z3_21 z3_22 z3_23 z3_24 z3_25 z3_26 z3_27 z3_28 z3_29 z3_30 z3_31 z3_32 z3_33 z3_34 z3_35 z3_36 z3_37 z3_38 z3_39 z3_40 z3_41 z3_42 z3_43 z3_44 z3_45 z3_46 z3_47 z3_48 z3_49 z3_50 z3_51 z3_52 z3_53 z3_54 z3_55 z3_56 z3_57 z3_58 z3_59 z3_60 z3_61 z3_62 z3_63 z3_64 z3_65 z3_66 z3_67 z3_68 z3_69 z3_70 z3_71 z3_72 z3_73 z3_74 z3_75 z3_76 z3_77 z3_78 z3_79 z3_80 z3_81 z3_82 z3_83 z3_84 z3_85 z3_86 z3_87 z3_88 z3_89 z3_90 z3_91 z3_92 z3_93 z3_94 z3_95 z3_96 z3_97 z3_98 z3_99 z3_100 z3_101 z3_102 z3_103 z3_104 z3_105 z3_106 z3_107 z3_108 z3_109 z3_110 z3_111 z3_112 z3_113 z3_114 z3_115 z3_116 z3_117 z3_118 z3_119 z3_120 z3_121 z3_122 z3_123 z3_124 z3_125 z3_126 z3_127 z3_128 z3_129 z3_130 z3_131 z3_132 z3_133 z3_134 z3_135 z3_136 z3_137 z3_138 z3_139 z3_140 z3_141 z3_142 z3_143 z3_144 z3_145 z3_146 z3_147 z3_148 z3_149 z3_150 z3_151 z3_152 z3_153 z3_154 z3_155 z3_156 z3_157 z3_158 z3_159 z3_160 z3_161
       revert k a0_0 a0_1 a0_2 a1_0 a1_1 a1_2 a2 r w hu23 z0_1 gb771 w6 GW771 GE771 gb772 w7 GW772 GE772 NB771_772 NB772_771 w8 z0_2 A4 t774 t775 t776 t777 A10 hnb12 hnc12 z0_3 w15 z1_1 gb778 w16 z1_2 GW778 GE778 NB771_778 NB778_771 NB772_778 NB778_772 z1_3 z1_4 z1_5 hnb17 hnc17 hnb18 hnc18 z1_6 z1_7 z1_8 z1_9 z1_10 z1_11 z1_12 z1_13 z1_14 z1_15 z1_16 z1_17 z1_18 z1_19 z1_20 z1_21 z1_22 z1_23 z1_24 z1_25 z1_26 z1_27 z1_28 z1_29 z1_30 z1_31 z1_32 z1_33 z1_34 z1_35 z1_36 z1_37 z1_38 z1_39 z1_40 z1_41 z1_42 z1_43 z1_44 z1_45 z1_46 z1_47 z1_48 z1_49 z1_50 z1_51 z1_52 z1_53 z1_54 z1_55 z1_56 z1_57 z1_58 z1_59 z1_60 z1_61 z1_62 z1_63 z1_64 z1_65 z1_66 z1_67 z1_68 z1_69 z1_70 z1_71 z1_72 z1_73 z1_74 z1_75 z1_76 z1_77 z1_78 z1_79 z1_80 z1_81 z1_82 z1_83 z1_84 z1_85 z1_86 z1_87 z1_88 z1_89 z1_90 z1_91 z1_92 z1_93 z1_94 z1_95 z1_96 z1_97 z1_98 z1_99 z1_100 z1_101 z1_102 z1_103 z1_104 z1_105 z1_106 z1_107 z1_108 z1_109 z1_110 z1_111 z1_112 z1_113 z1_114 z1_115 z1_116 z1_117 z1_118 z1_119 z1_120 z1_121 z1_122 z1_123 z1_124 z1_125 z1_126 z1_127 z1_128 z1_129 z1_130 z1_131 z1_132 z1_133 z1_134 z1_135 z1_136 z1_137 z1_138 z1_139 z1_140 z1_141 z1_142 z1_143 z1_144 z1_145 z1_146 z1_147 z1_148 z1_149 z1_150 z1_151 z1_152 z1_153 z1_154 z1_155 z1_156 z1_157 kj20 HJ20 t785 t786 A49 w51 z1_158 gb783 gb784 w54 hS_ GW783 GE783 NB771_783 NB783_771 NB772_783 NB783_772 NB778_783 NB783_778 NB784_783 NB783_784 GW784 GE784 NB771_784 NB784_771 NB772_784 NB784_772 NB778_784 NB784_778 z1_159 z1_160 hHeld w61 hnb62 hnc62 hnb63 hnc63 hnb64 hnc64 hnb65 hnc65 hnb67 hnc67 hnb68 hnc68 hnb69 hnc69 w71 z3_1 z3_2 z3_3 z3_4 z3_5 z3_6 z3_7 z3_8 z3_9 z3_10 z3_11 z3_12 z3_13 z3_14 z3_15 z3_16 z3_17 z3_18 z3_19 z3_20 z3_21 z3_22 z3_23 z3_24 z3_25 z3_26 z3_27 z3_28 z3_29 z3_30 z3_31 z3_32 z3_33 z3_34 z3_35 z3_36 z3_37 z3_38 z3_39 z3_40 z3_41 z3_42 z3_43 z3_44 z3_45 z3_46 z3_47 z3_48 z3_49 z3_50 z3_51 z3_52 z3_53 z3_54 z3_55 z3_56 z3_57 z3_58 z3_59 z3_60 z3_61 z3_62 z3_63 z3_64 z3_65 z3_66 z3_67 z3_68 z3_69 z3_70 z3_71 z3_72 z3_73 z3_74 z3_75 z3_76 z3_77 z3_78 z3_79 z3_80 z3_81 z3_82 z3_83 z3_84 z3_85 z3_86 z3_87 z3_88 z3_89 z3_90 z3_91 z3_92 z3_93 z3_94 z3_95 z3_96 z3_97 z3_98 z3_99 z3_100 z3_101 z3_102 z3_103 z3_104 z3_105 z3_106 z3_107 z3_108 z3_109 z3_110 z3_111 z3_112 z3_113 z3_114 z3_115 z3_116 z3_117 z3_118 z3_119 z3_120 z3_121 z3_122 z3_123 z3_124 z3_125 z3_126 z3_127 z3_128 z3_129 z3_130 z3_131 z3_132 z3_133 z3_134 z3_135 z3_136 z3_137 z3_138 z3_139 z3_140 z3_141 z3_142 z3_143 z3_144 z3_145 z3_146 z3_147 z3_148 z3_149 z3_150 z3_151 z3_152 z3_153 z3_154 z3_155 z3_156 z3_157 z3_158 z3_159 kj49 HJ49 t788 t789 t790 t791 A116 hnb118 hnc118 hnb119 hnc119 hnb120 hnc120 hnb121 hnc121 hnb123 hnc123 hnb124 hnc124 hnb125 hnc125 z3_160 z3_161 w127 hb gb792 w128 BK792 GW792 GE792 NB771_792 NB792_771 NB772_792 NB792_772 NB778_792 NB792_778 NB783_792 NB792_783 NB784_792 NB792_784 BK771 BK772 BK778 BK783 BK784 HB hnb129 hnc129 hnb130 hnc130 hnb131 hnc131 hnb132 hnc132 hnb133 hnc133 wc u6 u15 u16 u17 u18 u25 u26 u27 u28 u29 u30 u31 u32 u33 u34 u35 u36 u37 u38 u39 u40 u41 u42 u43 u44 u45 u46 u47 u48 u49 u50 u51 u52 u53 u54 u55 u56 u57 u58 u59 u60 u61 u62 u63 u64 u65 u66 u67 u68 u69 u70 u71 u72 u73 u74 u75 u76 u77 u78 u79 u80 u81 u82 u83 u84 u85 u86 u87 u88 u89 u90 u91 u92 u93 u94 u95 u96 u97 u98 u99 u100 u101 u102 u103 u104 u105 u106 u107 u108 u109 u110 u111 u112 u113 u114 u115 u116 u117 u118 u119 u120 u121 u122 u123 u124 u125 u126 u127 u128 u129 u130 u131 u132 u133 u134 u135 u136 u137 u138 u139 u140 u141 u142 u143 u144 u145 u146 u147 u148 u149 u150 u151 u152 u153 u154 u155 u156 u157 u158 u159 u160 u161 u162 u163 u164 u165 u166 u167 u168 u169 u170 u171 u172 u173 u174 u175 u176 hcut
       exact hrest3.out
set_option maxHeartbeats 0 in
set_option maxRecDepth 100000 in
theorem idiomlaw02_DecimalRest.calls_r2 : idiomlaw02_DecimalRest.calls_r1_s.1 := by
  intro k a0_0 a0_1 a0_2 a1_0 a1_1 a1_2 a2 r w hu23 z0_1 gb771 w6 GW771 GE771 gb772 w7 GW772 GE772 NB771_772 NB772_771 w8 z0_2 A4 t774 t775 t776 t777 A10 hnb12 hnc12 z0_3 w15 z1_1 gb778 w16 z1_2 GW778 GE778 NB771_778 NB778_771 NB772_778 NB778_772 z1_3 z1_4 z1_5 hnb17 hnc17 hnb18 hnc18 z1_6 z1_7 z1_8 z1_9 z1_10 z1_11 z1_12 z1_13 z1_14 z1_15 z1_16 z1_17 z1_18 z1_19 z1_20 z1_21 z1_22 z1_23 z1_24 z1_25 z1_26 z1_27 z1_28 z1_29 z1_30 z1_31 z1_32 z1_33 z1_34 z1_35 z1_36 z1_37 z1_38 z1_39 z1_40 z1_41 z1_42 z1_43 z1_44 z1_45 z1_46 z1_47 z1_48 z1_49 z1_50 z1_51 z1_52 z1_53 z1_54 z1_55 z1_56 z1_57 z1_58 z1_59 z1_60 z1_61 z1_62 z1_63 z1_64 z1_65 z1_66 z1_67 z1_68 z1_69 z1_70 z1_71 z1_72 z1_73 z1_74 z1_75 z1_76 z1_77 z1_78 z1_79 z1_80 z1_81 z1_82 z1_83 z1_84 z1_85 z1_86 z1_87 z1_88 z1_89 z1_90 z1_91 z1_92 z1_93 z1_94 z1_95 z1_96 z1_97 z1_98 z1_99 z1_100 z1_101 z1_102 z1_103 z1_104 z1_105 z1_106 z1_107 z1_108 z1_109 z1_110 z1_111 z1_112 z1_113 z1_114 z1_115 z1_116 z1_117 z1_118 z1_119 z1_120 z1_121 z1_122 z1_123 z1_124 z1_125 z1_126 z1_127 z1_128 z1_129 z1_130 z1_131 z1_132 z1_133 z1_134 z1_135 z1_136 z1_137 z1_138 z1_139 z1_140 z1_141 z1_142 z1_143 z1_144 z1_145 z1_146 z1_147 z1_148 z1_149 z1_150 z1_151 z1_152 z1_153 z1_154 z1_155 z1_156 z1_157 kj20 HJ20 t785 t786 A49 w51 z1_158 gb783 gb784 w54 hS_ GW783 GE783 NB771_783 NB783_771 NB772_783 NB783_772 NB778_783 NB783_778 NB784_783 NB783_784 GW784 GE784 NB771_784 NB784_771 NB772_784 NB784_772 NB778_784 NB784_778 z1_159 z1_160 hHeld w61 hnb62 hnc62 hnb63 hnc63 hnb64 hnc64 hnb65 hnc65 hnb67 hnc67 hnb68 hnc68 hnb69 hnc69 w71 z2_1 z2_2 z2_3 z2_4 z2_5 z2_6 z2_7 z2_8 z2_9 z2_10 z2_11 z2_12 z2_13 z2_14 z2_15 z2_16 z2_17 z2_18 z2_19 z2_20 z2_21 z2_22 z2_23 z2_24 z2_25 z2_26 z2_27 z2_28 z2_29 z2_30 z2_31 z2_32 z2_33 z2_34 z2_35 z2_36 z2_37 z2_38 z2_39 z2_40 z2_41 z2_42 z2_43 z2_44 z2_45 z2_46 z2_47 z2_48 z2_49 z2_50 z2_51 z2_52 z2_53 z2_54 z2_55 z2_56 z2_57 z2_58 z2_59 z2_60 z2_61 z2_62 z2_63 z2_64 z2_65 z2_66 z2_67 z2_68 z2_69 z2_70 z2_71 z2_72 z2_73 z2_74 z2_75 z2_76 z2_77 z2_78 z2_79 z2_80 z2_81 z2_82 z2_83 z2_84 z2_85 z2_86 z2_87 z2_88 z2_89 z2_90 z2_91 z2_92 z2_93 z2_94 z2_95 z2_96 z2_97 z2_98 z2_99 z2_100 z2_101 z2_102 z2_103 z2_104 z2_105 z2_106 z2_107 z2_108 z2_109 z2_110 z2_111 z2_112 z2_113 z2_114 z2_115 z2_116 z2_117 z2_118 z2_119 z2_120 z2_121 z2_122 z2_123 z2_124 z2_125 z2_126 z2_127 z2_128 z2_129 z2_130 z2_131 z2_132 z2_133 z2_134 z2_135 z2_136 z2_137 z2_138 z2_139 z2_140 z2_141 z2_142 z2_143 z2_144 z2_145 z2_146 z2_147 z2_148 z2_149 z2_150 z2_151 z2_152 z2_153 z2_154 z2_155 z2_156 z2_157 z2_158 z2_159 kj49 HJ49 t788 t789 t790 t791 A116 hnb118 hnc118 hnb119 hnc119 hnb120 hnc120 hnb121 hnc121 hnb123 hnc123 hnb124 hnc124 hnb125 hnc125 z2_160 z2_161 w127 hb gb792 w128 BK792 GW792 GE792 NB771_792 NB792_771 NB772_792 NB792_772 NB778_792 NB792_778 NB783_792 NB792_783 NB784_792 NB792_784 BK771 BK772 BK778 BK783 BK784 HB hnb129 hnc129 hnb130 hnc130 hnb131 hnc131 hnb132 hnc132 hnb133 hnc133 z2_162 z2_163 z2_164 z2_165 z2_166 z2_167 z2_168 z2_169 wc u25 u26 u27 u28 u29 u30 u31 u32 u33 u34 u35 u36 u37 u38 u39 u40 u41 u42 u43 u44 u45 u46 u47 u48 u49 u50 u51 u52 u53 u54 u55 u56 u57 u58 u59 u60 u61 u62 u63 u64 u65 u66 u67 u68 u69 u70 u71 u72 u73 u74 u75 u76 u77 u78 u79 u80 u81 u82 u83 u84 u85 u86 u87 u88 u89 u90 u91 u92 u93 u94 u95 u96 u97 u98 u99 u100 u101 u102 u103 u104 u105 u106 u107 u108 u109 u110 u111 u112 u113 u114 u115 u116 u117 u118 u119 u120 u121 u122 u123 u124 u125 u126 u127 u128 u129 u130 u131 u132 u133 u134 u135 u136 u137 u138 u139 u140 u141 u142 u143 u144 u145 u146 u147 u148 u149 u150 u151 u152 u153 u154 u155 u156 u157 u158 u159 u160 u161 u162 u163 u164 u165 u166 u167 u168 u169 u170 u171 u172 u173 u174 u175 u176 hcut
  obtain ⟨kq, x113_135, rfl, HA, HJ135, BK771, BK772, BK778, BK783, BK784, BK792, HB⟩ := hcut
  cases kq with
  | zero => exact absurd HA.out (by simp [idiomlaw02_DecimalRest.j2])
  | succ kj135 =>
   have H := HA.out
   clear HA
   simp only [idiomlaw02_DecimalRest.j2] at H
   by_cases c155 : x113_135 = true
   ·subst c155
    have H1 : (some false) = some r := by rw [if_pos rfl] at H; exact H
    clear H
    have H := H1
    clear H1
    obtain rfl := Option.some.inj H
    go_wp2
    go_ret
    exact ⟨by first | rfl | (simp [errW_none, errW_some] <;> rfl) | (simp [*, errW_none, errW_some] <;> rfl) | (simp [bne_nil_]; done), by repeat (first | (with_reducible first | exact HB.out | apply below_alloc | apply pw_below_drewN | apply below_drew1 | refine below_set ?_ GE771.out | refine below_set ?_ GE772.out | refine below_set ?_ GE778.out | refine below_set ?_ GE783.out | refine below_set ?_ GE784.out | refine below_set ?_ GE792.out) | exact HB.out)⟩
   ·replace c155 := Bool.eq_false_iff.mpr c155
    subst c155
    have H1 : ((decimal_Mul.f kj135 t788 t789 t790 a1_0 a1_1 a1_2).bind fun bt797 => (if bt797.2.2.2 = 0 then ((decimal_Add.f kj135 bt797.1 bt797.2.1 bt797.2.2.1 t774 t775 t776).bind fun bt802 => (if bt802.2.2.2 = 0 then ((idiomlaw02_great.f kj135 bt802.1 bt802.2.1 bt802.2.2.1 a0_0 a0_1 a0_2).bind fun t807 => (if t807 = true then (idiomlaw02_DecimalRest.j3 kj135 a2 a0_0 a0_1 a0_2 a1_0 a1_1 a1_2 t774 t775 t776) else (some false))) else (idiomlaw02_DecimalRest.j3 kj135 a2 a0_0 a0_1 a0_2 a1_0 a1_1 a1_2 t774 t775 t776))) else (idiomlaw02_DecimalRest.j3 kj135 a2 a0_0 a0_1 a0_2 a1_0 a1_1 a1_2 t774 t775 t776))) = some r := by rw [if_neg (show ¬ (false = true) by decide)] at H; exact H
    clear H
    have H := H1
    clear H1
    replace H := Option.bind_eq_some_iff.mp H
    obtain ⟨⟨t797, t798, t799, t800⟩, A1560, H⟩ := H
    try dsimp only at H
    have A156 := Aside0.mk A1560
    clear A1560
    have HF157 := Aside0.mk H
    clear H
    have hnb158 := NB792_771.out
    have hnc158 := NB771_792.out
    have hnb159 := NB792_772.out
    have hnc159 := NB772_792.out
    have hnb160 := NB792_778.out
    have hnc160 := NB778_792.out
    have hnb161 := NB792_783.out
    have hnc161 := NB783_792.out
    have hnb162 := NB792_784.out
    have hnc162 := NB784_792.out
    obtain ⟨hcz163_0, hcz163_1, hcz163_2, hfz163_0, hfz163_1, hfz163_2⟩ := BK792.c3
    have hnb164 := NB772_771.out
    have hnc164 := NB771_772.out
    have hnb165 := NB772_778.out
    have hnc165 := NB778_772.out
    have hnb166 := NB772_783.out
    have hnc166 := NB783_772.out
    have hnb167 := NB772_784.out
    have hnc167 := NB784_772.out
    obtain ⟨hcz168_0, hcz168_1, hcz168_2, hfz168_0, hfz168_1, hfz168_2⟩ := BK772.c3
    go_upto_if 121 with (first | ((with_reducible refine gate_callee (f := 35) rfl ?_); refine gL_ (some 117) Tryd.func35 #[.agg #[.bool t788, .string t789, .string t790], .agg #[.bool a1_0, .string a1_1, .string a1_2]] ?_; (with_reducible refine (decimal_Mul.calls kj135 t788 t789 t790 a1_0 a1_1 a1_2 t797 t798 t799 t800 _ A156.out).mono ?_); rintro e w169 ⟨rfl, hb⟩; refine ⟨_, rfl, ?_⟩; replace BK771 := BK771.bl hb; replace BK772 := BK772.bl hb; replace BK778 := BK778.bl hb; replace BK783 := BK783.bl hb; replace BK784 := BK784.bl hb; replace BK792 := BK792.bl hb; replace HB := Aside0.mk (below_step hb_ hb)) | ((with_reducible refine gate_dst (N := 15) rfl ?_); (try (refine gate_guard (by rfl) ?_; dsimp only)); refine box_event ?hg (N := 15) ?hd (cs := #[.bool false, .string (⟨#[]⟩ : ByteArray), .string (⟨#[]⟩ : ByteArray)]) (t := 23) ?hr ?_; (case hd => rfl); (case hg => rfl); (case hr => first | (go_simp; done) | (go_simp; rfl)); intro gb801 hg w170 hbox hb; have BK801 := Aside0.mk (hbox); have GW801 := Aside0.mk ((by rw [hg]; exact (below_size hb_) : w.heap.size ≤ gb801)); have GE801 := Aside0.mk ((by rw [hg]; exact (below_size hb_) : w.heap.size ≤ gb801)); have NB771_801 := BK771.nl hg; have NB801_771 := BK771.ng hg; have NB772_801 := BK772.nl hg; have NB801_772 := BK772.ng hg; have NB778_801 := BK778.nl hg; have NB801_778 := BK778.ng hg; have NB783_801 := BK783.nl hg; have NB801_783 := BK783.ng hg; have NB784_801 := BK784.nl hg; have NB801_784 := BK784.ng hg; have NB792_801 := BK792.nl hg; have NB801_792 := BK792.ng hg; replace BK771 := BK771.bl hb; replace BK772 := BK772.bl hb; replace BK778 := BK778.bl hb; replace BK783 := BK783.bl hb; replace BK784 := BK784.bl hb; replace BK792 := BK792.bl hb; replace HB := Aside0.mk (below_step hb_ hb); clear hb hbox hg; have hnb171 := NB801_771.out; have hnc171 := NB771_801.out; have hnb172 := NB801_772.out; have hnc172 := NB772_801.out; have hnb173 := NB801_778.out; have hnc173 := NB778_801.out; have hnb174 := NB801_783.out; have hnc174 := NB783_801.out; have hnb175 := NB801_784.out; have hnc175 := NB784_801.out; have hnb176 := NB801_792.out; have hnc176 := NB792_801.out; obtain ⟨hcz177_0, hcz177_1, hcz177_2, hfz177_0, hfz177_1, hfz177_2⟩ := BK801.c3))
    (try simp only [Act.put, List.setIfInBounds_toArray, List.set_cons_zero, List.set_cons_succ])
    have H := HF157.out
    clear HF157
    by_cases c178 : t800 = 0
    ·rw [if_pos c178] at H
     have c178b0 : (t800 == 0) = true := beq_iff_eq.mpr c178
     have c178b1 : (t800 != 0) = false := bne_eq_false_iff_eq.mpr c178
     clear c178
     (first | rw [c178b0] | (simp only [i64_w, i32_w]; rw [c178b0]) | rw [c178b1] | skip)
     replace H := Option.bind_eq_some_iff.mp H
     obtain ⟨⟨t802, t803, t804, t805⟩, A1790, H⟩ := H
     try dsimp only at H
     have A179 := Aside0.mk A1790
     clear A1790
     by_cases c180 : t805 = 0
     ·rw [if_pos c180] at H
      have c180b0 : (t805 == 0) = true := beq_iff_eq.mpr c180
      have c180b1 : (t805 != 0) = false := bne_eq_false_iff_eq.mpr c180
      clear c180
      replace H := Option.bind_eq_some_iff.mp H
      obtain ⟨t807, A1810, H⟩ := H
      try dsimp only at H
      have A181 := Aside0.mk A1810
      clear A1810
      have HF182 := Aside0.mk H
      clear H
      have hnb183 := NB801_771.out
      have hnc183 := NB771_801.out
      have hnb184 := NB801_772.out
      have hnc184 := NB772_801.out
      have hnb185 := NB801_778.out
      have hnc185 := NB778_801.out
      have hnb186 := NB801_783.out
      have hnc186 := NB783_801.out
      have hnb187 := NB801_784.out
      have hnc187 := NB784_801.out
      have hnb188 := NB801_792.out
      have hnc188 := NB792_801.out
      obtain ⟨hcz189_0, hcz189_1, hcz189_2, hfz189_0, hfz189_1, hfz189_2⟩ := BK801.c3
      have hnb190 := NB778_771.out
      have hnc190 := NB771_778.out
      have hnb191 := NB778_772.out
      have hnc191 := NB772_778.out
      have hnb192 := NB778_783.out
      have hnc192 := NB783_778.out
      have hnb193 := NB778_784.out
      have hnc193 := NB784_778.out
      have hnb194 := NB778_792.out
      have hnc194 := NB792_778.out
      obtain ⟨hcz195_0, hcz195_1, hcz195_2, hfz195_0, hfz195_1, hfz195_2⟩ := BK778.c3
      go_upto_if 135 with (first | ((with_reducible refine gate_callee (f := 31) rfl ?_); refine gL_ (some 125) Tryd.func31 #[.agg #[.bool t797, .string t798, .string t799], .agg #[.bool t774, .string t775, .string t776]] ?_; (with_reducible refine (decimal_Add.calls kj135 t797 t798 t799 t774 t775 t776 t802 t803 t804 t805 _ A179.out).mono ?_); rintro e w196 ⟨rfl, hb⟩; refine ⟨_, rfl, ?_⟩; replace BK771 := Aside0.mk (blk_below (g := gb771) (o := .cells #[.bool a0_0, .string a0_1, .string a0_2] 23 (0, 0)) (by refine blk_far ?_ NB771_801.out _; refine blk_far ?_ NB771_801.out _; refine blk_far ?_ NB771_801.out _; exact BK771.out) hb); replace BK772 := Aside0.mk (blk_below (g := gb772) (o := .cells #[.bool a1_0, .string a1_1, .string a1_2] 23 (0, 0)) (by refine blk_far ?_ NB772_801.out _; refine blk_far ?_ NB772_801.out _; refine blk_far ?_ NB772_801.out _; exact BK772.out) hb); replace BK778 := Aside0.mk (blk_below (g := gb778) (o := .cells #[.bool t774, .string t775, .string t776] 23 (0, 0)) (by refine blk_far ?_ NB778_801.out _; refine blk_far ?_ NB778_801.out _; refine blk_far ?_ NB778_801.out _; exact BK778.out) hb); replace BK783 := Aside0.mk (blk_below (g := gb783) (o := .cells #[.bool false, .string t775, .string t776] 23 (0, 0)) (by refine blk_far ?_ NB783_801.out _; refine blk_far ?_ NB783_801.out _; refine blk_far ?_ NB783_801.out _; exact BK783.out) hb); replace BK784 := Aside0.mk (blk_below (g := gb784) (o := .cells #[.bool false, .string a1_1, .string a1_2] 23 (0, 0)) (by refine blk_far ?_ NB784_801.out _; refine blk_far ?_ NB784_801.out _; refine blk_far ?_ NB784_801.out _; exact BK784.out) hb); replace BK792 := Aside0.mk (blk_below (g := gb792) (o := .cells #[.bool t788, .string t789, .string t790] 23 (0, 0)) (by refine blk_far ?_ NB792_801.out _; refine blk_far ?_ NB792_801.out _; refine blk_far ?_ NB792_801.out _; exact BK792.out) hb); replace BK801 := Aside0.mk (blk_below (g := gb801) (o := .cells #[.bool t797, .string t798, .string t799] 23 (0, 0)) (by refine blk_put (cs := #[.bool t797, .string t798, .string (⟨#[]⟩ : ByteArray)]) ?_ 2 _ rfl; refine blk_put (cs := #[.bool t797, .string (⟨#[]⟩ : ByteArray), .string (⟨#[]⟩ : ByteArray)]) ?_ 1 _ rfl; refine blk_put (cs := #[.bool false, .string (⟨#[]⟩ : ByteArray), .string (⟨#[]⟩ : ByteArray)]) ?_ 0 _ rfl; exact BK801.out) hb); replace HB := Aside0.mk (below_step hb_ hb)) | ((with_reducible refine gate_dst (N := 17) rfl ?_); (try (refine gate_guard (by rfl) ?_; dsimp only)); refine box_event ?hg (N := 17) ?hd (cs := #[.bool false, .string (⟨#[]⟩ : ByteArray), .string (⟨#[]⟩ : ByteArray)]) (t := 23) ?hr ?_; (case hd => rfl); (case hg => rfl); (case hr => first | (go_simp; done) | (go_simp; rfl)); intro gb806 hg w197 hbox hb; have BK806 := Aside0.mk (hbox); have GW806 := Aside0.mk ((by rw [hg]; exact (below_size hb_) : w.heap.size ≤ gb806)); have GE806 := Aside0.mk ((by rw [hg]; exact (below_size hb_) : w.heap.size ≤ gb806)); have NB771_806 := BK771.nl hg; have NB806_771 := BK771.ng hg; have NB772_806 := BK772.nl hg; have NB806_772 := BK772.ng hg; have NB778_806 := BK778.nl hg; have NB806_778 := BK778.ng hg; have NB783_806 := BK783.nl hg; have NB806_783 := BK783.ng hg; have NB784_806 := BK784.nl hg; have NB806_784 := BK784.ng hg; have NB792_806 := BK792.nl hg; have NB806_792 := BK792.ng hg; have NB801_806 := BK801.nl hg; have NB806_801 := BK801.ng hg; replace BK771 := BK771.bl hb; replace BK772 := BK772.bl hb; replace BK778 := BK778.bl hb; replace BK783 := BK783.bl hb; replace BK784 := BK784.bl hb; replace BK792 := BK792.bl hb; replace BK801 := BK801.bl hb; replace HB := Aside0.mk (below_step hb_ hb); clear hb hbox hg; have hnb198 := NB806_771.out; have hnc198 := NB771_806.out; have hnb199 := NB806_772.out; have hnc199 := NB772_806.out; have hnb200 := NB806_778.out; have hnc200 := NB778_806.out; have hnb201 := NB806_783.out; have hnc201 := NB783_806.out; have hnb202 := NB806_784.out; have hnc202 := NB784_806.out; have hnb203 := NB806_792.out; have hnc203 := NB792_806.out; have hnb204 := NB806_801.out; have hnc204 := NB801_806.out; obtain ⟨hcz205_0, hcz205_1, hcz205_2, hfz205_0, hfz205_1, hfz205_2⟩ := BK806.c3; have hnb206 := NB771_772.out; have hnc206 := NB772_771.out; have hnb207 := NB771_783.out; have hnc207 := NB783_771.out; have hnb208 := NB771_784.out; have hnc208 := NB784_771.out; have hnb209 := NB771_792.out; have hnc209 := NB792_771.out; obtain ⟨hcz210_0, hcz210_1, hcz210_2, hfz210_0, hfz210_1, hfz210_2⟩ := BK771.c3) | (go_at_call 38; (with_reducible refine (idiomlaw02_great.calls kj135 t802 t803 t804 a0_0 a0_1 a0_2 t807 _ A181.out).mono ?_); rintro e w211 ⟨rfl, hb⟩; replace BK771 := Aside0.mk (blk_below (g := gb771) (o := .cells #[.bool a0_0, .string a0_1, .string a0_2] 23 (0, 0)) (by refine blk_far ?_ NB771_806.out _; refine blk_far ?_ NB771_806.out _; refine blk_far ?_ NB771_806.out _; exact BK771.out) hb); replace BK772 := Aside0.mk (blk_below (g := gb772) (o := .cells #[.bool a1_0, .string a1_1, .string a1_2] 23 (0, 0)) (by refine blk_far ?_ NB772_806.out _; refine blk_far ?_ NB772_806.out _; refine blk_far ?_ NB772_806.out _; exact BK772.out) hb); replace BK778 := Aside0.mk (blk_below (g := gb778) (o := .cells #[.bool t774, .string t775, .string t776] 23 (0, 0)) (by refine blk_far ?_ NB778_806.out _; refine blk_far ?_ NB778_806.out _; refine blk_far ?_ NB778_806.out _; exact BK778.out) hb); replace BK783 := Aside0.mk (blk_below (g := gb783) (o := .cells #[.bool false, .string t775, .string t776] 23 (0, 0)) (by refine blk_far ?_ NB783_806.out _; refine blk_far ?_ NB783_806.out _; refine blk_far ?_ NB783_806.out _; exact BK783.out) hb); replace BK784 := Aside0.mk (blk_below (g := gb784) (o := .cells #[.bool false, .string a1_1, .string a1_2] 23 (0, 0)) (by refine blk_far ?_ NB784_806.out _; refine blk_far ?_ NB784_806.out _; refine blk_far ?_ NB784_806.out _; exact BK784.out) hb); replace BK792 := Aside0.mk (blk_below (g := gb792) (o := .cells #[.bool t788, .string t789, .string t790] 23 (0, 0)) (by refine blk_far ?_ NB792_806.out _; refine blk_far ?_ NB792_806.out _; refine blk_far ?_ NB792_806.out _; exact BK792.out) hb); replace BK801 := Aside0.mk (blk_below (g := gb801) (o := .cells #[.bool t797, .string t798, .string t799] 23 (0, 0)) (by refine blk_far ?_ NB801_806.out _; refine blk_far ?_ NB801_806.out _; refine blk_far ?_ NB801_806.out _; exact BK801.out) hb); replace BK806 := Aside0.mk (blk_below (g := gb806) (o := .cells #[.bool t802, .string t803, .string t804] 23 (0, 0)) (by refine blk_put (cs := #[.bool t802, .string t803, .string (⟨#[]⟩ : ByteArray)]) ?_ 2 _ rfl; refine blk_put (cs := #[.bool t802, .string (⟨#[]⟩ : ByteArray), .string (⟨#[]⟩ : ByteArray)]) ?_ 1 _ rfl; refine blk_put (cs := #[.bool false, .string (⟨#[]⟩ : ByteArray), .string (⟨#[]⟩ : ByteArray)]) ?_ 0 _ rfl; exact BK806.out) hb); replace HB := Aside0.mk (below_step hb_ hb)))
      (try simp only [Act.put, List.setIfInBounds_toArray, List.set_cons_zero, List.set_cons_succ])
      have H := HF182.out
      clear HF182
      by_cases c212 : t807 = true
      ·subst c212
       have H1 : (idiomlaw02_DecimalRest.j3 kj135 a2 a0_0 a0_1 a0_2 a1_0 a1_1 a1_2 t774 t775 t776) = some r := by rw [if_pos rfl] at H; exact H
       clear H
       have H := H1
       clear H1
       have H' := Aside0.mk H
       clear H
       go_wp2
       go_meet
       case rel => exact ⟨_, H', ⟨by have := HJ20.out; have := HJ49.out; have := HJ135.out; first | omega | exact Nat.le_refl _⟩, ⟨by exact BK771.out⟩, ⟨by exact BK772.out⟩, ⟨by exact BK778.out⟩, ⟨by exact BK783.out⟩, ⟨by exact BK784.out⟩, ⟨by exact BK792.out⟩, ⟨by repeat (first | (with_reducible first | exact HB.out | apply below_alloc | apply pw_below_drewN | apply below_drew1 | refine below_set ?_ GE771.out | refine below_set ?_ GE772.out | refine below_set ?_ GE778.out | refine below_set ?_ GE783.out | refine below_set ?_ GE784.out | refine below_set ?_ GE792.out | refine below_set ?_ GE801.out | refine below_set ?_ GE806.out) | exact HB.out)⟩⟩
      ·replace c212 := Bool.eq_false_iff.mpr c212
       subst c212
       have H1 : (some false) = some r := by rw [if_neg (show ¬ (false = true) by decide)] at H; exact H
       clear H
       have H := H1
       clear H1
       obtain rfl := Option.some.inj H
       go_wp2
       go_ret
       exact ⟨by first | rfl | (simp [errW_none, errW_some] <;> rfl) | (simp [*, errW_none, errW_some] <;> rfl) | (simp [bne_nil_]; done), by repeat (first | (with_reducible first | exact HB.out | apply below_alloc | apply pw_below_drewN | apply below_drew1 | refine below_set ?_ GE771.out | refine below_set ?_ GE772.out | refine below_set ?_ GE778.out | refine below_set ?_ GE783.out | refine below_set ?_ GE784.out | refine below_set ?_ GE792.out | refine below_set ?_ GE801.out | refine below_set ?_ GE806.out) | exact HB.out)⟩
     ·rw [if_neg c180] at H
      have c180b0 : (t805 == 0) = false := beq_eq_false_iff_ne.mpr c180
      have c180b1 : (t805 != 0) = true := bne_iff_ne.mpr c180
      have H' := Aside0.mk H
      clear H
      have hnb213 := NB801_771.out
      have hnc213 := NB771_801.out
      have hnb214 := NB801_772.out
      have hnc214 := NB772_801.out
      have hnb215 := NB801_778.out
      have hnc215 := NB778_801.out
      have hnb216 := NB801_783.out
      have hnc216 := NB783_801.out
      have hnb217 := NB801_784.out
      have hnc217 := NB784_801.out
      have hnb218 := NB801_792.out
      have hnc218 := NB792_801.out
      obtain ⟨hcz219_0, hcz219_1, hcz219_2, hfz219_0, hfz219_1, hfz219_2⟩ := BK801.c3
      have hnb220 := NB778_771.out
      have hnc220 := NB771_778.out
      have hnb221 := NB778_772.out
      have hnc221 := NB772_778.out
      have hnb222 := NB778_783.out
      have hnc222 := NB783_778.out
      have hnb223 := NB778_784.out
      have hnc223 := NB784_778.out
      have hnb224 := NB778_792.out
      have hnc224 := NB792_778.out
      obtain ⟨hcz225_0, hcz225_1, hcz225_2, hfz225_0, hfz225_1, hfz225_2⟩ := BK778.c3
      go_wp2_with (first | ((with_reducible refine gate_callee (f := 31) rfl ?_); refine gL_ (some 125) Tryd.func31 #[.agg #[.bool t797, .string t798, .string t799], .agg #[.bool t774, .string t775, .string t776]] ?_; (with_reducible refine (decimal_Add.calls kj135 t797 t798 t799 t774 t775 t776 t802 t803 t804 t805 _ A179.out).mono ?_); rintro e w226 ⟨rfl, hb⟩; refine ⟨_, rfl, ?_⟩; replace BK771 := Aside0.mk (blk_below (g := gb771) (o := .cells #[.bool a0_0, .string a0_1, .string a0_2] 23 (0, 0)) (by refine blk_far ?_ NB771_801.out _; refine blk_far ?_ NB771_801.out _; refine blk_far ?_ NB771_801.out _; exact BK771.out) hb); replace BK772 := Aside0.mk (blk_below (g := gb772) (o := .cells #[.bool a1_0, .string a1_1, .string a1_2] 23 (0, 0)) (by refine blk_far ?_ NB772_801.out _; refine blk_far ?_ NB772_801.out _; refine blk_far ?_ NB772_801.out _; exact BK772.out) hb); replace BK778 := Aside0.mk (blk_below (g := gb778) (o := .cells #[.bool t774, .string t775, .string t776] 23 (0, 0)) (by refine blk_far ?_ NB778_801.out _; refine blk_far ?_ NB778_801.out _; refine blk_far ?_ NB778_801.out _; exact BK778.out) hb); replace BK783 := Aside0.mk (blk_below (g := gb783) (o := .cells #[.bool false, .string t775, .string t776] 23 (0, 0)) (by refine blk_far ?_ NB783_801.out _; refine blk_far ?_ NB783_801.out _; refine blk_far ?_ NB783_801.out _; exact BK783.out) hb); replace BK784 := Aside0.mk (blk_below (g := gb784) (o := .cells #[.bool false, .string a1_1, .string a1_2] 23 (0, 0)) (by refine blk_far ?_ NB784_801.out _; refine blk_far ?_ NB784_801.out _; refine blk_far ?_ NB784_801.out _; exact BK784.out) hb); replace BK792 := Aside0.mk (blk_below (g := gb792) (o := .cells #[.bool t788, .string t789, .string t790] 23 (0, 0)) (by refine blk_far ?_ NB792_801.out _; refine blk_far ?_ NB792_801.out _; refine blk_far ?_ NB792_801.out _; exact BK792.out) hb); replace BK801 := Aside0.mk (blk_below (g := gb801) (o := .cells #[.bool t797, .string t798, .string t799] 23 (0, 0)) (by refine blk_put (cs := #[.bool t797, .string t798, .string (⟨#[]⟩ : ByteArray)]) ?_ 2 _ rfl; refine blk_put (cs := #[.bool t797, .string (⟨#[]⟩ : ByteArray), .string (⟨#[]⟩ : ByteArray)]) ?_ 1 _ rfl; refine blk_put (cs := #[.bool false, .string (⟨#[]⟩ : ByteArray), .string (⟨#[]⟩ : ByteArray)]) ?_ 0 _ rfl; exact BK801.out) hb); replace HB := Aside0.mk (below_step hb_ hb)) | ((with_reducible refine gate_dst (N := 17) rfl ?_); (try (refine gate_guard (by rfl) ?_; dsimp only)); refine box_event ?hg (N := 17) ?hd (cs := #[.bool false, .string (⟨#[]⟩ : ByteArray), .string (⟨#[]⟩ : ByteArray)]) (t := 23) ?hr ?_; (case hd => rfl); (case hg => rfl); (case hr => first | (go_simp; done) | (go_simp; rfl)); intro gb806 hg w227 hbox hb; have BK806 := Aside0.mk (hbox); have GW806 := Aside0.mk ((by rw [hg]; exact (below_size hb_) : w.heap.size ≤ gb806)); have GE806 := Aside0.mk ((by rw [hg]; exact (below_size hb_) : w.heap.size ≤ gb806)); have NB771_806 := BK771.nl hg; have NB806_771 := BK771.ng hg; have NB772_806 := BK772.nl hg; have NB806_772 := BK772.ng hg; have NB778_806 := BK778.nl hg; have NB806_778 := BK778.ng hg; have NB783_806 := BK783.nl hg; have NB806_783 := BK783.ng hg; have NB784_806 := BK784.nl hg; have NB806_784 := BK784.ng hg; have NB792_806 := BK792.nl hg; have NB806_792 := BK792.ng hg; have NB801_806 := BK801.nl hg; have NB806_801 := BK801.ng hg; replace BK771 := BK771.bl hb; replace BK772 := BK772.bl hb; replace BK778 := BK778.bl hb; replace BK783 := BK783.bl hb; replace BK784 := BK784.bl hb; replace BK792 := BK792.bl hb; replace BK801 := BK801.bl hb; replace HB := Aside0.mk (below_step hb_ hb); clear hb hbox hg; have hnb228 := NB806_771.out; have hnc228 := NB771_806.out; have hnb229 := NB806_772.out; have hnc229 := NB772_806.out; have hnb230 := NB806_778.out; have hnc230 := NB778_806.out; have hnb231 := NB806_783.out; have hnc231 := NB783_806.out; have hnb232 := NB806_784.out; have hnc232 := NB784_806.out; have hnb233 := NB806_792.out; have hnc233 := NB792_806.out; have hnb234 := NB806_801.out; have hnc234 := NB801_806.out; obtain ⟨hcz235_0, hcz235_1, hcz235_2, hfz235_0, hfz235_1, hfz235_2⟩ := BK806.c3))
      go_meet
      case rel => exact ⟨_, H', ⟨by have := HJ20.out; have := HJ49.out; have := HJ135.out; first | omega | exact Nat.le_refl _⟩, ⟨by refine blk_far ?_ NB771_806.out _; refine blk_far ?_ NB771_806.out _; refine blk_far ?_ NB771_806.out _; exact BK771.out⟩, ⟨by refine blk_far ?_ NB772_806.out _; refine blk_far ?_ NB772_806.out _; refine blk_far ?_ NB772_806.out _; exact BK772.out⟩, ⟨by refine blk_far ?_ NB778_806.out _; refine blk_far ?_ NB778_806.out _; refine blk_far ?_ NB778_806.out _; exact BK778.out⟩, ⟨by refine blk_far ?_ NB783_806.out _; refine blk_far ?_ NB783_806.out _; refine blk_far ?_ NB783_806.out _; exact BK783.out⟩, ⟨by refine blk_far ?_ NB784_806.out _; refine blk_far ?_ NB784_806.out _; refine blk_far ?_ NB784_806.out _; exact BK784.out⟩, ⟨by refine blk_far ?_ NB792_806.out _; refine blk_far ?_ NB792_806.out _; refine blk_far ?_ NB792_806.out _; exact BK792.out⟩, ⟨by repeat (first | (with_reducible first | exact HB.out | apply below_alloc | apply pw_below_drewN | apply below_drew1 | refine below_set ?_ GE771.out | refine below_set ?_ GE772.out | refine below_set ?_ GE778.out | refine below_set ?_ GE783.out | refine below_set ?_ GE784.out | refine below_set ?_ GE792.out | refine below_set ?_ GE801.out | refine below_set ?_ GE806.out) | exact HB.out)⟩⟩
    ·rw [if_neg c178] at H
     have c178b0 : (t800 == 0) = false := beq_eq_false_iff_ne.mpr c178
     have c178b1 : (t800 != 0) = true := bne_iff_ne.mpr c178
     (first | rw [c178b0] | (simp only [i64_w, i32_w]; rw [c178b0]) | rw [c178b1] | skip)
     have H' := Aside0.mk H
     clear H
     go_wp2
     go_meet
     case rel => exact ⟨_, H', ⟨by have := HJ20.out; have := HJ49.out; have := HJ135.out; first | omega | exact Nat.le_refl _⟩, ⟨by refine blk_far ?_ NB771_801.out _; refine blk_far ?_ NB771_801.out _; refine blk_far ?_ NB771_801.out _; exact BK771.out⟩, ⟨by refine blk_far ?_ NB772_801.out _; refine blk_far ?_ NB772_801.out _; refine blk_far ?_ NB772_801.out _; exact BK772.out⟩, ⟨by refine blk_far ?_ NB778_801.out _; refine blk_far ?_ NB778_801.out _; refine blk_far ?_ NB778_801.out _; exact BK778.out⟩, ⟨by refine blk_far ?_ NB783_801.out _; refine blk_far ?_ NB783_801.out _; refine blk_far ?_ NB783_801.out _; exact BK783.out⟩, ⟨by refine blk_far ?_ NB784_801.out _; refine blk_far ?_ NB784_801.out _; refine blk_far ?_ NB784_801.out _; exact BK784.out⟩, ⟨by refine blk_far ?_ NB792_801.out _; refine blk_far ?_ NB792_801.out _; refine blk_far ?_ NB792_801.out _; exact BK792.out⟩, ⟨by repeat (first | (with_reducible first | exact HB.out | apply below_alloc | apply pw_below_drewN | apply below_drew1 | refine below_set ?_ GE771.out | refine below_set ?_ GE772.out | refine below_set ?_ GE778.out | refine below_set ?_ GE783.out | refine below_set ?_ GE784.out | refine below_set ?_ GE792.out | refine below_set ?_ GE801.out) | exact HB.out)⟩⟩
set_option maxHeartbeats 0 in
set_option maxRecDepth 100000 in
def idiomlaw02_DecimalRest.calls_r3_s : PSigma fun T4 : Prop => idiomlaw02_DecimalRest.Kept T4 → (idiomlaw02_DecimalRest.calls_r1_s.2.1) := by
  apply PSigma.mk
  case snd =>
   intro hrest4
   intro k a0_0 a0_1 a0_2 a1_0 a1_1 a1_2 a2 r w hu23 z0_1 gb771 w6 GW771 GE771 gb772 w7 GW772 GE772 NB771_772 NB772_771 w8 z0_2 A4 t774 t775 t776 t777 A10 hnb12 hnc12 z0_3 w15 z1_1 gb778 w16 z1_2 GW778 GE778 NB771_778 NB778_771 NB772_778 NB778_772 z1_3 z1_4 z1_5 hnb17 hnc17 hnb18 hnc18 z1_6 z1_7 z1_8 z1_9 z1_10 z1_11 z1_12 z1_13 z1_14 z1_15 z1_16 z1_17 z1_18 z1_19 z1_20 z1_21 z1_22 z1_23 z1_24 z1_25 z1_26 z1_27 z1_28 z1_29 z1_30 z1_31 z1_32 z1_33 z1_34 z1_35 z1_36 z1_37 z1_38 z1_39 z1_40 z1_41 z1_42 z1_43 z1_44 z1_45 z1_46 z1_47 z1_48 z1_49 z1_50 z1_51 z1_52 z1_53 z1_54 z1_55 z1_56 z1_57 z1_58 z1_59 z1_60 z1_61 z1_62 z1_63 z1_64 z1_65 z1_66 z1_67 z1_68 z1_69 z1_70 z1_71 z1_72 z1_73 z1_74 z1_75 z1_76 z1_77 z1_78 z1_79 z1_80 z1_81 z1_82 z1_83 z1_84 z1_85 z1_86 z1_87 z1_88 z1_89 z1_90 z1_91 z1_92 z1_93 z1_94 z1_95 z1_96 z1_97 z1_98 z1_99 z1_100 z1_101 z1_102 z1_103 z1_104 z1_105 z1_106 z1_107 z1_108 z1_109 z1_110 z1_111 z1_112 z1_113 z1_114 z1_115 z1_116 z1_117 z1_118 z1_119 z1_120 z1_121 z1_122 z1_123 z1_124 z1_125 z1_126 z1_127 z1_128 z1_129 z1_130 z1_131 z1_132 z1_133 z1_134 z1_135 z1_136 z1_137 z1_138 z1_139 z1_140 z1_141 z1_142 z1_143 z1_144 z1_145 z1_146 z1_147 z1_148 z1_149 z1_150 z1_151 z1_152 z1_153 z1_154 z1_155 z1_156 z1_157 kj20 HJ20 t785 t786 A49 w51 z1_158 gb783 gb784 w54 hS_ GW783 GE783 NB771_783 NB783_771 NB772_783 NB783_772 NB778_783 NB783_778 NB784_783 NB783_784 GW784 GE784 NB771_784 NB784_771 NB772_784 NB784_772 NB778_784 NB784_778 z1_159 z1_160 hHeld w61 hnb62 hnc62 hnb63 hnc63 hnb64 hnc64 hnb65 hnc65 hnb67 hnc67 hnb68 hnc68 hnb69 hnc69 w71 z3_1 z3_2 z3_3 z3_4 z3_5 z3_6 z3_7 z3_8 z3_9 z3_10 z3_11 z3_12 z3_13 z3_14 z3_15 z3_16 z3_17 z3_18 z3_19 z3_20 z3_21 z3_22 z3_23 z3_24 z3_25 z3_26 z3_27 z3_28 z3_29 z3_30 z3_31 z3_32 z3_33 z3_34 z3_35 z3_36 z3_37 z3_38 z3_39 z3_40 z3_41 z3_42 z3_43 z3_44 z3_45 z3_46 z3_47 z3_48 z3_49 z3_50 z3_51 z3_52 z3_53 z3_54 z3_55 z3_56 z3_57 z3_58 z3_59 z3_60 z3_61 z3_62 z3_63 z3_64 z3_65 z3_66 z3_67 z3_68 z3_69 z3_70 z3_71 z3_72 z3_73 z3_74 z3_75 z3_76 z3_77 z3_78 z3_79 z3_80 z3_81 z3_82 z3_83 z3_84 z3_85 z3_86 z3_87 z3_88 z3_89 z3_90 z3_91 z3_92 z3_93 z3_94 z3_95 z3_96 z3_97 z3_98 z3_99 z3_100 z3_101 z3_102 z3_103 z3_104 z3_105 z3_106 z3_107 z3_108 z3_109 z3_110 z3_111 z3_112 z3_113 z3_114 z3_115 z3_116 z3_117 z3_118 z3_119 z3_120 z3_121 z3_122 z3_123 z3_124 z3_125 z3_126 z3_127 z3_128 z3_129 z3_130 z3_131 z3_132 z3_133 z3_134 z3_135 z3_136 z3_137 z3_138 z3_139 z3_140 z3_141 z3_142 z3_143 z3_144 z3_145 z3_146 z3_147 z3_148 z3_149 z3_150 z3_151 z3_152 z3_153 z3_154 z3_155 z3_156 z3_157 z3_158 z3_159 kj49 HJ49 t788 t789 t790 t791 A116 hnb118 hnc118 hnb119 hnc119 hnb120 hnc120 hnb121 hnc121 hnb123 hnc123 hnb124 hnc124 hnb125 hnc125 z3_160 z3_161 w127 hb gb792 w128 BK792 GW792 GE792 NB771_792 NB792_771 NB772_792 NB792_772 NB778_792 NB792_778 NB783_792 NB792_783 NB784_792 NB792_784 BK771 BK772 BK778 BK783 BK784 HB hnb129 hnc129 hnb130 hnc130 hnb131 hnc131 hnb132 hnc132 hnb133 hnc133 wc u6 u15 u16 u17 u18 u25 u26 u27 u28 u29 u30 u31 u32 u33 u34 u35 u36 u37 u38 u39 u40 u41 u42 u43 u44 u45 u46 u47 u48 u49 u50 u51 u52 u53 u54 u55 u56 u57 u58 u59 u60 u61 u62 u63 u64 u65 u66 u67 u68 u69 u70 u71 u72 u73 u74 u75 u76 u77 u78 u79 u80 u81 u82 u83 u84 u85 u86 u87 u88 u89 u90 u91 u92 u93 u94 u95 u96 u97 u98 u99 u100 u101 u102 u103 u104 u105 u106 u107 u108 u109 u110 u111 u112 u113 u114 u115 u116 u117 u118 u119 u120 u121 u122 u123 u124 u125 u126 u127 u128 u129 u130 u131 u132 u133 u134 u135 u136 u137 u138 u139 u140 u141 u142 u143 u144 u145 u146 u147 u148 u149 u150 u151 u152 u153 u154 u155 u156 u157 u158 u159 u160 u161 u162 u163 u164 u165 u166 u167 u168 u169 u170 u171 u172 u173 u174 u175 u176 hcut
   obtain ⟨kq, HA, HJ116, BK771, BK772, BK778, BK783, BK784, BK792, HB⟩ := hcut
   cases kq with
   | zero => exact absurd HA.out (by simp [idiomlaw02_DecimalRest.j3])
   | succ kj116 =>
    have H := HA.out
    clear HA
    simp only [idiomlaw02_DecimalRest.j3] at H
    replace H := Option.bind_eq_some_iff.mp H
    obtain ⟨⟨t808, t809, t810, t811⟩, A2360, H⟩ := H
    try dsimp only at H
    have A236 := Aside0.mk A2360
    clear A2360
    replace H := Option.bind_eq_some_iff.mp H
    obtain ⟨⟨t813, t814, t815, t816⟩, A2370, H⟩ := H
    try dsimp only at H
    have A237 := Aside0.mk A2370
    clear A2370
    have HC238 := Aside0.mk H
    clear H
    have hnb239 := NB771_772.out
    have hnc239 := NB772_771.out
    have hnb240 := NB771_778.out
    have hnc240 := NB778_771.out
    have hnb241 := NB771_783.out
    have hnc241 := NB783_771.out
    have hnb242 := NB771_784.out
    have hnc242 := NB784_771.out
    have hnb243 := NB771_792.out
    have hnc243 := NB792_771.out
    obtain ⟨hcz244_0, hcz244_1, hcz244_2, hfz244_0, hfz244_1, hfz244_2⟩ := BK771.c3
    go_upto_region 24 with (first | ((with_reducible refine gate_callee (f := 39) rfl ?_); refine gL_ (some 139) Tryd.func39 #[.agg #[.bool a0_0, .string a0_1, .string a0_2], .int .i64 a2] ?_; (with_reducible refine (decimal_Shift.calls kj116 a0_0 a0_1 a0_2 a2 t808 t809 t810 t811 _ A236.out).mono ?_); rintro e w245 ⟨rfl, hb⟩; refine ⟨_, rfl, ?_⟩; replace BK771 := BK771.bl hb; replace BK772 := BK772.bl hb; replace BK778 := BK778.bl hb; replace BK783 := BK783.bl hb; replace BK784 := BK784.bl hb; replace BK792 := BK792.bl hb; replace HB := Aside0.mk (below_step hb_ hb)) | ((with_reducible refine gate_dst (N := 19) rfl ?_); (try (refine gate_guard (by rfl) ?_; dsimp only)); refine box_event ?hg (N := 19) ?hd (cs := #[.bool false, .string (⟨#[]⟩ : ByteArray), .string (⟨#[]⟩ : ByteArray)]) (t := 23) ?hr ?_; (case hd => rfl); (case hg => rfl); (case hr => first | (go_simp; done) | (go_simp; rfl)); intro gb812 hg w246 hbox hb; have BK812 := Aside0.mk (hbox); have GW812 := Aside0.mk ((by rw [hg]; exact (below_size hb_) : w.heap.size ≤ gb812)); have GE812 := Aside0.mk ((by rw [hg]; exact (below_size hb_) : w.heap.size ≤ gb812)); have NB771_812 := BK771.nl hg; have NB812_771 := BK771.ng hg; have NB772_812 := BK772.nl hg; have NB812_772 := BK772.ng hg; have NB778_812 := BK778.nl hg; have NB812_778 := BK778.ng hg; have NB783_812 := BK783.nl hg; have NB812_783 := BK783.ng hg; have NB784_812 := BK784.nl hg; have NB812_784 := BK784.ng hg; have NB792_812 := BK792.nl hg; have NB812_792 := BK792.ng hg; replace BK771 := BK771.bl hb; replace BK772 := BK772.bl hb; replace BK778 := BK778.bl hb; replace BK783 := BK783.bl hb; replace BK784 := BK784.bl hb; replace BK792 := BK792.bl hb; replace HB := Aside0.mk (below_step hb_ hb); clear hb hbox hg; have hnb247 := NB812_771.out; have hnc247 := NB771_812.out; have hnb248 := NB812_772.out; have hnc248 := NB772_812.out; have hnb249 := NB812_778.out; have hnc249 := NB778_812.out; have hnb250 := NB812_783.out; have hnc250 := NB783_812.out; have hnb251 := NB812_784.out; have hnc251 := NB784_812.out; have hnb252 := NB812_792.out; have hnc252 := NB792_812.out; obtain ⟨hcz253_0, hcz253_1, hcz253_2, hfz253_0, hfz253_1, hfz253_2⟩ := BK812.c3; have hnb254 := NB772_778.out; have hnc254 := NB778_772.out; have hnb255 := NB772_783.out; have hnc255 := NB783_772.out; have hnb256 := NB772_784.out; have hnc256 := NB784_772.out; have hnb257 := NB772_792.out; have hnc257 := NB792_772.out; obtain ⟨hcz258_0, hcz258_1, hcz258_2, hfz258_0, hfz258_1, hfz258_2⟩ := BK772.c3) | ((with_reducible refine gate_callee (f := 39) rfl ?_); refine gL_ (some 145) Tryd.func39 #[.agg #[.bool a1_0, .string a1_1, .string a1_2], .int .i64 a2] ?_; (with_reducible refine (decimal_Shift.calls kj116 a1_0 a1_1 a1_2 a2 t813 t814 t815 t816 _ A237.out).mono ?_); rintro e w259 ⟨rfl, hb⟩; refine ⟨_, rfl, ?_⟩; replace BK771 := Aside0.mk (blk_below (g := gb771) (o := .cells #[.bool a0_0, .string a0_1, .string a0_2] 23 (0, 0)) (by refine blk_far ?_ NB771_812.out _; refine blk_far ?_ NB771_812.out _; refine blk_far ?_ NB771_812.out _; exact BK771.out) hb); replace BK772 := Aside0.mk (blk_below (g := gb772) (o := .cells #[.bool a1_0, .string a1_1, .string a1_2] 23 (0, 0)) (by refine blk_far ?_ NB772_812.out _; refine blk_far ?_ NB772_812.out _; refine blk_far ?_ NB772_812.out _; exact BK772.out) hb); replace BK778 := Aside0.mk (blk_below (g := gb778) (o := .cells #[.bool t774, .string t775, .string t776] 23 (0, 0)) (by refine blk_far ?_ NB778_812.out _; refine blk_far ?_ NB778_812.out _; refine blk_far ?_ NB778_812.out _; exact BK778.out) hb); replace BK783 := Aside0.mk (blk_below (g := gb783) (o := .cells #[.bool false, .string t775, .string t776] 23 (0, 0)) (by refine blk_far ?_ NB783_812.out _; refine blk_far ?_ NB783_812.out _; refine blk_far ?_ NB783_812.out _; exact BK783.out) hb); replace BK784 := Aside0.mk (blk_below (g := gb784) (o := .cells #[.bool false, .string a1_1, .string a1_2] 23 (0, 0)) (by refine blk_far ?_ NB784_812.out _; refine blk_far ?_ NB784_812.out _; refine blk_far ?_ NB784_812.out _; exact BK784.out) hb); replace BK792 := Aside0.mk (blk_below (g := gb792) (o := .cells #[.bool t788, .string t789, .string t790] 23 (0, 0)) (by refine blk_far ?_ NB792_812.out _; refine blk_far ?_ NB792_812.out _; refine blk_far ?_ NB792_812.out _; exact BK792.out) hb); replace BK812 := Aside0.mk (blk_below (g := gb812) (o := .cells #[.bool t808, .string t809, .string t810] 23 (0, 0)) (by refine blk_put (cs := #[.bool t808, .string t809, .string (⟨#[]⟩ : ByteArray)]) ?_ 2 _ rfl; refine blk_put (cs := #[.bool t808, .string (⟨#[]⟩ : ByteArray), .string (⟨#[]⟩ : ByteArray)]) ?_ 1 _ rfl; refine blk_put (cs := #[.bool false, .string (⟨#[]⟩ : ByteArray), .string (⟨#[]⟩ : ByteArray)]) ?_ 0 _ rfl; exact BK812.out) hb); replace HB := Aside0.mk (below_step hb_ hb)) | ((with_reducible refine gate_dst (N := 21) rfl ?_); (try (refine gate_guard (by rfl) ?_; dsimp only)); refine box_event ?hg (N := 21) ?hd (cs := #[.bool false, .string (⟨#[]⟩ : ByteArray), .string (⟨#[]⟩ : ByteArray)]) (t := 23) ?hr ?_; (case hd => rfl); (case hg => rfl); (case hr => first | (go_simp; done) | (go_simp; rfl)); intro gb817 hg w260 hbox hb; have BK817 := Aside0.mk (hbox); have GW817 := Aside0.mk ((by rw [hg]; exact (below_size hb_) : w.heap.size ≤ gb817)); have GE817 := Aside0.mk ((by rw [hg]; exact (below_size hb_) : w.heap.size ≤ gb817)); have NB771_817 := BK771.nl hg; have NB817_771 := BK771.ng hg; have NB772_817 := BK772.nl hg; have NB817_772 := BK772.ng hg; have NB778_817 := BK778.nl hg; have NB817_778 := BK778.ng hg; have NB783_817 := BK783.nl hg; have NB817_783 := BK783.ng hg; have NB784_817 := BK784.nl hg; have NB817_784 := BK784.ng hg; have NB792_817 := BK792.nl hg; have NB817_792 := BK792.ng hg; have NB812_817 := BK812.nl hg; have NB817_812 := BK812.ng hg; replace BK771 := BK771.bl hb; replace BK772 := BK772.bl hb; replace BK778 := BK778.bl hb; replace BK783 := BK783.bl hb; replace BK784 := BK784.bl hb; replace BK792 := BK792.bl hb; replace BK812 := BK812.bl hb; replace HB := Aside0.mk (below_step hb_ hb); clear hb hbox hg; have hnb261 := NB817_771.out; have hnc261 := NB771_817.out; have hnb262 := NB817_772.out; have hnc262 := NB772_817.out; have hnb263 := NB817_778.out; have hnc263 := NB778_817.out; have hnb264 := NB817_783.out; have hnc264 := NB783_817.out; have hnb265 := NB817_784.out; have hnc265 := NB784_817.out; have hnb266 := NB817_792.out; have hnc266 := NB792_817.out; have hnb267 := NB817_812.out; have hnc267 := NB812_817.out; obtain ⟨hcz268_0, hcz268_1, hcz268_2, hfz268_0, hfz268_1, hfz268_2⟩ := BK817.c3))
    (try simp only [Act.put, List.setIfInBounds_toArray, List.set_cons_zero, List.set_cons_succ])
    go_cut [153] (fun v153 wc => ∃ (kq : Nat) (x153_237 : Bool), v153 = .bool x153_237 ∧ Aside0 (idiomlaw02_DecimalRest.j4 kq a2 x153_237 t774 t775 t776 t808 t809 t810 t813 t814 t815 = some r) ∧ Aside0 (kq ≤ kj116) ∧ Aside0 (wc.heap[gb771]? = some (.cells #[.bool a0_0, .string a0_1, .string a0_2] 23 (0, 0))) ∧ Aside0 (wc.heap[gb772]? = some (.cells #[.bool a1_0, .string a1_1, .string a1_2] 23 (0, 0))) ∧ Aside0 (wc.heap[gb778]? = some (.cells #[.bool t774, .string t775, .string t776] 23 (0, 0))) ∧ Aside0 (wc.heap[gb783]? = some (.cells #[.bool false, .string t775, .string t776] 23 (0, 0))) ∧ Aside0 (wc.heap[gb784]? = some (.cells #[.bool false, .string a1_1, .string a1_2] 23 (0, 0))) ∧ Aside0 (wc.heap[gb792]? = some (.cells #[.bool t788, .string t789, .string t790] 23 (0, 0))) ∧ Aside0 (wc.heap[gb812]? = some (.cells #[.bool t808, .string t809, .string t810] 23 (0, 0))) ∧ Aside0 (wc.heap[gb817]? = some (.cells #[.bool t813, .string t814, .string t815] 23 (0, 0))) ∧ Aside0 (Below w.heap.size w wc))
    case first =>
     have H := HC238.out
     clear HC238
     by_cases c269 : t811 = 0
     ·rw [if_pos c269] at H
      have c269b0 : (t811 == 0) = true := beq_iff_eq.mpr c269
      have c269b1 : (t811 != 0) = false := bne_eq_false_iff_eq.mpr c269
      clear c269
      (first | rw [c269b0] | (simp only [i64_w, i32_w]; rw [c269b0]) | rw [c269b1] | skip)
      have H' := Aside0.mk H
      clear H
      go_wp2
      go_meet
      case rel => exact ⟨_, ((t816 != 0)), (by first | rfl | (simp; done) | (simp [*]; done)), H', ⟨by have := HJ20.out; have := HJ49.out; have := HJ116.out; first | omega | exact Nat.le_refl _⟩, ⟨by refine blk_far ?_ NB771_817.out _; refine blk_far ?_ NB771_817.out _; refine blk_far ?_ NB771_817.out _; exact BK771.out⟩, ⟨by refine blk_far ?_ NB772_817.out _; refine blk_far ?_ NB772_817.out _; refine blk_far ?_ NB772_817.out _; exact BK772.out⟩, ⟨by refine blk_far ?_ NB778_817.out _; refine blk_far ?_ NB778_817.out _; refine blk_far ?_ NB778_817.out _; exact BK778.out⟩, ⟨by refine blk_far ?_ NB783_817.out _; refine blk_far ?_ NB783_817.out _; refine blk_far ?_ NB783_817.out _; exact BK783.out⟩, ⟨by refine blk_far ?_ NB784_817.out _; refine blk_far ?_ NB784_817.out _; refine blk_far ?_ NB784_817.out _; exact BK784.out⟩, ⟨by refine blk_far ?_ NB792_817.out _; refine blk_far ?_ NB792_817.out _; refine blk_far ?_ NB792_817.out _; exact BK792.out⟩, ⟨by refine blk_far ?_ NB812_817.out _; refine blk_far ?_ NB812_817.out _; refine blk_far ?_ NB812_817.out _; exact BK812.out⟩, ⟨by refine blk_put (cs := #[.bool t813, .string t814, .string (⟨#[]⟩ : ByteArray)]) ?_ 2 _ rfl; refine blk_put (cs := #[.bool t813, .string (⟨#[]⟩ : ByteArray), .string (⟨#[]⟩ : ByteArray)]) ?_ 1 _ rfl; refine blk_put (cs := #[.bool false, .string (⟨#[]⟩ : ByteArray), .string (⟨#[]⟩ : ByteArray)]) ?_ 0 _ rfl; exact BK817.out⟩, ⟨by repeat (first | (with_reducible first | exact HB.out | apply below_alloc | apply pw_below_drewN | apply below_drew1 | refine below_set ?_ GE771.out | refine below_set ?_ GE772.out | refine below_set ?_ GE778.out | refine below_set ?_ GE783.out | refine below_set ?_ GE784.out | refine below_set ?_ GE792.out | refine below_set ?_ GE812.out | refine below_set ?_ GE817.out) | exact HB.out)⟩⟩
     ·rw [if_neg c269] at H
      have c269b0 : (t811 == 0) = false := beq_eq_false_iff_ne.mpr c269
      have c269b1 : (t811 != 0) = true := bne_iff_ne.mpr c269
      (first | rw [c269b0] | (simp only [i64_w, i32_w]; rw [c269b0]) | rw [c269b1] | skip)
      have H' := Aside0.mk H
      clear H
      go_wp2
      go_meet
      case rel => exact ⟨_, (true), (by first | rfl | (simp; done) | (simp [*]; done)), H', ⟨by have := HJ20.out; have := HJ49.out; have := HJ116.out; first | omega | exact Nat.le_refl _⟩, ⟨by refine blk_far ?_ NB771_817.out _; refine blk_far ?_ NB771_817.out _; refine blk_far ?_ NB771_817.out _; exact BK771.out⟩, ⟨by refine blk_far ?_ NB772_817.out _; refine blk_far ?_ NB772_817.out _; refine blk_far ?_ NB772_817.out _; exact BK772.out⟩, ⟨by refine blk_far ?_ NB778_817.out _; refine blk_far ?_ NB778_817.out _; refine blk_far ?_ NB778_817.out _; exact BK778.out⟩, ⟨by refine blk_far ?_ NB783_817.out _; refine blk_far ?_ NB783_817.out _; refine blk_far ?_ NB783_817.out _; exact BK783.out⟩, ⟨by refine blk_far ?_ NB784_817.out _; refine blk_far ?_ NB784_817.out _; refine blk_far ?_ NB784_817.out _; exact BK784.out⟩, ⟨by refine blk_far ?_ NB792_817.out _; refine blk_far ?_ NB792_817.out _; refine blk_far ?_ NB792_817.out _; exact BK792.out⟩, ⟨by refine blk_far ?_ NB812_817.out _; refine blk_far ?_ NB812_817.out _; refine blk_far ?_ NB812_817.out _; exact BK812.out⟩, ⟨by refine blk_put (cs := #[.bool t813, .string t814, .string (⟨#[]⟩ : ByteArray)]) ?_ 2 _ rfl; refine blk_put (cs := #[.bool t813, .string (⟨#[]⟩ : ByteArray), .string (⟨#[]⟩ : ByteArray)]) ?_ 1 _ rfl; refine blk_put (cs := #[.bool false, .string (⟨#[]⟩ : ByteArray), .string (⟨#[]⟩ : ByteArray)]) ?_ 0 _ rfl; exact BK817.out⟩, ⟨by repeat (first | (with_reducible first | exact HB.out | apply below_alloc | apply pw_below_drewN | apply below_drew1 | refine below_set ?_ GE771.out | refine below_set ?_ GE772.out | refine below_set ?_ GE778.out | refine below_set ?_ GE783.out | refine below_set ?_ GE784.out | refine below_set ?_ GE792.out | refine below_set ?_ GE812.out | refine below_set ?_ GE817.out) | exact HB.out)⟩⟩
    case rest =>
     clear HC238
     (try clear c9); (try clear c20); (try clear c115); (try clear hcz122_0); (try clear hcz122_1); (try clear hcz122_2); (try clear hcz126_0); (try clear hcz126_1); (try clear hcz126_2); (try clear hcz134_0); (try clear hcz134_1); (try clear hcz134_2); (try clear hcz244_0); (try clear hcz244_1); (try clear hcz244_2); (try clear hcz253_0); (try clear hcz253_1); (try clear hcz253_2); (try clear hcz258_0); (try clear hcz258_1); (try clear hcz258_2); (try clear hcz268_0); (try clear hcz268_1); (try clear hcz268_2); (try clear hcz66_0); (try clear hcz66_1); (try clear hcz66_2); (try clear hcz70_0); (try clear hcz70_1); (try clear hcz70_2); (try clear hfz122_0); (try clear hfz122_1); (try clear hfz122_2); (try clear hfz126_0); (try clear hfz126_1); (try clear hfz126_2); (try clear hfz134_0); (try clear hfz134_1); (try clear hfz134_2); (try clear hfz244_0); (try clear hfz244_1); (try clear hfz244_2); (try clear hfz253_0); (try clear hfz253_1); (try clear hfz253_2); (try clear hfz258_0); (try clear hfz258_1); (try clear hfz258_2); (try clear hfz268_0); (try clear hfz268_1); (try clear hfz268_2); (try clear hfz66_0); (try clear hfz66_1); (try clear hfz66_2); (try clear hfz70_0); (try clear hfz70_1); (try clear hfz70_2)
     rename_i z4_1 z4_2 z4_3 z4_4 z4_5 z4_6 z4_7 z4_8 z4_9 z4_10 z4_11 z4_12 z4_13 z4_14 z4_15 z4_16 z4_17 z4_18 z4_19 z4_20 z4_21 z4_22 z4_23 z4_24 z4_25 z4_26 z4_27 z4_28 z4_29 z4_30 z4_31 z4_32 z4_33 z4_34 z4_35 z4_36 z4_37 z4_38 z4_39 z4_40 z4_41 z4_42 z4_43 z4_44 z4_45 z4_46 z4_47 z4_48 z4_49 z4_50 z4_51 z4_52 z4_53 z4_54 z4_55 z4_56 z4_57 z4_58 z4_59 z4_60 z4_61 z4_62 z4_63 z4_64 z4_65 z4_66 z4_67 z4_68 z4_69 z4_70 z4_71 z4_72 z4_73 z4_74 z4_75 z4_76 z4_77 z4_78 z4_79 z4_80 z4_81 z4_82 z4_83 z4_84 z4_85 z4_86 z4_87 z4_88 z4_89 z4_90 z4_91 z4_92 z4_93 z4_94 z4_95 z4_96 z4_97 z4_98 z4_99 z4_100 z4_101 z4_102 z4_103 z4_104 z4_105 z4_106 z4_107 z4_108 z4_109 z4_110 z4_111 z4_112 z4_113 z4_114 z4_115 z4_116 z4_117 z4_118 z4_119 z4_120 z4_121 z4_122 z4_123 z4_124 z4_125 z4_126 z4_127 z4_128 z4_129 z4_130 z4_131 z4_132 z4_133 z4_134 z4_135 z4_136 z4_137 z4_138 z4_139 z4_140 z4_141 z4_142 z4_143 z4_144 z4_145 z4_146 z4_147 z4_148 z4_149 z4_150 z4_151 z4_152 z4_153 z4_154 z4_155 z4_156 z4_157 z4_158 z4_159 z4_160 z4_161 z4_162 z4_163 z4_164 z4_165 z4_166
     revert k a0_0 a0_1 a0_2 a1_0 a1_1 a1_2 a2 r w hu23 z0_1 gb771 w6 GW771 GE771 gb772 w7 GW772 GE772 NB771_772 NB772_771 w8 z0_2 A4 t774 t775 t776 t777 A10 hnb12 hnc12 z0_3 w15 z1_1 gb778 w16 z1_2 GW778 GE778 NB771_778 NB778_771 NB772_778 NB778_772 z1_3 z1_4 z1_5 hnb17 hnc17 hnb18 hnc18 z1_6 z1_7 z1_8 z1_9 z1_10 z1_11 z1_12 z1_13 z1_14 z1_15 z1_16 z1_17 z1_18 z1_19 z1_20 z1_21 z1_22 z1_23 z1_24 z1_25 z1_26 z1_27 z1_28 z1_29 z1_30 z1_31 z1_32 z1_33 z1_34 z1_35 z1_36 z1_37 z1_38 z1_39 z1_40 z1_41 z1_42 z1_43 z1_44 z1_45 z1_46 z1_47 z1_48 z1_49 z1_50 z1_51 z1_52 z1_53 z1_54 z1_55 z1_56 z1_57 z1_58 z1_59 z1_60 z1_61 z1_62 z1_63 z1_64 z1_65 z1_66 z1_67 z1_68 z1_69 z1_70 z1_71 z1_72 z1_73 z1_74 z1_75 z1_76 z1_77 z1_78 z1_79 z1_80 z1_81 z1_82 z1_83 z1_84 z1_85 z1_86 z1_87 z1_88 z1_89 z1_90 z1_91 z1_92 z1_93 z1_94 z1_95 z1_96 z1_97 z1_98 z1_99 z1_100 z1_101 z1_102 z1_103 z1_104 z1_105 z1_106 z1_107 z1_108 z1_109 z1_110 z1_111 z1_112 z1_113 z1_114 z1_115 z1_116 z1_117 z1_118 z1_119 z1_120 z1_121 z1_122 z1_123 z1_124 z1_125 z1_126 z1_127 z1_128 z1_129 z1_130 z1_131 z1_132 z1_133 z1_134 z1_135 z1_136 z1_137 z1_138 z1_139 z1_140 z1_141 z1_142 z1_143 z1_144 z1_145 z1_146 z1_147 z1_148 z1_149 z1_150 z1_151 z1_152 z1_153 z1_154 z1_155 z1_156 z1_157 kj20 HJ20 t785 t786 A49 w51 z1_158 gb783 gb784 w54 hS_ GW783 GE783 NB771_783 NB783_771 NB772_783 NB783_772 NB778_783 NB783_778 NB784_783 NB783_784 GW784 GE784 NB771_784 NB784_771 NB772_784 NB784_772 NB778_784 NB784_778 z1_159 z1_160 hHeld w61 hnb62 hnc62 hnb63 hnc63 hnb64 hnc64 hnb65 hnc65 hnb67 hnc67 hnb68 hnc68 hnb69 hnc69 w71 z3_1 z3_2 z3_3 z3_4 z3_5 z3_6 z3_7 z3_8 z3_9 z3_10 z3_11 z3_12 z3_13 z3_14 z3_15 z3_16 z3_17 z3_18 z3_19 z3_20 z3_21 z3_22 z3_23 z3_24 z3_25 z3_26 z3_27 z3_28 z3_29 z3_30 z3_31 z3_32 z3_33 z3_34 z3_35 z3_36 z3_37 z3_38 z3_39 z3_40 z3_41 z3_42 z3_43 z3_44 z3_45 z3_46 z3_47 z3_48 z3_49 z3_50 z3_51 z3_52 z3_53 z3_54 z3_55 z3_56 z3_57 z3_58 z3_59 z3_60 z3_61 z3_62 z3_63 z3_64 z3_65 z3_66 z3_67 z3_68 z3_69 z3_70 z3_71 z3_72 z3_73 z3_74 z3_75 z3_76 z3_77 z3_78 z3_79 z3_80 z3_81 z3_82 z3_83 z3_84 z3_85 z3_86 z3_87 z3_88 z3_89 z3_90 z3_91 z3_92 z3_93 z3_94 z3_95 z3_96 z3_97 z3_98 z3_99 z3_100 z3_101 z3_102 z3_103 z3_104 z3_105 z3_106 z3_107 z3_108 z3_109 z3_110 z3_111 z3_112 z3_113 z3_114 z3_115 z3_116 z3_117 z3_118 z3_119 z3_120 z3_121 z3_122 z3_123 z3_124 z3_125 z3_126 z3_127 z3_128 z3_129 z3_130 z3_131 z3_132 z3_133 z3_134 z3_135 z3_136 z3_137 z3_138 z3_139 z3_140 z3_141 z3_142 z3_143 z3_144 z3_145 z3_146 z3_147 z3_148 z3_149 z3_150 z3_151 z3_152 z3_153 z3_154 z3_155 z3_156 z3_157 z3_158 z3_159 kj49 HJ49 t788 t789 t790 t791 A116 hnb118 hnc118 hnb119 hnc119 hnb120 hnc120 hnb121 hnc121 hnb123 hnc123 hnb124 hnc124 hnb125 hnc125 w127 z4_1 gb792 w128 z4_2 GW792 GE792 NB771_792 NB792_771 NB772_792 NB792_772 NB778_792 NB792_778 NB783_792 NB792_783 NB784_792 NB792_784 z4_3 z4_4 z4_5 z4_6 z4_7 z4_8 hnb129 hnc129 hnb130 hnc130 hnb131 hnc131 hnb132 hnc132 hnb133 hnc133 z4_9 u6 u15 u16 u17 u18 z4_10 z4_11 z4_12 z4_13 z4_14 z4_15 z4_16 z4_17 z4_18 z4_19 z4_20 z4_21 z4_22 z4_23 z4_24 z4_25 z4_26 z4_27 z4_28 z4_29 z4_30 z4_31 z4_32 z4_33 z4_34 z4_35 z4_36 z4_37 z4_38 z4_39 z4_40 z4_41 z4_42 z4_43 z4_44 z4_45 z4_46 z4_47 z4_48 z4_49 z4_50 z4_51 z4_52 z4_53 z4_54 z4_55 z4_56 z4_57 z4_58 z4_59 z4_60 z4_61 z4_62 z4_63 z4_64 z4_65 z4_66 z4_67 z4_68 z4_69 z4_70 z4_71 z4_72 z4_73 z4_74 z4_75 z4_76 z4_77 z4_78 z4_79 z4_80 z4_81 z4_82 z4_83 z4_84 z4_85 z4_86 z4_87 z4_88 z4_89 z4_90 z4_91 z4_92 z4_93 z4_94 z4_95 z4_96 z4_97 z4_98 z4_99 z4_100 z4_101 z4_102 z4_103 z4_104 z4_105 z4_106 z4_107 z4_108 z4_109 z4_110 z4_111 z4_112 z4_113 z4_114 z4_115 z4_116 z4_117 z4_118 z4_119 z4_120 z4_121 z4_122 z4_123 z4_124 z4_125 z4_126 z4_127 z4_128 z4_129 z4_130 z4_131 z4_132 z4_133 z4_134 z4_135 z4_136 z4_137 z4_138 z4_139 z4_140 z4_141 z4_142 z4_143 z4_144 z4_145 z4_146 z4_147 z4_148 z4_149 z4_150 z4_151 z4_152 z4_153 z4_154 z4_155 z4_156 z4_157 z4_158 z4_159 z4_160 z4_161 kj116 HJ116 t808 t809 t810 t811 A236 t813 t814 t815 t816 A237 hnb239 hnc239 hnb240 hnc240 hnb241 hnc241 hnb242 hnc242 hnb243 hnc243 w245 z4_162 gb812 w246 GW812 GE812 NB771_812 NB812_771 NB772_812 NB812_772 NB778_812 NB812_778 NB783_812 NB812_783 NB784_812 NB812_784 NB792_812 NB812_792 hnb247 hnc247 hnb248 hnc248 hnb249 hnc249 hnb250 hnc250 hnb251 hnc251 hnb252 hnc252 hnb254 hnc254 hnb255 hnc255 hnb256 hnc256 hnb257 hnc257 w259 hb gb817 w260 BK817 GW817 GE817 NB771_817 NB817_771 NB772_817 NB817_772 NB778_817 NB817_778 NB783_817 NB817_783 NB784_817 NB817_784 NB792_817 NB817_792 NB812_817 NB817_812 BK771 BK772 BK778 BK783 BK784 BK792 BK812 HB hnb261 hnc261 hnb262 hnc262 hnb263 hnc263 hnb264 hnc264 hnb265 hnc265 hnb266 hnc266 hnb267 hnc267 z4_163 z4_164 z4_165 z4_166 wc u25 u26 u27 u28 u29 u30 u31 u32 u33 u34 u35 u36 u37 u38 u39 u40 u41 u42 u43 u44 u45 u46 u47 u48 u49 u50 u51 u52 u53 u54 u55 u56 u57 u58 u59 u60 u61 u62 u63 u64 u65 u66 u67 u68 u69 u70 u71 u72 u73 u74 u75 u76 u77 u78 u79 u80 u81 u82 u83 u84 u85 u86 u87 u88 u89 u90 u91 u92 u93 u94 u95 u96 u97 u98 u99 u100 u101 u102 u103 u104 u105 u106 u107 u108 u109 u110 u111 u112 u113 u114 u115 u116 u117 u118 u119 u120 u121 u122 u123 u124 u125 u126 u127 u128 u129 u130 u131 u132 u133 u134 u135 u136 u137 u138 u139 u140 u141 u142 u143 u144 u145 u146 u147 u148 u149 u150 u151 u152 u153 u154 u155 u156 u157 u158 u159 u160 u161 u162 u163 u164 u165 u166 u167 u168 u169 u170 u171 u172 u173 u174 u175 u176 hcut
     exact hrest4.out
set_option maxHeartbeats 0 in
set_option maxRecDepth 100000 in
theorem idiomlaw02_DecimalRest.calls_r4 : idiomlaw02_DecimalRest.calls_r3_s.1 := by
  intro k a0_0 a0_1 a0_2 a1_0 a1_1 a1_2 a2 r w hu23 z0_1 gb771 w6 GW771 GE771 gb772 w7 GW772 GE772 NB771_772 NB772_771 w8 z0_2 A4 t774 t775 t776 t777 A10 hnb12 hnc12 z0_3 w15 z1_1 gb778 w16 z1_2 GW778 GE778 NB771_778 NB778_771 NB772_778 NB778_772 z1_3 z1_4 z1_5 hnb17 hnc17 hnb18 hnc18 z1_6 z1_7 z1_8 z1_9 z1_10 z1_11 z1_12 z1_13 z1_14 z1_15 z1_16 z1_17 z1_18 z1_19 z1_20 z1_21 z1_22 z1_23 z1_24 z1_25 z1_26 z1_27 z1_28 z1_29 z1_30 z1_31 z1_32 z1_33 z1_34 z1_35 z1_36 z1_37 z1_38 z1_39 z1_40 z1_41 z1_42 z1_43 z1_44 z1_45 z1_46 z1_47 z1_48 z1_49 z1_50 z1_51 z1_52 z1_53 z1_54 z1_55 z1_56 z1_57 z1_58 z1_59 z1_60 z1_61 z1_62 z1_63 z1_64 z1_65 z1_66 z1_67 z1_68 z1_69 z1_70 z1_71 z1_72 z1_73 z1_74 z1_75 z1_76 z1_77 z1_78 z1_79 z1_80 z1_81 z1_82 z1_83 z1_84 z1_85 z1_86 z1_87 z1_88 z1_89 z1_90 z1_91 z1_92 z1_93 z1_94 z1_95 z1_96 z1_97 z1_98 z1_99 z1_100 z1_101 z1_102 z1_103 z1_104 z1_105 z1_106 z1_107 z1_108 z1_109 z1_110 z1_111 z1_112 z1_113 z1_114 z1_115 z1_116 z1_117 z1_118 z1_119 z1_120 z1_121 z1_122 z1_123 z1_124 z1_125 z1_126 z1_127 z1_128 z1_129 z1_130 z1_131 z1_132 z1_133 z1_134 z1_135 z1_136 z1_137 z1_138 z1_139 z1_140 z1_141 z1_142 z1_143 z1_144 z1_145 z1_146 z1_147 z1_148 z1_149 z1_150 z1_151 z1_152 z1_153 z1_154 z1_155 z1_156 z1_157 kj20 HJ20 t785 t786 A49 w51 z1_158 gb783 gb784 w54 hS_ GW783 GE783 NB771_783 NB783_771 NB772_783 NB783_772 NB778_783 NB783_778 NB784_783 NB783_784 GW784 GE784 NB771_784 NB784_771 NB772_784 NB784_772 NB778_784 NB784_778 z1_159 z1_160 hHeld w61 hnb62 hnc62 hnb63 hnc63 hnb64 hnc64 hnb65 hnc65 hnb67 hnc67 hnb68 hnc68 hnb69 hnc69 w71 z3_1 z3_2 z3_3 z3_4 z3_5 z3_6 z3_7 z3_8 z3_9 z3_10 z3_11 z3_12 z3_13 z3_14 z3_15 z3_16 z3_17 z3_18 z3_19 z3_20 z3_21 z3_22 z3_23 z3_24 z3_25 z3_26 z3_27 z3_28 z3_29 z3_30 z3_31 z3_32 z3_33 z3_34 z3_35 z3_36 z3_37 z3_38 z3_39 z3_40 z3_41 z3_42 z3_43 z3_44 z3_45 z3_46 z3_47 z3_48 z3_49 z3_50 z3_51 z3_52 z3_53 z3_54 z3_55 z3_56 z3_57 z3_58 z3_59 z3_60 z3_61 z3_62 z3_63 z3_64 z3_65 z3_66 z3_67 z3_68 z3_69 z3_70 z3_71 z3_72 z3_73 z3_74 z3_75 z3_76 z3_77 z3_78 z3_79 z3_80 z3_81 z3_82 z3_83 z3_84 z3_85 z3_86 z3_87 z3_88 z3_89 z3_90 z3_91 z3_92 z3_93 z3_94 z3_95 z3_96 z3_97 z3_98 z3_99 z3_100 z3_101 z3_102 z3_103 z3_104 z3_105 z3_106 z3_107 z3_108 z3_109 z3_110 z3_111 z3_112 z3_113 z3_114 z3_115 z3_116 z3_117 z3_118 z3_119 z3_120 z3_121 z3_122 z3_123 z3_124 z3_125 z3_126 z3_127 z3_128 z3_129 z3_130 z3_131 z3_132 z3_133 z3_134 z3_135 z3_136 z3_137 z3_138 z3_139 z3_140 z3_141 z3_142 z3_143 z3_144 z3_145 z3_146 z3_147 z3_148 z3_149 z3_150 z3_151 z3_152 z3_153 z3_154 z3_155 z3_156 z3_157 z3_158 z3_159 kj49 HJ49 t788 t789 t790 t791 A116 hnb118 hnc118 hnb119 hnc119 hnb120 hnc120 hnb121 hnc121 hnb123 hnc123 hnb124 hnc124 hnb125 hnc125 w127 z4_1 gb792 w128 z4_2 GW792 GE792 NB771_792 NB792_771 NB772_792 NB792_772 NB778_792 NB792_778 NB783_792 NB792_783 NB784_792 NB792_784 z4_3 z4_4 z4_5 z4_6 z4_7 z4_8 hnb129 hnc129 hnb130 hnc130 hnb131 hnc131 hnb132 hnc132 hnb133 hnc133 z4_9 u6 u15 u16 u17 u18 z4_10 z4_11 z4_12 z4_13 z4_14 z4_15 z4_16 z4_17 z4_18 z4_19 z4_20 z4_21 z4_22 z4_23 z4_24 z4_25 z4_26 z4_27 z4_28 z4_29 z4_30 z4_31 z4_32 z4_33 z4_34 z4_35 z4_36 z4_37 z4_38 z4_39 z4_40 z4_41 z4_42 z4_43 z4_44 z4_45 z4_46 z4_47 z4_48 z4_49 z4_50 z4_51 z4_52 z4_53 z4_54 z4_55 z4_56 z4_57 z4_58 z4_59 z4_60 z4_61 z4_62 z4_63 z4_64 z4_65 z4_66 z4_67 z4_68 z4_69 z4_70 z4_71 z4_72 z4_73 z4_74 z4_75 z4_76 z4_77 z4_78 z4_79 z4_80 z4_81 z4_82 z4_83 z4_84 z4_85 z4_86 z4_87 z4_88 z4_89 z4_90 z4_91 z4_92 z4_93 z4_94 z4_95 z4_96 z4_97 z4_98 z4_99 z4_100 z4_101 z4_102 z4_103 z4_104 z4_105 z4_106 z4_107 z4_108 z4_109 z4_110 z4_111 z4_112 z4_113 z4_114 z4_115 z4_116 z4_117 z4_118 z4_119 z4_120 z4_121 z4_122 z4_123 z4_124 z4_125 z4_126 z4_127 z4_128 z4_129 z4_130 z4_131 z4_132 z4_133 z4_134 z4_135 z4_136 z4_137 z4_138 z4_139 z4_140 z4_141 z4_142 z4_143 z4_144 z4_145 z4_146 z4_147 z4_148 z4_149 z4_150 z4_151 z4_152 z4_153 z4_154 z4_155 z4_156 z4_157 z4_158 z4_159 z4_160 z4_161 kj116 HJ116 t808 t809 t810 t811 A236 t813 t814 t815 t816 A237 hnb239 hnc239 hnb240 hnc240 hnb241 hnc241 hnb242 hnc242 hnb243 hnc243 w245 z4_162 gb812 w246 GW812 GE812 NB771_812 NB812_771 NB772_812 NB812_772 NB778_812 NB812_778 NB783_812 NB812_783 NB784_812 NB812_784 NB792_812 NB812_792 hnb247 hnc247 hnb248 hnc248 hnb249 hnc249 hnb250 hnc250 hnb251 hnc251 hnb252 hnc252 hnb254 hnc254 hnb255 hnc255 hnb256 hnc256 hnb257 hnc257 w259 hb gb817 w260 BK817 GW817 GE817 NB771_817 NB817_771 NB772_817 NB817_772 NB778_817 NB817_778 NB783_817 NB817_783 NB784_817 NB817_784 NB792_817 NB817_792 NB812_817 NB817_812 BK771 BK772 BK778 BK783 BK784 BK792 BK812 HB hnb261 hnc261 hnb262 hnc262 hnb263 hnc263 hnb264 hnc264 hnb265 hnc265 hnb266 hnc266 hnb267 hnc267 z4_163 z4_164 z4_165 z4_166 wc u25 u26 u27 u28 u29 u30 u31 u32 u33 u34 u35 u36 u37 u38 u39 u40 u41 u42 u43 u44 u45 u46 u47 u48 u49 u50 u51 u52 u53 u54 u55 u56 u57 u58 u59 u60 u61 u62 u63 u64 u65 u66 u67 u68 u69 u70 u71 u72 u73 u74 u75 u76 u77 u78 u79 u80 u81 u82 u83 u84 u85 u86 u87 u88 u89 u90 u91 u92 u93 u94 u95 u96 u97 u98 u99 u100 u101 u102 u103 u104 u105 u106 u107 u108 u109 u110 u111 u112 u113 u114 u115 u116 u117 u118 u119 u120 u121 u122 u123 u124 u125 u126 u127 u128 u129 u130 u131 u132 u133 u134 u135 u136 u137 u138 u139 u140 u141 u142 u143 u144 u145 u146 u147 u148 u149 u150 u151 u152 u153 u154 u155 u156 u157 u158 u159 u160 u161 u162 u163 u164 u165 u166 u167 u168 u169 u170 u171 u172 u173 u174 u175 u176 hcut
  obtain ⟨kq, x153_237, rfl, HA, HJ237, BK771, BK772, BK778, BK783, BK784, BK792, BK812, BK817, HB⟩ := hcut
  cases kq with
  | zero => exact absurd HA.out (by simp [idiomlaw02_DecimalRest.j4])
  | succ kj237 =>
   have H := HA.out
   clear HA
   simp only [idiomlaw02_DecimalRest.j4] at H
   by_cases c270 : x153_237 = true
   ·subst c270
    have H1 : (some true) = some r := by rw [if_pos rfl] at H; exact H
    clear H
    have H := H1
    clear H1
    obtain rfl := Option.some.inj H
    go_wp2
    go_ret
    exact ⟨by first | rfl | (simp [errW_none, errW_some] <;> rfl) | (simp [*, errW_none, errW_some] <;> rfl) | (simp [bne_nil_]; done), by repeat (first | (with_reducible first | exact HB.out | apply below_alloc | apply pw_below_drewN | apply below_drew1 | refine below_set ?_ GE771.out | refine below_set ?_ GE772.out | refine below_set ?_ GE778.out | refine below_set ?_ GE783.out | refine below_set ?_ GE784.out | refine below_set ?_ GE792.out | refine below_set ?_ GE812.out | refine below_set ?_ GE817.out) | exact HB.out)⟩
   ·replace c270 := Bool.eq_false_iff.mpr c270
    subst c270
    have H1 : ((decimal_Rem.f kj237 t808 t809 t810 t813 t814 t815).bind fun bt818 => ((decimal_Shift.f kj237 t774 t775 t776 a2).bind fun bt823 => (if bt818.2.2.2 = 0 then (if bt823.2.2.2 = 0 then ((idiomlaw02_great.f kj237 bt818.1 bt818.2.1 bt818.2.2.1 bt823.1 bt823.2.1 bt823.2.2.1).bind fun t828 => (some t828)) else (some true)) else (some false)))) = some r := by rw [if_neg (show ¬ (false = true) by decide)] at H; exact H
    clear H
    have H := H1
    clear H1
    replace H := Option.bind_eq_some_iff.mp H
    obtain ⟨⟨t818, t819, t820, t821⟩, A2710, H⟩ := H
    try dsimp only at H
    have A271 := Aside0.mk A2710
    clear A2710
    replace H := Option.bind_eq_some_iff.mp H
    obtain ⟨⟨t823, t824, t825, t826⟩, A2720, H⟩ := H
    try dsimp only at H
    have A272 := Aside0.mk A2720
    clear A2720
    by_cases c273 : t821 = 0
    ·rw [if_pos c273] at H
     have c273b0 : (t821 == 0) = true := beq_iff_eq.mpr c273
     have c273b1 : (t821 != 0) = false := bne_eq_false_iff_eq.mpr c273
     clear c273
     by_cases c274 : t826 = 0
     ·rw [if_pos c274] at H
      have c274b0 : (t826 == 0) = true := beq_iff_eq.mpr c274
      have c274b1 : (t826 != 0) = false := bne_eq_false_iff_eq.mpr c274
      clear c274
      replace H := Option.bind_eq_some_iff.mp H
      obtain ⟨t828, A2750, H⟩ := H
      try dsimp only at H
      have A275 := Aside0.mk A2750
      clear A2750
      obtain rfl := Option.some.inj H
      have hnb276 := NB812_771.out
      have hnc276 := NB771_812.out
      have hnb277 := NB812_772.out
      have hnc277 := NB772_812.out
      have hnb278 := NB812_778.out
      have hnc278 := NB778_812.out
      have hnb279 := NB812_783.out
      have hnc279 := NB783_812.out
      have hnb280 := NB812_784.out
      have hnc280 := NB784_812.out
      have hnb281 := NB812_792.out
      have hnc281 := NB792_812.out
      have hnb282 := NB812_817.out
      have hnc282 := NB817_812.out
      obtain ⟨hcz283_0, hcz283_1, hcz283_2, hfz283_0, hfz283_1, hfz283_2⟩ := BK812.c3
      have hnb284 := NB817_771.out
      have hnc284 := NB771_817.out
      have hnb285 := NB817_772.out
      have hnc285 := NB772_817.out
      have hnb286 := NB817_778.out
      have hnc286 := NB778_817.out
      have hnb287 := NB817_783.out
      have hnc287 := NB783_817.out
      have hnb288 := NB817_784.out
      have hnc288 := NB784_817.out
      have hnb289 := NB817_792.out
      have hnc289 := NB792_817.out
      obtain ⟨hcz290_0, hcz290_1, hcz290_2, hfz290_0, hfz290_1, hfz290_2⟩ := BK817.c3
      go_wp2_with (first | ((with_reducible refine gate_callee (f := 27) rfl ?_); refine gL_ (some 157) Tryd.func27 #[.agg #[.bool t808, .string t809, .string t810], .agg #[.bool t813, .string t814, .string t815]] ?_; (with_reducible refine (decimal_Rem.calls kj237 t808 t809 t810 t813 t814 t815 t818 t819 t820 t821 _ A271.out).mono ?_); rintro e w291 ⟨rfl, hb⟩; refine ⟨_, rfl, ?_⟩; replace BK771 := BK771.bl hb; replace BK772 := BK772.bl hb; replace BK778 := BK778.bl hb; replace BK783 := BK783.bl hb; replace BK784 := BK784.bl hb; replace BK792 := BK792.bl hb; replace BK812 := BK812.bl hb; replace BK817 := BK817.bl hb; replace HB := Aside0.mk (below_step hb_ hb)) | ((with_reducible refine gate_dst (N := 23) rfl ?_); (try (refine gate_guard (by rfl) ?_; dsimp only)); refine box_event ?hg (N := 23) ?hd (cs := #[.bool false, .string (⟨#[]⟩ : ByteArray), .string (⟨#[]⟩ : ByteArray)]) (t := 23) ?hr ?_; (case hd => rfl); (case hg => rfl); (case hr => first | (go_simp; done) | (go_simp; rfl)); intro gb822 hg w292 hbox hb; have BK822 := Aside0.mk (hbox); have GW822 := Aside0.mk ((by rw [hg]; exact (below_size hb_) : w.heap.size ≤ gb822)); have GE822 := Aside0.mk ((by rw [hg]; exact (below_size hb_) : w.heap.size ≤ gb822)); have NB771_822 := BK771.nl hg; have NB822_771 := BK771.ng hg; have NB772_822 := BK772.nl hg; have NB822_772 := BK772.ng hg; have NB778_822 := BK778.nl hg; have NB822_778 := BK778.ng hg; have NB783_822 := BK783.nl hg; have NB822_783 := BK783.ng hg; have NB784_822 := BK784.nl hg; have NB822_784 := BK784.ng hg; have NB792_822 := BK792.nl hg; have NB822_792 := BK792.ng hg; have NB812_822 := BK812.nl hg; have NB822_812 := BK812.ng hg; have NB817_822 := BK817.nl hg; have NB822_817 := BK817.ng hg; replace BK771 := BK771.bl hb; replace BK772 := BK772.bl hb; replace BK778 := BK778.bl hb; replace BK783 := BK783.bl hb; replace BK784 := BK784.bl hb; replace BK792 := BK792.bl hb; replace BK812 := BK812.bl hb; replace BK817 := BK817.bl hb; replace HB := Aside0.mk (below_step hb_ hb); clear hb hbox hg; have hnb293 := NB822_771.out; have hnc293 := NB771_822.out; have hnb294 := NB822_772.out; have hnc294 := NB772_822.out; have hnb295 := NB822_778.out; have hnc295 := NB778_822.out; have hnb296 := NB822_783.out; have hnc296 := NB783_822.out; have hnb297 := NB822_784.out; have hnc297 := NB784_822.out; have hnb298 := NB822_792.out; have hnc298 := NB792_822.out; have hnb299 := NB822_812.out; have hnc299 := NB812_822.out; have hnb300 := NB822_817.out; have hnc300 := NB817_822.out; obtain ⟨hcz301_0, hcz301_1, hcz301_2, hfz301_0, hfz301_1, hfz301_2⟩ := BK822.c3; have hnb302 := NB778_771.out; have hnc302 := NB771_778.out; have hnb303 := NB778_772.out; have hnc303 := NB772_778.out; have hnb304 := NB778_783.out; have hnc304 := NB783_778.out; have hnb305 := NB778_784.out; have hnc305 := NB784_778.out; have hnb306 := NB778_792.out; have hnc306 := NB792_778.out; obtain ⟨hcz307_0, hcz307_1, hcz307_2, hfz307_0, hfz307_1, hfz307_2⟩ := BK778.c3) | ((with_reducible refine gate_callee (f := 39) rfl ?_); refine gL_ (some 163) Tryd.func39 #[.agg #[.bool t774, .string t775, .string t776], .int .i64 a2] ?_; (with_reducible refine (decimal_Shift.calls kj237 t774 t775 t776 a2 t823 t824 t825 t826 _ A272.out).mono ?_); rintro e w308 ⟨rfl, hb⟩; refine ⟨_, rfl, ?_⟩; replace BK771 := Aside0.mk (blk_below (g := gb771) (o := .cells #[.bool a0_0, .string a0_1, .string a0_2] 23 (0, 0)) (by refine blk_far ?_ NB771_822.out _; refine blk_far ?_ NB771_822.out _; refine blk_far ?_ NB771_822.out _; exact BK771.out) hb); replace BK772 := Aside0.mk (blk_below (g := gb772) (o := .cells #[.bool a1_0, .string a1_1, .string a1_2] 23 (0, 0)) (by refine blk_far ?_ NB772_822.out _; refine blk_far ?_ NB772_822.out _; refine blk_far ?_ NB772_822.out _; exact BK772.out) hb); replace BK778 := Aside0.mk (blk_below (g := gb778) (o := .cells #[.bool t774, .string t775, .string t776] 23 (0, 0)) (by refine blk_far ?_ NB778_822.out _; refine blk_far ?_ NB778_822.out _; refine blk_far ?_ NB778_822.out _; exact BK778.out) hb); replace BK783 := Aside0.mk (blk_below (g := gb783) (o := .cells #[.bool false, .string t775, .string t776] 23 (0, 0)) (by refine blk_far ?_ NB783_822.out _; refine blk_far ?_ NB783_822.out _; refine blk_far ?_ NB783_822.out _; exact BK783.out) hb); replace BK784 := Aside0.mk (blk_below (g := gb784) (o := .cells #[.bool false, .string a1_1, .string a1_2] 23 (0, 0)) (by refine blk_far ?_ NB784_822.out _; refine blk_far ?_ NB784_822.out _; refine blk_far ?_ NB784_822.out _; exact BK784.out) hb); replace BK792 := Aside0.mk (blk_below (g := gb792) (o := .cells #[.bool t788, .string t789, .string t790] 23 (0, 0)) (by refine blk_far ?_ NB792_822.out _; refine blk_far ?_ NB792_822.out _; refine blk_far ?_ NB792_822.out _; exact BK792.out) hb); replace BK812 := Aside0.mk (blk_below (g := gb812) (o := .cells #[.bool t808, .string t809, .string t810] 23 (0, 0)) (by refine blk_far ?_ NB812_822.out _; refine blk_far ?_ NB812_822.out _; refine blk_far ?_ NB812_822.out _; exact BK812.out) hb); replace BK817 := Aside0.mk (blk_below (g := gb817) (o := .cells #[.bool t813, .string t814, .string t815] 23 (0, 0)) (by refine blk_far ?_ NB817_822.out _; refine blk_far ?_ NB817_822.out _; refine blk_far ?_ NB817_822.out _; exact BK817.out) hb); replace BK822 := Aside0.mk (blk_below (g := gb822) (o := .cells #[.bool t818, .string t819, .string t820] 23 (0, 0)) (by refine blk_put (cs := #[.bool t818, .string t819, .string (⟨#[]⟩ : ByteArray)]) ?_ 2 _ rfl; refine blk_put (cs := #[.bool t818, .string (⟨#[]⟩ : ByteArray), .string (⟨#[]⟩ : ByteArray)]) ?_ 1 _ rfl; refine blk_put (cs := #[.bool false, .string (⟨#[]⟩ : ByteArray), .string (⟨#[]⟩ : ByteArray)]) ?_ 0 _ rfl; exact BK822.out) hb); replace HB := Aside0.mk (below_step hb_ hb)) | ((with_reducible refine gate_dst (N := 24) rfl ?_); (try (refine gate_guard (by rfl) ?_; dsimp only)); refine box_event ?hg (N := 24) ?hd (cs := #[.bool false, .string (⟨#[]⟩ : ByteArray), .string (⟨#[]⟩ : ByteArray)]) (t := 23) ?hr ?_; (case hd => rfl); (case hg => rfl); (case hr => first | (go_simp; done) | (go_simp; rfl)); intro gb827 hg w309 hbox hb; have BK827 := Aside0.mk (hbox); have GW827 := Aside0.mk ((by rw [hg]; exact (below_size hb_) : w.heap.size ≤ gb827)); have GE827 := Aside0.mk ((by rw [hg]; exact (below_size hb_) : w.heap.size ≤ gb827)); have NB771_827 := BK771.nl hg; have NB827_771 := BK771.ng hg; have NB772_827 := BK772.nl hg; have NB827_772 := BK772.ng hg; have NB778_827 := BK778.nl hg; have NB827_778 := BK778.ng hg; have NB783_827 := BK783.nl hg; have NB827_783 := BK783.ng hg; have NB784_827 := BK784.nl hg; have NB827_784 := BK784.ng hg; have NB792_827 := BK792.nl hg; have NB827_792 := BK792.ng hg; have NB812_827 := BK812.nl hg; have NB827_812 := BK812.ng hg; have NB817_827 := BK817.nl hg; have NB827_817 := BK817.ng hg; have NB822_827 := BK822.nl hg; have NB827_822 := BK822.ng hg; replace BK771 := BK771.bl hb; replace BK772 := BK772.bl hb; replace BK778 := BK778.bl hb; replace BK783 := BK783.bl hb; replace BK784 := BK784.bl hb; replace BK792 := BK792.bl hb; replace BK812 := BK812.bl hb; replace BK817 := BK817.bl hb; replace BK822 := BK822.bl hb; replace HB := Aside0.mk (below_step hb_ hb); clear hb hbox hg; have hnb310 := NB827_771.out; have hnc310 := NB771_827.out; have hnb311 := NB827_772.out; have hnc311 := NB772_827.out; have hnb312 := NB827_778.out; have hnc312 := NB778_827.out; have hnb313 := NB827_783.out; have hnc313 := NB783_827.out; have hnb314 := NB827_784.out; have hnc314 := NB784_827.out; have hnb315 := NB827_792.out; have hnc315 := NB792_827.out; have hnb316 := NB827_812.out; have hnc316 := NB812_827.out; have hnb317 := NB827_817.out; have hnc317 := NB817_827.out; have hnb318 := NB827_822.out; have hnc318 := NB822_827.out; obtain ⟨hcz319_0, hcz319_1, hcz319_2, hfz319_0, hfz319_1, hfz319_2⟩ := BK827.c3; obtain ⟨hcz320_0, hcz320_1, hcz320_2, hfz320_0, hfz320_1, hfz320_2⟩ := BK822.c3) | (go_at_call 38; (with_reducible refine (idiomlaw02_great.calls kj237 t818 t819 t820 t823 t824 t825 t828 _ A275.out).mono ?_); rintro e w321 ⟨rfl, hb⟩; replace BK771 := Aside0.mk (blk_below (g := gb771) (o := .cells #[.bool a0_0, .string a0_1, .string a0_2] 23 (0, 0)) (by refine blk_far ?_ NB771_827.out _; refine blk_far ?_ NB771_827.out _; refine blk_far ?_ NB771_827.out _; exact BK771.out) hb); replace BK772 := Aside0.mk (blk_below (g := gb772) (o := .cells #[.bool a1_0, .string a1_1, .string a1_2] 23 (0, 0)) (by refine blk_far ?_ NB772_827.out _; refine blk_far ?_ NB772_827.out _; refine blk_far ?_ NB772_827.out _; exact BK772.out) hb); replace BK778 := Aside0.mk (blk_below (g := gb778) (o := .cells #[.bool t774, .string t775, .string t776] 23 (0, 0)) (by refine blk_far ?_ NB778_827.out _; refine blk_far ?_ NB778_827.out _; refine blk_far ?_ NB778_827.out _; exact BK778.out) hb); replace BK783 := Aside0.mk (blk_below (g := gb783) (o := .cells #[.bool false, .string t775, .string t776] 23 (0, 0)) (by refine blk_far ?_ NB783_827.out _; refine blk_far ?_ NB783_827.out _; refine blk_far ?_ NB783_827.out _; exact BK783.out) hb); replace BK784 := Aside0.mk (blk_below (g := gb784) (o := .cells #[.bool false, .string a1_1, .string a1_2] 23 (0, 0)) (by refine blk_far ?_ NB784_827.out _; refine blk_far ?_ NB784_827.out _; refine blk_far ?_ NB784_827.out _; exact BK784.out) hb); replace BK792 := Aside0.mk (blk_below (g := gb792) (o := .cells #[.bool t788, .string t789, .string t790] 23 (0, 0)) (by refine blk_far ?_ NB792_827.out _; refine blk_far ?_ NB792_827.out _; refine blk_far ?_ NB792_827.out _; exact BK792.out) hb); replace BK812 := Aside0.mk (blk_below (g := gb812) (o := .cells #[.bool t808, .string t809, .string t810] 23 (0, 0)) (by refine blk_far ?_ NB812_827.out _; refine blk_far ?_ NB812_827.out _; refine blk_far ?_ NB812_827.out _; exact BK812.out) hb); replace BK817 := Aside0.mk (blk_below (g := gb817) (o := .cells #[.bool t813, .string t814, .string t815] 23 (0, 0)) (by refine blk_far ?_ NB817_827.out _; refine blk_far ?_ NB817_827.out _; refine blk_far ?_ NB817_827.out _; exact BK817.out) hb); replace BK822 := Aside0.mk (blk_below (g := gb822) (o := .cells #[.bool t818, .string t819, .string t820] 23 (0, 0)) (by refine blk_far ?_ NB822_827.out _; refine blk_far ?_ NB822_827.out _; refine blk_far ?_ NB822_827.out _; exact BK822.out) hb); replace BK827 := Aside0.mk (blk_below (g := gb827) (o := .cells #[.bool t823, .string t824, .string t825] 23 (0, 0)) (by refine blk_put (cs := #[.bool t823, .string t824, .string (⟨#[]⟩ : ByteArray)]) ?_ 2 _ rfl; refine blk_put (cs := #[.bool t823, .string (⟨#[]⟩ : ByteArray), .string (⟨#[]⟩ : ByteArray)]) ?_ 1 _ rfl; refine blk_put (cs := #[.bool false, .string (⟨#[]⟩ : ByteArray), .string (⟨#[]⟩ : ByteArray)]) ?_ 0 _ rfl; exact BK827.out) hb); replace HB := Aside0.mk (below_step hb_ hb)))
      go_ret
      exact ⟨by first | rfl | (simp [errW_none, errW_some] <;> rfl) | (simp [*, errW_none, errW_some] <;> rfl) | (simp [bne_nil_]; done), by repeat (first | (with_reducible first | exact HB.out | apply below_alloc | apply pw_below_drewN | apply below_drew1 | refine below_set ?_ GE771.out | refine below_set ?_ GE772.out | refine below_set ?_ GE778.out | refine below_set ?_ GE783.out | refine below_set ?_ GE784.out | refine below_set ?_ GE792.out | refine below_set ?_ GE812.out | refine below_set ?_ GE817.out | refine below_set ?_ GE822.out | refine below_set ?_ GE827.out) | exact HB.out)⟩
     ·rw [if_neg c274] at H
      have c274b0 : (t826 == 0) = false := beq_eq_false_iff_ne.mpr c274
      have c274b1 : (t826 != 0) = true := bne_iff_ne.mpr c274
      obtain rfl := Option.some.inj H
      have hnb322 := NB812_771.out
      have hnc322 := NB771_812.out
      have hnb323 := NB812_772.out
      have hnc323 := NB772_812.out
      have hnb324 := NB812_778.out
      have hnc324 := NB778_812.out
      have hnb325 := NB812_783.out
      have hnc325 := NB783_812.out
      have hnb326 := NB812_784.out
      have hnc326 := NB784_812.out
      have hnb327 := NB812_792.out
      have hnc327 := NB792_812.out
      have hnb328 := NB812_817.out
      have hnc328 := NB817_812.out
      obtain ⟨hcz329_0, hcz329_1, hcz329_2, hfz329_0, hfz329_1, hfz329_2⟩ := BK812.c3
      have hnb330 := NB817_771.out
      have hnc330 := NB771_817.out
      have hnb331 := NB817_772.out
      have hnc331 := NB772_817.out
      have hnb332 := NB817_778.out
      have hnc332 := NB778_817.out
      have hnb333 := NB817_783.out
      have hnc333 := NB783_817.out
      have hnb334 := NB817_784.out
      have hnc334 := NB784_817.out
      have hnb335 := NB817_792.out
      have hnc335 := NB792_817.out
      obtain ⟨hcz336_0, hcz336_1, hcz336_2, hfz336_0, hfz336_1, hfz336_2⟩ := BK817.c3
      go_wp2_with (first | ((with_reducible refine gate_callee (f := 27) rfl ?_); refine gL_ (some 157) Tryd.func27 #[.agg #[.bool t808, .string t809, .string t810], .agg #[.bool t813, .string t814, .string t815]] ?_; (with_reducible refine (decimal_Rem.calls kj237 t808 t809 t810 t813 t814 t815 t818 t819 t820 t821 _ A271.out).mono ?_); rintro e w337 ⟨rfl, hb⟩; refine ⟨_, rfl, ?_⟩; replace BK771 := BK771.bl hb; replace BK772 := BK772.bl hb; replace BK778 := BK778.bl hb; replace BK783 := BK783.bl hb; replace BK784 := BK784.bl hb; replace BK792 := BK792.bl hb; replace BK812 := BK812.bl hb; replace BK817 := BK817.bl hb; replace HB := Aside0.mk (below_step hb_ hb)) | ((with_reducible refine gate_dst (N := 23) rfl ?_); (try (refine gate_guard (by rfl) ?_; dsimp only)); refine box_event ?hg (N := 23) ?hd (cs := #[.bool false, .string (⟨#[]⟩ : ByteArray), .string (⟨#[]⟩ : ByteArray)]) (t := 23) ?hr ?_; (case hd => rfl); (case hg => rfl); (case hr => first | (go_simp; done) | (go_simp; rfl)); intro gb822 hg w338 hbox hb; have BK822 := Aside0.mk (hbox); have GW822 := Aside0.mk ((by rw [hg]; exact (below_size hb_) : w.heap.size ≤ gb822)); have GE822 := Aside0.mk ((by rw [hg]; exact (below_size hb_) : w.heap.size ≤ gb822)); have NB771_822 := BK771.nl hg; have NB822_771 := BK771.ng hg; have NB772_822 := BK772.nl hg; have NB822_772 := BK772.ng hg; have NB778_822 := BK778.nl hg; have NB822_778 := BK778.ng hg; have NB783_822 := BK783.nl hg; have NB822_783 := BK783.ng hg; have NB784_822 := BK784.nl hg; have NB822_784 := BK784.ng hg; have NB792_822 := BK792.nl hg; have NB822_792 := BK792.ng hg; have NB812_822 := BK812.nl hg; have NB822_812 := BK812.ng hg; have NB817_822 := BK817.nl hg; have NB822_817 := BK817.ng hg; replace BK771 := BK771.bl hb; replace BK772 := BK772.bl hb; replace BK778 := BK778.bl hb; replace BK783 := BK783.bl hb; replace BK784 := BK784.bl hb; replace BK792 := BK792.bl hb; replace BK812 := BK812.bl hb; replace BK817 := BK817.bl hb; replace HB := Aside0.mk (below_step hb_ hb); clear hb hbox hg; have hnb339 := NB822_771.out; have hnc339 := NB771_822.out; have hnb340 := NB822_772.out; have hnc340 := NB772_822.out; have hnb341 := NB822_778.out; have hnc341 := NB778_822.out; have hnb342 := NB822_783.out; have hnc342 := NB783_822.out; have hnb343 := NB822_784.out; have hnc343 := NB784_822.out; have hnb344 := NB822_792.out; have hnc344 := NB792_822.out; have hnb345 := NB822_812.out; have hnc345 := NB812_822.out; have hnb346 := NB822_817.out; have hnc346 := NB817_822.out; obtain ⟨hcz347_0, hcz347_1, hcz347_2, hfz347_0, hfz347_1, hfz347_2⟩ := BK822.c3; have hnb348 := NB778_771.out; have hnc348 := NB771_778.out; have hnb349 := NB778_772.out; have hnc349 := NB772_778.out; have hnb350 := NB778_783.out; have hnc350 := NB783_778.out; have hnb351 := NB778_784.out; have hnc351 := NB784_778.out; have hnb352 := NB778_792.out; have hnc352 := NB792_778.out; obtain ⟨hcz353_0, hcz353_1, hcz353_2, hfz353_0, hfz353_1, hfz353_2⟩ := BK778.c3) | ((with_reducible refine gate_callee (f := 39) rfl ?_); refine gL_ (some 163) Tryd.func39 #[.agg #[.bool t774, .string t775, .string t776], .int .i64 a2] ?_; (with_reducible refine (decimal_Shift.calls kj237 t774 t775 t776 a2 t823 t824 t825 t826 _ A272.out).mono ?_); rintro e w354 ⟨rfl, hb⟩; refine ⟨_, rfl, ?_⟩; replace BK771 := Aside0.mk (blk_below (g := gb771) (o := .cells #[.bool a0_0, .string a0_1, .string a0_2] 23 (0, 0)) (by refine blk_far ?_ NB771_822.out _; refine blk_far ?_ NB771_822.out _; refine blk_far ?_ NB771_822.out _; exact BK771.out) hb); replace BK772 := Aside0.mk (blk_below (g := gb772) (o := .cells #[.bool a1_0, .string a1_1, .string a1_2] 23 (0, 0)) (by refine blk_far ?_ NB772_822.out _; refine blk_far ?_ NB772_822.out _; refine blk_far ?_ NB772_822.out _; exact BK772.out) hb); replace BK778 := Aside0.mk (blk_below (g := gb778) (o := .cells #[.bool t774, .string t775, .string t776] 23 (0, 0)) (by refine blk_far ?_ NB778_822.out _; refine blk_far ?_ NB778_822.out _; refine blk_far ?_ NB778_822.out _; exact BK778.out) hb); replace BK783 := Aside0.mk (blk_below (g := gb783) (o := .cells #[.bool false, .string t775, .string t776] 23 (0, 0)) (by refine blk_far ?_ NB783_822.out _; refine blk_far ?_ NB783_822.out _; refine blk_far ?_ NB783_822.out _; exact BK783.out) hb); replace BK784 := Aside0.mk (blk_below (g := gb784) (o := .cells #[.bool false, .string a1_1, .string a1_2] 23 (0, 0)) (by refine blk_far ?_ NB784_822.out _; refine blk_far ?_ NB784_822.out _; refine blk_far ?_ NB784_822.out _; exact BK784.out) hb); replace BK792 := Aside0.mk (blk_below (g := gb792) (o := .cells #[.bool t788, .string t789, .string t790] 23 (0, 0)) (by refine blk_far ?_ NB792_822.out _; refine blk_far ?_ NB792_822.out _; refine blk_far ?_ NB792_822.out _; exact BK792.out) hb); replace BK812 := Aside0.mk (blk_below (g := gb812) (o := .cells #[.bool t808, .string t809, .string t810] 23 (0, 0)) (by refine blk_far ?_ NB812_822.out _; refine blk_far ?_ NB812_822.out _; refine blk_far ?_ NB812_822.out _; exact BK812.out) hb); replace BK817 := Aside0.mk (blk_below (g := gb817) (o := .cells #[.bool t813, .string t814, .string t815] 23 (0, 0)) (by refine blk_far ?_ NB817_822.out _; refine blk_far ?_ NB817_822.out _; refine blk_far ?_ NB817_822.out _; exact BK817.out) hb); replace BK822 := Aside0.mk (blk_below (g := gb822) (o := .cells #[.bool t818, .string t819, .string t820] 23 (0, 0)) (by refine blk_put (cs := #[.bool t818, .string t819, .string (⟨#[]⟩ : ByteArray)]) ?_ 2 _ rfl; refine blk_put (cs := #[.bool t818, .string (⟨#[]⟩ : ByteArray), .string (⟨#[]⟩ : ByteArray)]) ?_ 1 _ rfl; refine blk_put (cs := #[.bool false, .string (⟨#[]⟩ : ByteArray), .string (⟨#[]⟩ : ByteArray)]) ?_ 0 _ rfl; exact BK822.out) hb); replace HB := Aside0.mk (below_step hb_ hb)) | ((with_reducible refine gate_dst (N := 24) rfl ?_); (try (refine gate_guard (by rfl) ?_; dsimp only)); refine box_event ?hg (N := 24) ?hd (cs := #[.bool false, .string (⟨#[]⟩ : ByteArray), .string (⟨#[]⟩ : ByteArray)]) (t := 23) ?hr ?_; (case hd => rfl); (case hg => rfl); (case hr => first | (go_simp; done) | (go_simp; rfl)); intro gb827 hg w355 hbox hb; have BK827 := Aside0.mk (hbox); have GW827 := Aside0.mk ((by rw [hg]; exact (below_size hb_) : w.heap.size ≤ gb827)); have GE827 := Aside0.mk ((by rw [hg]; exact (below_size hb_) : w.heap.size ≤ gb827)); have NB771_827 := BK771.nl hg; have NB827_771 := BK771.ng hg; have NB772_827 := BK772.nl hg; have NB827_772 := BK772.ng hg; have NB778_827 := BK778.nl hg; have NB827_778 := BK778.ng hg; have NB783_827 := BK783.nl hg; have NB827_783 := BK783.ng hg; have NB784_827 := BK784.nl hg; have NB827_784 := BK784.ng hg; have NB792_827 := BK792.nl hg; have NB827_792 := BK792.ng hg; have NB812_827 := BK812.nl hg; have NB827_812 := BK812.ng hg; have NB817_827 := BK817.nl hg; have NB827_817 := BK817.ng hg; have NB822_827 := BK822.nl hg; have NB827_822 := BK822.ng hg; replace BK771 := BK771.bl hb; replace BK772 := BK772.bl hb; replace BK778 := BK778.bl hb; replace BK783 := BK783.bl hb; replace BK784 := BK784.bl hb; replace BK792 := BK792.bl hb; replace BK812 := BK812.bl hb; replace BK817 := BK817.bl hb; replace BK822 := BK822.bl hb; replace HB := Aside0.mk (below_step hb_ hb); clear hb hbox hg; have hnb356 := NB827_771.out; have hnc356 := NB771_827.out; have hnb357 := NB827_772.out; have hnc357 := NB772_827.out; have hnb358 := NB827_778.out; have hnc358 := NB778_827.out; have hnb359 := NB827_783.out; have hnc359 := NB783_827.out; have hnb360 := NB827_784.out; have hnc360 := NB784_827.out; have hnb361 := NB827_792.out; have hnc361 := NB792_827.out; have hnb362 := NB827_812.out; have hnc362 := NB812_827.out; have hnb363 := NB827_817.out; have hnc363 := NB817_827.out; have hnb364 := NB827_822.out; have hnc364 := NB822_827.out; obtain ⟨hcz365_0, hcz365_1, hcz365_2, hfz365_0, hfz365_1, hfz365_2⟩ := BK827.c3))
      go_ret
      exact ⟨by first | rfl | (simp [errW_none, errW_some] <;> rfl) | (simp [*, errW_none, errW_some] <;> rfl) | (simp [bne_nil_]; done), by repeat (first | (with_reducible first | exact HB.out | apply below_alloc | apply pw_below_drewN | apply below_drew1 | refine below_set ?_ GE771.out | refine below_set ?_ GE772.out | refine below_set ?_ GE778.out | refine below_set ?_ GE783.out | refine below_set ?_ GE784.out | refine below_set ?_ GE792.out | refine below_set ?_ GE812.out | refine below_set ?_ GE817.out | refine below_set ?_ GE822.out | refine below_set ?_ GE827.out) | exact HB.out)⟩
    ·rw [if_neg c273] at H
     have c273b0 : (t821 == 0) = false := beq_eq_false_iff_ne.mpr c273
     have c273b1 : (t821 != 0) = true := bne_iff_ne.mpr c273
     obtain rfl := Option.some.inj H
     have hnb366 := NB812_771.out
     have hnc366 := NB771_812.out
     have hnb367 := NB812_772.out
     have hnc367 := NB772_812.out
     have hnb368 := NB812_778.out
     have hnc368 := NB778_812.out
     have hnb369 := NB812_783.out
     have hnc369 := NB783_812.out
     have hnb370 := NB812_784.out
     have hnc370 := NB784_812.out
     have hnb371 := NB812_792.out
     have hnc371 := NB792_812.out
     have hnb372 := NB812_817.out
     have hnc372 := NB817_812.out
     obtain ⟨hcz373_0, hcz373_1, hcz373_2, hfz373_0, hfz373_1, hfz373_2⟩ := BK812.c3
     have hnb374 := NB817_771.out
     have hnc374 := NB771_817.out
     have hnb375 := NB817_772.out
     have hnc375 := NB772_817.out
     have hnb376 := NB817_778.out
     have hnc376 := NB778_817.out
     have hnb377 := NB817_783.out
     have hnc377 := NB783_817.out
     have hnb378 := NB817_784.out
     have hnc378 := NB784_817.out
     have hnb379 := NB817_792.out
     have hnc379 := NB792_817.out
     obtain ⟨hcz380_0, hcz380_1, hcz380_2, hfz380_0, hfz380_1, hfz380_2⟩ := BK817.c3
     go_wp2_with (first | ((with_reducible refine gate_callee (f := 27) rfl ?_); refine gL_ (some 157) Tryd.func27 #[.agg #[.bool t808, .string t809, .string t810], .agg #[.bool t813, .string t814, .string t815]] ?_; (with_reducible refine (decimal_Rem.calls kj237 t808 t809 t810 t813 t814 t815 t818 t819 t820 t821 _ A271.out).mono ?_); rintro e w381 ⟨rfl, hb⟩; refine ⟨_, rfl, ?_⟩; replace BK771 := BK771.bl hb; replace BK772 := BK772.bl hb; replace BK778 := BK778.bl hb; replace BK783 := BK783.bl hb; replace BK784 := BK784.bl hb; replace BK792 := BK792.bl hb; replace BK812 := BK812.bl hb; replace BK817 := BK817.bl hb; replace HB := Aside0.mk (below_step hb_ hb)) | ((with_reducible refine gate_dst (N := 23) rfl ?_); (try (refine gate_guard (by rfl) ?_; dsimp only)); refine box_event ?hg (N := 23) ?hd (cs := #[.bool false, .string (⟨#[]⟩ : ByteArray), .string (⟨#[]⟩ : ByteArray)]) (t := 23) ?hr ?_; (case hd => rfl); (case hg => rfl); (case hr => first | (go_simp; done) | (go_simp; rfl)); intro gb822 hg w382 hbox hb; have BK822 := Aside0.mk (hbox); have GW822 := Aside0.mk ((by rw [hg]; exact (below_size hb_) : w.heap.size ≤ gb822)); have GE822 := Aside0.mk ((by rw [hg]; exact (below_size hb_) : w.heap.size ≤ gb822)); have NB771_822 := BK771.nl hg; have NB822_771 := BK771.ng hg; have NB772_822 := BK772.nl hg; have NB822_772 := BK772.ng hg; have NB778_822 := BK778.nl hg; have NB822_778 := BK778.ng hg; have NB783_822 := BK783.nl hg; have NB822_783 := BK783.ng hg; have NB784_822 := BK784.nl hg; have NB822_784 := BK784.ng hg; have NB792_822 := BK792.nl hg; have NB822_792 := BK792.ng hg; have NB812_822 := BK812.nl hg; have NB822_812 := BK812.ng hg; have NB817_822 := BK817.nl hg; have NB822_817 := BK817.ng hg; replace BK771 := BK771.bl hb; replace BK772 := BK772.bl hb; replace BK778 := BK778.bl hb; replace BK783 := BK783.bl hb; replace BK784 := BK784.bl hb; replace BK792 := BK792.bl hb; replace BK812 := BK812.bl hb; replace BK817 := BK817.bl hb; replace HB := Aside0.mk (below_step hb_ hb); clear hb hbox hg; have hnb383 := NB822_771.out; have hnc383 := NB771_822.out; have hnb384 := NB822_772.out; have hnc384 := NB772_822.out; have hnb385 := NB822_778.out; have hnc385 := NB778_822.out; have hnb386 := NB822_783.out; have hnc386 := NB783_822.out; have hnb387 := NB822_784.out; have hnc387 := NB784_822.out; have hnb388 := NB822_792.out; have hnc388 := NB792_822.out; have hnb389 := NB822_812.out; have hnc389 := NB812_822.out; have hnb390 := NB822_817.out; have hnc390 := NB817_822.out; obtain ⟨hcz391_0, hcz391_1, hcz391_2, hfz391_0, hfz391_1, hfz391_2⟩ := BK822.c3; have hnb392 := NB778_771.out; have hnc392 := NB771_778.out; have hnb393 := NB778_772.out; have hnc393 := NB772_778.out; have hnb394 := NB778_783.out; have hnc394 := NB783_778.out; have hnb395 := NB778_784.out; have hnc395 := NB784_778.out; have hnb396 := NB778_792.out; have hnc396 := NB792_778.out; obtain ⟨hcz397_0, hcz397_1, hcz397_2, hfz397_0, hfz397_1, hfz397_2⟩ := BK778.c3) | ((with_reducible refine gate_callee (f := 39) rfl ?_); refine gL_ (some 163) Tryd.func39 #[.agg #[.bool t774, .string t775, .string t776], .int .i64 a2] ?_; (with_reducible refine (decimal_Shift.calls kj237 t774 t775 t776 a2 t823 t824 t825 t826 _ A272.out).mono ?_); rintro e w398 ⟨rfl, hb⟩; refine ⟨_, rfl, ?_⟩; replace BK771 := Aside0.mk (blk_below (g := gb771) (o := .cells #[.bool a0_0, .string a0_1, .string a0_2] 23 (0, 0)) (by refine blk_far ?_ NB771_822.out _; refine blk_far ?_ NB771_822.out _; refine blk_far ?_ NB771_822.out _; exact BK771.out) hb); replace BK772 := Aside0.mk (blk_below (g := gb772) (o := .cells #[.bool a1_0, .string a1_1, .string a1_2] 23 (0, 0)) (by refine blk_far ?_ NB772_822.out _; refine blk_far ?_ NB772_822.out _; refine blk_far ?_ NB772_822.out _; exact BK772.out) hb); replace BK778 := Aside0.mk (blk_below (g := gb778) (o := .cells #[.bool t774, .string t775, .string t776] 23 (0, 0)) (by refine blk_far ?_ NB778_822.out _; refine blk_far ?_ NB778_822.out _; refine blk_far ?_ NB778_822.out _; exact BK778.out) hb); replace BK783 := Aside0.mk (blk_below (g := gb783) (o := .cells #[.bool false, .string t775, .string t776] 23 (0, 0)) (by refine blk_far ?_ NB783_822.out _; refine blk_far ?_ NB783_822.out _; refine blk_far ?_ NB783_822.out _; exact BK783.out) hb); replace BK784 := Aside0.mk (blk_below (g := gb784) (o := .cells #[.bool false, .string a1_1, .string a1_2] 23 (0, 0)) (by refine blk_far ?_ NB784_822.out _; refine blk_far ?_ NB784_822.out _; refine blk_far ?_ NB784_822.out _; exact BK784.out) hb); replace BK792 := Aside0.mk (blk_below (g := gb792) (o := .cells #[.bool t788, .string t789, .string t790] 23 (0, 0)) (by refine blk_far ?_ NB792_822.out _; refine blk_far ?_ NB792_822.out _; refine blk_far ?_ NB792_822.out _; exact BK792.out) hb); replace BK812 := Aside0.mk (blk_below (g := gb812) (o := .cells #[.bool t808, .string t809, .string t810] 23 (0, 0)) (by refine blk_far ?_ NB812_822.out _; refine blk_far ?_ NB812_822.out _; refine blk_far ?_ NB812_822.out _; exact BK812.out) hb); replace BK817 := Aside0.mk (blk_below (g := gb817) (o := .cells #[.bool t813, .string t814, .string t815] 23 (0, 0)) (by refine blk_far ?_ NB817_822.out _; refine blk_far ?_ NB817_822.out _; refine blk_far ?_ NB817_822.out _; exact BK817.out) hb); replace BK822 := Aside0.mk (blk_below (g := gb822) (o := .cells #[.bool t818, .string t819, .string t820] 23 (0, 0)) (by refine blk_put (cs := #[.bool t818, .string t819, .string (⟨#[]⟩ : ByteArray)]) ?_ 2 _ rfl; refine blk_put (cs := #[.bool t818, .string (⟨#[]⟩ : ByteArray), .string (⟨#[]⟩ : ByteArray)]) ?_ 1 _ rfl; refine blk_put (cs := #[.bool false, .string (⟨#[]⟩ : ByteArray), .string (⟨#[]⟩ : ByteArray)]) ?_ 0 _ rfl; exact BK822.out) hb); replace HB := Aside0.mk (below_step hb_ hb)) | ((with_reducible refine gate_dst (N := 24) rfl ?_); (try (refine gate_guard (by rfl) ?_; dsimp only)); refine box_event ?hg (N := 24) ?hd (cs := #[.bool false, .string (⟨#[]⟩ : ByteArray), .string (⟨#[]⟩ : ByteArray)]) (t := 23) ?hr ?_; (case hd => rfl); (case hg => rfl); (case hr => first | (go_simp; done) | (go_simp; rfl)); intro gb827 hg w399 hbox hb; have BK827 := Aside0.mk (hbox); have GW827 := Aside0.mk ((by rw [hg]; exact (below_size hb_) : w.heap.size ≤ gb827)); have GE827 := Aside0.mk ((by rw [hg]; exact (below_size hb_) : w.heap.size ≤ gb827)); have NB771_827 := BK771.nl hg; have NB827_771 := BK771.ng hg; have NB772_827 := BK772.nl hg; have NB827_772 := BK772.ng hg; have NB778_827 := BK778.nl hg; have NB827_778 := BK778.ng hg; have NB783_827 := BK783.nl hg; have NB827_783 := BK783.ng hg; have NB784_827 := BK784.nl hg; have NB827_784 := BK784.ng hg; have NB792_827 := BK792.nl hg; have NB827_792 := BK792.ng hg; have NB812_827 := BK812.nl hg; have NB827_812 := BK812.ng hg; have NB817_827 := BK817.nl hg; have NB827_817 := BK817.ng hg; have NB822_827 := BK822.nl hg; have NB827_822 := BK822.ng hg; replace BK771 := BK771.bl hb; replace BK772 := BK772.bl hb; replace BK778 := BK778.bl hb; replace BK783 := BK783.bl hb; replace BK784 := BK784.bl hb; replace BK792 := BK792.bl hb; replace BK812 := BK812.bl hb; replace BK817 := BK817.bl hb; replace BK822 := BK822.bl hb; replace HB := Aside0.mk (below_step hb_ hb); clear hb hbox hg; have hnb400 := NB827_771.out; have hnc400 := NB771_827.out; have hnb401 := NB827_772.out; have hnc401 := NB772_827.out; have hnb402 := NB827_778.out; have hnc402 := NB778_827.out; have hnb403 := NB827_783.out; have hnc403 := NB783_827.out; have hnb404 := NB827_784.out; have hnc404 := NB784_827.out; have hnb405 := NB827_792.out; have hnc405 := NB792_827.out; have hnb406 := NB827_812.out; have hnc406 := NB812_827.out; have hnb407 := NB827_817.out; have hnc407 := NB817_827.out; have hnb408 := NB827_822.out; have hnc408 := NB822_827.out; obtain ⟨hcz409_0, hcz409_1, hcz409_2, hfz409_0, hfz409_1, hfz409_2⟩ := BK827.c3))
     go_ret
     exact ⟨by first | rfl | (simp [errW_none, errW_some] <;> rfl) | (simp [*, errW_none, errW_some] <;> rfl) | (simp [bne_nil_]; done), by repeat (first | (with_reducible first | exact HB.out | apply below_alloc | apply pw_below_drewN | apply below_drew1 | refine below_set ?_ GE771.out | refine below_set ?_ GE772.out | refine below_set ?_ GE778.out | refine below_set ?_ GE783.out | refine below_set ?_ GE784.out | refine below_set ?_ GE792.out | refine below_set ?_ GE812.out | refine below_set ?_ GE817.out | refine below_set ?_ GE822.out | refine below_set ?_ GE827.out) | exact HB.out)⟩
theorem idiomlaw02_DecimalRest.calls_r3 : idiomlaw02_DecimalRest.calls_r1_s.2.1 := idiomlaw02_DecimalRest.calls_r3_s.2 ⟨idiomlaw02_DecimalRest.calls_r4⟩
theorem idiomlaw02_DecimalRest.calls_r1 : idiomlaw02_DecimalRest.calls_r0_s.1 := idiomlaw02_DecimalRest.calls_r1_s.2.2 ⟨idiomlaw02_DecimalRest.calls_r2⟩ ⟨idiomlaw02_DecimalRest.calls_r3⟩
theorem idiomlaw02_DecimalRest.calls_r0 : idiomlaw02_DecimalRest.calls_all_s.1 := idiomlaw02_DecimalRest.calls_r0_s.2 ⟨idiomlaw02_DecimalRest.calls_r1⟩
theorem idiomlaw02_DecimalRest.calls_all : ∀ (k : Nat) (a0_0 : Bool) (a0_1 : ByteArray) (a0_2 : ByteArray) (a1_0 : Bool) (a1_1 : ByteArray) (a1_2 : ByteArray) (a2 : Int) (r : Bool) (w : World) (h : idiomlaw02_DecimalRest.f k a0_0 a0_1 a0_2 a1_0 a1_1 a1_2 a2 = some r), Calls Tryd.prog 8 #[.agg #[.bool a0_0, .string a0_1, .string a0_2], .agg #[.bool a1_0, .string a1_1, .string a1_2], .int .i64 a2] w fun e w' => e = .returned (.bool r) ∧ Below w.heap.size w w' := idiomlaw02_DecimalRest.calls_all_s.2 ⟨idiomlaw02_DecimalRest.calls_r0⟩
theorem idiomlaw02_DecimalRest.calls (k : Nat) (a0_0 : Bool) (a0_1 : ByteArray) (a0_2 : ByteArray) (a1_0 : Bool) (a1_1 : ByteArray) (a1_2 : ByteArray) (a2 : Int) (r : Bool) (w : World) (h : idiomlaw02_DecimalRest.f k a0_0 a0_1 a0_2 a1_0 a1_1 a1_2 a2 = some r) :
    Calls Tryd.prog 8 #[.agg #[.bool a0_0, .string a0_1, .string a0_2], .agg #[.bool a1_0, .string a1_1, .string a1_2], .int .i64 a2] w fun e w' => e = .returned (.bool r) ∧ Below w.heap.size w w' := idiomlaw02_DecimalRest.calls_all k a0_0 a0_1 a0_2 a1_0 a1_1 a1_2 a2 r w h
end Go.Proofs.YtihjcaglhjepdaaDoor.P
