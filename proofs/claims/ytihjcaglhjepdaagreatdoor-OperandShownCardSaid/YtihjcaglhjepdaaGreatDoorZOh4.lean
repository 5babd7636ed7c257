/- A part of the proof. Part 5 of 7; its texts were written by programs, some out of the kit's print. -/
import Derived.Test.YtihjcaglhjepdaaGreatDoorZOh3
namespace Go.Proofs.YtihjcaglhjepdaaGreatDoor.P
open Go.RowKit Go.Proofs.YtihjcaglhjepdaaGreatDoorW.PrintWords Go.Proofs.YtihjcaglhjepdaaGreatDoorW.PrintLast Go.Proofs.YtihjcaglhjepdaaGreatDoorW.PrintMore
attribute [local go_sem] max2_int max_two
set_option linter.unusedVariables false
set_option linter.unusedSimpArgs false
def idiomref04_Mod.j0 : Nat → ByteArray → Int → Bool → Bool → ByteArray → ByteArray → Option (Bool × ByteArray × ByteArray × Int)
  | 0, _, _, _, _, _, _ => none
  | k + 1, x2, x9, x21, x481000, x481001, x481002 => if x21 = true then (some (x481000, x481001, x481002, x9)) else ((idiomref04_IsNumber.f k x2).bind fun t481 => (if t481 = true then (if x2.toList = ([48] : List UInt8) then (some (false, (⟨#[]⟩ : ByteArray), (⟨#[]⟩ : ByteArray), 40)) else ((idiomref02_Rem.f k x481000 x481001 x481002 false x2 (⟨#[]⟩ : ByteArray)).bind fun bt482 => (some (bt482.1, bt482.2.1, bt482.2.2.1, bt482.2.2.2)))) else (some (false, (⟨#[]⟩ : ByteArray), (⟨#[]⟩ : ByteArray), 40))))
def idiomref04_Mod.f (k : Nat) (a0_0 : Bool) (a0_1 : ByteArray) (a0_2 : ByteArray) (a0_3 : ByteArray) (a0_4 : Int) (a0_5 : Int) (a0_6 : ByteArray) (a0_7 : ByteArray) (a0_8 : Int) (a1 : ByteArray) (a2 : ByteArray) : Option (Bool × ByteArray × ByteArray × Int) := (idiomref04_Get.f k a0_0 a0_1 a0_2 a0_3 a0_4 a0_5 a0_6 a0_7 a0_8 a1).bind fun bt476 => (if bt476.2.2.2 = 0 then (idiomref04_Mod.j0 k a2 bt476.2.2.2 (a2.toList == ([] : List UInt8)) bt476.1 bt476.2.1 bt476.2.2.1) else (idiomref04_Mod.j0 k a2 bt476.2.2.2 true bt476.1 bt476.2.1 bt476.2.2.1))
set_option maxHeartbeats 8000000 in
set_option maxRecDepth 100000 in
theorem idiomref04_Mod.calls (k : Nat) (a0_0 : Bool) (a0_1 : ByteArray) (a0_2 : ByteArray) (a0_3 : ByteArray) (a0_4 : Int) (a0_5 : Int) (a0_6 : ByteArray) (a0_7 : ByteArray) (a0_8 : Int) (a1 : ByteArray) (a2 : ByteArray) (r1 : Bool) (r2 : ByteArray) (r3 : ByteArray) (r4 : Int) (w : World) (ht : TB w) (h : idiomref04_Mod.f k a0_0 a0_1 a0_2 a0_3 a0_4 a0_5 a0_6 a0_7 a0_8 a1 a2 = some (r1, r2, r3, r4)) :
    Calls Tryz.prog 9 #[.agg #[.bool a0_0, .string a0_1, .string a0_2, .string a0_3, .int .i64 a0_4, .int .i64 a0_5, .string a0_6, .string a0_7, .int .i64 a0_8], .string a1, .string a2] w fun e w' => e = .returned (.tuple #[.agg #[.bool r1, .string r2, .string r3], .int .i64 r4]) ∧ Below w.heap.size w w' := by
 have hu25 := Tryz.underlying25
 have hu23 := Tryz.underlying23
 have HTB := Aside0.mk ht
 clear ht
 have HB := Aside0.mk (Below.refl w.heap.size w)
 unfold idiomref04_Mod.f at h
 have H := h
 clear h
 replace H := Option.bind_eq_some_iff.mp H
 obtain ⟨⟨t476, t477, t478, t479⟩, A40, H⟩ := H
 try dsimp only at H
 have A4 := Aside0.mk A40
 clear A40
 have HC5 := Aside0.mk H
 clear H
 go_enter Tryz.func9, Tryz.ntmps9
 go_upto_region 2 with (first | ((with_reducible refine gate_dst (N := 3) rfl ?_); refine bx_ #[.bool a0_0, .string a0_1, .string a0_2, .string a0_3, .int .i64 a0_4, .int .i64 a0_5, .string a0_6, .string a0_7, .int .i64 a0_8] 25 ?_; intro gb474 hg w6 hbox hb; have BK474 := Aside0.mk (hbox); have GW474 := ge_ (w := w) hg; have GE474 := ge_ (w := w) hg; replace HB := Aside0.mk (below_step hb_ hb); clear hb hbox hg) | ((with_reducible refine gate_dst (N := 6) rfl ?_); refine bx_ #[.bool false, .string (⟨#[]⟩ : ByteArray), .string (⟨#[]⟩ : ByteArray)] 23 ?_; intro gb475 hg w7 hbox hb; have BK475 := Aside0.mk (hbox); have GW475 := ge_ (w := w) hg; have GE475 := ge_ (w := w) hg; have NB474_475 := Aside0.mk ((by rw [hg]; exact Nat.ne_of_lt (blk_lt (g := gb474) (o := .cells #[.bool a0_0, .string a0_1, .string a0_2, .string a0_3, .int .i64 a0_4, .int .i64 a0_5, .string a0_6, .string a0_7, .int .i64 a0_8] 25 (0, 0)) (by (with_reducible repeat (first | refine blk_drewN ?_ _ | refine blk_drew ?_ | refine blk_alloc ?_ _)); exact BK474.out)) : gb474 ≠ gb475)); have NB475_474 := Aside0.mk ((by rw [hg]; exact Nat.ne_of_gt (blk_lt (g := gb474) (o := .cells #[.bool a0_0, .string a0_1, .string a0_2, .string a0_3, .int .i64 a0_4, .int .i64 a0_5, .string a0_6, .string a0_7, .int .i64 a0_8] 25 (0, 0)) (by (with_reducible repeat (first | refine blk_drewN ?_ _ | refine blk_drew ?_ | refine blk_alloc ?_ _)); exact BK474.out)) : gb475 ≠ gb474)); replace BK474 := Aside0.mk (blk_below (g := gb474) (o := .cells #[.bool a0_0, .string a0_1, .string a0_2, .string a0_3, .int .i64 a0_4, .int .i64 a0_5, .string a0_6, .string a0_7, .int .i64 a0_8] 25 (0, 0)) (by (with_reducible repeat (first | refine blk_drewN ?_ _ | refine blk_drew ?_ | refine blk_alloc ?_ _)); exact BK474.out) hb); replace HB := Aside0.mk (below_step hb_ hb); clear hb hbox hg; have hnb8 := NB474_475.out; have hnc8 := NB475_474.out; obtain ⟨hcz9_0, hcz9_1, hcz9_2, hcz9_3, hcz9_4, hcz9_5, hcz9_6, hcz9_7, hcz9_8, hfz9_0, hfz9_1, hfz9_2, hfz9_3, hfz9_4, hfz9_5, hfz9_6, hfz9_7, hfz9_8⟩ := BK474.c9) | ((with_reducible refine gate_callee (f := 6) rfl ?_); refine gL_ (some 13) Tryz.func6 #[.agg #[.bool a0_0, .string a0_1, .string a0_2, .string a0_3, .int .i64 a0_4, .int .i64 a0_5, .string a0_6, .string a0_7, .int .i64 a0_8], .string a1] ?_; (with_reducible refine (idiomref04_Get.calls k a0_0 a0_1 a0_2 a0_3 a0_4 a0_5 a0_6 a0_7 a0_8 a1 t476 t477 t478 t479 _ (TB.below HTB.out hb_) A4.out).mono ?_); rintro e w10 ⟨rfl, hb⟩; refine ⟨_, rfl, ?_⟩; replace BK474 := Aside0.mk (blk_below (g := gb474) (o := .cells #[.bool a0_0, .string a0_1, .string a0_2, .string a0_3, .int .i64 a0_4, .int .i64 a0_5, .string a0_6, .string a0_7, .int .i64 a0_8] 25 (0, 0)) (by (with_reducible repeat (first | refine blk_drewN ?_ _ | refine blk_drew ?_ | refine blk_alloc ?_ _)); exact BK474.out) hb); replace BK475 := Aside0.mk (blk_below (g := gb475) (o := .cells #[.bool false, .string (⟨#[]⟩ : ByteArray), .string (⟨#[]⟩ : ByteArray)] 23 (0, 0)) (by (with_reducible repeat (first | refine blk_drewN ?_ _ | refine blk_drew ?_ | refine blk_alloc ?_ _)); exact BK475.out) hb); replace HB := Aside0.mk (below_step hb_ hb)) | ((with_reducible refine gate_dst (N := 8) rfl ?_); refine bx_ #[.bool false, .string (⟨#[]⟩ : ByteArray), .string (⟨#[]⟩ : ByteArray)] 23 ?_; intro gb480 hg w11 hbox hb; have BK480 := Aside0.mk (hbox); have GW480 := ge_ (w := w) hg; have GE480 := ge_ (w := w) hg; have NB474_480 := Aside0.mk ((by rw [hg]; exact Nat.ne_of_lt (blk_lt (g := gb474) (o := .cells #[.bool a0_0, .string a0_1, .string a0_2, .string a0_3, .int .i64 a0_4, .int .i64 a0_5, .string a0_6, .string a0_7, .int .i64 a0_8] 25 (0, 0)) (by (with_reducible repeat (first | refine blk_drewN ?_ _ | refine blk_drew ?_ | refine blk_alloc ?_ _)); exact BK474.out)) : gb474 ≠ gb480)); have NB480_474 := Aside0.mk ((by rw [hg]; exact Nat.ne_of_gt (blk_lt (g := gb474) (o := .cells #[.bool a0_0, .string a0_1, .string a0_2, .string a0_3, .int .i64 a0_4, .int .i64 a0_5, .string a0_6, .string a0_7, .int .i64 a0_8] 25 (0, 0)) (by (with_reducible repeat (first | refine blk_drewN ?_ _ | refine blk_drew ?_ | refine blk_alloc ?_ _)); exact BK474.out)) : gb480 ≠ gb474)); have NB475_480 := Aside0.mk ((by rw [hg]; exact Nat.ne_of_lt (blk_lt (g := gb475) (o := .cells #[.bool false, .string (⟨#[]⟩ : ByteArray), .string (⟨#[]⟩ : ByteArray)] 23 (0, 0)) (by (with_reducible repeat (first | refine blk_drewN ?_ _ | refine blk_drew ?_ | refine blk_alloc ?_ _)); exact BK475.out)) : gb475 ≠ gb480)); have NB480_475 := Aside0.mk ((by rw [hg]; exact Nat.ne_of_gt (blk_lt (g := gb475) (o := .cells #[.bool false, .string (⟨#[]⟩ : ByteArray), .string (⟨#[]⟩ : ByteArray)] 23 (0, 0)) (by (with_reducible repeat (first | refine blk_drewN ?_ _ | refine blk_drew ?_ | refine blk_alloc ?_ _)); exact BK475.out)) : gb480 ≠ gb475)); replace BK474 := Aside0.mk (blk_below (g := gb474) (o := .cells #[.bool a0_0, .string a0_1, .string a0_2, .string a0_3, .int .i64 a0_4, .int .i64 a0_5, .string a0_6, .string a0_7, .int .i64 a0_8] 25 (0, 0)) (by (with_reducible repeat (first | refine blk_drewN ?_ _ | refine blk_drew ?_ | refine blk_alloc ?_ _)); exact BK474.out) hb); replace BK475 := Aside0.mk (blk_below (g := gb475) (o := .cells #[.bool false, .string (⟨#[]⟩ : ByteArray), .string (⟨#[]⟩ : ByteArray)] 23 (0, 0)) (by (with_reducible repeat (first | refine blk_drewN ?_ _ | refine blk_drew ?_ | refine blk_alloc ?_ _)); exact BK475.out) hb); replace HB := Aside0.mk (below_step hb_ hb); clear hb hbox hg; have hnb12 := NB480_474.out; have hnc12 := NB474_480.out; have hnb13 := NB480_475.out; have hnc13 := NB475_480.out; obtain ⟨hcz14_0, hcz14_1, hcz14_2, hfz14_0, hfz14_1, hfz14_2⟩ := BK480.c3))
 (try simp only [Act.put, List.setIfInBounds_toArray, List.set_cons_zero, List.set_cons_succ])
 go_cut [21] (fun v21 wc => ∃ (kq : Nat) (x21_4 : Bool), v21 = .bool x21_4 ∧ Aside0 (idiomref04_Mod.j0 kq a2 t479 x21_4 t476 t477 t478 = some (r1, r2, r3, r4)) ∧ Aside0 (kq ≤ k) ∧ Aside0 (wc.heap[gb474]? = some (.cells #[.bool a0_0, .string a0_1, .string a0_2, .string a0_3, .int .i64 a0_4, .int .i64 a0_5, .string a0_6, .string a0_7, .int .i64 a0_8] 25 (0, 0))) ∧ Aside0 (wc.heap[gb475]? = some (.cells #[.bool false, .string (⟨#[]⟩ : ByteArray), .string (⟨#[]⟩ : ByteArray)] 23 (0, 0))) ∧ Aside0 (wc.heap[gb480]? = some (.cells #[.bool t476, .string t477, .string t478] 23 (0, 0))) ∧ Aside0 (Below w.heap.size w wc))
 case first =>
  have H := HC5.out
  clear HC5
  by_cases c15 : t479 = 0
  ·rw [if_pos c15] at H
   have c15b0 : (t479 == 0) = true := beq_iff_eq.mpr c15
   have c15b1 : (t479 != 0) = false := bne_eq_false_iff_eq.mpr c15
   clear c15
   (first | rw [c15b0] | (simp only [i64_w, i32_w]; rw [c15b0]) | rw [c15b1] | skip)
   have H' := Aside0.mk H
   clear H
   go_wp2
   go_meet
   case rel => exact ⟨_, ((a2.toList == ([] : List UInt8))), (by first | rfl | (simp; done) | (simp [*]; done)), H', ⟨by first | omega | exact Nat.le_refl _⟩, ⟨by (with_reducible repeat (first | refine blk_drewN ?_ _ | refine blk_drew ?_ | refine blk_alloc ?_ _)); refine blk_far ?_ NB474_480.out _; (with_reducible repeat (first | refine blk_drewN ?_ _ | refine blk_drew ?_ | refine blk_alloc ?_ _)); refine blk_far ?_ NB474_480.out _; (with_reducible repeat (first | refine blk_drewN ?_ _ | refine blk_drew ?_ | refine blk_alloc ?_ _)); refine blk_far ?_ NB474_480.out _; (with_reducible repeat (first | refine blk_drewN ?_ _ | refine blk_drew ?_ | refine blk_alloc ?_ _)); exact BK474.out⟩, ⟨by (with_reducible repeat (first | refine blk_drewN ?_ _ | refine blk_drew ?_ | refine blk_alloc ?_ _)); refine blk_far ?_ NB475_480.out _; (with_reducible repeat (first | refine blk_drewN ?_ _ | refine blk_drew ?_ | refine blk_alloc ?_ _)); refine blk_far ?_ NB475_480.out _; (with_reducible repeat (first | refine blk_drewN ?_ _ | refine blk_drew ?_ | refine blk_alloc ?_ _)); refine blk_far ?_ NB475_480.out _; (with_reducible repeat (first | refine blk_drewN ?_ _ | refine blk_drew ?_ | refine blk_alloc ?_ _)); exact BK475.out⟩, ⟨by (with_reducible repeat (first | refine blk_drewN ?_ _ | refine blk_drew ?_ | refine blk_alloc ?_ _)); refine blk_put (cs := #[.bool t476, .string t477, .string (⟨#[]⟩ : ByteArray)]) ?_ 2 _ rfl; (with_reducible repeat (first | refine blk_drewN ?_ _ | refine blk_drew ?_ | refine blk_alloc ?_ _)); refine blk_put (cs := #[.bool t476, .string (⟨#[]⟩ : ByteArray), .string (⟨#[]⟩ : ByteArray)]) ?_ 1 _ rfl; (with_reducible repeat (first | refine blk_drewN ?_ _ | refine blk_drew ?_ | refine blk_alloc ?_ _)); refine blk_put (cs := #[.bool false, .string (⟨#[]⟩ : ByteArray), .string (⟨#[]⟩ : ByteArray)]) ?_ 0 _ rfl; (with_reducible repeat (first | refine blk_drewN ?_ _ | refine blk_drew ?_ | refine blk_alloc ?_ _)); exact BK480.out⟩, ⟨hb_⟩⟩
  ·rw [if_neg c15] at H
   have c15b0 : (t479 == 0) = false := beq_eq_false_iff_ne.mpr c15
   have c15b1 : (t479 != 0) = true := bne_iff_ne.mpr c15
   (first | rw [c15b0] | (simp only [i64_w, i32_w]; rw [c15b0]) | rw [c15b1] | skip)
   have H' := Aside0.mk H
   clear H
   go_wp2
   go_meet
   case rel => exact ⟨_, (true), (by first | rfl | (simp; done) | (simp [*]; done)), H', ⟨by first | omega | exact Nat.le_refl _⟩, ⟨by (with_reducible repeat (first | refine blk_drewN ?_ _ | refine blk_drew ?_ | refine blk_alloc ?_ _)); refine blk_far ?_ NB474_480.out _; (with_reducible repeat (first | refine blk_drewN ?_ _ | refine blk_drew ?_ | refine blk_alloc ?_ _)); refine blk_far ?_ NB474_480.out _; (with_reducible repeat (first | refine blk_drewN ?_ _ | refine blk_drew ?_ | refine blk_alloc ?_ _)); refine blk_far ?_ NB474_480.out _; (with_reducible repeat (first | refine blk_drewN ?_ _ | refine blk_drew ?_ | refine blk_alloc ?_ _)); exact BK474.out⟩, ⟨by (with_reducible repeat (first | refine blk_drewN ?_ _ | refine blk_drew ?_ | refine blk_alloc ?_ _)); refine blk_far ?_ NB475_480.out _; (with_reducible repeat (first | refine blk_drewN ?_ _ | refine blk_drew ?_ | refine blk_alloc ?_ _)); refine blk_far ?_ NB475_480.out _; (with_reducible repeat (first | refine blk_drewN ?_ _ | refine blk_drew ?_ | refine blk_alloc ?_ _)); refine blk_far ?_ NB475_480.out _; (with_reducible repeat (first | refine blk_drewN ?_ _ | refine blk_drew ?_ | refine blk_alloc ?_ _)); exact BK475.out⟩, ⟨by (with_reducible repeat (first | refine blk_drewN ?_ _ | refine blk_drew ?_ | refine blk_alloc ?_ _)); refine blk_put (cs := #[.bool t476, .string t477, .string (⟨#[]⟩ : ByteArray)]) ?_ 2 _ rfl; (with_reducible repeat (first | refine blk_drewN ?_ _ | refine blk_drew ?_ | refine blk_alloc ?_ _)); refine blk_put (cs := #[.bool t476, .string (⟨#[]⟩ : ByteArray), .string (⟨#[]⟩ : ByteArray)]) ?_ 1 _ rfl; (with_reducible repeat (first | refine blk_drewN ?_ _ | refine blk_drew ?_ | refine blk_alloc ?_ _)); refine blk_put (cs := #[.bool false, .string (⟨#[]⟩ : ByteArray), .string (⟨#[]⟩ : ByteArray)]) ?_ 0 _ rfl; (with_reducible repeat (first | refine blk_drewN ?_ _ | refine blk_drew ?_ | refine blk_alloc ?_ _)); exact BK480.out⟩, ⟨hb_⟩⟩
 case rest =>
  clear HC5
  (try clear hcz14_0); (try clear hcz14_1); (try clear hcz14_2); (try clear hcz9_0); (try clear hcz9_1); (try clear hcz9_2); (try clear hcz9_3); (try clear hcz9_4); (try clear hcz9_5); (try clear hcz9_6); (try clear hcz9_7); (try clear hcz9_8); (try clear hfz14_0); (try clear hfz14_1); (try clear hfz14_2); (try clear hfz9_0); (try clear hfz9_1); (try clear hfz9_2); (try clear hfz9_3); (try clear hfz9_4); (try clear hfz9_5); (try clear hfz9_6); (try clear hfz9_7); (try clear hfz9_8)
  obtain ⟨kq, x21_4, rfl, HA, HJ4, BK474, BK475, BK480, HB⟩ := hcut
  cases kq with
  | zero => exact absurd HA.out (by simp [idiomref04_Mod.j0])
  | succ kj4 =>
   have H := HA.out
   clear HA
   simp only [idiomref04_Mod.j0] at H
   by_cases c16 : x21_4 = true
   ·subst c16
    have H1 : (some (t476, t477, t478, t479)) = some (r1, r2, r3, r4) := by rw [if_pos rfl] at H; exact H
    clear H
    have H := H1
    clear H1
    simp only [Option.some.injEq, Prod.mk.injEq] at H
    obtain ⟨rfl, rfl, rfl, rfl⟩ := H
    have hnb17 := NB480_474.out
    have hnc17 := NB474_480.out
    have hnb18 := NB480_475.out
    have hnc18 := NB475_480.out
    obtain ⟨hcz19_0, hcz19_1, hcz19_2, hfz19_0, hfz19_1, hfz19_2⟩ := BK480.c3
    have hnb20 := NB475_474.out
    have hnc20 := NB474_475.out
    obtain ⟨hcz21_0, hcz21_1, hcz21_2, hfz21_0, hfz21_1, hfz21_2⟩ := BK475.c3
    go_wp2
    refine bodyPost_ret (results_ct rfl _ _ gb475 23 #[.bool t476, .string t477, .string t478] (0, 0) _ rfl (by (with_reducible repeat (first | refine blk_drewN ?_ _ | refine blk_drew ?_ | refine blk_alloc ?_ _)); refine blk_put (cs := #[.bool t476, .string t477, .string (⟨#[]⟩ : ByteArray)]) ?_ 2 _ rfl; (with_reducible repeat (first | refine blk_drewN ?_ _ | refine blk_drew ?_ | refine blk_alloc ?_ _)); refine blk_put (cs := #[.bool t476, .string (⟨#[]⟩ : ByteArray), .string (⟨#[]⟩ : ByteArray)]) ?_ 1 _ rfl; (with_reducible repeat (first | refine blk_drewN ?_ _ | refine blk_drew ?_ | refine blk_alloc ?_ _)); refine blk_put (cs := #[.bool false, .string (⟨#[]⟩ : ByteArray), .string (⟨#[]⟩ : ByteArray)]) ?_ 0 _ rfl; (with_reducible repeat (first | refine blk_drewN ?_ _ | refine blk_drew ?_ | refine blk_alloc ?_ _)); exact BK475.out) Tryz.underlying23 rfl (by kernel_rfl)) rfl ?_
    exact fin_
   ·replace c16 := Bool.eq_false_iff.mpr c16
    subst c16
    have H1 : ((idiomref04_IsNumber.f kj4 a2).bind fun t481 => (if t481 = true then (if a2.toList = ([48] : List UInt8) then (some (false, (⟨#[]⟩ : ByteArray), (⟨#[]⟩ : ByteArray), 40)) else ((idiomref02_Rem.f kj4 t476 t477 t478 false a2 (⟨#[]⟩ : ByteArray)).bind fun bt482 => (some (bt482.1, bt482.2.1, bt482.2.2.1, bt482.2.2.2)))) else (some (false, (⟨#[]⟩ : ByteArray), (⟨#[]⟩ : ByteArray), 40)))) = some (r1, r2, r3, r4) := by rw [if_neg (show ¬ (false = true) by decide)] at H; exact H
    clear H
    have H := H1
    clear H1
    replace H := Option.bind_eq_some_iff.mp H
    obtain ⟨t481, A220, H⟩ := H
    try dsimp only at H
    have A22 := Aside0.mk A220
    clear A220
    by_cases c23 : t481 = true
    ·subst c23
     have H1 : (if a2.toList = ([48] : List UInt8) then (some (false, (⟨#[]⟩ : ByteArray), (⟨#[]⟩ : ByteArray), 40)) else ((idiomref02_Rem.f kj4 t476 t477 t478 false a2 (⟨#[]⟩ : ByteArray)).bind fun bt482 => (some (bt482.1, bt482.2.1, bt482.2.2.1, bt482.2.2.2)))) = some (r1, r2, r3, r4) := by rw [if_pos rfl] at H; exact H
     clear H
     have H := H1
     clear H1
     have HF24 := Aside0.mk H
     clear H
     go_upto_if 30 with (first | ((with_reducible refine gate_callee (f := 21) rfl ?_); refine gL_ (some 25) Tryz.func21 #[.string a2] ?_; (with_reducible refine (idiomref04_IsNumber.calls kj4 a2 true _ A22.out).mono ?_); rintro e w' ⟨rfl, ⟨nd, rfl⟩⟩; refine ⟨_, rfl, ?_⟩))
     (try simp only [Act.put, List.setIfInBounds_toArray, List.set_cons_zero, List.set_cons_succ])
     have H := HF24.out
     clear HF24
     by_cases c25 : a2.toList = ([48] : List UInt8)
     ·rw [if_pos c25] at H
      have c25b0 : (a2.toList == ([48] : List UInt8)) = true := beq_iff_eq.mpr c25
      have c25b1 : (a2.toList != ([48] : List UInt8)) = false := bne_eq_false_iff_eq.mpr c25
      clear c25
      (first | rw [c25b0] | (simp only [i64_w, i32_w]; rw [c25b0]) | rw [c25b1] | skip)
      simp only [Option.some.injEq, Prod.mk.injEq] at H
      obtain ⟨rfl, rfl, rfl, rfl⟩ := H
      have hnb26 := NB475_474.out
      have hnc26 := NB474_475.out
      have hnb27 := NB475_480.out
      have hnc27 := NB480_475.out
      obtain ⟨hcz28_0, hcz28_1, hcz28_2, hfz28_0, hfz28_1, hfz28_2⟩ := BK475.c3
      go_wp2
      refine bodyPost_ret (results_ct rfl _ _ gb475 23 #[.bool false, .string (⟨#[]⟩ : ByteArray), .string (⟨#[]⟩ : ByteArray)] (0, 0) _ rfl (by (with_reducible repeat (first | refine blk_drewN ?_ _ | refine blk_drew ?_ | refine blk_alloc ?_ _)); refine blk_put (cs := #[.bool false, .string (⟨#[]⟩ : ByteArray), .string (⟨#[]⟩ : ByteArray)]) ?_ 2 _ rfl; (with_reducible repeat (first | refine blk_drewN ?_ _ | refine blk_drew ?_ | refine blk_alloc ?_ _)); refine blk_put (cs := #[.bool false, .string (⟨#[]⟩ : ByteArray), .string (⟨#[]⟩ : ByteArray)]) ?_ 1 _ rfl; (with_reducible repeat (first | refine blk_drewN ?_ _ | refine blk_drew ?_ | refine blk_alloc ?_ _)); refine blk_put (cs := #[.bool false, .string (⟨#[]⟩ : ByteArray), .string (⟨#[]⟩ : ByteArray)]) ?_ 0 _ rfl; (with_reducible repeat (first | refine blk_drewN ?_ _ | refine blk_drew ?_ | refine blk_alloc ?_ _)); exact BK475.out) Tryz.underlying23 rfl (by kernel_rfl)) rfl ?_
      exact fin_
     ·rw [if_neg c25] at H
      have c25b0 : (a2.toList == ([48] : List UInt8)) = false := beq_eq_false_iff_ne.mpr c25
      have c25b1 : (a2.toList != ([48] : List UInt8)) = true := bne_iff_ne.mpr c25
      (first | rw [c25b0] | (simp only [i64_w, i32_w]; rw [c25b0]) | rw [c25b1] | skip)
      replace H := Option.bind_eq_some_iff.mp H
      obtain ⟨⟨t482, t483, t484, t485⟩, A290, H⟩ := H
      try dsimp only at H
      have A29 := Aside0.mk A290
      clear A290
      simp only [Option.some.injEq, Prod.mk.injEq] at H
      obtain ⟨rfl, rfl, rfl, rfl⟩ := H
      have hnb30 := NB480_474.out
      have hnc30 := NB474_480.out
      have hnb31 := NB480_475.out
      have hnc31 := NB475_480.out
      obtain ⟨hcz32_0, hcz32_1, hcz32_2, hfz32_0, hfz32_1, hfz32_2⟩ := BK480.c3
      go_wp2_with (first | ((with_reducible refine gate_callee (f := 22) rfl ?_); refine gL_ (some 35) Tryz.func22 #[.agg #[.bool t476, .string t477, .string t478], .agg #[.bool false, .string a2, .string (⟨#[]⟩ : ByteArray)]] ?_; (with_reducible refine (idiomref02_Rem.calls kj4 t476 t477 t478 false a2 (⟨#[]⟩ : ByteArray) t482 t483 t484 t485 _ A29.out).mono ?_); rintro e w33 ⟨rfl, hb⟩; refine ⟨_, rfl, ?_⟩; replace BK474 := Aside0.mk (blk_below (g := gb474) (o := .cells #[.bool a0_0, .string a0_1, .string a0_2, .string a0_3, .int .i64 a0_4, .int .i64 a0_5, .string a0_6, .string a0_7, .int .i64 a0_8] 25 (0, 0)) (by (with_reducible repeat (first | refine blk_drewN ?_ _ | refine blk_drew ?_ | refine blk_alloc ?_ _)); exact BK474.out) hb); replace BK475 := Aside0.mk (blk_below (g := gb475) (o := .cells #[.bool false, .string (⟨#[]⟩ : ByteArray), .string (⟨#[]⟩ : ByteArray)] 23 (0, 0)) (by (with_reducible repeat (first | refine blk_drewN ?_ _ | refine blk_drew ?_ | refine blk_alloc ?_ _)); exact BK475.out) hb); replace BK480 := Aside0.mk (blk_below (g := gb480) (o := .cells #[.bool t476, .string t477, .string t478] 23 (0, 0)) (by (with_reducible repeat (first | refine blk_drewN ?_ _ | refine blk_drew ?_ | refine blk_alloc ?_ _)); exact BK480.out) hb); replace HB := Aside0.mk (below_step hb_ hb); have hnb34 := NB475_474.out; have hnc34 := NB474_475.out; obtain ⟨hcz35_0, hcz35_1, hcz35_2, hfz35_0, hfz35_1, hfz35_2⟩ := BK475.c3))
      refine bodyPost_ret (results_ct rfl _ _ gb475 23 #[.bool t482, .string t483, .string t484] (0, 0) _ rfl (by (with_reducible repeat (first | refine blk_drewN ?_ _ | refine blk_drew ?_ | refine blk_alloc ?_ _)); refine blk_put (cs := #[.bool t482, .string t483, .string (⟨#[]⟩ : ByteArray)]) ?_ 2 _ rfl; (with_reducible repeat (first | refine blk_drewN ?_ _ | refine blk_drew ?_ | refine blk_alloc ?_ _)); refine blk_put (cs := #[.bool t482, .string (⟨#[]⟩ : ByteArray), .string (⟨#[]⟩ : ByteArray)]) ?_ 1 _ rfl; (with_reducible repeat (first | refine blk_drewN ?_ _ | refine blk_drew ?_ | refine blk_alloc ?_ _)); refine blk_put (cs := #[.bool false, .string (⟨#[]⟩ : ByteArray), .string (⟨#[]⟩ : ByteArray)]) ?_ 0 _ rfl; (with_reducible repeat (first | refine blk_drewN ?_ _ | refine blk_drew ?_ | refine blk_alloc ?_ _)); exact BK475.out) Tryz.underlying23 rfl (by kernel_rfl)) rfl ?_
      exact fin_
    ·replace c23 := Bool.eq_false_iff.mpr c23
     subst c23
     have H1 : (some (false, (⟨#[]⟩ : ByteArray), (⟨#[]⟩ : ByteArray), 40)) = some (r1, r2, r3, r4) := by rw [if_neg (show ¬ (false = true) by decide)] at H; exact H
     clear H
     have H := H1
     clear H1
     simp only [Option.some.injEq, Prod.mk.injEq] at H
     obtain ⟨rfl, rfl, rfl, rfl⟩ := H
     go_wp2_with (first | ((with_reducible refine gate_callee (f := 21) rfl ?_); refine gL_ (some 25) Tryz.func21 #[.string a2] ?_; (with_reducible refine (idiomref04_IsNumber.calls kj4 a2 false _ A22.out).mono ?_); rintro e w' ⟨rfl, ⟨nd, rfl⟩⟩; refine ⟨_, rfl, ?_⟩; (try (rw [drewN_self wc]; generalize hq_ : World.drewN wc _ = wc; have n0_ : Aside0 (wc.heap[gb474]? = some (.cells #[.bool a0_0, .string a0_1, .string a0_2, .string a0_3, .int .i64 a0_4, .int .i64 a0_5, .string a0_6, .string a0_7, .int .i64 a0_8] 25 (0, 0))) := ⟨by rw [← hq_]; exact (by (with_reducible repeat (first | refine blk_drewN ?_ _ | refine blk_drew ?_ | refine blk_alloc ?_ _)); exact BK474.out)⟩; have n1_ : Aside0 (wc.heap[gb475]? = some (.cells #[.bool false, .string (⟨#[]⟩ : ByteArray), .string (⟨#[]⟩ : ByteArray)] 23 (0, 0))) := ⟨by rw [← hq_]; exact (by (with_reducible repeat (first | refine blk_drewN ?_ _ | refine blk_drew ?_ | refine blk_alloc ?_ _)); exact BK475.out)⟩; have n2_ : Aside0 (wc.heap[gb480]? = some (.cells #[.bool t476, .string t477, .string t478] 23 (0, 0))) := ⟨by rw [← hq_]; exact (by (with_reducible repeat (first | refine blk_drewN ?_ _ | refine blk_drew ?_ | refine blk_alloc ?_ _)); exact BK480.out)⟩; have n3_ : Aside0 (Below w.heap.size w wc) := ⟨by rw [← hq_]; exact hb_⟩; clear BK474 BK475 BK480 HB hq_; have BK474 := n0_; have BK475 := n1_; have BK480 := n2_; have HB := n3_; clear n0_ n1_ n2_ n3_)); have hnb36 := NB475_474.out; have hnc36 := NB474_475.out; have hnb37 := NB475_480.out; have hnc37 := NB480_475.out; obtain ⟨hcz38_0, hcz38_1, hcz38_2, hfz38_0, hfz38_1, hfz38_2⟩ := BK475.c3))
     refine bodyPost_ret (results_ct rfl _ _ gb475 23 #[.bool false, .string (⟨#[]⟩ : ByteArray), .string (⟨#[]⟩ : ByteArray)] (0, 0) _ rfl (by (with_reducible repeat (first | refine blk_drewN ?_ _ | refine blk_drew ?_ | refine blk_alloc ?_ _)); refine blk_put (cs := #[.bool false, .string (⟨#[]⟩ : ByteArray), .string (⟨#[]⟩ : ByteArray)]) ?_ 2 _ rfl; (with_reducible repeat (first | refine blk_drewN ?_ _ | refine blk_drew ?_ | refine blk_alloc ?_ _)); refine blk_put (cs := #[.bool false, .string (⟨#[]⟩ : ByteArray), .string (⟨#[]⟩ : ByteArray)]) ?_ 1 _ rfl; (with_reducible repeat (first | refine blk_drewN ?_ _ | refine blk_drew ?_ | refine blk_alloc ?_ _)); refine blk_put (cs := #[.bool false, .string (⟨#[]⟩ : ByteArray), .string (⟨#[]⟩ : ByteArray)]) ?_ 0 _ rfl; (with_reducible repeat (first | refine blk_drewN ?_ _ | refine blk_drew ?_ | refine blk_alloc ?_ _)); exact BK475.out) Tryz.underlying23 rfl (by kernel_rfl)) rfl ?_
     exact fin_
attribute [local go_sem] max2_int max_two
set_option linter.unusedVariables false
set_option linter.unusedSimpArgs false
mutual
def operand_In.j0 : Nat → Bool → ByteArray → ByteArray → Bool → Bool → List (S48) → Bool → ByteArray → ByteArray → Option (Bool × Int)
  | 0, _, _, _, _, _, _, _, _, _ => none
  | k + 1, x38, x500000, x500001, x500002, x500003, x500004, x505000, x505001, x505002 => if x38 = true then (some (false, 40)) else (operand_In.l0 k x500004 (x500004.length : Int) 0 x500000 x500001 x500002 x500003 x500004 x505000 x505001 x505002)
def operand_In.l0 : Nat → List (S48) → Int → Int → ByteArray → ByteArray → Bool → Bool → List (S48) → Bool → ByteArray → ByteArray → Option (Bool × Int)
  | 0, _, _, _, _, _, _, _, _, _, _, _ => none
  | k + 1, x40, x41, x42, x500000, x500001, x500002, x500003, x500004, x505000, x505001, x505002 => if x42 < x41 then (if 0 ≤ x42 then (if x42 < (x40.length : Int) then ((operand_number.f ((rd_T48 x40 x42).f0)).bind fun t507 => (if t507 = true then ((operand_number.f ((rd_T48 x40 x42).f1)).bind fun t508 => (if t508 = true then (if (((rd_T48 x40 x42).f0).size : Int) > (((rd_T48 x40 x42).f1).size : Int) then (some (false, 40)) else (if (((rd_T48 x40 x42).f0).size : Int) = (((rd_T48 x40 x42).f1).size : Int) then (if (Op.bytesLess (((rd_T48 x40 x42).f1).toList) (((rd_T48 x40 x42).f0).toList)) = true then (some (false, 40)) else (operand_In.l0 k x40 x41 (wrap64 (x42 + 1)) x500000 x500001 x500002 x500003 x500004 x505000 x505001 x505002)) else (operand_In.l0 k x40 x41 (wrap64 (x42 + 1)) x500000 x500001 x500002 x500003 x500004 x505000 x505001 x505002))) else (some (false, 40)))) else (some (false, 40)))) else (none)) else (none)) else (operand_In.l1 k false x500004 (x500004.length : Int) 0 x500000 x500001 x500002 x500003 x500004 x505000 x505001 x505002)
def operand_In.l1 : Nat → Bool → List (S48) → Int → Int → ByteArray → ByteArray → Bool → Bool → List (S48) → Bool → ByteArray → ByteArray → Option (Bool × Int)
  | 0, _, _, _, _, _, _, _, _, _, _, _, _ => none
  | k + 1, x10, x83, x84, x85, x500000, x500001, x500002, x500003, x500004, x505000, x505001, x505002 => if x85 < x84 then (if 0 ≤ x85 then (if x85 < (x83.length : Int) then ((decimal_Compare.f k false ((rd_T48 x83 x85).f0) (⟨#[]⟩ : ByteArray) x505000 x505001 x505002).bind fun bt511 => ((decimal_Compare.f k x505000 x505001 x505002 false ((rd_T48 x83 x85).f1) (⟨#[]⟩ : ByteArray)).bind fun bt513 => (if x10 = true then (operand_In.l1 k true x83 x84 (wrap64 (x85 + 1)) x500000 x500001 x500002 x500003 x500004 x505000 x505001 x505002) else (if bt511.1 ≤ 0 then (operand_In.l1 k (decide (bt513.1 ≤ 0)) x83 x84 (wrap64 (x85 + 1)) x500000 x500001 x500002 x500003 x500004 x505000 x505001 x505002) else (operand_In.l1 k false x83 x84 (wrap64 (x85 + 1)) x500000 x500001 x500002 x500003 x500004 x505000 x505001 x505002))))) else (none)) else (none)) else (if x500003 = true then (some ((x10 != x500002), 0)) else ((strings_Trim.f x505002 (⟨#[48]⟩ : ByteArray)).bind fun t515 => (if t515.toList = ([] : List UInt8) then (some ((x10 != x500002), 0)) else (some ((false != x500002), 0)))))
end
def operand_In.f (k : Nat) (a0_0 : Bool) (a0_1 : ByteArray) (a0_2 : ByteArray) (a0_3 : ByteArray) (a0_4 : Int) (a0_5 : Int) (a0_6 : ByteArray) (a0_7 : ByteArray) (a0_8 : Int) (a1_0 : ByteArray) (a1_1 : ByteArray) (a1_2 : Bool) (a1_3 : Bool) (l1_4 : List (S48)) : Option (Bool × Int) := (operand_Mod.f k a0_0 a0_1 a0_2 a0_3 a0_4 a0_5 a0_6 a0_7 a0_8 a1_0 a1_1).bind fun bt500 => (if bt500.2.2.2 = 0 then (if (l1_4.length : Int) < 1 then (operand_In.j0 k true a1_0 a1_1 a1_2 a1_3 l1_4 bt500.1 bt500.2.1 bt500.2.2.1) else (operand_In.j0 k (decide ((l1_4.length : Int) > 64)) a1_0 a1_1 a1_2 a1_3 l1_4 bt500.1 bt500.2.1 bt500.2.2.1)) else (some (false, bt500.2.2.2)))
set_option maxHeartbeats 8000000 in
set_option maxRecDepth 100000 in
theorem operand_In.calls (k : Nat) (a0_0 : Bool) (a0_1 : ByteArray) (a0_2 : ByteArray) (a0_3 : ByteArray) (a0_4 : Int) (a0_5 : Int) (a0_6 : ByteArray) (a0_7 : ByteArray) (a0_8 : Int) (a1_0 : ByteArray) (a1_1 : ByteArray) (a1_2 : Bool) (a1_3 : Bool) (A1_4 : Option Addr) (c1_4 : Nat) (l1_4 : List (S48)) (r1 : Bool) (r2 : Int) (w : World) (ht : TB w) (hr1_4 : Kd.C k48 w A1_4 l1_4.length l1_4) (hc1_4 : l1_4.length ≤ c1_4) (h : operand_In.f k a0_0 a0_1 a0_2 a0_3 a0_4 a0_5 a0_6 a0_7 a0_8 a1_0 a1_1 a1_2 a1_3 l1_4 = some (r1, r2)) :
    Calls Tryz.prog 10 #[.agg #[.bool a0_0, .string a0_1, .string a0_2, .string a0_3, .int .i64 a0_4, .int .i64 a0_5, .string a0_6, .string a0_7, .int .i64 a0_8], .agg #[.string a1_0, .string a1_1, .bool a1_2, .bool a1_3, .slice A1_4 l1_4.length c1_4]] w fun e w' => e = .returned (.tuple #[.bool r1, .int .i64 r2]) ∧ Below w.heap.size w w' := by
 have hu25 := Tryz.underlying25
 have hu28 := Tryz.underlying28
 have hu23 := Tryz.underlying23
 have hu48 := Tryz.underlying48
 have HR1_4 := Aside0.mk hr1_4
 have HC1_4 := Aside0.mk hc1_4
 clear hr1_4 hc1_4
 have HTB := Aside0.mk ht
 clear ht
 have HB := Aside0.mk (Below.refl w.heap.size w)
 unfold operand_In.f at h
 have H := h
 clear h
 replace H := Option.bind_eq_some_iff.mp H
 obtain ⟨⟨t500, t501, t502, t503⟩, A30, H⟩ := H
 try dsimp only at H
 have A3 := Aside0.mk A30
 clear A30
 have HF4 := Aside0.mk H
 clear H
 go_enter Tryz.func10, Tryz.ntmps10
 go_upto_if 27 with (first | ((with_reducible refine gate_dst (N := 2) rfl ?_); (try (refine gate_guard (by rfl) ?_; dsimp only)); refine box_event ?hg (N := 2) ?hd (cs := #[.bool a0_0, .string a0_1, .string a0_2, .string a0_3, .int .i64 a0_4, .int .i64 a0_5, .string a0_6, .string a0_7, .int .i64 a0_8]) (t := 25) ?hr ?_; (case hd => rfl); (case hg => rfl); (case hr => first | (go_simp; done) | (go_simp; rfl)); intro gb498 hg w5 hbox hb; have BK498 := Aside0.mk (hbox); have GW498 := ge_ (w := w) hg; have GE498 := ge_ (w := w) hg; replace HB := Aside0.mk (below_step hb_ hb); clear hb hbox hg) | ((with_reducible refine gate_dst (N := 3) rfl ?_); (try (refine gate_guard (by rfl) ?_; dsimp only)); refine box_event ?hg (N := 3) ?hd (cs := #[.string a1_0, .string a1_1, .bool a1_2, .bool a1_3, .slice A1_4 l1_4.length c1_4]) (t := 28) ?hr ?_; (case hd => rfl); (case hg => rfl); (case hr => first | (go_simp; done) | (go_simp; rfl)); intro gb499 hg w6 hbox hb; have BK499 := Aside0.mk (hbox); have GW499 := ge_ (w := w) hg; have GE499 := ge_ (w := w) hg; have NB498_499 := BK498.nl hg; have NB499_498 := BK498.ng hg; replace BK498 := BK498.bl hb; replace HB := Aside0.mk (below_step hb_ hb); clear hb hbox hg; have hnb7 := NB498_499.out; have hnc7 := NB499_498.out; obtain ⟨hcz8_0, hcz8_1, hcz8_2, hcz8_3, hcz8_4, hcz8_5, hcz8_6, hcz8_7, hcz8_8, hfz8_0, hfz8_1, hfz8_2, hfz8_3, hfz8_4, hfz8_5, hfz8_6, hfz8_7, hfz8_8⟩ := BK498.c9; obtain ⟨hcz9_0, hcz9_1, hcz9_2, hcz9_3, hcz9_4, hfz9_0, hfz9_1, hfz9_2, hfz9_3, hfz9_4⟩ := BK499.c5) | ((with_reducible refine gate_callee (f := 8) rfl ?_); refine gL_ (some 23) Tryz.func8 #[.agg #[.bool a0_0, .string a0_1, .string a0_2, .string a0_3, .int .i64 a0_4, .int .i64 a0_5, .string a0_6, .string a0_7, .int .i64 a0_8], .string a1_0, .string a1_1] ?_; (with_reducible refine (operand_Mod.calls k a0_0 a0_1 a0_2 a0_3 a0_4 a0_5 a0_6 a0_7 a0_8 a1_0 a1_1 t500 t501 t502 t503 _ (TB.below HTB.out hb_) A3.out).mono ?_); rintro e w10 ⟨rfl, hb⟩; refine ⟨_, rfl, ?_⟩; replace BK498 := BK498.bl hb; replace BK499 := BK499.bl hb; replace HB := Aside0.mk (below_step hb_ hb)) | ((with_reducible refine gate_dst (N := 6) rfl ?_); (try (refine gate_guard (by rfl) ?_; dsimp only)); refine box_event ?hg (N := 6) ?hd (cs := #[.bool false, .string (⟨#[]⟩ : ByteArray), .string (⟨#[]⟩ : ByteArray)]) (t := 23) ?hr ?_; (case hd => rfl); (case hg => rfl); (case hr => first | (go_simp; done) | (go_simp; rfl)); intro gb504 hg w11 hbox hb; have BK504 := Aside0.mk (hbox); have GW504 := ge_ (w := w) hg; have GE504 := ge_ (w := w) hg; have NB498_504 := BK498.nl hg; have NB504_498 := BK498.ng hg; have NB499_504 := BK499.nl hg; have NB504_499 := BK499.ng hg; replace BK498 := BK498.bl hb; replace BK499 := BK499.bl hb; replace HB := Aside0.mk (below_step hb_ hb); clear hb hbox hg; have hnb12 := NB504_498.out; have hnc12 := NB498_504.out; have hnb13 := NB504_499.out; have hnc13 := NB499_504.out; obtain ⟨hcz14_0, hcz14_1, hcz14_2, hfz14_0, hfz14_1, hfz14_2⟩ := BK504.c3))
 (try simp only [Act.put, List.setIfInBounds_toArray, List.set_cons_zero, List.set_cons_succ])
 have H := HF4.out
 clear HF4
 by_cases c15 : t503 = 0
 ·rw [if_pos c15] at H
  have c15b0 : (t503 == 0) = true := beq_iff_eq.mpr c15
  have c15b1 : (t503 != 0) = false := bne_eq_false_iff_eq.mpr c15
  clear c15
  (first | rw [c15b0] | (simp only [i64_w, i32_w]; rw [c15b0]) | rw [c15b1] | skip)
  have HC16 := Aside0.mk H
  clear H
  go_upto_region 4 with (fail)
  go_cut [38] (fun v38 wc => ∃ (kq : Nat) (x38_15 : Bool), v38 = .bool x38_15 ∧ Aside0 (operand_In.j0 kq x38_15 a1_0 a1_1 a1_2 a1_3 l1_4 t500 t501 t502 = some (r1, r2)) ∧ Aside0 (kq ≤ k) ∧ Aside0 (wc.heap[gb498]? = some (.cells #[.bool a0_0, .string a0_1, .string a0_2, .string a0_3, .int .i64 a0_4, .int .i64 a0_5, .string a0_6, .string a0_7, .int .i64 a0_8] 25 (0, 0))) ∧ Aside0 (wc.heap[gb499]? = some (.cells #[.string a1_0, .string a1_1, .bool a1_2, .bool a1_3, (.slice A1_4 l1_4.length c1_4)] 28 (0, 0))) ∧ Aside0 (wc.heap[gb504]? = some (.cells #[.bool t500, .string t501, .string t502] 23 (0, 0))) ∧ Aside0 (Below w.heap.size w wc))
  case first =>
   have H := HC16.out
   clear HC16
   by_cases c17 : (l1_4.length : Int) < 1
   ·rw [if_pos c17] at H
    have c17b0 : decide ((l1_4.length : Int) < 1) = true := decide_eq_true c17
    have c17b1 : decide (l1_4.length < 1) = true := decide_eq_true (by omega)
    clear c17
    (first | rw [c17b0] | (simp only [i64_w, i32_w]; rw [c17b0]) | rw [c17b1] | skip)
    have H' := Aside0.mk H
    clear H
    have hnb18 := NB499_498.out
    have hnc18 := NB498_499.out
    have hnb19 := NB499_504.out
    have hnc19 := NB504_499.out
    obtain ⟨hcz20_0, hcz20_1, hcz20_2, hcz20_3, hcz20_4, hfz20_0, hfz20_1, hfz20_2, hfz20_3, hfz20_4⟩ := BK499.c5
    go_wp2
    go_meet
    case rel => exact ⟨_, (true), (by first | rfl | (simp; done) | (simp [*]; done)), H', ⟨by first | omega | exact Nat.le_refl _⟩, ⟨by refine far3_ ?_ NB498_504.out; exact BK498.out⟩, ⟨by refine far3_ ?_ NB499_504.out; exact BK499.out⟩, ⟨by refine put3_ (cs := #[.bool false, .string (⟨#[]⟩ : ByteArray), .string (⟨#[]⟩ : ByteArray)]) ?_; exact BK504.out⟩, ⟨hb_⟩⟩
   ·rw [if_neg c17] at H
    have c17b0 : decide ((l1_4.length : Int) < 1) = false := decide_eq_false c17
    have c17b1 : decide (l1_4.length < 1) = false := decide_eq_false (by omega)
    clear c17
    (first | rw [c17b0] | (simp only [i64_w, i32_w]; rw [c17b0]) | rw [c17b1] | skip)
    have H' := Aside0.mk H
    clear H
    have hnb21 := NB499_498.out
    have hnc21 := NB498_499.out
    have hnb22 := NB499_504.out
    have hnc22 := NB504_499.out
    obtain ⟨hcz23_0, hcz23_1, hcz23_2, hcz23_3, hcz23_4, hfz23_0, hfz23_1, hfz23_2, hfz23_3, hfz23_4⟩ := BK499.c5
    go_wp2
    go_meet
    case rel => exact ⟨_, (decide ((l1_4.length : Int) > 64)), (by first | rfl | (simp; done) | (simp [*]; done)), H', ⟨by first | omega | exact Nat.le_refl _⟩, ⟨by refine far3_ ?_ NB498_504.out; exact BK498.out⟩, ⟨by refine far3_ ?_ NB499_504.out; exact BK499.out⟩, ⟨by refine put3_ (cs := #[.bool false, .string (⟨#[]⟩ : ByteArray), .string (⟨#[]⟩ : ByteArray)]) ?_; exact BK504.out⟩, ⟨hb_⟩⟩
  case rest =>
   clear HC16
   (try clear c15); (try clear c15b0); (try clear c15b1); (try clear hcz14_0); (try clear hcz14_1); (try clear hcz14_2); (try clear hcz8_0); (try clear hcz8_1); (try clear hcz8_2); (try clear hcz8_3); (try clear hcz8_4); (try clear hcz8_5); (try clear hcz8_6); (try clear hcz8_7); (try clear hcz8_8); (try clear hcz9_0); (try clear hcz9_1); (try clear hcz9_2); (try clear hcz9_3); (try clear hcz9_4); (try clear hfz14_0); (try clear hfz14_1); (try clear hfz14_2); (try clear hfz8_0); (try clear hfz8_1); (try clear hfz8_2); (try clear hfz8_3); (try clear hfz8_4); (try clear hfz8_5); (try clear hfz8_6); (try clear hfz8_7); (try clear hfz8_8); (try clear hfz9_0); (try clear hfz9_1); (try clear hfz9_2); (try clear hfz9_3); (try clear hfz9_4)
   obtain ⟨kq, x38_15, rfl, HA, HJ15, BK498, BK499, BK504, HB⟩ := hcut
   cases kq with
   | zero => exact absurd HA.out (by simp [operand_In.j0])
   | succ kj15 =>
    have H := HA.out
    clear HA
    simp only [operand_In.j0] at H
    by_cases c24 : x38_15 = true
    ·subst c24
     have H1 : (some (false, 40)) = some (r1, r2) := by rw [if_pos rfl] at H; exact H
     clear H
     have H := H1
     clear H1
     simp only [Option.some.injEq, Prod.mk.injEq] at H
     obtain ⟨rfl, rfl⟩ := H
     go_wp2
     go_ret2
     exact fin_
    ·replace c24 := Bool.eq_false_iff.mpr c24
     subst c24
     have H1 : (operand_In.l0 kj15 l1_4 (l1_4.length : Int) 0 a1_0 a1_1 a1_2 a1_3 l1_4 t500 t501 t502) = some (r1, r2) := by rw [if_neg (show ¬ (false = true) by decide)] at H; exact H
     clear H
     have H := H1
     clear H1
     have H' := Aside0.mk H
     clear H
     have hnb25 := NB499_498.out
     have hnc25 := NB498_499.out
     have hnb26 := NB499_504.out
     have hnc26 := NB504_499.out
     obtain ⟨hcz27_0, hcz27_1, hcz27_2, hcz27_3, hcz27_4, hfz27_0, hfz27_1, hfz27_2, hfz27_3, hfz27_4⟩ := BK499.c5
     go_wp2
     go_loopg [42] kj15 (fun kq v42 w' => ∃ (x42_2 : Int), v42 = .int .i64 x42_2 ∧ Aside0 (operand_In.l0 kq l1_4 (l1_4.length : Int) x42_2 a1_0 a1_1 a1_2 a1_3 l1_4 t500 t501 t502 = some (r1, r2)) ∧ Aside0 (kq ≤ kj15) ∧ Aside0 (w'.heap[gb498]? = some (.cells #[.bool a0_0, .string a0_1, .string a0_2, .string a0_3, .int .i64 a0_4, .int .i64 a0_5, .string a0_6, .string a0_7, .int .i64 a0_8] 25 (0, 0))) ∧ Aside0 (w'.heap[gb499]? = some (.cells #[.string a1_0, .string a1_1, .bool a1_2, .bool a1_3, (.slice A1_4 l1_4.length c1_4)] 28 (0, 0))) ∧ Aside0 (w'.heap[gb504]? = some (.cells #[.bool t500, .string t501, .string t502] 23 (0, 0))) ∧ Aside0 (Below w.heap.size w w'))
     case atStart => exact ⟨(0), (by first | rfl | (simp; done) | (simp [*]; done)), H', ⟨Nat.le_refl _⟩, ⟨by exact BK498.out⟩, ⟨by exact BK499.out⟩, ⟨by exact BK504.out⟩, ⟨hb_⟩⟩
     case round =>
      clear H'
      (try clear c15); (try clear c15b0); (try clear c15b1); (try clear c24); (try clear hcz14_0); (try clear hcz14_1); (try clear hcz14_2); (try clear hcz27_0); (try clear hcz27_1); (try clear hcz27_2); (try clear hcz27_3); (try clear hcz27_4); (try clear hcz8_0); (try clear hcz8_1); (try clear hcz8_2); (try clear hcz8_3); (try clear hcz8_4); (try clear hcz8_5); (try clear hcz8_6); (try clear hcz8_7); (try clear hcz8_8); (try clear hcz9_0); (try clear hcz9_1); (try clear hcz9_2); (try clear hcz9_3); (try clear hcz9_4); (try clear hfz14_0); (try clear hfz14_1); (try clear hfz14_2); (try clear hfz27_0); (try clear hfz27_1); (try clear hfz27_2); (try clear hfz27_3); (try clear hfz27_4); (try clear hfz8_0); (try clear hfz8_1); (try clear hfz8_2); (try clear hfz8_3); (try clear hfz8_4); (try clear hfz8_5); (try clear hfz8_6); (try clear hfz8_7); (try clear hfz8_8); (try clear hfz9_0); (try clear hfz9_1); (try clear hfz9_2); (try clear hfz9_3); (try clear hfz9_4)
      obtain ⟨x42_2, rfl, HA, HK2, BK498, BK499, BK504, HB⟩ := hrel
      cases gk with
      | zero => exact absurd HA.out (by simp [operand_In.l0])
      | succ k2 =>
       have H := HA.out
       clear HA
       simp only [operand_In.l0] at H
       by_cases c28 : x42_2 < (l1_4.length : Int)
       ·rw [if_pos c28] at H
        have c28b0 : decide (x42_2 < (l1_4.length : Int)) = true := decide_eq_true c28
        clear c28
        by_cases c29 : 0 ≤ x42_2
        ·rw [if_pos c29] at H
         have c29b0 : decide (0 ≤ x42_2) = true := decide_eq_true c29
         clear c29
         by_cases c30 : x42_2 < (l1_4.length : Int)
         ·rw [if_pos c30] at H
          have c30b0 : decide (x42_2 < (l1_4.length : Int)) = true := decide_eq_true c30
          clear c30
          replace H := Option.bind_eq_some_iff.mp H
          obtain ⟨t507, A310, H⟩ := H
          try dsimp only at H
          have A31 := Aside0.mk A310
          clear A310
          by_cases c32 : t507 = true
          ·subst c32
           have H1 : ((operand_number.f ((rd_T48 l1_4 x42_2).f1)).bind fun t508 => (if t508 = true then (if (((rd_T48 l1_4 x42_2).f0).size : Int) > (((rd_T48 l1_4 x42_2).f1).size : Int) then (some (false, 40)) else (if (((rd_T48 l1_4 x42_2).f0).size : Int) = (((rd_T48 l1_4 x42_2).f1).size : Int) then (if (Op.bytesLess (((rd_T48 l1_4 x42_2).f1).toList) (((rd_T48 l1_4 x42_2).f0).toList)) = true then (some (false, 40)) else (operand_In.l0 k2 l1_4 (l1_4.length : Int) (wrap64 (x42_2 + 1)) a1_0 a1_1 a1_2 a1_3 l1_4 t500 t501 t502)) else (operand_In.l0 k2 l1_4 (l1_4.length : Int) (wrap64 (x42_2 + 1)) a1_0 a1_1 a1_2 a1_3 l1_4 t500 t501 t502))) else (some (false, 40)))) = some (r1, r2) := by rw [if_pos rfl] at H; exact H
           clear H
           have H := H1
           clear H1
           replace H := Option.bind_eq_some_iff.mp H
           obtain ⟨t508, A330, H⟩ := H
           try dsimp only at H
           have A33 := Aside0.mk A330
           clear A330
           by_cases c34 : t508 = true
           ·subst c34
            have H1 : (if (((rd_T48 l1_4 x42_2).f0).size : Int) > (((rd_T48 l1_4 x42_2).f1).size : Int) then (some (false, 40)) else (if (((rd_T48 l1_4 x42_2).f0).size : Int) = (((rd_T48 l1_4 x42_2).f1).size : Int) then (if (Op.bytesLess (((rd_T48 l1_4 x42_2).f1).toList) (((rd_T48 l1_4 x42_2).f0).toList)) = true then (some (false, 40)) else (operand_In.l0 k2 l1_4 (l1_4.length : Int) (wrap64 (x42_2 + 1)) a1_0 a1_1 a1_2 a1_3 l1_4 t500 t501 t502)) else (operand_In.l0 k2 l1_4 (l1_4.length : Int) (wrap64 (x42_2 + 1)) a1_0 a1_1 a1_2 a1_3 l1_4 t500 t501 t502))) = some (r1, r2) := by rw [if_pos rfl] at H; exact H
            clear H
            have H := H1
            clear H1
            by_cases c35 : (((rd_T48 l1_4 x42_2).f0).size : Int) > (((rd_T48 l1_4 x42_2).f1).size : Int)
            ·rw [if_pos c35] at H
             have c35b0 : decide ((((rd_T48 l1_4 x42_2).f1).size : Int) < (((rd_T48 l1_4 x42_2).f0).size : Int)) = true := decide_eq_true c35
             have c35b1 : decide (((rd_T48 l1_4 x42_2).f1).size < ((rd_T48 l1_4 x42_2).f0).size) = true := decide_eq_true (Int.ofNat_lt.mp c35)
             clear c35
             simp only [Option.some.injEq, Prod.mk.injEq] at H
             obtain ⟨rfl, rfl⟩ := H
             have p505 : 0 ≤ (x42_2 : Int) := of_decide_eq_true (by first | (with_reducible assumption) | assumption)
             have q505 : x42_2 < (l1_4.length : Int) := of_decide_eq_true (by first | (with_reducible assumption) | assumption)
             obtain ⟨ad505, e505, hx505_0, hx505_1⟩ := at_T48 HR1_4.out x42_2 p505 q505
             cases e505
             replace hx505_0 := (HB.out.cell (World.block_lt_of_cell? w _ hx505_0)).trans hx505_0
             replace hx505_1 := (HB.out.cell (World.block_lt_of_cell? w _ hx505_1)).trans hx505_1
             replace p505 := eq_true p505
             replace q505 := eq_true q505
             go_wp2_with (first | ((with_reducible refine gate_dst (N := 9) rfl ?_); (try (refine gate_guard (by rfl) ?_; dsimp only)); refine box_event ?hg (N := 9) ?hd (cs := #[.string (⟨#[]⟩ : ByteArray), .string (⟨#[]⟩ : ByteArray)]) (t := 48) ?hr ?_; (case hd => rfl); (case hg => rfl); (case hr => first | (go_simp; done) | (go_simp; rfl)); intro gb506 hg w36 hbox hb; have BK506 := Aside0.mk (hbox); have GW506 := ge_ (w := w) hg; have GE506 := ge_ (w := w) hg; have NB498_506 := BK498.nl hg; have NB506_498 := BK498.ng hg; have NB499_506 := BK499.nl hg; have NB506_499 := BK499.ng hg; have NB504_506 := BK504.nl hg; have NB506_504 := BK504.ng hg; replace BK498 := BK498.bl hb; replace BK499 := BK499.bl hb; replace BK504 := BK504.bl hb; replace HB := Aside0.mk (below_step hb_ hb); clear hb hbox hg; have hnb37 := NB506_498.out; have hnc37 := NB498_506.out; have hnb38 := NB506_499.out; have hnc38 := NB499_506.out; have hnb39 := NB506_504.out; have hnc39 := NB504_506.out; obtain ⟨hcz40_0, hcz40_1, hfz40_0, hfz40_1⟩ := BK506.c2) | ((with_reducible refine gate_callee (f := 19) rfl ?_); refine gL_ (some 48) Tryz.func19 #[.string ((rd_T48 l1_4 x42_2).f0)] ?_; (with_reducible refine (operand_number.calls ((rd_T48 l1_4 x42_2).f0) true _ A31.out).mono ?_); rintro e w41 ⟨rfl, hb⟩; refine ⟨_, rfl, ?_⟩; replace BK498 := Aside0.mk (blk_below (g := gb498) (o := .cells #[.bool a0_0, .string a0_1, .string a0_2, .string a0_3, .int .i64 a0_4, .int .i64 a0_5, .string a0_6, .string a0_7, .int .i64 a0_8] 25 (0, 0)) (by refine blk_far ?_ NB498_506.out _; refine blk_far ?_ NB498_506.out _; exact BK498.out) hb); replace BK499 := Aside0.mk (blk_below (g := gb499) (o := .cells #[.string a1_0, .string a1_1, .bool a1_2, .bool a1_3, .slice (some ad505) l1_4.length c1_4] 28 (0, 0)) (by refine blk_far ?_ NB499_506.out _; refine blk_far ?_ NB499_506.out _; exact BK499.out) hb); replace BK504 := Aside0.mk (blk_below (g := gb504) (o := .cells #[.bool t500, .string t501, .string t502] 23 (0, 0)) (by refine blk_far ?_ NB504_506.out _; refine blk_far ?_ NB504_506.out _; exact BK504.out) hb); replace BK506 := Aside0.mk (blk_below (g := gb506) (o := .cells #[.string ((rd_T48 l1_4 x42_2).f0), .string ((rd_T48 l1_4 x42_2).f1)] 48 (0, 0)) (by refine blk_put (cs := #[.string ((rd_T48 l1_4 x42_2).f0), .string (⟨#[]⟩ : ByteArray)]) ?_ 1 _ rfl; refine blk_put (cs := #[.string (⟨#[]⟩ : ByteArray), .string (⟨#[]⟩ : ByteArray)]) ?_ 0 _ rfl; exact BK506.out) hb); replace HB := Aside0.mk (below_step hb_ hb); obtain ⟨hcz42_0, hcz42_1, hfz42_0, hfz42_1⟩ := BK506.c2) | (go_at_call 19; (with_reducible refine (operand_number.calls ((rd_T48 l1_4 x42_2).f1) true _ A33.out).mono ?_); rintro e w43 ⟨rfl, hb⟩; replace BK498 := BK498.bl hb; replace BK499 := BK499.bl hb; replace BK504 := BK504.bl hb; replace BK506 := BK506.bl hb; replace HB := Aside0.mk (below_step hb_ hb); obtain ⟨hcz44_0, hcz44_1, hfz44_0, hfz44_1⟩ := BK506.c2))
             go_ret2
             exact fin_
            ·rw [if_neg c35] at H
             have c35b0 : decide ((((rd_T48 l1_4 x42_2).f1).size : Int) < (((rd_T48 l1_4 x42_2).f0).size : Int)) = false := decide_eq_false c35
             have c35b1 : decide (((rd_T48 l1_4 x42_2).f1).size < ((rd_T48 l1_4 x42_2).f0).size) = false := decide_eq_false (fun h => c35 (Int.ofNat_lt.mpr h))
             clear c35
             by_cases c45 : (((rd_T48 l1_4 x42_2).f0).size : Int) = (((rd_T48 l1_4 x42_2).f1).size : Int)
             ·rw [if_pos c45] at H
              have c45b0 : ((((rd_T48 l1_4 x42_2).f0).size : Int) == (((rd_T48 l1_4 x42_2).f1).size : Int)) = true := beq_iff_eq.mpr c45
              have c45b1 : ((((rd_T48 l1_4 x42_2).f0).size : Int) != (((rd_T48 l1_4 x42_2).f1).size : Int)) = false := bne_eq_false_iff_eq.mpr c45
              have c45b2 : (((rd_T48 l1_4 x42_2).f0).size == ((rd_T48 l1_4 x42_2).f1).size) = true := by first | simpa using c45 | (simp at c45 ⊢; omega)
              clear c45
              have HF46 := Aside0.mk H
              clear H
              have p505 : 0 ≤ (x42_2 : Int) := of_decide_eq_true (by first | (with_reducible assumption) | assumption)
              have q505 : x42_2 < (l1_4.length : Int) := of_decide_eq_true (by first | (with_reducible assumption) | assumption)
              obtain ⟨ad505, e505, hx505_0, hx505_1⟩ := at_T48 HR1_4.out x42_2 p505 q505
              cases e505
              replace hx505_0 := (HB.out.cell (World.block_lt_of_cell? w _ hx505_0)).trans hx505_0
              replace hx505_1 := (HB.out.cell (World.block_lt_of_cell? w _ hx505_1)).trans hx505_1
              replace p505 := eq_true p505
              replace q505 := eq_true q505
              go_upto_if 80 with (first | ((with_reducible refine gate_dst (N := 9) rfl ?_); (try (refine gate_guard (by rfl) ?_; dsimp only)); refine box_event ?hg (N := 9) ?hd (cs := #[.string (⟨#[]⟩ : ByteArray), .string (⟨#[]⟩ : ByteArray)]) (t := 48) ?hr ?_; (case hd => rfl); (case hg => rfl); (case hr => first | (go_simp; done) | (go_simp; rfl)); intro gb506 hg w47 hbox hb; have BK506 := Aside0.mk (hbox); have GW506 := ge_ (w := w) hg; have GE506 := ge_ (w := w) hg; have NB498_506 := BK498.nl hg; have NB506_498 := BK498.ng hg; have NB499_506 := BK499.nl hg; have NB506_499 := BK499.ng hg; have NB504_506 := BK504.nl hg; have NB506_504 := BK504.ng hg; replace BK498 := BK498.bl hb; replace BK499 := BK499.bl hb; replace BK504 := BK504.bl hb; replace HB := Aside0.mk (below_step hb_ hb); clear hb hbox hg; have hnb48 := NB506_498.out; have hnc48 := NB498_506.out; have hnb49 := NB506_499.out; have hnc49 := NB499_506.out; have hnb50 := NB506_504.out; have hnc50 := NB504_506.out; obtain ⟨hcz51_0, hcz51_1, hfz51_0, hfz51_1⟩ := BK506.c2) | ((with_reducible refine gate_callee (f := 19) rfl ?_); refine gL_ (some 48) Tryz.func19 #[.string ((rd_T48 l1_4 x42_2).f0)] ?_; (with_reducible refine (operand_number.calls ((rd_T48 l1_4 x42_2).f0) true _ A31.out).mono ?_); rintro e w52 ⟨rfl, hb⟩; refine ⟨_, rfl, ?_⟩; replace BK498 := Aside0.mk (blk_below (g := gb498) (o := .cells #[.bool a0_0, .string a0_1, .string a0_2, .string a0_3, .int .i64 a0_4, .int .i64 a0_5, .string a0_6, .string a0_7, .int .i64 a0_8] 25 (0, 0)) (by refine blk_far ?_ NB498_506.out _; refine blk_far ?_ NB498_506.out _; exact BK498.out) hb); replace BK499 := Aside0.mk (blk_below (g := gb499) (o := .cells #[.string a1_0, .string a1_1, .bool a1_2, .bool a1_3, .slice (some ad505) l1_4.length c1_4] 28 (0, 0)) (by refine blk_far ?_ NB499_506.out _; refine blk_far ?_ NB499_506.out _; exact BK499.out) hb); replace BK504 := Aside0.mk (blk_below (g := gb504) (o := .cells #[.bool t500, .string t501, .string t502] 23 (0, 0)) (by refine blk_far ?_ NB504_506.out _; refine blk_far ?_ NB504_506.out _; exact BK504.out) hb); replace BK506 := Aside0.mk (blk_below (g := gb506) (o := .cells #[.string ((rd_T48 l1_4 x42_2).f0), .string ((rd_T48 l1_4 x42_2).f1)] 48 (0, 0)) (by refine blk_put (cs := #[.string ((rd_T48 l1_4 x42_2).f0), .string (⟨#[]⟩ : ByteArray)]) ?_ 1 _ rfl; refine blk_put (cs := #[.string (⟨#[]⟩ : ByteArray), .string (⟨#[]⟩ : ByteArray)]) ?_ 0 _ rfl; exact BK506.out) hb); replace HB := Aside0.mk (below_step hb_ hb); obtain ⟨hcz53_0, hcz53_1, hfz53_0, hfz53_1⟩ := BK506.c2) | (go_at_call 19; (with_reducible refine (operand_number.calls ((rd_T48 l1_4 x42_2).f1) true _ A33.out).mono ?_); rintro e w54 ⟨rfl, hb⟩; replace BK498 := BK498.bl hb; replace BK499 := BK499.bl hb; replace BK504 := BK504.bl hb; replace BK506 := BK506.bl hb; replace HB := Aside0.mk (below_step hb_ hb); obtain ⟨hcz55_0, hcz55_1, hfz55_0, hfz55_1⟩ := BK506.c2))
              (try simp only [Act.put, List.setIfInBounds_toArray, List.set_cons_zero, List.set_cons_succ])
              have H := HF46.out
              clear HF46
              by_cases c56 : (Op.bytesLess (((rd_T48 l1_4 x42_2).f1).toList) (((rd_T48 l1_4 x42_2).f0).toList)) = true
              ·rw [if_pos c56] at H
               have c56b0 : (Op.bytesLess (((rd_T48 l1_4 x42_2).f1).toList) (((rd_T48 l1_4 x42_2).f0).toList)) = true := c56
               clear c56
               (first | rw [c56b0] | (simp only [i64_w, i32_w]; rw [c56b0]) | skip)
               simp only [Option.some.injEq, Prod.mk.injEq] at H
               obtain ⟨rfl, rfl⟩ := H
               go_wp2
               go_ret2
               exact fin_
              ·rw [if_neg c56] at H
               have c56b0 : (Op.bytesLess (((rd_T48 l1_4 x42_2).f1).toList) (((rd_T48 l1_4 x42_2).f0).toList)) = false := by simpa using c56
               clear c56
               (first | rw [c56b0] | (simp only [i64_w, i32_w]; rw [c56b0]) | skip)
               have H' := Aside0.mk H
               clear H
               go_wp2
               go_roundg k2
               case measure => have := HJ15.out; have := HK2.out; omega
               case rel => exact ⟨(wrap64 (x42_2 + 1)), (by first | rfl | (simp; done) | (simp [*]; done)), H', ⟨by have := HJ15.out; have := HK2.out; omega⟩, ⟨by exact BK498.out⟩, ⟨by exact BK499.out⟩, ⟨by exact BK504.out⟩, ⟨hb_⟩⟩
             ·rw [if_neg c45] at H
              have c45b0 : ((((rd_T48 l1_4 x42_2).f0).size : Int) == (((rd_T48 l1_4 x42_2).f1).size : Int)) = false := beq_eq_false_iff_ne.mpr c45
              have c45b1 : ((((rd_T48 l1_4 x42_2).f0).size : Int) != (((rd_T48 l1_4 x42_2).f1).size : Int)) = true := bne_iff_ne.mpr c45
              have c45b2 : (((rd_T48 l1_4 x42_2).f0).size == ((rd_T48 l1_4 x42_2).f1).size) = false := by first | simpa using c45 | (simp at c45 ⊢; omega)
              have H' := Aside0.mk H
              clear H
              have p505 : 0 ≤ (x42_2 : Int) := of_decide_eq_true (by first | (with_reducible assumption) | assumption)
              have q505 : x42_2 < (l1_4.length : Int) := of_decide_eq_true (by first | (with_reducible assumption) | assumption)
              obtain ⟨ad505, e505, hx505_0, hx505_1⟩ := at_T48 HR1_4.out x42_2 p505 q505
              cases e505
              replace hx505_0 := (HB.out.cell (World.block_lt_of_cell? w _ hx505_0)).trans hx505_0
              replace hx505_1 := (HB.out.cell (World.block_lt_of_cell? w _ hx505_1)).trans hx505_1
              replace p505 := eq_true p505
              replace q505 := eq_true q505
              go_wp2_with (first | ((with_reducible refine gate_dst (N := 9) rfl ?_); (try (refine gate_guard (by rfl) ?_; dsimp only)); refine box_event ?hg (N := 9) ?hd (cs := #[.string (⟨#[]⟩ : ByteArray), .string (⟨#[]⟩ : ByteArray)]) (t := 48) ?hr ?_; (case hd => rfl); (case hg => rfl); (case hr => first | (go_simp; done) | (go_simp; rfl)); intro gb506 hg w57 hbox hb; have BK506 := Aside0.mk (hbox); have GW506 := ge_ (w := w) hg; have GE506 := ge_ (w := w) hg; have NB498_506 := BK498.nl hg; have NB506_498 := BK498.ng hg; have NB499_506 := BK499.nl hg; have NB506_499 := BK499.ng hg; have NB504_506 := BK504.nl hg; have NB506_504 := BK504.ng hg; replace BK498 := BK498.bl hb; replace BK499 := BK499.bl hb; replace BK504 := BK504.bl hb; replace HB := Aside0.mk (below_step hb_ hb); clear hb hbox hg; have hnb58 := NB506_498.out; have hnc58 := NB498_506.out; have hnb59 := NB506_499.out; have hnc59 := NB499_506.out; have hnb60 := NB506_504.out; have hnc60 := NB504_506.out; obtain ⟨hcz61_0, hcz61_1, hfz61_0, hfz61_1⟩ := BK506.c2) | ((with_reducible refine gate_callee (f := 19) rfl ?_); refine gL_ (some 48) Tryz.func19 #[.string ((rd_T48 l1_4 x42_2).f0)] ?_; (with_reducible refine (operand_number.calls ((rd_T48 l1_4 x42_2).f0) true _ A31.out).mono ?_); rintro e w62 ⟨rfl, hb⟩; refine ⟨_, rfl, ?_⟩; replace BK498 := Aside0.mk (blk_below (g := gb498) (o := .cells #[.bool a0_0, .string a0_1, .string a0_2, .string a0_3, .int .i64 a0_4, .int .i64 a0_5, .string a0_6, .string a0_7, .int .i64 a0_8] 25 (0, 0)) (by refine blk_far ?_ NB498_506.out _; refine blk_far ?_ NB498_506.out _; exact BK498.out) hb); replace BK499 := Aside0.mk (blk_below (g := gb499) (o := .cells #[.string a1_0, .string a1_1, .bool a1_2, .bool a1_3, .slice (some ad505) l1_4.length c1_4] 28 (0, 0)) (by refine blk_far ?_ NB499_506.out _; refine blk_far ?_ NB499_506.out _; exact BK499.out) hb); replace BK504 := Aside0.mk (blk_below (g := gb504) (o := .cells #[.bool t500, .string t501, .string t502] 23 (0, 0)) (by refine blk_far ?_ NB504_506.out _; refine blk_far ?_ NB504_506.out _; exact BK504.out) hb); replace BK506 := Aside0.mk (blk_below (g := gb506) (o := .cells #[.string ((rd_T48 l1_4 x42_2).f0), .string ((rd_T48 l1_4 x42_2).f1)] 48 (0, 0)) (by refine blk_put (cs := #[.string ((rd_T48 l1_4 x42_2).f0), .string (⟨#[]⟩ : ByteArray)]) ?_ 1 _ rfl; refine blk_put (cs := #[.string (⟨#[]⟩ : ByteArray), .string (⟨#[]⟩ : ByteArray)]) ?_ 0 _ rfl; exact BK506.out) hb); replace HB := Aside0.mk (below_step hb_ hb); obtain ⟨hcz63_0, hcz63_1, hfz63_0, hfz63_1⟩ := BK506.c2) | (go_at_call 19; (with_reducible refine (operand_number.calls ((rd_T48 l1_4 x42_2).f1) true _ A33.out).mono ?_); rintro e w64 ⟨rfl, hb⟩; replace BK498 := BK498.bl hb; replace BK499 := BK499.bl hb; replace BK504 := BK504.bl hb; replace BK506 := BK506.bl hb; replace HB := Aside0.mk (below_step hb_ hb); obtain ⟨hcz65_0, hcz65_1, hfz65_0, hfz65_1⟩ := BK506.c2))
              go_roundg k2
              case measure => have := HJ15.out; have := HK2.out; omega
              case rel => exact ⟨(wrap64 (x42_2 + 1)), (by first | rfl | (simp; done) | (simp [*]; done)), H', ⟨by have := HJ15.out; have := HK2.out; omega⟩, ⟨by exact BK498.out⟩, ⟨by exact BK499.out⟩, ⟨by exact BK504.out⟩, ⟨hb_⟩⟩
           ·replace c34 := Bool.eq_false_iff.mpr c34
            subst c34
            have H1 : (some (false, 40)) = some (r1, r2) := by rw [if_neg (show ¬ (false = true) by decide)] at H; exact H
            clear H
            have H := H1
            clear H1
            simp only [Option.some.injEq, Prod.mk.injEq] at H
            obtain ⟨rfl, rfl⟩ := H
            have p505 : 0 ≤ (x42_2 : Int) := of_decide_eq_true (by first | (with_reducible assumption) | assumption)
            have q505 : x42_2 < (l1_4.length : Int) := of_decide_eq_true (by first | (with_reducible assumption) | assumption)
            obtain ⟨ad505, e505, hx505_0, hx505_1⟩ := at_T48 HR1_4.out x42_2 p505 q505
            cases e505
            replace hx505_0 := (HB.out.cell (World.block_lt_of_cell? w _ hx505_0)).trans hx505_0
            replace hx505_1 := (HB.out.cell (World.block_lt_of_cell? w _ hx505_1)).trans hx505_1
            replace p505 := eq_true p505
            replace q505 := eq_true q505
            go_wp2_with (first | ((with_reducible refine gate_dst (N := 9) rfl ?_); (try (refine gate_guard (by rfl) ?_; dsimp only)); refine box_event ?hg (N := 9) ?hd (cs := #[.string (⟨#[]⟩ : ByteArray), .string (⟨#[]⟩ : ByteArray)]) (t := 48) ?hr ?_; (case hd => rfl); (case hg => rfl); (case hr => first | (go_simp; done) | (go_simp; rfl)); intro gb506 hg w66 hbox hb; have BK506 := Aside0.mk (hbox); have GW506 := ge_ (w := w) hg; have GE506 := ge_ (w := w) hg; have NB498_506 := BK498.nl hg; have NB506_498 := BK498.ng hg; have NB499_506 := BK499.nl hg; have NB506_499 := BK499.ng hg; have NB504_506 := BK504.nl hg; have NB506_504 := BK504.ng hg; replace BK498 := BK498.bl hb; replace BK499 := BK499.bl hb; replace BK504 := BK504.bl hb; replace HB := Aside0.mk (below_step hb_ hb); clear hb hbox hg; have hnb67 := NB506_498.out; have hnc67 := NB498_506.out; have hnb68 := NB506_499.out; have hnc68 := NB499_506.out; have hnb69 := NB506_504.out; have hnc69 := NB504_506.out; obtain ⟨hcz70_0, hcz70_1, hfz70_0, hfz70_1⟩ := BK506.c2) | ((with_reducible refine gate_callee (f := 19) rfl ?_); refine gL_ (some 48) Tryz.func19 #[.string ((rd_T48 l1_4 x42_2).f0)] ?_; (with_reducible refine (operand_number.calls ((rd_T48 l1_4 x42_2).f0) true _ A31.out).mono ?_); rintro e w71 ⟨rfl, hb⟩; refine ⟨_, rfl, ?_⟩; replace BK498 := Aside0.mk (blk_below (g := gb498) (o := .cells #[.bool a0_0, .string a0_1, .string a0_2, .string a0_3, .int .i64 a0_4, .int .i64 a0_5, .string a0_6, .string a0_7, .int .i64 a0_8] 25 (0, 0)) (by refine blk_far ?_ NB498_506.out _; refine blk_far ?_ NB498_506.out _; exact BK498.out) hb); replace BK499 := Aside0.mk (blk_below (g := gb499) (o := .cells #[.string a1_0, .string a1_1, .bool a1_2, .bool a1_3, .slice (some ad505) l1_4.length c1_4] 28 (0, 0)) (by refine blk_far ?_ NB499_506.out _; refine blk_far ?_ NB499_506.out _; exact BK499.out) hb); replace BK504 := Aside0.mk (blk_below (g := gb504) (o := .cells #[.bool t500, .string t501, .string t502] 23 (0, 0)) (by refine blk_far ?_ NB504_506.out _; refine blk_far ?_ NB504_506.out _; exact BK504.out) hb); replace BK506 := Aside0.mk (blk_below (g := gb506) (o := .cells #[.string ((rd_T48 l1_4 x42_2).f0), .string ((rd_T48 l1_4 x42_2).f1)] 48 (0, 0)) (by refine blk_put (cs := #[.string ((rd_T48 l1_4 x42_2).f0), .string (⟨#[]⟩ : ByteArray)]) ?_ 1 _ rfl; refine blk_put (cs := #[.string (⟨#[]⟩ : ByteArray), .string (⟨#[]⟩ : ByteArray)]) ?_ 0 _ rfl; exact BK506.out) hb); replace HB := Aside0.mk (below_step hb_ hb); obtain ⟨hcz72_0, hcz72_1, hfz72_0, hfz72_1⟩ := BK506.c2) | (go_at_call 19; (with_reducible refine (operand_number.calls ((rd_T48 l1_4 x42_2).f1) false _ A33.out).mono ?_); rintro e w73 ⟨rfl, hb⟩; replace BK498 := BK498.bl hb; replace BK499 := BK499.bl hb; replace BK504 := BK504.bl hb; replace BK506 := BK506.bl hb; replace HB := Aside0.mk (below_step hb_ hb)))
            go_ret2
            exact fin_
          ·replace c32 := Bool.eq_false_iff.mpr c32
           subst c32
           have H1 : (some (false, 40)) = some (r1, r2) := by rw [if_neg (show ¬ (false = true) by decide)] at H; exact H
           clear H
           have H := H1
           clear H1
           simp only [Option.some.injEq, Prod.mk.injEq] at H
           obtain ⟨rfl, rfl⟩ := H
           have p505 : 0 ≤ (x42_2 : Int) := of_decide_eq_true (by first | (with_reducible assumption) | assumption)
           have q505 : x42_2 < (l1_4.length : Int) := of_decide_eq_true (by first | (with_reducible assumption) | assumption)
           obtain ⟨ad505, e505, hx505_0, hx505_1⟩ := at_T48 HR1_4.out x42_2 p505 q505
           cases e505
           replace hx505_0 := (HB.out.cell (World.block_lt_of_cell? w _ hx505_0)).trans hx505_0
           replace hx505_1 := (HB.out.cell (World.block_lt_of_cell? w _ hx505_1)).trans hx505_1
           replace p505 := eq_true p505
           replace q505 := eq_true q505
           go_wp2_with (first | ((with_reducible refine gate_dst (N := 9) rfl ?_); (try (refine gate_guard (by rfl) ?_; dsimp only)); refine box_event ?hg (N := 9) ?hd (cs := #[.string (⟨#[]⟩ : ByteArray), .string (⟨#[]⟩ : ByteArray)]) (t := 48) ?hr ?_; (case hd => rfl); (case hg => rfl); (case hr => first | (go_simp; done) | (go_simp; rfl)); intro gb506 hg w74 hbox hb; have BK506 := Aside0.mk (hbox); have GW506 := ge_ (w := w) hg; have GE506 := ge_ (w := w) hg; have NB498_506 := BK498.nl hg; have NB506_498 := BK498.ng hg; have NB499_506 := BK499.nl hg; have NB506_499 := BK499.ng hg; have NB504_506 := BK504.nl hg; have NB506_504 := BK504.ng hg; replace BK498 := BK498.bl hb; replace BK499 := BK499.bl hb; replace BK504 := BK504.bl hb; replace HB := Aside0.mk (below_step hb_ hb); clear hb hbox hg; have hnb75 := NB506_498.out; have hnc75 := NB498_506.out; have hnb76 := NB506_499.out; have hnc76 := NB499_506.out; have hnb77 := NB506_504.out; have hnc77 := NB504_506.out; obtain ⟨hcz78_0, hcz78_1, hfz78_0, hfz78_1⟩ := BK506.c2) | ((with_reducible refine gate_callee (f := 19) rfl ?_); refine gL_ (some 48) Tryz.func19 #[.string ((rd_T48 l1_4 x42_2).f0)] ?_; (with_reducible refine (operand_number.calls ((rd_T48 l1_4 x42_2).f0) false _ A31.out).mono ?_); rintro e w79 ⟨rfl, hb⟩; refine ⟨_, rfl, ?_⟩; replace BK498 := Aside0.mk (blk_below (g := gb498) (o := .cells #[.bool a0_0, .string a0_1, .string a0_2, .string a0_3, .int .i64 a0_4, .int .i64 a0_5, .string a0_6, .string a0_7, .int .i64 a0_8] 25 (0, 0)) (by refine blk_far ?_ NB498_506.out _; refine blk_far ?_ NB498_506.out _; exact BK498.out) hb); replace BK499 := Aside0.mk (blk_below (g := gb499) (o := .cells #[.string a1_0, .string a1_1, .bool a1_2, .bool a1_3, .slice (some ad505) l1_4.length c1_4] 28 (0, 0)) (by refine blk_far ?_ NB499_506.out _; refine blk_far ?_ NB499_506.out _; exact BK499.out) hb); replace BK504 := Aside0.mk (blk_below (g := gb504) (o := .cells #[.bool t500, .string t501, .string t502] 23 (0, 0)) (by refine blk_far ?_ NB504_506.out _; refine blk_far ?_ NB504_506.out _; exact BK504.out) hb); replace BK506 := Aside0.mk (blk_below (g := gb506) (o := .cells #[.string ((rd_T48 l1_4 x42_2).f0), .string ((rd_T48 l1_4 x42_2).f1)] 48 (0, 0)) (by refine blk_put (cs := #[.string ((rd_T48 l1_4 x42_2).f0), .string (⟨#[]⟩ : ByteArray)]) ?_ 1 _ rfl; refine blk_put (cs := #[.string (⟨#[]⟩ : ByteArray), .string (⟨#[]⟩ : ByteArray)]) ?_ 0 _ rfl; exact BK506.out) hb); replace HB := Aside0.mk (below_step hb_ hb)))
           go_ret2
           exact fin_
         ·rw [if_neg c30] at H
          exact absurd H (by simp)
        ·rw [if_neg c29] at H
         exact absurd H (by simp)
       ·rw [if_neg c28] at H
        have c28b0 : decide (x42_2 < (l1_4.length : Int)) = false := decide_eq_false c28
        clear c28
        have H' := Aside0.mk H
        clear H
        have hnb80 := NB499_498.out
        have hnc80 := NB498_499.out
        have hnb81 := NB499_504.out
        have hnc81 := NB504_499.out
        obtain ⟨hcz82_0, hcz82_1, hcz82_2, hcz82_3, hcz82_4, hfz82_0, hfz82_1, hfz82_2, hfz82_3, hfz82_4⟩ := BK499.c5
        go_wp2
        go_loopg [10, 85] k2 (fun kq v10 v85 w' => ∃ (x10_3 : Bool) (x85_3 : Int), v10 = .bool x10_3 ∧ v85 = .int .i64 x85_3 ∧ Aside0 (operand_In.l1 kq x10_3 l1_4 (l1_4.length : Int) x85_3 a1_0 a1_1 a1_2 a1_3 l1_4 t500 t501 t502 = some (r1, r2)) ∧ Aside0 (kq ≤ k2) ∧ Aside0 (w'.heap[gb498]? = some (.cells #[.bool a0_0, .string a0_1, .string a0_2, .string a0_3, .int .i64 a0_4, .int .i64 a0_5, .string a0_6, .string a0_7, .int .i64 a0_8] 25 (0, 0))) ∧ Aside0 (w'.heap[gb499]? = some (.cells #[.string a1_0, .string a1_1, .bool a1_2, .bool a1_3, (.slice A1_4 l1_4.length c1_4)] 28 (0, 0))) ∧ Aside0 (w'.heap[gb504]? = some (.cells #[.bool t500, .string t501, .string t502] 23 (0, 0))) ∧ Aside0 (Below w.heap.size w w'))
        case atStart => exact ⟨(false), (0), (by first | rfl | (simp; done) | (simp [*]; done)), (by first | rfl | (simp; done) | (simp [*]; done)), H', ⟨Nat.le_refl _⟩, ⟨by exact BK498.out⟩, ⟨by exact BK499.out⟩, ⟨by exact BK504.out⟩, ⟨hb_⟩⟩
        case round =>
         clear H'
         (try clear c15); (try clear c15b0); (try clear c15b1); (try clear c24); (try clear c28); (try clear c28b0); (try clear hcz14_0); (try clear hcz14_1); (try clear hcz14_2); (try clear hcz27_0); (try clear hcz27_1); (try clear hcz27_2); (try clear hcz27_3); (try clear hcz27_4); (try clear hcz82_0); (try clear hcz82_1); (try clear hcz82_2); (try clear hcz82_3); (try clear hcz82_4); (try clear hcz8_0); (try clear hcz8_1); (try clear hcz8_2); (try clear hcz8_3); (try clear hcz8_4); (try clear hcz8_5); (try clear hcz8_6); (try clear hcz8_7); (try clear hcz8_8); (try clear hcz9_0); (try clear hcz9_1); (try clear hcz9_2); (try clear hcz9_3); (try clear hcz9_4); (try clear hfz14_0); (try clear hfz14_1); (try clear hfz14_2); (try clear hfz27_0); (try clear hfz27_1); (try clear hfz27_2); (try clear hfz27_3); (try clear hfz27_4); (try clear hfz82_0); (try clear hfz82_1); (try clear hfz82_2); (try clear hfz82_3); (try clear hfz82_4); (try clear hfz8_0); (try clear hfz8_1); (try clear hfz8_2); (try clear hfz8_3); (try clear hfz8_4); (try clear hfz8_5); (try clear hfz8_6); (try clear hfz8_7); (try clear hfz8_8); (try clear hfz9_0); (try clear hfz9_1); (try clear hfz9_2); (try clear hfz9_3); (try clear hfz9_4)
         obtain ⟨x10_3, x85_3, rfl, rfl, HA, HK3, BK498, BK499, BK504, HB⟩ := hrel
         cases gk with
         | zero => exact absurd HA.out (by simp [operand_In.l1])
         | succ k3 =>
          have H := HA.out
          clear HA
          simp only [operand_In.l1] at H
          by_cases c83 : x85_3 < (l1_4.length : Int)
          ·rw [if_pos c83] at H
           have c83b0 : decide (x85_3 < (l1_4.length : Int)) = true := decide_eq_true c83
           clear c83
           by_cases c84 : 0 ≤ x85_3
           ·rw [if_pos c84] at H
            have c84b0 : decide (0 ≤ x85_3) = true := decide_eq_true c84
            clear c84
            by_cases c85 : x85_3 < (l1_4.length : Int)
            ·rw [if_pos c85] at H
             have c85b0 : decide (x85_3 < (l1_4.length : Int)) = true := decide_eq_true c85
             clear c85
             replace H := Option.bind_eq_some_iff.mp H
             obtain ⟨⟨t511, t512⟩, A860, H⟩ := H
             try dsimp only at H
             have A86 := Aside0.mk A860
             clear A860
             replace H := Option.bind_eq_some_iff.mp H
             obtain ⟨⟨t513, t514⟩, A870, H⟩ := H
             try dsimp only at H
             have A87 := Aside0.mk A870
             clear A870
             by_cases c88 : x10_3 = true
             ·subst c88
              have H1 : (operand_In.l1 k3 true l1_4 (l1_4.length : Int) (wrap64 (x85_3 + 1)) a1_0 a1_1 a1_2 a1_3 l1_4 t500 t501 t502) = some (r1, r2) := by rw [if_pos rfl] at H; exact H
              clear H
              have H := H1
              clear H1
              have H' := Aside0.mk H
              clear H
              have p509 : 0 ≤ (x85_3 : Int) := of_decide_eq_true (by first | (with_reducible assumption) | assumption)
              have q509 : x85_3 < (l1_4.length : Int) := of_decide_eq_true (by first | (with_reducible assumption) | assumption)
              obtain ⟨ad509, e509, hx509_0, hx509_1⟩ := at_T48 HR1_4.out x85_3 p509 q509
              cases e509
              replace hx509_0 := (HB.out.cell (World.block_lt_of_cell? w _ hx509_0)).trans hx509_0
              replace hx509_1 := (HB.out.cell (World.block_lt_of_cell? w _ hx509_1)).trans hx509_1
              replace p509 := eq_true p509
              replace q509 := eq_true q509
              go_wp2_with (first | ((with_reducible refine gate_dst (N := 12) rfl ?_); (try (refine gate_guard (by rfl) ?_; dsimp only)); refine box_event ?hg (N := 12) ?hd (cs := #[.string (⟨#[]⟩ : ByteArray), .string (⟨#[]⟩ : ByteArray)]) (t := 48) ?hr ?_; (case hd => rfl); (case hg => rfl); (case hr => first | (go_simp; done) | (go_simp; rfl)); intro gb510 hg w89 hbox hb; have BK510 := Aside0.mk (hbox); have GW510 := ge_ (w := w) hg; have GE510 := ge_ (w := w) hg; have NB498_510 := BK498.nl hg; have NB510_498 := BK498.ng hg; have NB499_510 := BK499.nl hg; have NB510_499 := BK499.ng hg; have NB504_510 := BK504.nl hg; have NB510_504 := BK504.ng hg; replace BK498 := BK498.bl hb; replace BK499 := BK499.bl hb; replace BK504 := BK504.bl hb; replace HB := Aside0.mk (below_step hb_ hb); clear hb hbox hg; have hnb90 := NB510_498.out; have hnc90 := NB498_510.out; have hnb91 := NB510_499.out; have hnc91 := NB499_510.out; have hnb92 := NB510_504.out; have hnc92 := NB504_510.out; obtain ⟨hcz93_0, hcz93_1, hfz93_0, hfz93_1⟩ := BK510.c2; have hnb94 := NB504_498.out; have hnc94 := NB498_504.out; have hnb95 := NB504_499.out; have hnc95 := NB499_504.out; obtain ⟨hcz96_0, hcz96_1, hcz96_2, hfz96_0, hfz96_1, hfz96_2⟩ := BK504.c3) | ((with_reducible refine gate_callee (f := 23) rfl ?_); refine gL_ (some 94) Tryz.func23 #[.agg #[.bool false, .string ((rd_T48 l1_4 x85_3).f0), .string (⟨#[]⟩ : ByteArray)], .agg #[.bool t500, .string t501, .string t502]] ?_; (with_reducible refine (decimal_Compare.calls k3 false ((rd_T48 l1_4 x85_3).f0) (⟨#[]⟩ : ByteArray) t500 t501 t502 t511 t512 _ A86.out).mono ?_); rintro e w97 ⟨rfl, hb⟩; refine ⟨_, rfl, ?_⟩; replace BK498 := Aside0.mk (blk_below (g := gb498) (o := .cells #[.bool a0_0, .string a0_1, .string a0_2, .string a0_3, .int .i64 a0_4, .int .i64 a0_5, .string a0_6, .string a0_7, .int .i64 a0_8] 25 (0, 0)) (by refine blk_far ?_ NB498_510.out _; refine blk_far ?_ NB498_510.out _; exact BK498.out) hb); replace BK499 := Aside0.mk (blk_below (g := gb499) (o := .cells #[.string a1_0, .string a1_1, .bool a1_2, .bool a1_3, .slice (some ad509) l1_4.length c1_4] 28 (0, 0)) (by refine blk_far ?_ NB499_510.out _; refine blk_far ?_ NB499_510.out _; exact BK499.out) hb); replace BK504 := Aside0.mk (blk_below (g := gb504) (o := .cells #[.bool t500, .string t501, .string t502] 23 (0, 0)) (by refine blk_far ?_ NB504_510.out _; refine blk_far ?_ NB504_510.out _; exact BK504.out) hb); replace BK510 := Aside0.mk (blk_below (g := gb510) (o := .cells #[.string ((rd_T48 l1_4 x85_3).f0), .string ((rd_T48 l1_4 x85_3).f1)] 48 (0, 0)) (by refine blk_put (cs := #[.string ((rd_T48 l1_4 x85_3).f0), .string (⟨#[]⟩ : ByteArray)]) ?_ 1 _ rfl; refine blk_put (cs := #[.string (⟨#[]⟩ : ByteArray), .string (⟨#[]⟩ : ByteArray)]) ?_ 0 _ rfl; exact BK510.out) hb); replace HB := Aside0.mk (below_step hb_ hb); obtain ⟨hcz98_0, hcz98_1, hcz98_2, hfz98_0, hfz98_1, hfz98_2⟩ := BK504.c3; obtain ⟨hcz99_0, hcz99_1, hfz99_0, hfz99_1⟩ := BK510.c2) | ((with_reducible refine gate_callee (f := 23) rfl ?_); refine gL_ (some 102) Tryz.func23 #[.agg #[.bool t500, .string t501, .string t502], .agg #[.bool false, .string ((rd_T48 l1_4 x85_3).f1), .string (⟨#[]⟩ : ByteArray)]] ?_; (with_reducible refine (decimal_Compare.calls k3 t500 t501 t502 false ((rd_T48 l1_4 x85_3).f1) (⟨#[]⟩ : ByteArray) t513 t514 _ A87.out).mono ?_); rintro e w100 ⟨rfl, hb⟩; refine ⟨_, rfl, ?_⟩; replace BK498 := BK498.bl hb; replace BK499 := BK499.bl hb; replace BK504 := BK504.bl hb; replace BK510 := BK510.bl hb; replace HB := Aside0.mk (below_step hb_ hb)))
              go_roundg k3
              case measure => have := HJ15.out; have := HK2.out; have := HK3.out; omega
              case rel => exact ⟨(true), (wrap64 (x85_3 + 1)), (by first | rfl | (simp; done) | (simp [*]; done)), (by first | rfl | (simp; done) | (simp [*]; done)), H', ⟨by have := HJ15.out; have := HK2.out; have := HK3.out; omega⟩, ⟨by exact BK498.out⟩, ⟨by exact BK499.out⟩, ⟨by exact BK504.out⟩, ⟨hb_⟩⟩
             ·replace c88 := Bool.eq_false_iff.mpr c88
              subst c88
              have H1 : (if t511 ≤ 0 then (operand_In.l1 k3 (decide (t513 ≤ 0)) l1_4 (l1_4.length : Int) (wrap64 (x85_3 + 1)) a1_0 a1_1 a1_2 a1_3 l1_4 t500 t501 t502) else (operand_In.l1 k3 false l1_4 (l1_4.length : Int) (wrap64 (x85_3 + 1)) a1_0 a1_1 a1_2 a1_3 l1_4 t500 t501 t502)) = some (r1, r2) := by rw [if_neg (show ¬ (false = true) by decide)] at H; exact H
              clear H
              have H := H1
              clear H1
              by_cases c101 : t511 ≤ 0
              ·rw [if_pos c101] at H
               have c101b0 : decide (t511 ≤ 0) = true := decide_eq_true c101
               clear c101
               have H' := Aside0.mk H
               clear H
               have p509 : 0 ≤ (x85_3 : Int) := of_decide_eq_true (by first | (with_reducible assumption) | assumption)
               have q509 : x85_3 < (l1_4.length : Int) := of_decide_eq_true (by first | (with_reducible assumption) | assumption)
               obtain ⟨ad509, e509, hx509_0, hx509_1⟩ := at_T48 HR1_4.out x85_3 p509 q509
               cases e509
               replace hx509_0 := (HB.out.cell (World.block_lt_of_cell? w _ hx509_0)).trans hx509_0
               replace hx509_1 := (HB.out.cell (World.block_lt_of_cell? w _ hx509_1)).trans hx509_1
               replace p509 := eq_true p509
               replace q509 := eq_true q509
               go_wp2_with (first | ((with_reducible refine gate_dst (N := 12) rfl ?_); (try (refine gate_guard (by rfl) ?_; dsimp only)); refine box_event ?hg (N := 12) ?hd (cs := #[.string (⟨#[]⟩ : ByteArray), .string (⟨#[]⟩ : ByteArray)]) (t := 48) ?hr ?_; (case hd => rfl); (case hg => rfl); (case hr => first | (go_simp; done) | (go_simp; rfl)); intro gb510 hg w102 hbox hb; have BK510 := Aside0.mk (hbox); have GW510 := ge_ (w := w) hg; have GE510 := ge_ (w := w) hg; have NB498_510 := BK498.nl hg; have NB510_498 := BK498.ng hg; have NB499_510 := BK499.nl hg; have NB510_499 := BK499.ng hg; have NB504_510 := BK504.nl hg; have NB510_504 := BK504.ng hg; replace BK498 := BK498.bl hb; replace BK499 := BK499.bl hb; replace BK504 := BK504.bl hb; replace HB := Aside0.mk (below_step hb_ hb); clear hb hbox hg; have hnb103 := NB510_498.out; have hnc103 := NB498_510.out; have hnb104 := NB510_499.out; have hnc104 := NB499_510.out; have hnb105 := NB510_504.out; have hnc105 := NB504_510.out; obtain ⟨hcz106_0, hcz106_1, hfz106_0, hfz106_1⟩ := BK510.c2; have hnb107 := NB504_498.out; have hnc107 := NB498_504.out; have hnb108 := NB504_499.out; have hnc108 := NB499_504.out; obtain ⟨hcz109_0, hcz109_1, hcz109_2, hfz109_0, hfz109_1, hfz109_2⟩ := BK504.c3) | ((with_reducible refine gate_callee (f := 23) rfl ?_); refine gL_ (some 94) Tryz.func23 #[.agg #[.bool false, .string ((rd_T48 l1_4 x85_3).f0), .string (⟨#[]⟩ : ByteArray)], .agg #[.bool t500, .string t501, .string t502]] ?_; (with_reducible refine (decimal_Compare.calls k3 false ((rd_T48 l1_4 x85_3).f0) (⟨#[]⟩ : ByteArray) t500 t501 t502 t511 t512 _ A86.out).mono ?_); rintro e w110 ⟨rfl, hb⟩; refine ⟨_, rfl, ?_⟩; replace BK498 := Aside0.mk (blk_below (g := gb498) (o := .cells #[.bool a0_0, .string a0_1, .string a0_2, .string a0_3, .int .i64 a0_4, .int .i64 a0_5, .string a0_6, .string a0_7, .int .i64 a0_8] 25 (0, 0)) (by refine blk_far ?_ NB498_510.out _; refine blk_far ?_ NB498_510.out _; exact BK498.out) hb); replace BK499 := Aside0.mk (blk_below (g := gb499) (o := .cells #[.string a1_0, .string a1_1, .bool a1_2, .bool a1_3, .slice (some ad509) l1_4.length c1_4] 28 (0, 0)) (by refine blk_far ?_ NB499_510.out _; refine blk_far ?_ NB499_510.out _; exact BK499.out) hb); replace BK504 := Aside0.mk (blk_below (g := gb504) (o := .cells #[.bool t500, .string t501, .string t502] 23 (0, 0)) (by refine blk_far ?_ NB504_510.out _; refine blk_far ?_ NB504_510.out _; exact BK504.out) hb); replace BK510 := Aside0.mk (blk_below (g := gb510) (o := .cells #[.string ((rd_T48 l1_4 x85_3).f0), .string ((rd_T48 l1_4 x85_3).f1)] 48 (0, 0)) (by refine blk_put (cs := #[.string ((rd_T48 l1_4 x85_3).f0), .string (⟨#[]⟩ : ByteArray)]) ?_ 1 _ rfl; refine blk_put (cs := #[.string (⟨#[]⟩ : ByteArray), .string (⟨#[]⟩ : ByteArray)]) ?_ 0 _ rfl; exact BK510.out) hb); replace HB := Aside0.mk (below_step hb_ hb); obtain ⟨hcz111_0, hcz111_1, hcz111_2, hfz111_0, hfz111_1, hfz111_2⟩ := BK504.c3; obtain ⟨hcz112_0, hcz112_1, hfz112_0, hfz112_1⟩ := BK510.c2) | ((with_reducible refine gate_callee (f := 23) rfl ?_); refine gL_ (some 102) Tryz.func23 #[.agg #[.bool t500, .string t501, .string t502], .agg #[.bool false, .string ((rd_T48 l1_4 x85_3).f1), .string (⟨#[]⟩ : ByteArray)]] ?_; (with_reducible refine (decimal_Compare.calls k3 t500 t501 t502 false ((rd_T48 l1_4 x85_3).f1) (⟨#[]⟩ : ByteArray) t513 t514 _ A87.out).mono ?_); rintro e w113 ⟨rfl, hb⟩; refine ⟨_, rfl, ?_⟩; replace BK498 := BK498.bl hb; replace BK499 := BK499.bl hb; replace BK504 := BK504.bl hb; replace BK510 := BK510.bl hb; replace HB := Aside0.mk (below_step hb_ hb)))
               go_roundg k3
               case measure => have := HJ15.out; have := HK2.out; have := HK3.out; omega
               case rel => exact ⟨(decide (t513 ≤ 0)), (wrap64 (x85_3 + 1)), (by first | rfl | (simp; done) | (simp [*]; done)), (by first | rfl | (simp; done) | (simp [*]; done)), H', ⟨by have := HJ15.out; have := HK2.out; have := HK3.out; omega⟩, ⟨by exact BK498.out⟩, ⟨by exact BK499.out⟩, ⟨by exact BK504.out⟩, ⟨hb_⟩⟩
              ·rw [if_neg c101] at H
               have c101b0 : decide (t511 ≤ 0) = false := decide_eq_false c101
               clear c101
               have H' := Aside0.mk H
               clear H
               have p509 : 0 ≤ (x85_3 : Int) := of_decide_eq_true (by first | (with_reducible assumption) | assumption)
               have q509 : x85_3 < (l1_4.length : Int) := of_decide_eq_true (by first | (with_reducible assumption) | assumption)
               obtain ⟨ad509, e509, hx509_0, hx509_1⟩ := at_T48 HR1_4.out x85_3 p509 q509
               cases e509
               replace hx509_0 := (HB.out.cell (World.block_lt_of_cell? w _ hx509_0)).trans hx509_0
               replace hx509_1 := (HB.out.cell (World.block_lt_of_cell? w _ hx509_1)).trans hx509_1
               replace p509 := eq_true p509
               replace q509 := eq_true q509
               go_wp2_with (first | ((with_reducible refine gate_dst (N := 12) rfl ?_); (try (refine gate_guard (by rfl) ?_; dsimp only)); refine box_event ?hg (N := 12) ?hd (cs := #[.string (⟨#[]⟩ : ByteArray), .string (⟨#[]⟩ : ByteArray)]) (t := 48) ?hr ?_; (case hd => rfl); (case hg => rfl); (case hr => first | (go_simp; done) | (go_simp; rfl)); intro gb510 hg w114 hbox hb; have BK510 := Aside0.mk (hbox); have GW510 := ge_ (w := w) hg; have GE510 := ge_ (w := w) hg; have NB498_510 := BK498.nl hg; have NB510_498 := BK498.ng hg; have NB499_510 := BK499.nl hg; have NB510_499 := BK499.ng hg; have NB504_510 := BK504.nl hg; have NB510_504 := BK504.ng hg; replace BK498 := BK498.bl hb; replace BK499 := BK499.bl hb; replace BK504 := BK504.bl hb; replace HB := Aside0.mk (below_step hb_ hb); clear hb hbox hg; have hnb115 := NB510_498.out; have hnc115 := NB498_510.out; have hnb116 := NB510_499.out; have hnc116 := NB499_510.out; have hnb117 := NB510_504.out; have hnc117 := NB504_510.out; obtain ⟨hcz118_0, hcz118_1, hfz118_0, hfz118_1⟩ := BK510.c2; have hnb119 := NB504_498.out; have hnc119 := NB498_504.out; have hnb120 := NB504_499.out; have hnc120 := NB499_504.out; obtain ⟨hcz121_0, hcz121_1, hcz121_2, hfz121_0, hfz121_1, hfz121_2⟩ := BK504.c3) | ((with_reducible refine gate_callee (f := 23) rfl ?_); refine gL_ (some 94) Tryz.func23 #[.agg #[.bool false, .string ((rd_T48 l1_4 x85_3).f0), .string (⟨#[]⟩ : ByteArray)], .agg #[.bool t500, .string t501, .string t502]] ?_; (with_reducible refine (decimal_Compare.calls k3 false ((rd_T48 l1_4 x85_3).f0) (⟨#[]⟩ : ByteArray) t500 t501 t502 t511 t512 _ A86.out).mono ?_); rintro e w122 ⟨rfl, hb⟩; refine ⟨_, rfl, ?_⟩; replace BK498 := Aside0.mk (blk_below (g := gb498) (o := .cells #[.bool a0_0, .string a0_1, .string a0_2, .string a0_3, .int .i64 a0_4, .int .i64 a0_5, .string a0_6, .string a0_7, .int .i64 a0_8] 25 (0, 0)) (by refine blk_far ?_ NB498_510.out _; refine blk_far ?_ NB498_510.out _; exact BK498.out) hb); replace BK499 := Aside0.mk (blk_below (g := gb499) (o := .cells #[.string a1_0, .string a1_1, .bool a1_2, .bool a1_3, .slice (some ad509) l1_4.length c1_4] 28 (0, 0)) (by refine blk_far ?_ NB499_510.out _; refine blk_far ?_ NB499_510.out _; exact BK499.out) hb); replace BK504 := Aside0.mk (blk_below (g := gb504) (o := .cells #[.bool t500, .string t501, .string t502] 23 (0, 0)) (by refine blk_far ?_ NB504_510.out _; refine blk_far ?_ NB504_510.out _; exact BK504.out) hb); replace BK510 := Aside0.mk (blk_below (g := gb510) (o := .cells #[.string ((rd_T48 l1_4 x85_3).f0), .string ((rd_T48 l1_4 x85_3).f1)] 48 (0, 0)) (by refine blk_put (cs := #[.string ((rd_T48 l1_4 x85_3).f0), .string (⟨#[]⟩ : ByteArray)]) ?_ 1 _ rfl; refine blk_put (cs := #[.string (⟨#[]⟩ : ByteArray), .string (⟨#[]⟩ : ByteArray)]) ?_ 0 _ rfl; exact BK510.out) hb); replace HB := Aside0.mk (below_step hb_ hb); obtain ⟨hcz123_0, hcz123_1, hcz123_2, hfz123_0, hfz123_1, hfz123_2⟩ := BK504.c3; obtain ⟨hcz124_0, hcz124_1, hfz124_0, hfz124_1⟩ := BK510.c2) | ((with_reducible refine gate_callee (f := 23) rfl ?_); refine gL_ (some 102) Tryz.func23 #[.agg #[.bool t500, .string t501, .string t502], .agg #[.bool false, .string ((rd_T48 l1_4 x85_3).f1), .string (⟨#[]⟩ : ByteArray)]] ?_; (with_reducible refine (decimal_Compare.calls k3 t500 t501 t502 false ((rd_T48 l1_4 x85_3).f1) (⟨#[]⟩ : ByteArray) t513 t514 _ A87.out).mono ?_); rintro e w125 ⟨rfl, hb⟩; refine ⟨_, rfl, ?_⟩; replace BK498 := BK498.bl hb; replace BK499 := BK499.bl hb; replace BK504 := BK504.bl hb; replace BK510 := BK510.bl hb; replace HB := Aside0.mk (below_step hb_ hb)))
               go_roundg k3
               case measure => have := HJ15.out; have := HK2.out; have := HK3.out; omega
               case rel => exact ⟨(false), (wrap64 (x85_3 + 1)), (by first | rfl | (simp; done) | (simp [*]; done)), (by first | rfl | (simp; done) | (simp [*]; done)), H', ⟨by have := HJ15.out; have := HK2.out; have := HK3.out; omega⟩, ⟨by exact BK498.out⟩, ⟨by exact BK499.out⟩, ⟨by exact BK504.out⟩, ⟨hb_⟩⟩
            ·rw [if_neg c85] at H
             exact absurd H (by simp)
           ·rw [if_neg c84] at H
            exact absurd H (by simp)
          ·rw [if_neg c83] at H
           have c83b0 : decide (x85_3 < (l1_4.length : Int)) = false := decide_eq_false c83
           clear c83
           by_cases c126 : a1_3 = true
           ·subst c126
            have H1 : (some ((x10_3 != a1_2), 0)) = some (r1, r2) := by rw [if_pos rfl] at H; exact H
            clear H
            have H := H1
            clear H1
            simp only [Option.some.injEq, Prod.mk.injEq] at H
            obtain ⟨rfl, rfl⟩ := H
            have hnb127 := NB499_498.out
            have hnc127 := NB498_499.out
            have hnb128 := NB499_504.out
            have hnc128 := NB504_499.out
            obtain ⟨hcz129_0, hcz129_1, hcz129_2, hcz129_3, hcz129_4, hfz129_0, hfz129_1, hfz129_2, hfz129_3, hfz129_4⟩ := BK499.c5
            go_wp2
            go_ret2
            exact fin_
           ·replace c126 := Bool.eq_false_iff.mpr c126
            subst c126
            have H1 : ((strings_Trim.f t502 (⟨#[48]⟩ : ByteArray)).bind fun t515 => (if t515.toList = ([] : List UInt8) then (some ((x10_3 != a1_2), 0)) else (some ((false != a1_2), 0)))) = some (r1, r2) := by rw [if_neg (show ¬ (false = true) by decide)] at H; exact H
            clear H
            have H := H1
            clear H1
            replace H := Option.bind_eq_some_iff.mp H
            obtain ⟨t515, A1300, H⟩ := H
            try dsimp only at H
            have A130 := Aside0.mk A1300
            clear A1300
            have HF131 := Aside0.mk H
            clear H
            have hnb132 := NB499_498.out
            have hnc132 := NB498_499.out
            have hnb133 := NB499_504.out
            have hnc133 := NB504_499.out
            obtain ⟨hcz134_0, hcz134_1, hcz134_2, hcz134_3, hcz134_4, hfz134_0, hfz134_1, hfz134_2, hfz134_3, hfz134_4⟩ := BK499.c5
            have hnb135 := NB504_498.out
            have hnc135 := NB498_504.out
            obtain ⟨hcz136_0, hcz136_1, hcz136_2, hfz136_0, hfz136_1, hfz136_2⟩ := BK504.c3
            go_upto_if 123 with (first | (go_at_call 24; (with_reducible refine (strings_Trim.calls t502 (⟨#[48]⟩ : ByteArray) t515 _ A130.out).mono ?_); rintro e w137 ⟨rfl, hb⟩; replace BK498 := BK498.bl hb; replace BK499 := BK499.bl hb; replace BK504 := BK504.bl hb; replace HB := Aside0.mk (below_step hb_ hb)))
            (try simp only [Act.put, List.setIfInBounds_toArray, List.set_cons_zero, List.set_cons_succ])
            have H := HF131.out
            clear HF131
            by_cases c138 : t515.toList = ([] : List UInt8)
            ·rw [if_pos c138] at H
             have c138b0 : (t515.toList == ([] : List UInt8)) = true := beq_iff_eq.mpr c138
             have c138b1 : (t515.toList != ([] : List UInt8)) = false := bne_eq_false_iff_eq.mpr c138
             clear c138
             (first | rw [c138b0] | (simp only [i64_w, i32_w]; rw [c138b0]) | rw [c138b1] | rw [(by rw [← c138b0]; cases t515.toList <;> rfl : t515.toList.isEmpty = true)] | skip)
             simp only [Option.some.injEq, Prod.mk.injEq] at H
             obtain ⟨rfl, rfl⟩ := H
             have hnb139 := NB499_498.out
             have hnc139 := NB498_499.out
             have hnb140 := NB499_504.out
             have hnc140 := NB504_499.out
             obtain ⟨hcz141_0, hcz141_1, hcz141_2, hcz141_3, hcz141_4, hfz141_0, hfz141_1, hfz141_2, hfz141_3, hfz141_4⟩ := BK499.c5
             go_wp2
             go_ret2
             exact fin_
            ·rw [if_neg c138] at H
             have c138b0 : (t515.toList == ([] : List UInt8)) = false := beq_eq_false_iff_ne.mpr c138
             have c138b1 : (t515.toList != ([] : List UInt8)) = true := bne_iff_ne.mpr c138
             (first | rw [c138b0] | (simp only [i64_w, i32_w]; rw [c138b0]) | rw [c138b1] | rw [(by rw [← c138b0]; cases t515.toList <;> rfl : t515.toList.isEmpty = false)] | skip)
             simp only [Option.some.injEq, Prod.mk.injEq] at H
             obtain ⟨rfl, rfl⟩ := H
             have hnb142 := NB499_498.out
             have hnc142 := NB498_499.out
             have hnb143 := NB499_504.out
             have hnc143 := NB504_499.out
             obtain ⟨hcz144_0, hcz144_1, hcz144_2, hcz144_3, hcz144_4, hfz144_0, hfz144_1, hfz144_2, hfz144_3, hfz144_4⟩ := BK499.c5
             go_wp2
             go_ret2
             exact fin_
 ·rw [if_neg c15] at H
  have c15b0 : (t503 == 0) = false := beq_eq_false_iff_ne.mpr c15
  have c15b1 : (t503 != 0) = true := bne_iff_ne.mpr c15
  (first | rw [c15b0] | (simp only [i64_w, i32_w]; rw [c15b0]) | rw [c15b1] | skip)
  simp only [Option.some.injEq, Prod.mk.injEq] at H
  obtain ⟨rfl, rfl⟩ := H
  go_wp2
  go_ret2
  exact fin_
attribute [local go_sem] max2_int max_two
set_option linter.unusedVariables false
set_option linter.unusedSimpArgs false
def idiomlaw04_copied.f (a0_0 : ByteArray) (a0_1 : ByteArray) (a0_2 : Bool) (a0_3 : Bool) (l0_4 : List (S48)) : Option (ByteArray × ByteArray × Bool × Bool × (List (S48))) := (some (([] : List (S48)) : List (S48))).bind fun y518 => (if y518.length + l0_4.length < 4398046511104 then (some (a0_0, a0_1, a0_2, a0_3, (y518 ++ l0_4))) else (none))
set_option maxHeartbeats 8000000 in
set_option maxRecDepth 100000 in
theorem idiomlaw04_copied.calls (a0_0 : ByteArray) (a0_1 : ByteArray) (a0_2 : Bool) (a0_3 : Bool) (A0_4 : Option Addr) (c0_4 : Nat) (l0_4 : List (S48)) (r1 : ByteArray) (r2 : ByteArray) (r3 : Bool) (r4 : Bool) (r5 : List (S48)) (w : World) (hr0_4 : Kd.C k48 w A0_4 l0_4.length l0_4) (hc0_4 : l0_4.length ≤ c0_4) (h : idiomlaw04_copied.f a0_0 a0_1 a0_2 a0_3 l0_4 = some (r1, r2, r3, r4, r5)) :
    Calls Tryz.prog 11 #[.agg #[.string a0_0, .string a0_1, .bool a0_2, .bool a0_3, .slice A0_4 l0_4.length c0_4]] w fun e w' => ∃ v4_ : Value, e = .returned (.agg #[.string r1, .string r2, .bool r3, .bool r4, v4_]) ∧ Kd.R k48 48 w' w.heap.size (fun _ => True) v4_ r5 ∧ Below w.heap.size w w' := by
 have hu28 := Tryz.underlying28
 have HR0_4 := Aside0.mk hr0_4
 have HC0_4 := Aside0.mk hc0_4
 clear hr0_4 hc0_4
 have HB := Aside0.mk (Below.refl w.heap.size w)
 unfold idiomlaw04_copied.f at h
 have H := h
 clear h
 obtain ⟨y518, hy518⟩ : ∃ y_ : List (S48), y_ = (([] : List (S48))) := ⟨_, rfl⟩
 rw [Option.bind_some, ← hy518] at H
 have Ny518 := Aside0.mk hy518
 clear hy518
 by_cases c2 : y518.length + l0_4.length < 4398046511104
 ·rw [if_pos c2] at H
  have LMc2 := Aside0.mk c2
  clear c2
  obtain ⟨y521, hy521⟩ : ∃ y_ : List (S48), y_ = (y518 ++ l0_4) := ⟨_, rfl⟩
  rw [← hy521] at H
  have Ny521 := Aside0.mk hy521
  clear hy521
  simp only [Option.some.injEq, Prod.mk.injEq] at H
  obtain ⟨rfl, rfl, rfl, rfl, rfl⟩ := H
  go_enter Tryz.func11, Tryz.ntmps11
  go_wp2_with (first | ((with_reducible refine gate_dst (N := 1) rfl ?_); refine box_event ?hg (N := 1) ?hd (cs := #[.string a0_0, .string a0_1, .bool a0_2, .bool a0_3, .slice A0_4 l0_4.length c0_4]) (t := 28) ?hr ?_; (case hd => rfl); (case hg => rfl); (case hr => first | (go_simp; done) | (go_simp; rfl)); intro gb516 hg w3 hbox hb; have n0_ := Aside0.mk (below_step (hb_) hb); have n1_ := Aside0.mk (hbox); have n2_ := Aside0.mk ((by rw [hg]; exact (below_size (hb_)) : w.heap.size ≤ gb516)); have n3_ := Aside0.mk ((by rw [hg]; exact (below_size (hb_)) : w.heap.size ≤ gb516)); clear HB; have HB := n0_; have BK516 := n1_; have GW516 := n2_; have GE516 := n3_; clear n0_ n1_ n2_ n3_; clear hb hbox hg) | ((with_reducible refine gate_dst (N := 2) rfl ?_); refine box_event ?hg (N := 2) ?hd (cs := #[.string (⟨#[]⟩ : ByteArray), .string (⟨#[]⟩ : ByteArray), .bool false, .bool false, .slice none 0 0]) (t := 28) ?hr ?_; (case hd => rfl); (case hg => rfl); (case hr => first | (go_simp; done) | (go_simp; rfl)); intro gb517 hg w4 hbox hb; have n0_ := Aside0.mk (blk_below (g := gb516) (o := .cells #[.string a0_0, .string a0_1, .bool a0_2, .bool a0_3, .slice A0_4 l0_4.length c0_4] 28 (0, 0)) (by (with_reducible repeat (first | refine blk_drewN ?_ _ | refine blk_drew ?_ | refine blk_alloc ?_ _)); exact BK516.out) hb); have n1_ := Aside0.mk (below_step (hb_) hb); have n2_ := Aside0.mk (hbox); have n3_ := Aside0.mk ((by rw [hg]; exact (below_size (hb_)) : w.heap.size ≤ gb517)); have n4_ := Aside0.mk ((by rw [hg]; exact (below_size (hb_)) : w.heap.size ≤ gb517)); have n5_ := Aside0.mk ((by rw [hg]; exact Nat.ne_of_lt (blk_lt (g := gb516) (o := .cells #[.string a0_0, .string a0_1, .bool a0_2, .bool a0_3, .slice A0_4 l0_4.length c0_4] 28 (0, 0)) (by (with_reducible repeat (first | refine blk_drewN ?_ _ | refine blk_drew ?_ | refine blk_alloc ?_ _)); exact BK516.out)) : gb516 ≠ gb517)); have n6_ := Aside0.mk ((by rw [hg]; exact Nat.ne_of_gt (blk_lt (g := gb516) (o := .cells #[.string a0_0, .string a0_1, .bool a0_2, .bool a0_3, .slice A0_4 l0_4.length c0_4] 28 (0, 0)) (by (with_reducible repeat (first | refine blk_drewN ?_ _ | refine blk_drew ?_ | refine blk_alloc ?_ _)); exact BK516.out)) : gb517 ≠ gb516)); clear BK516; clear HB; have BK516 := n0_; have HB := n1_; have BK517 := n2_; have GW517 := n3_; have GE517 := n4_; have NB516_517 := n5_; have NB517_516 := n6_; clear n0_ n1_ n2_ n3_ n4_ n5_ n6_; clear hb hbox hg) | ((with_reducible refine gate_dst (N := 3) rfl ?_); refine Kd.R_lit k48 _ 48 ?hg (N := 3) ?hd (xs := ([] : List (S48))) (inner := []) (ok := fun _ => True) (okp := fun _ => True) ?hr ?hp (fun _ hk => hk) trivial (Below.refl _ _) (Nat.le_refl _) (by simp) ?_; (case hd => rfl); (case hg => rfl); (case hr => first | (go_simp; done) | (go_simp; rfl)); (case hp => exact (Reps.none _ _)); intro v519 w5 ho6 hb hg_ hnew_; clear hg_ hnew_; (first | rw [← Ny518.out] at ho6 | (simp only [Int.reduceToNat] at ho6; rw [← Ny518.out] at ho6)); have n0_ := Aside0.mk (Kd.R_lower ho6 (below_size (hb_))); have n1_ := Aside0.mk (blk_below (g := gb516) (o := .cells #[.string a0_0, .string a0_1, .bool a0_2, .bool a0_3, .slice A0_4 l0_4.length c0_4] 28 (0, 0)) (by (with_reducible repeat (first | refine blk_drewN ?_ _ | refine blk_drew ?_ | refine blk_alloc ?_ _)); exact BK516.out) hb); have n2_ := Aside0.mk (blk_below (g := gb517) (o := .cells #[.string (⟨#[]⟩ : ByteArray), .string (⟨#[]⟩ : ByteArray), .bool false, .bool false, .slice none 0 0] 28 (0, 0)) (by (with_reducible repeat (first | refine blk_drewN ?_ _ | refine blk_drew ?_ | refine blk_alloc ?_ _)); exact BK517.out) hb); have n3_ := Aside0.mk (below_step (hb_) hb); clear BK516; clear BK517; clear HB; have HO520 := n0_; have BK516 := n1_; have BK517 := n2_; have HB := n3_; clear n0_ n1_ n2_ n3_; clear hb ho6; have hnb7 := NB516_517.out; have hnc7 := NB517_516.out; obtain ⟨hcz8_0, hcz8_1, hcz8_2, hcz8_3, hcz8_4, hfz8_0, hfz8_1, hfz8_2, hfz8_3, hfz8_4⟩ := BK516.c5) | ((with_reducible refine gate_builtin (b := .append) (xs := #[.tmp 3, .tmp 5]) rfl ?_); at_builtin; refine Kd.R_append_rows k48 (w0 := w) w.heap.size rfl (.tmp 3) (.tmp 5) 26 48 (.agg #[(.string ⟨#[]⟩), (.string ⟨#[]⟩)]) 32 rfl Tryz.underlying26 info48 rfl (by decide) (by omega) v519 y518 l0_4 _ _ _ (fun _ => True) (fun _ => False) rfl rfl ?aO ?aR (fun _ _ h => h) (fun _ h => h.elim) ?aF ?aB ?aS ?aL ?_; (case aR => repeat (first | exact (Kd.C_below HR0_4.out HB.out) | (with_reducible refine Kd.C_alloc ?_ _) | (with_reducible refine Kd.C_drewN ?_ _) | (with_reducible refine Kd.C_drew ?_))); (case aB => exact (hb_)); (case aF => exact (fun _ _ => trivial)); (case aO => exact (by (with_reducible repeat (first | apply Kd.R_alloc | apply Kd.R_drewN | apply Kd.R_drew)); exact HO520.out)); (case aS => exact (below_size (hb_))); (case aL => have := LMc2.out; omega); intro v522 w9 ho hb hg hat; rw [← Ny521.out] at ho; have n0_ := Aside0.mk (blk_grown (g := gb516) (o := .cells #[.string a0_0, .string a0_1, .bool a0_2, .bool a0_3, .slice A0_4 l0_4.length c0_4] 28 (0, 0)) (by (with_reducible repeat (first | refine blk_drewN ?_ _ | refine blk_drew ?_ | refine blk_alloc ?_ _)); exact BK516.out) hg (Kd.R_ne HO520.out BK516.out (by decide))); have n1_ := Aside0.mk (blk_grown (g := gb517) (o := .cells #[.string (⟨#[]⟩ : ByteArray), .string (⟨#[]⟩ : ByteArray), .bool false, .bool false, .slice none 0 0] 28 (0, 0)) (by (with_reducible repeat (first | refine blk_drewN ?_ _ | refine blk_drew ?_ | refine blk_alloc ?_ _)); exact BK517.out) hg (Kd.R_ne HO520.out BK517.out (by decide))); have n2_ := Aside0.mk (hb); have n3_ := Aside0.mk (ho); clear BK516; clear BK517; clear HB; clear HO520; have BK516 := n0_; have BK517 := n1_; have HB := n2_; have HO523 := n3_; clear n0_ n1_ n2_ n3_; clear ho hb hg hat; obtain ⟨Ao10, co10, eo10⟩ := Kd.R_slice HO523.out; subst eo10; obtain ⟨hcz11_0, hcz11_1, hcz11_2, hcz11_3, hcz11_4, hfz11_0, hfz11_1, hfz11_2, hfz11_3, hfz11_4⟩ := BK516.c5; obtain ⟨hcz12_0, hcz12_1, hcz12_2, hcz12_3, hcz12_4, hfz12_0, hfz12_1, hfz12_2, hfz12_3, hfz12_4⟩ := BK517.c5))
  refine bodyPost_ret (results_cell_row rfl _ _ gb517 28 #[.string a0_0, .string a0_1, .bool a0_2, .bool a0_3, .slice Ao10 y521.length co10] (0, 0) _ rfl (by (with_reducible repeat (first | refine blk_drewN ?_ _ | refine blk_drew ?_ | refine blk_alloc ?_ _)); refine blk_put (cs := #[.string a0_0, .string a0_1, .bool a0_2, .bool a0_3, .slice none 0 0]) ?_ 4 _ rfl; (with_reducible repeat (first | refine blk_drewN ?_ _ | refine blk_drew ?_ | refine blk_alloc ?_ _)); refine blk_put (cs := #[.string a0_0, .string a0_1, .bool a0_2, .bool false, .slice none 0 0]) ?_ 3 _ rfl; (with_reducible repeat (first | refine blk_drewN ?_ _ | refine blk_drew ?_ | refine blk_alloc ?_ _)); refine blk_put (cs := #[.string a0_0, .string a0_1, .bool false, .bool false, .slice none 0 0]) ?_ 2 _ rfl; (with_reducible repeat (first | refine blk_drewN ?_ _ | refine blk_drew ?_ | refine blk_alloc ?_ _)); refine blk_put (cs := #[.string a0_0, .string (⟨#[]⟩ : ByteArray), .bool false, .bool false, .slice none 0 0]) ?_ 1 _ rfl; (with_reducible repeat (first | refine blk_drewN ?_ _ | refine blk_drew ?_ | refine blk_alloc ?_ _)); refine blk_put (cs := #[.string (⟨#[]⟩ : ByteArray), .string (⟨#[]⟩ : ByteArray), .bool false, .bool false, .slice none 0 0]) ?_ 0 _ rfl; (with_reducible repeat (first | refine blk_drewN ?_ _ | refine blk_drew ?_ | refine blk_alloc ?_ _)); refine blk_far ?_ NB517_516.out _; (with_reducible repeat (first | refine blk_drewN ?_ _ | refine blk_drew ?_ | refine blk_alloc ?_ _)); exact BK517.out) Tryz.underlying28 rfl (by kernel_rfl)) rfl ?_
  exact ⟨_, by first | rfl | (simp [errW_none, errW_some] <;> rfl) | (simp [*, errW_none, errW_some] <;> rfl) | (simp [bne_nil_]; done), by (with_reducible repeat (first | apply Kd.R_alloc | apply Kd.R_drewN | apply Kd.R_drew)); exact Kd.R_mono (Kd.R_far (p := ⟨gb517, 4, none⟩) (Kd.R_far (p := ⟨gb517, 3, none⟩) (Kd.R_far (p := ⟨gb517, 2, none⟩) (Kd.R_far (p := ⟨gb517, 1, none⟩) (Kd.R_far (p := ⟨gb517, 0, none⟩) (Kd.R_far (p := ⟨gb516, 4, none⟩) (Kd.R_types (Kd.R_types HO523.out BK516.out (by decide)) BK517.out (by decide)) (fun _ hk => hk.1.2) (.slice Ao10 y521.length co10)) (fun _ hk => hk.2) (.string a0_0)) (fun _ hk => hk.2) (.string a0_1)) (fun _ hk => hk.2) (.bool a0_2)) (fun _ hk => hk.2) (.bool a0_3)) (fun _ hk => hk.2) (.slice Ao10 y521.length co10)) (fun _ hk => trivial), hb_⟩
 ·rw [if_neg c2] at H
  exact absurd H (by simp)
attribute [local go_sem] max2_int max_two
set_option linter.unusedVariables false
set_option linter.unusedSimpArgs false
def idiomref04_SpanIs.f (k : Nat) (a0_0 : ByteArray) (a0_1 : ByteArray) : Option (Bool) := (idiomref04_IsNumber.f k a0_0).bind fun t536 => (if t536 = true then ((idiomref04_IsNumber.f k a0_1).bind fun t537 => (if t537 = true then ((idiomref02_Compare.f k false a0_0 (⟨#[]⟩ : ByteArray) false a0_1 (⟨#[]⟩ : ByteArray)).bind fun bt538 => (some (decide (bt538.1 ≤ 0)))) else (some false))) else (some false))
set_option maxHeartbeats 8000000 in
set_option maxRecDepth 100000 in
theorem idiomref04_SpanIs.calls (k : Nat) (a0_0 : ByteArray) (a0_1 : ByteArray) (r : Bool) (w : World) (h : idiomref04_SpanIs.f k a0_0 a0_1 = some r) :
    Calls Tryz.prog 25 #[.agg #[.string a0_0, .string a0_1]] w fun e w' => e = .returned (.bool r) ∧ Below w.heap.size w w' := by
 have hu48 := Tryz.underlying48
 have hu23 := Tryz.underlying23
 have HB := Aside0.mk (Below.refl w.heap.size w)
 unfold idiomref04_SpanIs.f at h
 have H := h
 clear h
 replace H := Option.bind_eq_some_iff.mp H
 obtain ⟨t536, A20, H⟩ := H
 try dsimp only at H
 have A2 := Aside0.mk A20
 clear A20
 by_cases c3 : t536 = true
 ·subst c3
  have H1 : ((idiomref04_IsNumber.f k a0_1).bind fun t537 => (if t537 = true then ((idiomref02_Compare.f k false a0_0 (⟨#[]⟩ : ByteArray) false a0_1 (⟨#[]⟩ : ByteArray)).bind fun bt538 => (some (decide (bt538.1 ≤ 0)))) else (some false))) = some r := by rw [if_pos rfl] at H; exact H
  clear H
  have H := H1
  clear H1
  replace H := Option.bind_eq_some_iff.mp H
  obtain ⟨t537, A40, H⟩ := H
  try dsimp only at H
  have A4 := Aside0.mk A40
  clear A40
  have HF5 := Aside0.mk H
  clear H
  go_enter Tryz.func25, Tryz.ntmps25
  go_upto_if 14 with (first | ((with_reducible refine gate_dst (N := 1) rfl ?_); refine bx_ #[.string a0_0, .string a0_1] 48 ?_; intro gb535 hg w6 hbox hb; have BK535 := Aside0.mk (hbox); have GW535 := ge_ (w := w) hg; have GE535 := ge_ (w := w) hg; replace HB := Aside0.mk (below_step hb_ hb); clear hb hbox hg; obtain ⟨hcz7_0, hcz7_1, hfz7_0, hfz7_1⟩ := BK535.c2) | ((with_reducible refine gate_callee (f := 21) rfl ?_); refine gL_ (some 7) Tryz.func21 #[.string a0_0] ?_; (with_reducible refine (idiomref04_IsNumber.calls k a0_0 true _ A2.out).mono ?_); rintro e w' ⟨rfl, ⟨nd, rfl⟩⟩; refine ⟨_, rfl, ?_⟩) | (go_at_call 21; (with_reducible refine (idiomref04_IsNumber.calls k a0_1 t537 _ A4.out).mono ?_); rintro e w' ⟨rfl, ⟨nd, rfl⟩⟩))
  (try simp only [Act.put, List.setIfInBounds_toArray, List.set_cons_zero, List.set_cons_succ])
  have H := HF5.out
  clear HF5
  by_cases c8 : t537 = true
  ·subst c8
   have H1 : ((idiomref02_Compare.f k false a0_0 (⟨#[]⟩ : ByteArray) false a0_1 (⟨#[]⟩ : ByteArray)).bind fun bt538 => (some (decide (bt538.1 ≤ 0)))) = some r := by rw [if_pos rfl] at H; exact H
   clear H
   have H := H1
   clear H1
   replace H := Option.bind_eq_some_iff.mp H
   obtain ⟨⟨t538, t539⟩, A90, H⟩ := H
   try dsimp only at H
   have A9 := Aside0.mk A90
   clear A90
   obtain rfl := Option.some.inj H
   obtain ⟨hcz10_0, hcz10_1, hfz10_0, hfz10_1⟩ := BK535.c2
   go_wp2_with (first | ((with_reducible refine gate_callee (f := 27) rfl ?_); refine gL_ (some 22) Tryz.func27 #[.agg #[.bool false, .string a0_0, .string (⟨#[]⟩ : ByteArray)], .agg #[.bool false, .string a0_1, .string (⟨#[]⟩ : ByteArray)]] ?_; (with_reducible refine (idiomref02_Compare.calls k false a0_0 (⟨#[]⟩ : ByteArray) false a0_1 (⟨#[]⟩ : ByteArray) t538 t539 _ A9.out).mono ?_); rintro e w11 ⟨rfl, hb⟩; refine ⟨_, rfl, ?_⟩; replace BK535 := Aside0.mk (blk_below (g := gb535) (o := .cells #[.string a0_0, .string a0_1] 48 (0, 0)) (by (with_reducible repeat (first | refine blk_drewN ?_ _ | refine blk_drew ?_ | refine blk_alloc ?_ _)); exact BK535.out) hb); replace HB := Aside0.mk (below_step hb_ hb)))
   go_ret
   exact fin_
  ·replace c8 := Bool.eq_false_iff.mpr c8
   subst c8
   have H1 : (some false) = some r := by rw [if_neg (show ¬ (false = true) by decide)] at H; exact H
   clear H
   have H := H1
   clear H1
   obtain rfl := Option.some.inj H
   go_wp2
   go_ret
   exact fin_
 ·replace c3 := Bool.eq_false_iff.mpr c3
  subst c3
  have H1 : (some false) = some r := by rw [if_neg (show ¬ (false = true) by decide)] at H; exact H
  clear H
  have H := H1
  clear H1
  obtain rfl := Option.some.inj H
  go_enter Tryz.func25, Tryz.ntmps25
  go_wp2_with (first | ((with_reducible refine gate_dst (N := 1) rfl ?_); refine bx_ #[.string a0_0, .string a0_1] 48 ?_; intro gb535 hg w12 hbox hb; have BK535 := Aside0.mk (hbox); have GW535 := ge_ (w := w) hg; have GE535 := ge_ (w := w) hg; replace HB := Aside0.mk (below_step hb_ hb); clear hb hbox hg; obtain ⟨hcz13_0, hcz13_1, hfz13_0, hfz13_1⟩ := BK535.c2) | ((with_reducible refine gate_callee (f := 21) rfl ?_); refine gL_ (some 7) Tryz.func21 #[.string a0_0] ?_; (with_reducible refine (idiomref04_IsNumber.calls k a0_0 false _ A2.out).mono ?_); rintro e w' ⟨rfl, ⟨nd, rfl⟩⟩; refine ⟨_, rfl, ?_⟩))
  go_ret
  exact fin_
attribute [local go_sem] max2_int max_two
set_option linter.unusedVariables false
set_option linter.unusedSimpArgs false
mutual
def idiomref04_In.j0 : Nat → Bool → ByteArray → ByteArray → Bool → Bool → List (S48) → Bool → ByteArray → ByteArray → Option (Bool × Int)
  | 0, _, _, _, _, _, _, _, _, _ => none
  | k + 1, x38, x542000, x542001, x542002, x542003, x542004, x547000, x547001, x547002 => if x38 = true then (some (false, 40)) else (idiomref04_In.l0 k 0 x542000 x542001 x542002 x542003 x542004 x547000 x547001 x547002)
def idiomref04_In.l0 : Nat → Int → ByteArray → ByteArray → Bool → Bool → List (S48) → Bool → ByteArray → ByteArray → Option (Bool × Int)
  | 0, _, _, _, _, _, _, _, _, _ => none
  | k + 1, x8, x542000, x542001, x542002, x542003, x542004, x547000, x547001, x547002 => if x8 < (x542004.length : Int) then (if 0 ≤ x8 then ((idiomref04_SpanIs.f k ((rd_T48 x542004 x8).f0) ((rd_T48 x542004 x8).f1)).bind fun t548 => (if t548 = true then (idiomref04_In.l0 k (wrap64 (x8 + 1)) x542000 x542001 x542002 x542003 x542004 x547000 x547001 x547002) else (some (false, 40)))) else (none)) else ((idiomref02_Trim.f k x547000 x547001 x547002).bind fun bt549 => (idiomref04_In.l1 k false 0 x542000 x542001 x542002 x542003 x542004 x547000 x547001 x547002 bt549.1 bt549.2.1 bt549.2.2.1))
def idiomref04_In.l1 : Nat → Bool → Int → ByteArray → ByteArray → Bool → Bool → List (S48) → Bool → ByteArray → ByteArray → Bool → ByteArray → ByteArray → Option (Bool × Int)
  | 0, _, _, _, _, _, _, _, _, _, _, _, _, _ => none
  | k + 1, x11, x12, x542000, x542001, x542002, x542003, x542004, x547000, x547001, x547002, x554000, x554001, x554002 => if x12 < (x542004.length : Int) then (if 0 ≤ x12 then ((idiomref02_Compare.f k false ((rd_T48 x542004 x12).f0) (⟨#[]⟩ : ByteArray) x547000 x547001 x547002).bind fun bt555 => ((idiomref02_Compare.f k x547000 x547001 x547002 false ((rd_T48 x542004 x12).f1) (⟨#[]⟩ : ByteArray)).bind fun bt558 => (if x11 = true then (idiomref04_In.l1 k true (wrap64 (x12 + 1)) x542000 x542001 x542002 x542003 x542004 x547000 x547001 x547002 x554000 x554001 x554002) else (if bt555.1 ≤ 0 then (if bt558.1 ≤ 0 then (if x542003 = true then (idiomref04_In.l1 k true (wrap64 (x12 + 1)) x542000 x542001 x542002 x542003 x542004 x547000 x547001 x547002 x554000 x554001 x554002) else (idiomref04_In.l1 k (x554002.toList == ([] : List UInt8)) (wrap64 (x12 + 1)) x542000 x542001 x542002 x542003 x542004 x547000 x547001 x547002 x554000 x554001 x554002)) else (idiomref04_In.l1 k false (wrap64 (x12 + 1)) x542000 x542001 x542002 x542003 x542004 x547000 x547001 x547002 x554000 x554001 x554002)) else (idiomref04_In.l1 k false (wrap64 (x12 + 1)) x542000 x542001 x542002 x542003 x542004 x547000 x547001 x547002 x554000 x554001 x554002))))) else (none)) else (some ((x11 != x542002), 0))
end
def idiomref04_In.f (k : Nat) (a0_0 : Bool) (a0_1 : ByteArray) (a0_2 : ByteArray) (a0_3 : ByteArray) (a0_4 : Int) (a0_5 : Int) (a0_6 : ByteArray) (a0_7 : ByteArray) (a0_8 : Int) (a1_0 : ByteArray) (a1_1 : ByteArray) (a1_2 : Bool) (a1_3 : Bool) (l1_4 : List (S48)) : Option (Bool × Int) := (idiomref04_Mod.f k a0_0 a0_1 a0_2 a0_3 a0_4 a0_5 a0_6 a0_7 a0_8 a1_0 a1_1).bind fun bt542 => (if bt542.2.2.2 = 0 then (if (l1_4.length : Int) < 1 then (idiomref04_In.j0 k true a1_0 a1_1 a1_2 a1_3 l1_4 bt542.1 bt542.2.1 bt542.2.2.1) else (idiomref04_In.j0 k (decide ((l1_4.length : Int) > 64)) a1_0 a1_1 a1_2 a1_3 l1_4 bt542.1 bt542.2.1 bt542.2.2.1)) else (some (false, bt542.2.2.2)))
def idiomref04_In.T16 : Bool × List (List Nat × List Nat) := (true, [([], []), ([0], [0]), ([], []), ([1, 2], [1, 2]), ([3], [3]), ([4], [4]), ([5], [5]), ([], []), ([6, 7], [6, 7]), ([8], [8]), ([9], [9]), ([9], [9]), ([10, 8, 0, 1, 2, 3, 4, 5, 6, 7, 8, 9, 10], [10]), ([11, 12, 0, 1, 2, 3, 4, 5, 6, 7, 8, 9, 10, 11, 12], [11])])
def idiomref04_In.B16 : List Nat := [0, 1, 0, 7, 15, 31, 63, 0, 255, 511, 1023, 1023, 2047, 8191]
theorem idiomref04_In.tab16 : rtab .any (opsOf Tryz.f12 16) = idiomref04_In.T16 := by kernel_rfl
theorem idiomref04_In.bits16 : waitsOk idiomref04_In.T16.2 idiomref04_In.B16 = true := by kernel_rfl
def idiomref04_In.T17 : Bool × List (List Nat × List Nat) := (true, [([], []), ([], []), ([1], [1]), ([], []), ([2, 3], [2, 3]), ([4], [4]), ([5], [5]), ([6], [6]), ([0, 7], [0, 7]), ([8], [8]), ([9], [9]), ([9], [9]), ([10, 8, 0, 1, 2, 3, 4, 5, 6, 7, 8, 9, 10], [10]), ([11, 12, 0, 1, 2, 3, 4, 5, 6, 7, 8, 9, 10, 11, 12], [11])])
def idiomref04_In.B17 : List Nat := [0, 0, 2, 0, 14, 30, 62, 126, 255, 511, 1023, 1023, 2047, 8191]
theorem idiomref04_In.tab17 : rtab .any (opsOf Tryz.f12 17) = idiomref04_In.T17 := by kernel_rfl
theorem idiomref04_In.bits17 : waitsOk idiomref04_In.T17.2 idiomref04_In.B17 = true := by kernel_rfl
set_option maxHeartbeats 8000000 in
set_option maxRecDepth 100000 in
theorem idiomref04_In.calls (k : Nat) (a0_0 : Bool) (a0_1 : ByteArray) (a0_2 : ByteArray) (a0_3 : ByteArray) (a0_4 : Int) (a0_5 : Int) (a0_6 : ByteArray) (a0_7 : ByteArray) (a0_8 : Int) (a1_0 : ByteArray) (a1_1 : ByteArray) (a1_2 : Bool) (a1_3 : Bool) (A1_4 : Option Addr) (c1_4 : Nat) (l1_4 : List (S48)) (r1 : Bool) (r2 : Int) (w : World) (ht : TB w) (hr1_4 : Kd.C k48 w A1_4 l1_4.length l1_4) (hc1_4 : l1_4.length ≤ c1_4) (h : idiomref04_In.f k a0_0 a0_1 a0_2 a0_3 a0_4 a0_5 a0_6 a0_7 a0_8 a1_0 a1_1 a1_2 a1_3 l1_4 = some (r1, r2)) :
    Calls Tryz.prog 12 #[.agg #[.bool a0_0, .string a0_1, .string a0_2, .string a0_3, .int .i64 a0_4, .int .i64 a0_5, .string a0_6, .string a0_7, .int .i64 a0_8], .agg #[.string a1_0, .string a1_1, .bool a1_2, .bool a1_3, .slice A1_4 l1_4.length c1_4]] w fun e w' => e = .returned (.tuple #[.bool r1, .int .i64 r2]) ∧ Below w.heap.size w w' := by
 have hu25 := Tryz.underlying25
 have hu28 := Tryz.underlying28
 have hu23 := Tryz.underlying23
 have hu48 := Tryz.underlying48
 have HR1_4 := Aside0.mk hr1_4
 have HC1_4 := Aside0.mk hc1_4
 clear hr1_4 hc1_4
 have HTB := Aside0.mk ht
 clear ht
 have HB := Aside0.mk (Below.refl w.heap.size w)
 unfold idiomref04_In.f at h
 have H := h
 clear h
 replace H := Option.bind_eq_some_iff.mp H
 obtain ⟨⟨t542, t543, t544, t545⟩, A30, H⟩ := H
 try dsimp only at H
 have A3 := Aside0.mk A30
 clear A30
 have HF4 := Aside0.mk H
 clear H
 go_enter Tryz.func12, Tryz.ntmps12
 go_upto_if 27 with (first | ((with_reducible refine gate_dst (N := 2) rfl ?_); (try (refine gate_guard (by rfl) ?_; dsimp only)); refine box_event ?hg (N := 2) ?hd (cs := #[.bool a0_0, .string a0_1, .string a0_2, .string a0_3, .int .i64 a0_4, .int .i64 a0_5, .string a0_6, .string a0_7, .int .i64 a0_8]) (t := 25) ?hr ?_; (case hd => rfl); (case hg => rfl); (case hr => first | (go_simp; done) | (go_simp; rfl)); intro gb540 hg w5 hbox hb; have BK540 := Aside0.mk (hbox); have GW540 := ge_ (w := w) hg; have GE540 := ge_ (w := w) hg; replace HB := Aside0.mk (below_step hb_ hb); clear hb hbox hg) | ((with_reducible refine gate_dst (N := 3) rfl ?_); (try (refine gate_guard (by rfl) ?_; dsimp only)); refine box_event ?hg (N := 3) ?hd (cs := #[.string a1_0, .string a1_1, .bool a1_2, .bool a1_3, .slice A1_4 l1_4.length c1_4]) (t := 28) ?hr ?_; (case hd => rfl); (case hg => rfl); (case hr => first | (go_simp; done) | (go_simp; rfl)); intro gb541 hg w6 hbox hb; have BK541 := Aside0.mk (hbox); have GW541 := ge_ (w := w) hg; have GE541 := ge_ (w := w) hg; have NB540_541 := BK540.nl hg; have NB541_540 := BK540.ng hg; replace BK540 := BK540.bl hb; replace HB := Aside0.mk (below_step hb_ hb); clear hb hbox hg; have hnb7 := NB540_541.out; have hnc7 := NB541_540.out; obtain ⟨hcz8_0, hcz8_1, hcz8_2, hcz8_3, hcz8_4, hcz8_5, hcz8_6, hcz8_7, hcz8_8, hfz8_0, hfz8_1, hfz8_2, hfz8_3, hfz8_4, hfz8_5, hfz8_6, hfz8_7, hfz8_8⟩ := BK540.c9; obtain ⟨hcz9_0, hcz9_1, hcz9_2, hcz9_3, hcz9_4, hfz9_0, hfz9_1, hfz9_2, hfz9_3, hfz9_4⟩ := BK541.c5) | ((with_reducible refine gate_callee (f := 9) rfl ?_); refine gL_ (some 23) Tryz.func9 #[.agg #[.bool a0_0, .string a0_1, .string a0_2, .string a0_3, .int .i64 a0_4, .int .i64 a0_5, .string a0_6, .string a0_7, .int .i64 a0_8], .string a1_0, .string a1_1] ?_; (with_reducible refine (idiomref04_Mod.calls k a0_0 a0_1 a0_2 a0_3 a0_4 a0_5 a0_6 a0_7 a0_8 a1_0 a1_1 t542 t543 t544 t545 _ (TB.below HTB.out hb_) A3.out).mono ?_); rintro e w10 ⟨rfl, hb⟩; refine ⟨_, rfl, ?_⟩; replace BK540 := BK540.bl hb; replace BK541 := BK541.bl hb; replace HB := Aside0.mk (below_step hb_ hb)) | ((with_reducible refine gate_dst (N := 6) rfl ?_); (try (refine gate_guard (by rfl) ?_; dsimp only)); refine box_event ?hg (N := 6) ?hd (cs := #[.bool false, .string (⟨#[]⟩ : ByteArray), .string (⟨#[]⟩ : ByteArray)]) (t := 23) ?hr ?_; (case hd => rfl); (case hg => rfl); (case hr => first | (go_simp; done) | (go_simp; rfl)); intro gb546 hg w11 hbox hb; have BK546 := Aside0.mk (hbox); have GW546 := ge_ (w := w) hg; have GE546 := ge_ (w := w) hg; have NB540_546 := BK540.nl hg; have NB546_540 := BK540.ng hg; have NB541_546 := BK541.nl hg; have NB546_541 := BK541.ng hg; replace BK540 := BK540.bl hb; replace BK541 := BK541.bl hb; replace HB := Aside0.mk (below_step hb_ hb); clear hb hbox hg; have hnb12 := NB546_540.out; have hnc12 := NB540_546.out; have hnb13 := NB546_541.out; have hnc13 := NB541_546.out; obtain ⟨hcz14_0, hcz14_1, hcz14_2, hfz14_0, hfz14_1, hfz14_2⟩ := BK546.c3))
 (try simp only [Act.put, List.setIfInBounds_toArray, List.set_cons_zero, List.set_cons_succ])
 have H := HF4.out
 clear HF4
 by_cases c15 : t545 = 0
 ·rw [if_pos c15] at H
  have c15b0 : (t545 == 0) = true := beq_iff_eq.mpr c15
  have c15b1 : (t545 != 0) = false := bne_eq_false_iff_eq.mpr c15
  clear c15
  (first | rw [c15b0] | (simp only [i64_w, i32_w]; rw [c15b0]) | rw [c15b1] | skip)
  have HC16 := Aside0.mk H
  clear H
  go_upto_region 4 with (fail)
  go_cut [38] (fun v38 wc => ∃ (kq : Nat) (x38_15 : Bool), v38 = .bool x38_15 ∧ Aside0 (idiomref04_In.j0 kq x38_15 a1_0 a1_1 a1_2 a1_3 l1_4 t542 t543 t544 = some (r1, r2)) ∧ Aside0 (kq ≤ k) ∧ Aside0 (wc.heap[gb540]? = some (.cells #[.bool a0_0, .string a0_1, .string a0_2, .string a0_3, .int .i64 a0_4, .int .i64 a0_5, .string a0_6, .string a0_7, .int .i64 a0_8] 25 (0, 0))) ∧ Aside0 (wc.heap[gb541]? = some (.cells #[.string a1_0, .string a1_1, .bool a1_2, .bool a1_3, (.slice A1_4 l1_4.length c1_4)] 28 (0, 0))) ∧ Aside0 (wc.heap[gb546]? = some (.cells #[.bool t542, .string t543, .string t544] 23 (0, 0))) ∧ Aside0 (Below w.heap.size w wc))
  case first =>
   have H := HC16.out
   clear HC16
   by_cases c17 : (l1_4.length : Int) < 1
   ·rw [if_pos c17] at H
    have c17b0 : decide ((l1_4.length : Int) < 1) = true := decide_eq_true c17
    have c17b1 : decide (l1_4.length < 1) = true := decide_eq_true (by omega)
    clear c17
    (first | rw [c17b0] | (simp only [i64_w, i32_w]; rw [c17b0]) | rw [c17b1] | skip)
    have H' := Aside0.mk H
    clear H
    have hnb18 := NB541_540.out
    have hnc18 := NB540_541.out
    have hnb19 := NB541_546.out
    have hnc19 := NB546_541.out
    obtain ⟨hcz20_0, hcz20_1, hcz20_2, hcz20_3, hcz20_4, hfz20_0, hfz20_1, hfz20_2, hfz20_3, hfz20_4⟩ := BK541.c5
    go_wp2
    go_meet
    case rel => exact ⟨_, (true), (by first | rfl | (simp; done) | (simp [*]; done)), H', ⟨by first | omega | exact Nat.le_refl _⟩, ⟨by refine far3_ ?_ NB540_546.out; exact BK540.out⟩, ⟨by refine far3_ ?_ NB541_546.out; exact BK541.out⟩, ⟨by refine put3_ (cs := #[.bool false, .string (⟨#[]⟩ : ByteArray), .string (⟨#[]⟩ : ByteArray)]) ?_; exact BK546.out⟩, ⟨hb_⟩⟩
   ·rw [if_neg c17] at H
    have c17b0 : decide ((l1_4.length : Int) < 1) = false := decide_eq_false c17
    have c17b1 : decide (l1_4.length < 1) = false := decide_eq_false (by omega)
    clear c17
    (first | rw [c17b0] | (simp only [i64_w, i32_w]; rw [c17b0]) | rw [c17b1] | skip)
    have H' := Aside0.mk H
    clear H
    have hnb21 := NB541_540.out
    have hnc21 := NB540_541.out
    have hnb22 := NB541_546.out
    have hnc22 := NB546_541.out
    obtain ⟨hcz23_0, hcz23_1, hcz23_2, hcz23_3, hcz23_4, hfz23_0, hfz23_1, hfz23_2, hfz23_3, hfz23_4⟩ := BK541.c5
    go_wp2
    go_meet
    case rel => exact ⟨_, (decide ((l1_4.length : Int) > 64)), (by first | rfl | (simp; done) | (simp [*]; done)), H', ⟨by first | omega | exact Nat.le_refl _⟩, ⟨by refine far3_ ?_ NB540_546.out; exact BK540.out⟩, ⟨by refine far3_ ?_ NB541_546.out; exact BK541.out⟩, ⟨by refine put3_ (cs := #[.bool false, .string (⟨#[]⟩ : ByteArray), .string (⟨#[]⟩ : ByteArray)]) ?_; exact BK546.out⟩, ⟨hb_⟩⟩
  case rest =>
   clear HC16
   (try clear c15); (try clear c15b0); (try clear c15b1); (try clear hcz14_0); (try clear hcz14_1); (try clear hcz14_2); (try clear hcz8_0); (try clear hcz8_1); (try clear hcz8_2); (try clear hcz8_3); (try clear hcz8_4); (try clear hcz8_5); (try clear hcz8_6); (try clear hcz8_7); (try clear hcz8_8); (try clear hcz9_0); (try clear hcz9_1); (try clear hcz9_2); (try clear hcz9_3); (try clear hcz9_4); (try clear hfz14_0); (try clear hfz14_1); (try clear hfz14_2); (try clear hfz8_0); (try clear hfz8_1); (try clear hfz8_2); (try clear hfz8_3); (try clear hfz8_4); (try clear hfz8_5); (try clear hfz8_6); (try clear hfz8_7); (try clear hfz8_8); (try clear hfz9_0); (try clear hfz9_1); (try clear hfz9_2); (try clear hfz9_3); (try clear hfz9_4)
   obtain ⟨kq, x38_15, rfl, HA, HJ15, BK540, BK541, BK546, HB⟩ := hcut
   cases kq with
   | zero => exact absurd HA.out (by simp [idiomref04_In.j0])
   | succ kj15 =>
    have H := HA.out
    clear HA
    simp only [idiomref04_In.j0] at H
    by_cases c24 : x38_15 = true
    ·subst c24
     have H1 : (some (false, 40)) = some (r1, r2) := by rw [if_pos rfl] at H; exact H
     clear H
     have H := H1
     clear H1
     simp only [Option.some.injEq, Prod.mk.injEq] at H
     obtain ⟨rfl, rfl⟩ := H
     go_wp2
     go_ret2
     exact fin_
    ·replace c24 := Bool.eq_false_iff.mpr c24
     subst c24
     have H1 : (idiomref04_In.l0 kj15 0 a1_0 a1_1 a1_2 a1_3 l1_4 t542 t543 t544) = some (r1, r2) := by rw [if_neg (show ¬ (false = true) by decide)] at H; exact H
     clear H
     have H := H1
     clear H1
     have H' := Aside0.mk H
     clear H
     go_wp2
     go_loopg [8] kj15 (fun kq v8 w' => ∃ (x8_2 : Int), v8 = .int .i64 x8_2 ∧ Aside0 (idiomref04_In.l0 kq x8_2 a1_0 a1_1 a1_2 a1_3 l1_4 t542 t543 t544 = some (r1, r2)) ∧ Aside0 (kq ≤ kj15) ∧ Aside0 (w'.heap[gb540]? = some (.cells #[.bool a0_0, .string a0_1, .string a0_2, .string a0_3, .int .i64 a0_4, .int .i64 a0_5, .string a0_6, .string a0_7, .int .i64 a0_8] 25 (0, 0))) ∧ Aside0 (w'.heap[gb541]? = some (.cells #[.string a1_0, .string a1_1, .bool a1_2, .bool a1_3, (.slice A1_4 l1_4.length c1_4)] 28 (0, 0))) ∧ Aside0 (w'.heap[gb546]? = some (.cells #[.bool t542, .string t543, .string t544] 23 (0, 0))) ∧ Aside0 (Below w.heap.size w w'))
     case atStart => exact ⟨(0), (by first | rfl | (simp; done) | (simp [*]; done)), H', ⟨Nat.le_refl _⟩, ⟨by exact BK540.out⟩, ⟨by exact BK541.out⟩, ⟨by exact BK546.out⟩, ⟨hb_⟩⟩
     case round =>
      clear H'
      (try clear c15); (try clear c15b0); (try clear c15b1); (try clear c24); (try clear hcz14_0); (try clear hcz14_1); (try clear hcz14_2); (try clear hcz8_0); (try clear hcz8_1); (try clear hcz8_2); (try clear hcz8_3); (try clear hcz8_4); (try clear hcz8_5); (try clear hcz8_6); (try clear hcz8_7); (try clear hcz8_8); (try clear hcz9_0); (try clear hcz9_1); (try clear hcz9_2); (try clear hcz9_3); (try clear hcz9_4); (try clear hfz14_0); (try clear hfz14_1); (try clear hfz14_2); (try clear hfz8_0); (try clear hfz8_1); (try clear hfz8_2); (try clear hfz8_3); (try clear hfz8_4); (try clear hfz8_5); (try clear hfz8_6); (try clear hfz8_7); (try clear hfz8_8); (try clear hfz9_0); (try clear hfz9_1); (try clear hfz9_2); (try clear hfz9_3); (try clear hfz9_4)
      obtain ⟨x8_2, rfl, HA, HK2, BK540, BK541, BK546, HB⟩ := hrel
      cases gk with
      | zero => exact absurd HA.out (by simp [idiomref04_In.l0])
      | succ k2 =>
       have H := HA.out
       clear HA
       simp only [idiomref04_In.l0] at H
       by_cases c25 : x8_2 < (l1_4.length : Int)
       ·rw [if_pos c25] at H
        have c25b0 : decide (x8_2 < (l1_4.length : Int)) = true := decide_eq_true c25
        clear c25
        by_cases c26 : 0 ≤ x8_2
        ·rw [if_pos c26] at H
         have c26b0 : decide (0 ≤ x8_2) = true := decide_eq_true c26
         clear c26
         replace H := Option.bind_eq_some_iff.mp H
         obtain ⟨t548, A270, H⟩ := H
         try dsimp only at H
         have A27 := Aside0.mk A270
         clear A270
         have HF28 := Aside0.mk H
         clear H
         have hnb29 := NB541_540.out
         have hnc29 := NB540_541.out
         have hnb30 := NB541_546.out
         have hnc30 := NB546_541.out
         obtain ⟨hcz31_0, hcz31_1, hcz31_2, hcz31_3, hcz31_4, hfz31_0, hfz31_1, hfz31_2, hfz31_3, hfz31_4⟩ := BK541.c5
         have p547 : 0 ≤ (x8_2 : Int) := of_decide_eq_true (by first | (with_reducible assumption) | assumption)
         have q547 : x8_2 < (l1_4.length : Int) := of_decide_eq_true (by first | (with_reducible assumption) | assumption)
         obtain ⟨ad547, e547, hx547_0, hx547_1⟩ := at_T48 HR1_4.out x8_2 p547 q547
         cases e547
         replace hx547_0 := (HB.out.cell (World.block_lt_of_cell? w _ hx547_0)).trans hx547_0
         replace hx547_1 := (HB.out.cell (World.block_lt_of_cell? w _ hx547_1)).trans hx547_1
         replace p547 := eq_true p547
         replace q547 := eq_true q547
         go_upto_if 52 with (first | ((with_reducible refine gate_callee (f := 25) rfl ?_); refine gL_ (some 51) Tryz.func25 #[.agg #[.string ((rd_T48 l1_4 x8_2).f0), .string ((rd_T48 l1_4 x8_2).f1)]] ?_; (with_reducible refine (idiomref04_SpanIs.calls k2 ((rd_T48 l1_4 x8_2).f0) ((rd_T48 l1_4 x8_2).f1) t548 _ A27.out).mono ?_); rintro e w32 ⟨rfl, hb⟩; refine ⟨_, rfl, ?_⟩; replace BK540 := BK540.bl hb; replace BK541 := BK541.bl hb; replace BK546 := BK546.bl hb; replace HB := Aside0.mk (below_step hb_ hb)))
         (try simp only [Act.put, List.setIfInBounds_toArray, List.set_cons_zero, List.set_cons_succ])
         have H := HF28.out
         clear HF28
         by_cases c33 : t548 = true
         ·subst c33
          have H1 : (idiomref04_In.l0 k2 (wrap64 (x8_2 + 1)) a1_0 a1_1 a1_2 a1_3 l1_4 t542 t543 t544) = some (r1, r2) := by rw [if_pos rfl] at H; exact H
          clear H
          have H := H1
          clear H1
          have H' := Aside0.mk H
          clear H
          go_wp2
          go_roundg k2
          case measure => have := HJ15.out; have := HK2.out; omega
          case rel => exact ⟨(wrap64 (x8_2 + 1)), (by first | rfl | (simp; done) | (simp [*]; done)), H', ⟨by have := HJ15.out; have := HK2.out; omega⟩, ⟨by exact BK540.out⟩, ⟨by exact BK541.out⟩, ⟨by exact BK546.out⟩, ⟨hb_⟩⟩
         ·replace c33 := Bool.eq_false_iff.mpr c33
          subst c33
          have H1 : (some (false, 40)) = some (r1, r2) := by rw [if_neg (show ¬ (false = true) by decide)] at H; exact H
          clear H
          have H := H1
          clear H1
          simp only [Option.some.injEq, Prod.mk.injEq] at H
          obtain ⟨rfl, rfl⟩ := H
          go_wp2
          go_ret2
          exact fin_
        ·rw [if_neg c26] at H
         exact absurd H (by simp)
       ·rw [if_neg c25] at H
        have c25b0 : decide (x8_2 < (l1_4.length : Int)) = false := decide_eq_false c25
        clear c25
        replace H := Option.bind_eq_some_iff.mp H
        obtain ⟨⟨t549, t550, t551, t552⟩, A340, H⟩ := H
        try dsimp only at H
        have A34 := Aside0.mk A340
        clear A340
        have H' := Aside0.mk H
        clear H
        have hnb35 := NB541_540.out
        have hnc35 := NB540_541.out
        have hnb36 := NB541_546.out
        have hnc36 := NB546_541.out
        obtain ⟨hcz37_0, hcz37_1, hcz37_2, hcz37_3, hcz37_4, hfz37_0, hfz37_1, hfz37_2, hfz37_3, hfz37_4⟩ := BK541.c5
        have hnb38 := NB546_540.out
        have hnc38 := NB540_546.out
        obtain ⟨hcz39_0, hcz39_1, hcz39_2, hfz39_0, hfz39_1, hfz39_2⟩ := BK546.c3
        go_wp2_with (first | ((with_reducible refine gate_callee (f := 26) rfl ?_); refine gL_ (some 55) Tryz.func26 #[.agg #[.bool t542, .string t543, .string t544]] ?_; (with_reducible refine (idiomref02_Trim.calls k2 t542 t543 t544 t549 t550 t551 t552 _ A34.out).mono ?_); rintro e w40 ⟨rfl, hb⟩; refine ⟨_, rfl, ?_⟩; replace BK540 := BK540.bl hb; replace BK541 := BK541.bl hb; replace BK546 := BK546.bl hb; replace HB := Aside0.mk (below_step hb_ hb)) | ((with_reducible refine gate_dst (N := 9) rfl ?_); (try (refine gate_guard (by rfl) ?_; dsimp only)); refine box_event ?hg (N := 9) ?hd (cs := #[.bool false, .string (⟨#[]⟩ : ByteArray), .string (⟨#[]⟩ : ByteArray)]) (t := 23) ?hr ?_; (case hd => rfl); (case hg => rfl); (case hr => first | (go_simp; done) | (go_simp; rfl)); intro gb553 hg w41 hbox hb; have BK553 := Aside0.mk (hbox); have GW553 := ge_ (w := w) hg; have GE553 := ge_ (w := w) hg; have NB540_553 := BK540.nl hg; have NB553_540 := BK540.ng hg; have NB541_553 := BK541.nl hg; have NB553_541 := BK541.ng hg; have NB546_553 := BK546.nl hg; have NB553_546 := BK546.ng hg; replace BK540 := BK540.bl hb; replace BK541 := BK541.bl hb; replace BK546 := BK546.bl hb; replace HB := Aside0.mk (below_step hb_ hb); clear hb hbox hg; have hnb42 := NB553_540.out; have hnc42 := NB540_553.out; have hnb43 := NB553_541.out; have hnc43 := NB541_553.out; have hnb44 := NB553_546.out; have hnc44 := NB546_553.out; obtain ⟨hcz45_0, hcz45_1, hcz45_2, hfz45_0, hfz45_1, hfz45_2⟩ := BK553.c3))
        go_loopg [11, 12] k2 (fun kq v11 v12 w' => ∃ (x11_3 : Bool) (x12_3 : Int), v11 = .bool x11_3 ∧ v12 = .int .i64 x12_3 ∧ Aside0 (idiomref04_In.l1 kq x11_3 x12_3 a1_0 a1_1 a1_2 a1_3 l1_4 t542 t543 t544 t549 t550 t551 = some (r1, r2)) ∧ Aside0 (kq ≤ k2) ∧ Aside0 (w'.heap[gb540]? = some (.cells #[.bool a0_0, .string a0_1, .string a0_2, .string a0_3, .int .i64 a0_4, .int .i64 a0_5, .string a0_6, .string a0_7, .int .i64 a0_8] 25 (0, 0))) ∧ Aside0 (w'.heap[gb541]? = some (.cells #[.string a1_0, .string a1_1, .bool a1_2, .bool a1_3, (.slice A1_4 l1_4.length c1_4)] 28 (0, 0))) ∧ Aside0 (w'.heap[gb546]? = some (.cells #[.bool t542, .string t543, .string t544] 23 (0, 0))) ∧ Aside0 (w'.heap[gb553]? = some (.cells #[.bool t549, .string t550, .string t551] 23 (0, 0))) ∧ Aside0 (Below w.heap.size w w'))
        case atStart => exact ⟨(false), (0), (by first | rfl | (simp; done) | (simp [*]; done)), (by first | rfl | (simp; done) | (simp [*]; done)), H', ⟨Nat.le_refl _⟩, ⟨by refine far3_ ?_ NB540_553.out; exact BK540.out⟩, ⟨by refine far3_ ?_ NB541_553.out; exact BK541.out⟩, ⟨by refine far3_ ?_ NB546_553.out; exact BK546.out⟩, ⟨by refine put3_ (cs := #[.bool false, .string (⟨#[]⟩ : ByteArray), .string (⟨#[]⟩ : ByteArray)]) ?_; exact BK553.out⟩, ⟨hb_⟩⟩
        case round =>
         clear H'
         (try clear c15); (try clear c15b0); (try clear c15b1); (try clear c24); (try clear c25); (try clear c25b0); (try clear hcz14_0); (try clear hcz14_1); (try clear hcz14_2); (try clear hcz37_0); (try clear hcz37_1); (try clear hcz37_2); (try clear hcz37_3); (try clear hcz37_4); (try clear hcz39_0); (try clear hcz39_1); (try clear hcz39_2); (try clear hcz45_0); (try clear hcz45_1); (try clear hcz45_2); (try clear hcz8_0); (try clear hcz8_1); (try clear hcz8_2); (try clear hcz8_3); (try clear hcz8_4); (try clear hcz8_5); (try clear hcz8_6); (try clear hcz8_7); (try clear hcz8_8); (try clear hcz9_0); (try clear hcz9_1); (try clear hcz9_2); (try clear hcz9_3); (try clear hcz9_4); (try clear hfz14_0); (try clear hfz14_1); (try clear hfz14_2); (try clear hfz37_0); (try clear hfz37_1); (try clear hfz37_2); (try clear hfz37_3); (try clear hfz37_4); (try clear hfz39_0); (try clear hfz39_1); (try clear hfz39_2); (try clear hfz45_0); (try clear hfz45_1); (try clear hfz45_2); (try clear hfz8_0); (try clear hfz8_1); (try clear hfz8_2); (try clear hfz8_3); (try clear hfz8_4); (try clear hfz8_5); (try clear hfz8_6); (try clear hfz8_7); (try clear hfz8_8); (try clear hfz9_0); (try clear hfz9_1); (try clear hfz9_2); (try clear hfz9_3); (try clear hfz9_4)
         obtain ⟨x11_3, x12_3, rfl, rfl, HA, HK3, BK540, BK541, BK546, BK553, HB⟩ := hrel
         cases gk with
         | zero => exact absurd HA.out (by simp [idiomref04_In.l1])
         | succ k3 =>
          have H := HA.out
          clear HA
          simp only [idiomref04_In.l1] at H
          by_cases c46 : x12_3 < (l1_4.length : Int)
          ·rw [if_pos c46] at H
           have c46b0 : decide (x12_3 < (l1_4.length : Int)) = true := decide_eq_true c46
           clear c46
           by_cases c47 : 0 ≤ x12_3
           ·rw [if_pos c47] at H
            have c47b0 : decide (0 ≤ x12_3) = true := decide_eq_true c47
            clear c47
            replace H := Option.bind_eq_some_iff.mp H
            obtain ⟨⟨t555, t556⟩, A480, H⟩ := H
            try dsimp only at H
            have A48 := Aside0.mk A480
            clear A480
            replace H := Option.bind_eq_some_iff.mp H
            obtain ⟨⟨t558, t559⟩, A490, H⟩ := H
            try dsimp only at H
            have A49 := Aside0.mk A490
            clear A490
            by_cases c50 : x11_3 = true
            ·subst c50
             have H1 : (idiomref04_In.l1 k3 true (wrap64 (x12_3 + 1)) a1_0 a1_1 a1_2 a1_3 l1_4 t542 t543 t544 t549 t550 t551) = some (r1, r2) := by rw [if_pos rfl] at H; exact H
             clear H
             have H := H1
             clear H1
             have H' := Aside0.mk H
             clear H
             have hnb51 := NB541_540.out
             have hnc51 := NB540_541.out
             have hnb52 := NB541_546.out
             have hnc52 := NB546_541.out
             have hnb53 := NB541_553.out
             have hnc53 := NB553_541.out
             obtain ⟨hcz54_0, hcz54_1, hcz54_2, hcz54_3, hcz54_4, hfz54_0, hfz54_1, hfz54_2, hfz54_3, hfz54_4⟩ := BK541.c5
             try go_wp2
             replace BK540 := Aside0.mk (blk_drew BK540.out)
             replace BK541 := Aside0.mk (blk_drew BK541.out)
             replace BK546 := Aside0.mk (blk_drew BK546.out)
             replace BK553 := Aside0.mk (blk_drew BK553.out)
             replace HB := Aside0.mk (below_drew1 HB.out)
             have p554 : 0 ≤ (x12_3 : Int) := of_decide_eq_true (by first | (with_reducible assumption) | assumption)
             have q554 : x12_3 < (l1_4.length : Int) := of_decide_eq_true (by first | (with_reducible assumption) | assumption)
             obtain ⟨ad554, e554, hx554_0, hx554_1⟩ := at_T48 HR1_4.out x12_3 p554 q554
             have hw554_1 := hx554_1
             have hw554_0 := hx554_0
             cases e554
             replace hx554_0 := (HB.out.cell (World.block_lt_of_cell? w _ hx554_0)).trans hx554_0
             replace hx554_1 := (HB.out.cell (World.block_lt_of_cell? w _ hx554_1)).trans hx554_1
             replace p554 := eq_true p554
             replace q554 := eq_true q554
             refine start_ (n := 14) (S := fun w' => w'.cell? ⟨gb541, 0, none⟩ = some (.string a1_0) ∧ w'.cell? ⟨gb541, 1, none⟩ = some (.string a1_1) ∧ w'.cell? ⟨gb541, 2, none⟩ = some (.bool a1_2) ∧ w'.cell? ⟨gb541, 3, none⟩ = some (.bool a1_3) ∧ w'.cell? ⟨gb541, 4, none⟩ = some (.slice (some ad554) l1_4.length c1_4) ∧ w'.cell? ⟨gb546, 0, none⟩ = some (.bool t542) ∧ w'.cell? ⟨gb546, 1, none⟩ = some (.string t543) ∧ w'.cell? ⟨gb546, 2, none⟩ = some (.string t544) ∧ w'.cell? (ad554.add ((x12_3).toNat * 2)) = some (.string ((rd_T48 l1_4 x12_3).f0)) ∧ w'.cell? ⟨(ad554.add ((x12_3).toNat * 2)).block, (ad554.add ((x12_3).toNat * 2)).off + 1, none⟩ = some (.string ((rd_T48 l1_4 x12_3).f1))) (ds := []) #[false, false, false, false, false, false, false, false, false, false, false, false, false, false] (by kernel_rfl) rfl rfl ⟨(blk_cell BK541.out 0).trans rfl, (blk_cell BK541.out 1).trans rfl, (blk_cell BK541.out 2).trans rfl, (blk_cell BK541.out 3).trans rfl, (blk_cell BK541.out 4).trans rfl, (blk_cell BK546.out 0).trans rfl, (blk_cell BK546.out 1).trans rfl, (blk_cell BK546.out 2).trans rfl, ((HB.out.cell (World.block_lt_of_cell? w _ hw554_0)).trans hw554_0), ((HB.out.cell (World.block_lt_of_cell? w _ hw554_1)).trans hw554_1)⟩ (fun hHeld => ?_); refine with_tabW idiomref04_In.tab16 idiomref04_In.bits16 (fun HT_ HW_ => ?_)
             generalize wr.drew = w55 at BK540 BK541 BK546 BK553 HB hx554_0 hx554_1 hHeld ⊢
             refine pr_ 0 (some 66) ?_
             refine pr_ 2 (some 68) ?_
             refine tk_ 1 (some 67) hHeld ?_
             refine pr_ 3 (some 69) ?_
             refine pr_ 4 (some 70) ?_
             refine tk_ 5 (some 71) hHeld ?_
             refine pr_ 6 (some 72) ?_
             refine tk_ 7 (some 73) hHeld ?_
             refine one_ (i := 8) (N := some 74) #[true, true, true, true, true, true, true, true, true, false, false, false, false, false] rfl rfl (one_of HT_.out (by kernel_rfl)) (by decide) (fun K hK => ?_)
             refine goes_ Tryz.func27 (by kernel_rfl) rfl #[.agg #[.bool false, .string ((rd_T48 l1_4 x12_3).f0), .string (⟨#[]⟩ : ByteArray)], .agg #[.bool t542, .string t543, .string t544]] (by rfl) rfl rfl ar_ ?_
             with_reducible refine (idiomref02_Compare.calls k3 false ((rd_T48 l1_4 x12_3).f0) (⟨#[]⟩ : ByteArray) t542 t543 t544 t555 t556 _ A48.out).mono ?_
             rintro e w56 ⟨rfl, hb⟩
             refine ⟨_, rfl, ?_⟩
             replace BK540 := BK540.bl hb
             replace BK541 := BK541.bl hb
             replace BK546 := BK546.bl hb
             replace BK553 := BK553.bl hb
             replace HB := Aside0.mk (below_step hb_ hb)
             (try clear hb)
             (try clear hb2)
             (try clear hk)
             (try clear hi)
             refine hK.out _ _ ⟨(blk_cell BK541.out 0).trans rfl, (blk_cell BK541.out 1).trans rfl, (blk_cell BK541.out 2).trans rfl, (blk_cell BK541.out 3).trans rfl, (blk_cell BK541.out 4).trans rfl, (blk_cell BK546.out 0).trans rfl, (blk_cell BK546.out 1).trans rfl, (blk_cell BK546.out 2).trans rfl, ((HB.out.cell (World.block_lt_of_cell? w _ hw554_0)).trans hw554_0), ((HB.out.cell (World.block_lt_of_cell? w _ hw554_1)).trans hw554_1)⟩ (fun hHeld => ?_)
             clear hK K
             refine norm_ (a' := ?_) ?_ ?_
             rotate_left
             ·show Act.put _ (some 74) _ = _
              simp only [Act.put, List.setIfInBounds_toArray, List.set_cons_zero, List.set_cons_succ, i64_w, i32_w]
              rfl
             refine pr_ 9 (some 65) ?_
             refine pr_ 10 (some 75) ?_
             refine pr_ 11 (some 76) ?_
             refine pr_ 12 (some 13) ?_
             refine pr_ 13 (some 14) ?_
             refine done_ (done_of HT_.out (by kernel_rfl)) ?_
             try go_wp2
             replace BK540 := Aside0.mk (blk_drew BK540.out)
             replace BK541 := Aside0.mk (blk_drew BK541.out)
             replace BK546 := Aside0.mk (blk_drew BK546.out)
             replace BK553 := Aside0.mk (blk_drew BK553.out)
             replace HB := Aside0.mk (below_drew1 HB.out)
             have p557 : 0 ≤ (x12_3 : Int) := of_decide_eq_true (by first | (with_reducible assumption) | assumption)
             have q557 : x12_3 < (l1_4.length : Int) := of_decide_eq_true (by first | (with_reducible assumption) | assumption)
             obtain ⟨ad557, e557, hx557_0, hx557_1⟩ := at_T48 HR1_4.out x12_3 p557 q557
             have hw557_1 := hx557_1
             have hw557_0 := hx557_0
             obtain rfl : ad554 = ad557 := (by injection e557)
             replace hx557_0 := (HB.out.cell (World.block_lt_of_cell? w _ hx557_0)).trans hx557_0
             replace hx557_1 := (HB.out.cell (World.block_lt_of_cell? w _ hx557_1)).trans hx557_1
             replace p557 := eq_true p557
             replace q557 := eq_true q557
             refine start_ (n := 14) (S := fun w' => w'.cell? ⟨gb546, 0, none⟩ = some (.bool t542) ∧ w'.cell? ⟨gb546, 1, none⟩ = some (.string t543) ∧ w'.cell? ⟨gb546, 2, none⟩ = some (.string t544) ∧ w'.cell? ⟨gb541, 0, none⟩ = some (.string a1_0) ∧ w'.cell? ⟨gb541, 1, none⟩ = some (.string a1_1) ∧ w'.cell? ⟨gb541, 2, none⟩ = some (.bool a1_2) ∧ w'.cell? ⟨gb541, 3, none⟩ = some (.bool a1_3) ∧ w'.cell? ⟨gb541, 4, none⟩ = some (.slice (some ad554) l1_4.length c1_4) ∧ w'.cell? (ad554.add ((x12_3).toNat * 2)) = some (.string ((rd_T48 l1_4 x12_3).f0)) ∧ w'.cell? ⟨(ad554.add ((x12_3).toNat * 2)).block, (ad554.add ((x12_3).toNat * 2)).off + 1, none⟩ = some (.string ((rd_T48 l1_4 x12_3).f1))) (ds := []) #[false, false, false, false, false, false, false, false, false, false, false, false, false, false] (by kernel_rfl) rfl rfl ⟨(blk_cell BK546.out 0).trans rfl, (blk_cell BK546.out 1).trans rfl, (blk_cell BK546.out 2).trans rfl, (blk_cell BK541.out 0).trans rfl, (blk_cell BK541.out 1).trans rfl, (blk_cell BK541.out 2).trans rfl, (blk_cell BK541.out 3).trans rfl, (blk_cell BK541.out 4).trans rfl, ((HB.out.cell (World.block_lt_of_cell? w _ hw557_0)).trans hw557_0), ((HB.out.cell (World.block_lt_of_cell? w _ hw557_1)).trans hw557_1)⟩ (fun hHeld => ?_); refine with_tabW idiomref04_In.tab17 idiomref04_In.bits17 (fun HT_ HW_ => ?_)
             generalize w56.drew = w57 at BK540 BK541 BK546 BK553 HB hx557_0 hx557_1 hHeld ⊢
             refine pr_ 1 (some 79) ?_
             refine pr_ 3 (some 81) ?_
             refine tk_ 0 (some 78) hHeld ?_
             refine tk_ 2 (some 80) hHeld ?_
             refine pr_ 4 (some 82) ?_
             refine pr_ 5 (some 83) ?_
             refine tk_ 6 (some 84) hHeld ?_
             refine pr_ 7 (some 85) ?_
             refine one_ (i := 8) (N := some 86) #[true, true, true, true, true, true, true, true, true, false, false, false, false, false] rfl rfl (one_of HT_.out (by kernel_rfl)) (by decide) (fun K hK => ?_)
             refine goes_ Tryz.func27 (by kernel_rfl) rfl #[.agg #[.bool t542, .string t543, .string t544], .agg #[.bool false, .string ((rd_T48 l1_4 x12_3).f1), .string (⟨#[]⟩ : ByteArray)]] (by rfl) rfl rfl ar_ ?_
             with_reducible refine (idiomref02_Compare.calls k3 t542 t543 t544 false ((rd_T48 l1_4 x12_3).f1) (⟨#[]⟩ : ByteArray) t558 t559 _ A49.out).mono ?_
             rintro e w58 ⟨rfl, hb⟩
             refine ⟨_, rfl, ?_⟩
             replace BK540 := BK540.bl hb
             replace BK541 := BK541.bl hb
             replace BK546 := BK546.bl hb
             replace BK553 := BK553.bl hb
             replace HB := Aside0.mk (below_step hb_ hb)
             (try clear hb)
             (try clear hb2)
             (try clear hk)
             (try clear hi)
             refine hK.out _ _ ⟨(blk_cell BK546.out 0).trans rfl, (blk_cell BK546.out 1).trans rfl, (blk_cell BK546.out 2).trans rfl, (blk_cell BK541.out 0).trans rfl, (blk_cell BK541.out 1).trans rfl, (blk_cell BK541.out 2).trans rfl, (blk_cell BK541.out 3).trans rfl, (blk_cell BK541.out 4).trans rfl, ((HB.out.cell (World.block_lt_of_cell? w _ hw557_0)).trans hw557_0), ((HB.out.cell (World.block_lt_of_cell? w _ hw557_1)).trans hw557_1)⟩ (fun hHeld => ?_)
             clear hK K
             refine norm_ (a' := ?_) ?_ ?_
             rotate_left
             ·show Act.put _ (some 86) _ = _
              simp only [Act.put, List.setIfInBounds_toArray, List.set_cons_zero, List.set_cons_succ, i64_w, i32_w]
              rfl
             refine pr_ 9 (some 77) ?_
             refine pr_ 10 (some 87) ?_
             refine pr_ 11 (some 88) ?_
             refine pr_ 12 (some 15) ?_
             refine pr_ 13 (some 16) ?_
             refine done_ (done_of HT_.out (by kernel_rfl)) ?_
             try go_wp2
             go_roundg k3
             case measure => have := HJ15.out; have := HK2.out; have := HK3.out; omega
             case rel => exact ⟨(true), (wrap64 (x12_3 + 1)), (by first | rfl | (simp; done) | (simp [*]; done)), (by first | rfl | (simp; done) | (simp [*]; done)), H', ⟨by have := HJ15.out; have := HK2.out; have := HK3.out; omega⟩, ⟨by exact BK540.out⟩, ⟨by exact BK541.out⟩, ⟨by exact BK546.out⟩, ⟨by exact BK553.out⟩, ⟨hb_⟩⟩
            ·replace c50 := Bool.eq_false_iff.mpr c50
             subst c50
             have H1 : (if t555 ≤ 0 then (if t558 ≤ 0 then (if a1_3 = true then (idiomref04_In.l1 k3 true (wrap64 (x12_3 + 1)) a1_0 a1_1 a1_2 a1_3 l1_4 t542 t543 t544 t549 t550 t551) else (idiomref04_In.l1 k3 (t551.toList == ([] : List UInt8)) (wrap64 (x12_3 + 1)) a1_0 a1_1 a1_2 a1_3 l1_4 t542 t543 t544 t549 t550 t551)) else (idiomref04_In.l1 k3 false (wrap64 (x12_3 + 1)) a1_0 a1_1 a1_2 a1_3 l1_4 t542 t543 t544 t549 t550 t551)) else (idiomref04_In.l1 k3 false (wrap64 (x12_3 + 1)) a1_0 a1_1 a1_2 a1_3 l1_4 t542 t543 t544 t549 t550 t551)) = some (r1, r2) := by rw [if_neg (show ¬ (false = true) by decide)] at H; exact H
             clear H
             have H := H1
             clear H1
             by_cases c59 : t555 ≤ 0
             ·rw [if_pos c59] at H
              have c59b0 : decide (t555 ≤ 0) = true := decide_eq_true c59
              clear c59
              by_cases c60 : t558 ≤ 0
              ·rw [if_pos c60] at H
               have c60b0 : decide (t558 ≤ 0) = true := decide_eq_true c60
               clear c60
               by_cases c61 : a1_3 = true
               ·subst c61
                have H1 : (idiomref04_In.l1 k3 true (wrap64 (x12_3 + 1)) a1_0 a1_1 a1_2 true l1_4 t542 t543 t544 t549 t550 t551) = some (r1, r2) := by rw [if_pos rfl] at H; exact H
                clear H
                have H := H1
                clear H1
                have H' := Aside0.mk H
                clear H
                have hnb62 := NB541_540.out
                have hnc62 := NB540_541.out
                have hnb63 := NB541_546.out
                have hnc63 := NB546_541.out
                have hnb64 := NB541_553.out
                have hnc64 := NB553_541.out
                obtain ⟨hcz65_0, hcz65_1, hcz65_2, hcz65_3, hcz65_4, hfz65_0, hfz65_1, hfz65_2, hfz65_3, hfz65_4⟩ := BK541.c5
                try go_wp2
                replace BK540 := Aside0.mk (blk_drew BK540.out)
                replace BK541 := Aside0.mk (blk_drew BK541.out)
                replace BK546 := Aside0.mk (blk_drew BK546.out)
                replace BK553 := Aside0.mk (blk_drew BK553.out)
                replace HB := Aside0.mk (below_drew1 HB.out)
                have p554 : 0 ≤ (x12_3 : Int) := of_decide_eq_true (by first | (with_reducible assumption) | assumption)
                have q554 : x12_3 < (l1_4.length : Int) := of_decide_eq_true (by first | (with_reducible assumption) | assumption)
                obtain ⟨ad554, e554, hx554_0, hx554_1⟩ := at_T48 HR1_4.out x12_3 p554 q554
                have hw554_1 := hx554_1
                have hw554_0 := hx554_0
                cases e554
                replace hx554_0 := (HB.out.cell (World.block_lt_of_cell? w _ hx554_0)).trans hx554_0
                replace hx554_1 := (HB.out.cell (World.block_lt_of_cell? w _ hx554_1)).trans hx554_1
                replace p554 := eq_true p554
                replace q554 := eq_true q554
                refine start_ (n := 14) (S := fun w' => w'.cell? ⟨gb541, 0, none⟩ = some (.string a1_0) ∧ w'.cell? ⟨gb541, 1, none⟩ = some (.string a1_1) ∧ w'.cell? ⟨gb541, 2, none⟩ = some (.bool a1_2) ∧ w'.cell? ⟨gb541, 3, none⟩ = some (.bool true) ∧ w'.cell? ⟨gb541, 4, none⟩ = some (.slice (some ad554) l1_4.length c1_4) ∧ w'.cell? ⟨gb546, 0, none⟩ = some (.bool t542) ∧ w'.cell? ⟨gb546, 1, none⟩ = some (.string t543) ∧ w'.cell? ⟨gb546, 2, none⟩ = some (.string t544) ∧ w'.cell? (ad554.add ((x12_3).toNat * 2)) = some (.string ((rd_T48 l1_4 x12_3).f0)) ∧ w'.cell? ⟨(ad554.add ((x12_3).toNat * 2)).block, (ad554.add ((x12_3).toNat * 2)).off + 1, none⟩ = some (.string ((rd_T48 l1_4 x12_3).f1))) (ds := []) #[false, false, false, false, false, false, false, false, false, false, false, false, false, false] (by kernel_rfl) rfl rfl ⟨(blk_cell BK541.out 0).trans rfl, (blk_cell BK541.out 1).trans rfl, (blk_cell BK541.out 2).trans rfl, (blk_cell BK541.out 3).trans rfl, (blk_cell BK541.out 4).trans rfl, (blk_cell BK546.out 0).trans rfl, (blk_cell BK546.out 1).trans rfl, (blk_cell BK546.out 2).trans rfl, ((HB.out.cell (World.block_lt_of_cell? w _ hw554_0)).trans hw554_0), ((HB.out.cell (World.block_lt_of_cell? w _ hw554_1)).trans hw554_1)⟩ (fun hHeld => ?_); refine with_tabW idiomref04_In.tab16 idiomref04_In.bits16 (fun HT_ HW_ => ?_)
                generalize wr.drew = w66 at BK540 BK541 BK546 BK553 HB hx554_0 hx554_1 hHeld ⊢
                refine pr_ 0 (some 66) ?_
                refine pr_ 2 (some 68) ?_
                refine tk_ 1 (some 67) hHeld ?_
                refine pr_ 3 (some 69) ?_
                refine pr_ 4 (some 70) ?_
                refine tk_ 5 (some 71) hHeld ?_
                refine pr_ 6 (some 72) ?_
                refine tk_ 7 (some 73) hHeld ?_
                refine one_ (i := 8) (N := some 74) #[true, true, true, true, true, true, true, true, true, false, false, false, false, false] rfl rfl (one_of HT_.out (by kernel_rfl)) (by decide) (fun K hK => ?_)
                refine goes_ Tryz.func27 (by kernel_rfl) rfl #[.agg #[.bool false, .string ((rd_T48 l1_4 x12_3).f0), .string (⟨#[]⟩ : ByteArray)], .agg #[.bool t542, .string t543, .string t544]] (by rfl) rfl rfl ar_ ?_
                with_reducible refine (idiomref02_Compare.calls k3 false ((rd_T48 l1_4 x12_3).f0) (⟨#[]⟩ : ByteArray) t542 t543 t544 t555 t556 _ A48.out).mono ?_
                rintro e w67 ⟨rfl, hb⟩
                refine ⟨_, rfl, ?_⟩
                replace BK540 := BK540.bl hb
                replace BK541 := BK541.bl hb
                replace BK546 := BK546.bl hb
                replace BK553 := BK553.bl hb
                replace HB := Aside0.mk (below_step hb_ hb)
                (try clear hb)
                (try clear hb2)
                (try clear hk)
                (try clear hi)
                refine hK.out _ _ ⟨(blk_cell BK541.out 0).trans rfl, (blk_cell BK541.out 1).trans rfl, (blk_cell BK541.out 2).trans rfl, (blk_cell BK541.out 3).trans rfl, (blk_cell BK541.out 4).trans rfl, (blk_cell BK546.out 0).trans rfl, (blk_cell BK546.out 1).trans rfl, (blk_cell BK546.out 2).trans rfl, ((HB.out.cell (World.block_lt_of_cell? w _ hw554_0)).trans hw554_0), ((HB.out.cell (World.block_lt_of_cell? w _ hw554_1)).trans hw554_1)⟩ (fun hHeld => ?_)
                clear hK K
                refine norm_ (a' := ?_) ?_ ?_
                rotate_left
                ·show Act.put _ (some 74) _ = _
                 simp only [Act.put, List.setIfInBounds_toArray, List.set_cons_zero, List.set_cons_succ, i64_w, i32_w]
                 rfl
                refine pr_ 9 (some 65) ?_
                refine pr_ 10 (some 75) ?_
                refine pr_ 11 (some 76) ?_
                refine pr_ 12 (some 13) ?_
                refine pr_ 13 (some 14) ?_
                refine done_ (done_of HT_.out (by kernel_rfl)) ?_
                try go_wp2
                replace BK540 := Aside0.mk (blk_drew BK540.out)
                replace BK541 := Aside0.mk (blk_drew BK541.out)
                replace BK546 := Aside0.mk (blk_drew BK546.out)
                replace BK553 := Aside0.mk (blk_drew BK553.out)
                replace HB := Aside0.mk (below_drew1 HB.out)
                have p557 : 0 ≤ (x12_3 : Int) := of_decide_eq_true (by first | (with_reducible assumption) | assumption)
                have q557 : x12_3 < (l1_4.length : Int) := of_decide_eq_true (by first | (with_reducible assumption) | assumption)
                obtain ⟨ad557, e557, hx557_0, hx557_1⟩ := at_T48 HR1_4.out x12_3 p557 q557
                have hw557_1 := hx557_1
                have hw557_0 := hx557_0
                obtain rfl : ad554 = ad557 := (by injection e557)
                replace hx557_0 := (HB.out.cell (World.block_lt_of_cell? w _ hx557_0)).trans hx557_0
                replace hx557_1 := (HB.out.cell (World.block_lt_of_cell? w _ hx557_1)).trans hx557_1
                replace p557 := eq_true p557
                replace q557 := eq_true q557
                refine start_ (n := 14) (S := fun w' => w'.cell? ⟨gb546, 0, none⟩ = some (.bool t542) ∧ w'.cell? ⟨gb546, 1, none⟩ = some (.string t543) ∧ w'.cell? ⟨gb546, 2, none⟩ = some (.string t544) ∧ w'.cell? ⟨gb541, 0, none⟩ = some (.string a1_0) ∧ w'.cell? ⟨gb541, 1, none⟩ = some (.string a1_1) ∧ w'.cell? ⟨gb541, 2, none⟩ = some (.bool a1_2) ∧ w'.cell? ⟨gb541, 3, none⟩ = some (.bool true) ∧ w'.cell? ⟨gb541, 4, none⟩ = some (.slice (some ad554) l1_4.length c1_4) ∧ w'.cell? (ad554.add ((x12_3).toNat * 2)) = some (.string ((rd_T48 l1_4 x12_3).f0)) ∧ w'.cell? ⟨(ad554.add ((x12_3).toNat * 2)).block, (ad554.add ((x12_3).toNat * 2)).off + 1, none⟩ = some (.string ((rd_T48 l1_4 x12_3).f1))) (ds := []) #[false, false, false, false, false, false, false, false, false, false, false, false, false, false] (by kernel_rfl) rfl rfl ⟨(blk_cell BK546.out 0).trans rfl, (blk_cell BK546.out 1).trans rfl, (blk_cell BK546.out 2).trans rfl, (blk_cell BK541.out 0).trans rfl, (blk_cell BK541.out 1).trans rfl, (blk_cell BK541.out 2).trans rfl, (blk_cell BK541.out 3).trans rfl, (blk_cell BK541.out 4).trans rfl, ((HB.out.cell (World.block_lt_of_cell? w _ hw557_0)).trans hw557_0), ((HB.out.cell (World.block_lt_of_cell? w _ hw557_1)).trans hw557_1)⟩ (fun hHeld => ?_); refine with_tabW idiomref04_In.tab17 idiomref04_In.bits17 (fun HT_ HW_ => ?_)
                generalize w67.drew = w68 at BK540 BK541 BK546 BK553 HB hx557_0 hx557_1 hHeld ⊢
                refine pr_ 1 (some 79) ?_
                refine pr_ 3 (some 81) ?_
                refine tk_ 0 (some 78) hHeld ?_
                refine tk_ 2 (some 80) hHeld ?_
                refine pr_ 4 (some 82) ?_
                refine pr_ 5 (some 83) ?_
                refine tk_ 6 (some 84) hHeld ?_
                refine pr_ 7 (some 85) ?_
                refine one_ (i := 8) (N := some 86) #[true, true, true, true, true, true, true, true, true, false, false, false, false, false] rfl rfl (one_of HT_.out (by kernel_rfl)) (by decide) (fun K hK => ?_)
                refine goes_ Tryz.func27 (by kernel_rfl) rfl #[.agg #[.bool t542, .string t543, .string t544], .agg #[.bool false, .string ((rd_T48 l1_4 x12_3).f1), .string (⟨#[]⟩ : ByteArray)]] (by rfl) rfl rfl ar_ ?_
                with_reducible refine (idiomref02_Compare.calls k3 t542 t543 t544 false ((rd_T48 l1_4 x12_3).f1) (⟨#[]⟩ : ByteArray) t558 t559 _ A49.out).mono ?_
                rintro e w69 ⟨rfl, hb⟩
                refine ⟨_, rfl, ?_⟩
                replace BK540 := BK540.bl hb
                replace BK541 := BK541.bl hb
                replace BK546 := BK546.bl hb
                replace BK553 := BK553.bl hb
                replace HB := Aside0.mk (below_step hb_ hb)
                (try clear hb)
                (try clear hb2)
                (try clear hk)
                (try clear hi)
                refine hK.out _ _ ⟨(blk_cell BK546.out 0).trans rfl, (blk_cell BK546.out 1).trans rfl, (blk_cell BK546.out 2).trans rfl, (blk_cell BK541.out 0).trans rfl, (blk_cell BK541.out 1).trans rfl, (blk_cell BK541.out 2).trans rfl, (blk_cell BK541.out 3).trans rfl, (blk_cell BK541.out 4).trans rfl, ((HB.out.cell (World.block_lt_of_cell? w _ hw557_0)).trans hw557_0), ((HB.out.cell (World.block_lt_of_cell? w _ hw557_1)).trans hw557_1)⟩ (fun hHeld => ?_)
                clear hK K
                refine norm_ (a' := ?_) ?_ ?_
                rotate_left
                ·show Act.put _ (some 86) _ = _
                 simp only [Act.put, List.setIfInBounds_toArray, List.set_cons_zero, List.set_cons_succ, i64_w, i32_w]
                 rfl
                refine pr_ 9 (some 77) ?_
                refine pr_ 10 (some 87) ?_
                refine pr_ 11 (some 88) ?_
                refine pr_ 12 (some 15) ?_
                refine pr_ 13 (some 16) ?_
                refine done_ (done_of HT_.out (by kernel_rfl)) ?_
                obtain ⟨hcz70_0, hcz70_1, hcz70_2, hcz70_3, hcz70_4, hfz70_0, hfz70_1, hfz70_2, hfz70_3, hfz70_4⟩ := BK541.c5
                try go_wp2
                go_roundg k3
                case measure => have := HJ15.out; have := HK2.out; have := HK3.out; omega
                case rel => exact ⟨(true), (wrap64 (x12_3 + 1)), (by first | rfl | (simp; done) | (simp [*]; done)), (by first | rfl | (simp; done) | (simp [*]; done)), H', ⟨by have := HJ15.out; have := HK2.out; have := HK3.out; omega⟩, ⟨by exact BK540.out⟩, ⟨by exact BK541.out⟩, ⟨by exact BK546.out⟩, ⟨by exact BK553.out⟩, ⟨hb_⟩⟩
               ·replace c61 := Bool.eq_false_iff.mpr c61
                subst c61
                have H1 : (idiomref04_In.l1 k3 (t551.toList == ([] : List UInt8)) (wrap64 (x12_3 + 1)) a1_0 a1_1 a1_2 false l1_4 t542 t543 t544 t549 t550 t551) = some (r1, r2) := by rw [if_neg (show ¬ (false = true) by decide)] at H; exact H
                clear H
                have H := H1
                clear H1
                have H' := Aside0.mk H
                clear H
                have hnb71 := NB541_540.out
                have hnc71 := NB540_541.out
                have hnb72 := NB541_546.out
                have hnc72 := NB546_541.out
                have hnb73 := NB541_553.out
                have hnc73 := NB553_541.out
                obtain ⟨hcz74_0, hcz74_1, hcz74_2, hcz74_3, hcz74_4, hfz74_0, hfz74_1, hfz74_2, hfz74_3, hfz74_4⟩ := BK541.c5
                try go_wp2
                replace BK540 := Aside0.mk (blk_drew BK540.out)
                replace BK541 := Aside0.mk (blk_drew BK541.out)
                replace BK546 := Aside0.mk (blk_drew BK546.out)
                replace BK553 := Aside0.mk (blk_drew BK553.out)
                replace HB := Aside0.mk (below_drew1 HB.out)
                have p554 : 0 ≤ (x12_3 : Int) := of_decide_eq_true (by first | (with_reducible assumption) | assumption)
                have q554 : x12_3 < (l1_4.length : Int) := of_decide_eq_true (by first | (with_reducible assumption) | assumption)
                obtain ⟨ad554, e554, hx554_0, hx554_1⟩ := at_T48 HR1_4.out x12_3 p554 q554
                have hw554_1 := hx554_1
                have hw554_0 := hx554_0
                cases e554
                replace hx554_0 := (HB.out.cell (World.block_lt_of_cell? w _ hx554_0)).trans hx554_0
                replace hx554_1 := (HB.out.cell (World.block_lt_of_cell? w _ hx554_1)).trans hx554_1
                replace p554 := eq_true p554
                replace q554 := eq_true q554
                refine start_ (n := 14) (S := fun w' => w'.cell? ⟨gb541, 0, none⟩ = some (.string a1_0) ∧ w'.cell? ⟨gb541, 1, none⟩ = some (.string a1_1) ∧ w'.cell? ⟨gb541, 2, none⟩ = some (.bool a1_2) ∧ w'.cell? ⟨gb541, 3, none⟩ = some (.bool false) ∧ w'.cell? ⟨gb541, 4, none⟩ = some (.slice (some ad554) l1_4.length c1_4) ∧ w'.cell? ⟨gb546, 0, none⟩ = some (.bool t542) ∧ w'.cell? ⟨gb546, 1, none⟩ = some (.string t543) ∧ w'.cell? ⟨gb546, 2, none⟩ = some (.string t544) ∧ w'.cell? (ad554.add ((x12_3).toNat * 2)) = some (.string ((rd_T48 l1_4 x12_3).f0)) ∧ w'.cell? ⟨(ad554.add ((x12_3).toNat * 2)).block, (ad554.add ((x12_3).toNat * 2)).off + 1, none⟩ = some (.string ((rd_T48 l1_4 x12_3).f1))) (ds := []) #[false, false, false, false, false, false, false, false, false, false, false, false, false, false] (by kernel_rfl) rfl rfl ⟨(blk_cell BK541.out 0).trans rfl, (blk_cell BK541.out 1).trans rfl, (blk_cell BK541.out 2).trans rfl, (blk_cell BK541.out 3).trans rfl, (blk_cell BK541.out 4).trans rfl, (blk_cell BK546.out 0).trans rfl, (blk_cell BK546.out 1).trans rfl, (blk_cell BK546.out 2).trans rfl, ((HB.out.cell (World.block_lt_of_cell? w _ hw554_0)).trans hw554_0), ((HB.out.cell (World.block_lt_of_cell? w _ hw554_1)).trans hw554_1)⟩ (fun hHeld => ?_); refine with_tabW idiomref04_In.tab16 idiomref04_In.bits16 (fun HT_ HW_ => ?_)
                generalize wr.drew = w75 at BK540 BK541 BK546 BK553 HB hx554_0 hx554_1 hHeld ⊢
                refine pr_ 0 (some 66) ?_
                refine pr_ 2 (some 68) ?_
                refine tk_ 1 (some 67) hHeld ?_
                refine pr_ 3 (some 69) ?_
                refine pr_ 4 (some 70) ?_
                refine tk_ 5 (some 71) hHeld ?_
                refine pr_ 6 (some 72) ?_
                refine tk_ 7 (some 73) hHeld ?_
                refine one_ (i := 8) (N := some 74) #[true, true, true, true, true, true, true, true, true, false, false, false, false, false] rfl rfl (one_of HT_.out (by kernel_rfl)) (by decide) (fun K hK => ?_)
                refine goes_ Tryz.func27 (by kernel_rfl) rfl #[.agg #[.bool false, .string ((rd_T48 l1_4 x12_3).f0), .string (⟨#[]⟩ : ByteArray)], .agg #[.bool t542, .string t543, .string t544]] (by rfl) rfl rfl ar_ ?_
                with_reducible refine (idiomref02_Compare.calls k3 false ((rd_T48 l1_4 x12_3).f0) (⟨#[]⟩ : ByteArray) t542 t543 t544 t555 t556 _ A48.out).mono ?_
                rintro e w76 ⟨rfl, hb⟩
                refine ⟨_, rfl, ?_⟩
                replace BK540 := BK540.bl hb
                replace BK541 := BK541.bl hb
                replace BK546 := BK546.bl hb
                replace BK553 := BK553.bl hb
                replace HB := Aside0.mk (below_step hb_ hb)
                (try clear hb)
                (try clear hb2)
                (try clear hk)
                (try clear hi)
                refine hK.out _ _ ⟨(blk_cell BK541.out 0).trans rfl, (blk_cell BK541.out 1).trans rfl, (blk_cell BK541.out 2).trans rfl, (blk_cell BK541.out 3).trans rfl, (blk_cell BK541.out 4).trans rfl, (blk_cell BK546.out 0).trans rfl, (blk_cell BK546.out 1).trans rfl, (blk_cell BK546.out 2).trans rfl, ((HB.out.cell (World.block_lt_of_cell? w _ hw554_0)).trans hw554_0), ((HB.out.cell (World.block_lt_of_cell? w _ hw554_1)).trans hw554_1)⟩ (fun hHeld => ?_)
                clear hK K
                refine norm_ (a' := ?_) ?_ ?_
                rotate_left
                ·show Act.put _ (some 74) _ = _
                 simp only [Act.put, List.setIfInBounds_toArray, List.set_cons_zero, List.set_cons_succ, i64_w, i32_w]
                 rfl
                refine pr_ 9 (some 65) ?_
                refine pr_ 10 (some 75) ?_
                refine pr_ 11 (some 76) ?_
                refine pr_ 12 (some 13) ?_
                refine pr_ 13 (some 14) ?_
                refine done_ (done_of HT_.out (by kernel_rfl)) ?_
                try go_wp2
                replace BK540 := Aside0.mk (blk_drew BK540.out)
                replace BK541 := Aside0.mk (blk_drew BK541.out)
                replace BK546 := Aside0.mk (blk_drew BK546.out)
                replace BK553 := Aside0.mk (blk_drew BK553.out)
                replace HB := Aside0.mk (below_drew1 HB.out)
                have p557 : 0 ≤ (x12_3 : Int) := of_decide_eq_true (by first | (with_reducible assumption) | assumption)
                have q557 : x12_3 < (l1_4.length : Int) := of_decide_eq_true (by first | (with_reducible assumption) | assumption)
                obtain ⟨ad557, e557, hx557_0, hx557_1⟩ := at_T48 HR1_4.out x12_3 p557 q557
                have hw557_1 := hx557_1
                have hw557_0 := hx557_0
                obtain rfl : ad554 = ad557 := (by injection e557)
                replace hx557_0 := (HB.out.cell (World.block_lt_of_cell? w _ hx557_0)).trans hx557_0
                replace hx557_1 := (HB.out.cell (World.block_lt_of_cell? w _ hx557_1)).trans hx557_1
                replace p557 := eq_true p557
                replace q557 := eq_true q557
                refine start_ (n := 14) (S := fun w' => w'.cell? ⟨gb546, 0, none⟩ = some (.bool t542) ∧ w'.cell? ⟨gb546, 1, none⟩ = some (.string t543) ∧ w'.cell? ⟨gb546, 2, none⟩ = some (.string t544) ∧ w'.cell? ⟨gb541, 0, none⟩ = some (.string a1_0) ∧ w'.cell? ⟨gb541, 1, none⟩ = some (.string a1_1) ∧ w'.cell? ⟨gb541, 2, none⟩ = some (.bool a1_2) ∧ w'.cell? ⟨gb541, 3, none⟩ = some (.bool false) ∧ w'.cell? ⟨gb541, 4, none⟩ = some (.slice (some ad554) l1_4.length c1_4) ∧ w'.cell? (ad554.add ((x12_3).toNat * 2)) = some (.string ((rd_T48 l1_4 x12_3).f0)) ∧ w'.cell? ⟨(ad554.add ((x12_3).toNat * 2)).block, (ad554.add ((x12_3).toNat * 2)).off + 1, none⟩ = some (.string ((rd_T48 l1_4 x12_3).f1))) (ds := []) #[false, false, false, false, false, false, false, false, false, false, false, false, false, false] (by kernel_rfl) rfl rfl ⟨(blk_cell BK546.out 0).trans rfl, (blk_cell BK546.out 1).trans rfl, (blk_cell BK546.out 2).trans rfl, (blk_cell BK541.out 0).trans rfl, (blk_cell BK541.out 1).trans rfl, (blk_cell BK541.out 2).trans rfl, (blk_cell BK541.out 3).trans rfl, (blk_cell BK541.out 4).trans rfl, ((HB.out.cell (World.block_lt_of_cell? w _ hw557_0)).trans hw557_0), ((HB.out.cell (World.block_lt_of_cell? w _ hw557_1)).trans hw557_1)⟩ (fun hHeld => ?_); refine with_tabW idiomref04_In.tab17 idiomref04_In.bits17 (fun HT_ HW_ => ?_)
                generalize w76.drew = w77 at BK540 BK541 BK546 BK553 HB hx557_0 hx557_1 hHeld ⊢
                refine pr_ 1 (some 79) ?_
                refine pr_ 3 (some 81) ?_
                refine tk_ 0 (some 78) hHeld ?_
                refine tk_ 2 (some 80) hHeld ?_
                refine pr_ 4 (some 82) ?_
                refine pr_ 5 (some 83) ?_
                refine tk_ 6 (some 84) hHeld ?_
                refine pr_ 7 (some 85) ?_
                refine one_ (i := 8) (N := some 86) #[true, true, true, true, true, true, true, true, true, false, false, false, false, false] rfl rfl (one_of HT_.out (by kernel_rfl)) (by decide) (fun K hK => ?_)
                refine goes_ Tryz.func27 (by kernel_rfl) rfl #[.agg #[.bool t542, .string t543, .string t544], .agg #[.bool false, .string ((rd_T48 l1_4 x12_3).f1), .string (⟨#[]⟩ : ByteArray)]] (by rfl) rfl rfl ar_ ?_
                with_reducible refine (idiomref02_Compare.calls k3 t542 t543 t544 false ((rd_T48 l1_4 x12_3).f1) (⟨#[]⟩ : ByteArray) t558 t559 _ A49.out).mono ?_
                rintro e w78 ⟨rfl, hb⟩
                refine ⟨_, rfl, ?_⟩
                replace BK540 := BK540.bl hb
                replace BK541 := BK541.bl hb
                replace BK546 := BK546.bl hb
                replace BK553 := BK553.bl hb
                replace HB := Aside0.mk (below_step hb_ hb)
                (try clear hb)
                (try clear hb2)
                (try clear hk)
                (try clear hi)
                refine hK.out _ _ ⟨(blk_cell BK546.out 0).trans rfl, (blk_cell BK546.out 1).trans rfl, (blk_cell BK546.out 2).trans rfl, (blk_cell BK541.out 0).trans rfl, (blk_cell BK541.out 1).trans rfl, (blk_cell BK541.out 2).trans rfl, (blk_cell BK541.out 3).trans rfl, (blk_cell BK541.out 4).trans rfl, ((HB.out.cell (World.block_lt_of_cell? w _ hw557_0)).trans hw557_0), ((HB.out.cell (World.block_lt_of_cell? w _ hw557_1)).trans hw557_1)⟩ (fun hHeld => ?_)
                clear hK K
                refine norm_ (a' := ?_) ?_ ?_
                rotate_left
                ·show Act.put _ (some 86) _ = _
                 simp only [Act.put, List.setIfInBounds_toArray, List.set_cons_zero, List.set_cons_succ, i64_w, i32_w]
                 rfl
                refine pr_ 9 (some 77) ?_
                refine pr_ 10 (some 87) ?_
                refine pr_ 11 (some 88) ?_
                refine pr_ 12 (some 15) ?_
                refine pr_ 13 (some 16) ?_
                refine done_ (done_of HT_.out (by kernel_rfl)) ?_
                obtain ⟨hcz79_0, hcz79_1, hcz79_2, hcz79_3, hcz79_4, hfz79_0, hfz79_1, hfz79_2, hfz79_3, hfz79_4⟩ := BK541.c5
                have hnb80 := NB553_540.out
                have hnc80 := NB540_553.out
                have hnb81 := NB553_546.out
                have hnc81 := NB546_553.out
                obtain ⟨hcz82_0, hcz82_1, hcz82_2, hfz82_0, hfz82_1, hfz82_2⟩ := BK553.c3
                try go_wp2
                go_roundg k3
                case measure => have := HJ15.out; have := HK2.out; have := HK3.out; omega
                case rel => exact ⟨((t551.toList == ([] : List UInt8))), (wrap64 (x12_3 + 1)), (by first | rfl | (simp; done) | (simp [*]; done)), (by first | rfl | (simp; done) | (simp [*]; done)), H', ⟨by have := HJ15.out; have := HK2.out; have := HK3.out; omega⟩, ⟨by exact BK540.out⟩, ⟨by exact BK541.out⟩, ⟨by exact BK546.out⟩, ⟨by exact BK553.out⟩, ⟨hb_⟩⟩
              ·rw [if_neg c60] at H
               have c60b0 : decide (t558 ≤ 0) = false := decide_eq_false c60
               clear c60
               have H' := Aside0.mk H
               clear H
               have hnb83 := NB541_540.out
               have hnc83 := NB540_541.out
               have hnb84 := NB541_546.out
               have hnc84 := NB546_541.out
               have hnb85 := NB541_553.out
               have hnc85 := NB553_541.out
               obtain ⟨hcz86_0, hcz86_1, hcz86_2, hcz86_3, hcz86_4, hfz86_0, hfz86_1, hfz86_2, hfz86_3, hfz86_4⟩ := BK541.c5
               try go_wp2
               replace BK540 := Aside0.mk (blk_drew BK540.out)
               replace BK541 := Aside0.mk (blk_drew BK541.out)
               replace BK546 := Aside0.mk (blk_drew BK546.out)
               replace BK553 := Aside0.mk (blk_drew BK553.out)
               replace HB := Aside0.mk (below_drew1 HB.out)
               have p554 : 0 ≤ (x12_3 : Int) := of_decide_eq_true (by first | (with_reducible assumption) | assumption)
               have q554 : x12_3 < (l1_4.length : Int) := of_decide_eq_true (by first | (with_reducible assumption) | assumption)
               obtain ⟨ad554, e554, hx554_0, hx554_1⟩ := at_T48 HR1_4.out x12_3 p554 q554
               have hw554_1 := hx554_1
               have hw554_0 := hx554_0
               cases e554
               replace hx554_0 := (HB.out.cell (World.block_lt_of_cell? w _ hx554_0)).trans hx554_0
               replace hx554_1 := (HB.out.cell (World.block_lt_of_cell? w _ hx554_1)).trans hx554_1
               replace p554 := eq_true p554
               replace q554 := eq_true q554
               refine start_ (n := 14) (S := fun w' => w'.cell? ⟨gb541, 0, none⟩ = some (.string a1_0) ∧ w'.cell? ⟨gb541, 1, none⟩ = some (.string a1_1) ∧ w'.cell? ⟨gb541, 2, none⟩ = some (.bool a1_2) ∧ w'.cell? ⟨gb541, 3, none⟩ = some (.bool a1_3) ∧ w'.cell? ⟨gb541, 4, none⟩ = some (.slice (some ad554) l1_4.length c1_4) ∧ w'.cell? ⟨gb546, 0, none⟩ = some (.bool t542) ∧ w'.cell? ⟨gb546, 1, none⟩ = some (.string t543) ∧ w'.cell? ⟨gb546, 2, none⟩ = some (.string t544) ∧ w'.cell? (ad554.add ((x12_3).toNat * 2)) = some (.string ((rd_T48 l1_4 x12_3).f0)) ∧ w'.cell? ⟨(ad554.add ((x12_3).toNat * 2)).block, (ad554.add ((x12_3).toNat * 2)).off + 1, none⟩ = some (.string ((rd_T48 l1_4 x12_3).f1))) (ds := []) #[false, false, false, false, false, false, false, false, false, false, false, false, false, false] (by kernel_rfl) rfl rfl ⟨(blk_cell BK541.out 0).trans rfl, (blk_cell BK541.out 1).trans rfl, (blk_cell BK541.out 2).trans rfl, (blk_cell BK541.out 3).trans rfl, (blk_cell BK541.out 4).trans rfl, (blk_cell BK546.out 0).trans rfl, (blk_cell BK546.out 1).trans rfl, (blk_cell BK546.out 2).trans rfl, ((HB.out.cell (World.block_lt_of_cell? w _ hw554_0)).trans hw554_0), ((HB.out.cell (World.block_lt_of_cell? w _ hw554_1)).trans hw554_1)⟩ (fun hHeld => ?_); refine with_tabW idiomref04_In.tab16 idiomref04_In.bits16 (fun HT_ HW_ => ?_)
               generalize wr.drew = w87 at BK540 BK541 BK546 BK553 HB hx554_0 hx554_1 hHeld ⊢
               refine pr_ 0 (some 66) ?_
               refine pr_ 2 (some 68) ?_
               refine tk_ 1 (some 67) hHeld ?_
               refine pr_ 3 (some 69) ?_
               refine pr_ 4 (some 70) ?_
               refine tk_ 5 (some 71) hHeld ?_
               refine pr_ 6 (some 72) ?_
               refine tk_ 7 (some 73) hHeld ?_
               refine one_ (i := 8) (N := some 74) #[true, true, true, true, true, true, true, true, true, false, false, false, false, false] rfl rfl (one_of HT_.out (by kernel_rfl)) (by decide) (fun K hK => ?_)
               refine goes_ Tryz.func27 (by kernel_rfl) rfl #[.agg #[.bool false, .string ((rd_T48 l1_4 x12_3).f0), .string (⟨#[]⟩ : ByteArray)], .agg #[.bool t542, .string t543, .string t544]] (by rfl) rfl rfl ar_ ?_
               with_reducible refine (idiomref02_Compare.calls k3 false ((rd_T48 l1_4 x12_3).f0) (⟨#[]⟩ : ByteArray) t542 t543 t544 t555 t556 _ A48.out).mono ?_
               rintro e w88 ⟨rfl, hb⟩
               refine ⟨_, rfl, ?_⟩
               replace BK540 := BK540.bl hb
               replace BK541 := BK541.bl hb
               replace BK546 := BK546.bl hb
               replace BK553 := BK553.bl hb
               replace HB := Aside0.mk (below_step hb_ hb)
               (try clear hb)
               (try clear hb2)
               (try clear hk)
               (try clear hi)
               refine hK.out _ _ ⟨(blk_cell BK541.out 0).trans rfl, (blk_cell BK541.out 1).trans rfl, (blk_cell BK541.out 2).trans rfl, (blk_cell BK541.out 3).trans rfl, (blk_cell BK541.out 4).trans rfl, (blk_cell BK546.out 0).trans rfl, (blk_cell BK546.out 1).trans rfl, (blk_cell BK546.out 2).trans rfl, ((HB.out.cell (World.block_lt_of_cell? w _ hw554_0)).trans hw554_0), ((HB.out.cell (World.block_lt_of_cell? w _ hw554_1)).trans hw554_1)⟩ (fun hHeld => ?_)
               clear hK K
               refine norm_ (a' := ?_) ?_ ?_
               rotate_left
               ·show Act.put _ (some 74) _ = _
                simp only [Act.put, List.setIfInBounds_toArray, List.set_cons_zero, List.set_cons_succ, i64_w, i32_w]
                rfl
               refine pr_ 9 (some 65) ?_
               refine pr_ 10 (some 75) ?_
               refine pr_ 11 (some 76) ?_
               refine pr_ 12 (some 13) ?_
               refine pr_ 13 (some 14) ?_
               refine done_ (done_of HT_.out (by kernel_rfl)) ?_
               try go_wp2
               replace BK540 := Aside0.mk (blk_drew BK540.out)
               replace BK541 := Aside0.mk (blk_drew BK541.out)
               replace BK546 := Aside0.mk (blk_drew BK546.out)
               replace BK553 := Aside0.mk (blk_drew BK553.out)
               replace HB := Aside0.mk (below_drew1 HB.out)
               have p557 : 0 ≤ (x12_3 : Int) := of_decide_eq_true (by first | (with_reducible assumption) | assumption)
               have q557 : x12_3 < (l1_4.length : Int) := of_decide_eq_true (by first | (with_reducible assumption) | assumption)
               obtain ⟨ad557, e557, hx557_0, hx557_1⟩ := at_T48 HR1_4.out x12_3 p557 q557
               have hw557_1 := hx557_1
               have hw557_0 := hx557_0
               obtain rfl : ad554 = ad557 := (by injection e557)
               replace hx557_0 := (HB.out.cell (World.block_lt_of_cell? w _ hx557_0)).trans hx557_0
               replace hx557_1 := (HB.out.cell (World.block_lt_of_cell? w _ hx557_1)).trans hx557_1
               replace p557 := eq_true p557
               replace q557 := eq_true q557
               refine start_ (n := 14) (S := fun w' => w'.cell? ⟨gb546, 0, none⟩ = some (.bool t542) ∧ w'.cell? ⟨gb546, 1, none⟩ = some (.string t543) ∧ w'.cell? ⟨gb546, 2, none⟩ = some (.string t544) ∧ w'.cell? ⟨gb541, 0, none⟩ = some (.string a1_0) ∧ w'.cell? ⟨gb541, 1, none⟩ = some (.string a1_1) ∧ w'.cell? ⟨gb541, 2, none⟩ = some (.bool a1_2) ∧ w'.cell? ⟨gb541, 3, none⟩ = some (.bool a1_3) ∧ w'.cell? ⟨gb541, 4, none⟩ = some (.slice (some ad554) l1_4.length c1_4) ∧ w'.cell? (ad554.add ((x12_3).toNat * 2)) = some (.string ((rd_T48 l1_4 x12_3).f0)) ∧ w'.cell? ⟨(ad554.add ((x12_3).toNat * 2)).block, (ad554.add ((x12_3).toNat * 2)).off + 1, none⟩ = some (.string ((rd_T48 l1_4 x12_3).f1))) (ds := []) #[false, false, false, false, false, false, false, false, false, false, false, false, false, false] (by kernel_rfl) rfl rfl ⟨(blk_cell BK546.out 0).trans rfl, (blk_cell BK546.out 1).trans rfl, (blk_cell BK546.out 2).trans rfl, (blk_cell BK541.out 0).trans rfl, (blk_cell BK541.out 1).trans rfl, (blk_cell BK541.out 2).trans rfl, (blk_cell BK541.out 3).trans rfl, (blk_cell BK541.out 4).trans rfl, ((HB.out.cell (World.block_lt_of_cell? w _ hw557_0)).trans hw557_0), ((HB.out.cell (World.block_lt_of_cell? w _ hw557_1)).trans hw557_1)⟩ (fun hHeld => ?_); refine with_tabW idiomref04_In.tab17 idiomref04_In.bits17 (fun HT_ HW_ => ?_)
               generalize w88.drew = w89 at BK540 BK541 BK546 BK553 HB hx557_0 hx557_1 hHeld ⊢
               refine pr_ 1 (some 79) ?_
               refine pr_ 3 (some 81) ?_
               refine tk_ 0 (some 78) hHeld ?_
               refine tk_ 2 (some 80) hHeld ?_
               refine pr_ 4 (some 82) ?_
               refine pr_ 5 (some 83) ?_
               refine tk_ 6 (some 84) hHeld ?_
               refine pr_ 7 (some 85) ?_
               refine one_ (i := 8) (N := some 86) #[true, true, true, true, true, true, true, true, true, false, false, false, false, false] rfl rfl (one_of HT_.out (by kernel_rfl)) (by decide) (fun K hK => ?_)
               refine goes_ Tryz.func27 (by kernel_rfl) rfl #[.agg #[.bool t542, .string t543, .string t544], .agg #[.bool false, .string ((rd_T48 l1_4 x12_3).f1), .string (⟨#[]⟩ : ByteArray)]] (by rfl) rfl rfl ar_ ?_
               with_reducible refine (idiomref02_Compare.calls k3 t542 t543 t544 false ((rd_T48 l1_4 x12_3).f1) (⟨#[]⟩ : ByteArray) t558 t559 _ A49.out).mono ?_
               rintro e w90 ⟨rfl, hb⟩
               refine ⟨_, rfl, ?_⟩
               replace BK540 := BK540.bl hb
               replace BK541 := BK541.bl hb
               replace BK546 := BK546.bl hb
               replace BK553 := BK553.bl hb
               replace HB := Aside0.mk (below_step hb_ hb)
               (try clear hb)
               (try clear hb2)
               (try clear hk)
               (try clear hi)
               refine hK.out _ _ ⟨(blk_cell BK546.out 0).trans rfl, (blk_cell BK546.out 1).trans rfl, (blk_cell BK546.out 2).trans rfl, (blk_cell BK541.out 0).trans rfl, (blk_cell BK541.out 1).trans rfl, (blk_cell BK541.out 2).trans rfl, (blk_cell BK541.out 3).trans rfl, (blk_cell BK541.out 4).trans rfl, ((HB.out.cell (World.block_lt_of_cell? w _ hw557_0)).trans hw557_0), ((HB.out.cell (World.block_lt_of_cell? w _ hw557_1)).trans hw557_1)⟩ (fun hHeld => ?_)
               clear hK K
               refine norm_ (a' := ?_) ?_ ?_
               rotate_left
               ·show Act.put _ (some 86) _ = _
                simp only [Act.put, List.setIfInBounds_toArray, List.set_cons_zero, List.set_cons_succ, i64_w, i32_w]
                rfl
               refine pr_ 9 (some 77) ?_
               refine pr_ 10 (some 87) ?_
               refine pr_ 11 (some 88) ?_
               refine pr_ 12 (some 15) ?_
               refine pr_ 13 (some 16) ?_
               refine done_ (done_of HT_.out (by kernel_rfl)) ?_
               try go_wp2
               go_roundg k3
               case measure => have := HJ15.out; have := HK2.out; have := HK3.out; omega
               case rel => exact ⟨(false), (wrap64 (x12_3 + 1)), (by first | rfl | (simp; done) | (simp [*]; done)), (by first | rfl | (simp; done) | (simp [*]; done)), H', ⟨by have := HJ15.out; have := HK2.out; have := HK3.out; omega⟩, ⟨by exact BK540.out⟩, ⟨by exact BK541.out⟩, ⟨by exact BK546.out⟩, ⟨by exact BK553.out⟩, ⟨hb_⟩⟩
             ·rw [if_neg c59] at H
              have c59b0 : decide (t555 ≤ 0) = false := decide_eq_false c59
              clear c59
              have H' := Aside0.mk H
              clear H
              have hnb91 := NB541_540.out
              have hnc91 := NB540_541.out
              have hnb92 := NB541_546.out
              have hnc92 := NB546_541.out
              have hnb93 := NB541_553.out
              have hnc93 := NB553_541.out
              obtain ⟨hcz94_0, hcz94_1, hcz94_2, hcz94_3, hcz94_4, hfz94_0, hfz94_1, hfz94_2, hfz94_3, hfz94_4⟩ := BK541.c5
              try go_wp2
              replace BK540 := Aside0.mk (blk_drew BK540.out)
              replace BK541 := Aside0.mk (blk_drew BK541.out)
              replace BK546 := Aside0.mk (blk_drew BK546.out)
              replace BK553 := Aside0.mk (blk_drew BK553.out)
              replace HB := Aside0.mk (below_drew1 HB.out)
              have p554 : 0 ≤ (x12_3 : Int) := of_decide_eq_true (by first | (with_reducible assumption) | assumption)
              have q554 : x12_3 < (l1_4.length : Int) := of_decide_eq_true (by first | (with_reducible assumption) | assumption)
              obtain ⟨ad554, e554, hx554_0, hx554_1⟩ := at_T48 HR1_4.out x12_3 p554 q554
              have hw554_1 := hx554_1
              have hw554_0 := hx554_0
              cases e554
              replace hx554_0 := (HB.out.cell (World.block_lt_of_cell? w _ hx554_0)).trans hx554_0
              replace hx554_1 := (HB.out.cell (World.block_lt_of_cell? w _ hx554_1)).trans hx554_1
              replace p554 := eq_true p554
              replace q554 := eq_true q554
              refine start_ (n := 14) (S := fun w' => w'.cell? ⟨gb541, 0, none⟩ = some (.string a1_0) ∧ w'.cell? ⟨gb541, 1, none⟩ = some (.string a1_1) ∧ w'.cell? ⟨gb541, 2, none⟩ = some (.bool a1_2) ∧ w'.cell? ⟨gb541, 3, none⟩ = some (.bool a1_3) ∧ w'.cell? ⟨gb541, 4, none⟩ = some (.slice (some ad554) l1_4.length c1_4) ∧ w'.cell? ⟨gb546, 0, none⟩ = some (.bool t542) ∧ w'.cell? ⟨gb546, 1, none⟩ = some (.string t543) ∧ w'.cell? ⟨gb546, 2, none⟩ = some (.string t544) ∧ w'.cell? (ad554.add ((x12_3).toNat * 2)) = some (.string ((rd_T48 l1_4 x12_3).f0)) ∧ w'.cell? ⟨(ad554.add ((x12_3).toNat * 2)).block, (ad554.add ((x12_3).toNat * 2)).off + 1, none⟩ = some (.string ((rd_T48 l1_4 x12_3).f1))) (ds := []) #[false, false, false, false, false, false, false, false, false, false, false, false, false, false] (by kernel_rfl) rfl rfl ⟨(blk_cell BK541.out 0).trans rfl, (blk_cell BK541.out 1).trans rfl, (blk_cell BK541.out 2).trans rfl, (blk_cell BK541.out 3).trans rfl, (blk_cell BK541.out 4).trans rfl, (blk_cell BK546.out 0).trans rfl, (blk_cell BK546.out 1).trans rfl, (blk_cell BK546.out 2).trans rfl, ((HB.out.cell (World.block_lt_of_cell? w _ hw554_0)).trans hw554_0), ((HB.out.cell (World.block_lt_of_cell? w _ hw554_1)).trans hw554_1)⟩ (fun hHeld => ?_); refine with_tabW idiomref04_In.tab16 idiomref04_In.bits16 (fun HT_ HW_ => ?_)
              generalize wr.drew = w95 at BK540 BK541 BK546 BK553 HB hx554_0 hx554_1 hHeld ⊢
              refine pr_ 0 (some 66) ?_
              refine pr_ 2 (some 68) ?_
              refine tk_ 1 (some 67) hHeld ?_
              refine pr_ 3 (some 69) ?_
              refine pr_ 4 (some 70) ?_
              refine tk_ 5 (some 71) hHeld ?_
              refine pr_ 6 (some 72) ?_
              refine tk_ 7 (some 73) hHeld ?_
              refine one_ (i := 8) (N := some 74) #[true, true, true, true, true, true, true, true, true, false, false, false, false, false] rfl rfl (one_of HT_.out (by kernel_rfl)) (by decide) (fun K hK => ?_)
              refine goes_ Tryz.func27 (by kernel_rfl) rfl #[.agg #[.bool false, .string ((rd_T48 l1_4 x12_3).f0), .string (⟨#[]⟩ : ByteArray)], .agg #[.bool t542, .string t543, .string t544]] (by rfl) rfl rfl ar_ ?_
              with_reducible refine (idiomref02_Compare.calls k3 false ((rd_T48 l1_4 x12_3).f0) (⟨#[]⟩ : ByteArray) t542 t543 t544 t555 t556 _ A48.out).mono ?_
              rintro e w96 ⟨rfl, hb⟩
              refine ⟨_, rfl, ?_⟩
              replace BK540 := BK540.bl hb
              replace BK541 := BK541.bl hb
              replace BK546 := BK546.bl hb
              replace BK553 := BK553.bl hb
              replace HB := Aside0.mk (below_step hb_ hb)
              (try clear hb)
              (try clear hb2)
              (try clear hk)
              (try clear hi)
              refine hK.out _ _ ⟨(blk_cell BK541.out 0).trans rfl, (blk_cell BK541.out 1).trans rfl, (blk_cell BK541.out 2).trans rfl, (blk_cell BK541.out 3).trans rfl, (blk_cell BK541.out 4).trans rfl, (blk_cell BK546.out 0).trans rfl, (blk_cell BK546.out 1).trans rfl, (blk_cell BK546.out 2).trans rfl, ((HB.out.cell (World.block_lt_of_cell? w _ hw554_0)).trans hw554_0), ((HB.out.cell (World.block_lt_of_cell? w _ hw554_1)).trans hw554_1)⟩ (fun hHeld => ?_)
              clear hK K
              refine norm_ (a' := ?_) ?_ ?_
              rotate_left
              ·show Act.put _ (some 74) _ = _
               simp only [Act.put, List.setIfInBounds_toArray, List.set_cons_zero, List.set_cons_succ, i64_w, i32_w]
               rfl
              refine pr_ 9 (some 65) ?_
              refine pr_ 10 (some 75) ?_
              refine pr_ 11 (some 76) ?_
              refine pr_ 12 (some 13) ?_
              refine pr_ 13 (some 14) ?_
              refine done_ (done_of HT_.out (by kernel_rfl)) ?_
              try go_wp2
              replace BK540 := Aside0.mk (blk_drew BK540.out)
              replace BK541 := Aside0.mk (blk_drew BK541.out)
              replace BK546 := Aside0.mk (blk_drew BK546.out)
              replace BK553 := Aside0.mk (blk_drew BK553.out)
              replace HB := Aside0.mk (below_drew1 HB.out)
              have p557 : 0 ≤ (x12_3 : Int) := of_decide_eq_true (by first | (with_reducible assumption) | assumption)
              have q557 : x12_3 < (l1_4.length : Int) := of_decide_eq_true (by first | (with_reducible assumption) | assumption)
              obtain ⟨ad557, e557, hx557_0, hx557_1⟩ := at_T48 HR1_4.out x12_3 p557 q557
              have hw557_1 := hx557_1
              have hw557_0 := hx557_0
              obtain rfl : ad554 = ad557 := (by injection e557)
              replace hx557_0 := (HB.out.cell (World.block_lt_of_cell? w _ hx557_0)).trans hx557_0
              replace hx557_1 := (HB.out.cell (World.block_lt_of_cell? w _ hx557_1)).trans hx557_1
              replace p557 := eq_true p557
              replace q557 := eq_true q557
              refine start_ (n := 14) (S := fun w' => w'.cell? ⟨gb546, 0, none⟩ = some (.bool t542) ∧ w'.cell? ⟨gb546, 1, none⟩ = some (.string t543) ∧ w'.cell? ⟨gb546, 2, none⟩ = some (.string t544) ∧ w'.cell? ⟨gb541, 0, none⟩ = some (.string a1_0) ∧ w'.cell? ⟨gb541, 1, none⟩ = some (.string a1_1) ∧ w'.cell? ⟨gb541, 2, none⟩ = some (.bool a1_2) ∧ w'.cell? ⟨gb541, 3, none⟩ = some (.bool a1_3) ∧ w'.cell? ⟨gb541, 4, none⟩ = some (.slice (some ad554) l1_4.length c1_4) ∧ w'.cell? (ad554.add ((x12_3).toNat * 2)) = some (.string ((rd_T48 l1_4 x12_3).f0)) ∧ w'.cell? ⟨(ad554.add ((x12_3).toNat * 2)).block, (ad554.add ((x12_3).toNat * 2)).off + 1, none⟩ = some (.string ((rd_T48 l1_4 x12_3).f1))) (ds := []) #[false, false, false, false, false, false, false, false, false, false, false, false, false, false] (by kernel_rfl) rfl rfl ⟨(blk_cell BK546.out 0).trans rfl, (blk_cell BK546.out 1).trans rfl, (blk_cell BK546.out 2).trans rfl, (blk_cell BK541.out 0).trans rfl, (blk_cell BK541.out 1).trans rfl, (blk_cell BK541.out 2).trans rfl, (blk_cell BK541.out 3).trans rfl, (blk_cell BK541.out 4).trans rfl, ((HB.out.cell (World.block_lt_of_cell? w _ hw557_0)).trans hw557_0), ((HB.out.cell (World.block_lt_of_cell? w _ hw557_1)).trans hw557_1)⟩ (fun hHeld => ?_); refine with_tabW idiomref04_In.tab17 idiomref04_In.bits17 (fun HT_ HW_ => ?_)
              generalize w96.drew = w97 at BK540 BK541 BK546 BK553 HB hx557_0 hx557_1 hHeld ⊢
              refine pr_ 1 (some 79) ?_
              refine pr_ 3 (some 81) ?_
              refine tk_ 0 (some 78) hHeld ?_
              refine tk_ 2 (some 80) hHeld ?_
              refine pr_ 4 (some 82) ?_
              refine pr_ 5 (some 83) ?_
              refine tk_ 6 (some 84) hHeld ?_
              refine pr_ 7 (some 85) ?_
              refine one_ (i := 8) (N := some 86) #[true, true, true, true, true, true, true, true, true, false, false, false, false, false] rfl rfl (one_of HT_.out (by kernel_rfl)) (by decide) (fun K hK => ?_)
              refine goes_ Tryz.func27 (by kernel_rfl) rfl #[.agg #[.bool t542, .string t543, .string t544], .agg #[.bool false, .string ((rd_T48 l1_4 x12_3).f1), .string (⟨#[]⟩ : ByteArray)]] (by rfl) rfl rfl ar_ ?_
              with_reducible refine (idiomref02_Compare.calls k3 t542 t543 t544 false ((rd_T48 l1_4 x12_3).f1) (⟨#[]⟩ : ByteArray) t558 t559 _ A49.out).mono ?_
              rintro e w98 ⟨rfl, hb⟩
              refine ⟨_, rfl, ?_⟩
              replace BK540 := BK540.bl hb
              replace BK541 := BK541.bl hb
              replace BK546 := BK546.bl hb
              replace BK553 := BK553.bl hb
              replace HB := Aside0.mk (below_step hb_ hb)
              (try clear hb)
              (try clear hb2)
              (try clear hk)
              (try clear hi)
              refine hK.out _ _ ⟨(blk_cell BK546.out 0).trans rfl, (blk_cell BK546.out 1).trans rfl, (blk_cell BK546.out 2).trans rfl, (blk_cell BK541.out 0).trans rfl, (blk_cell BK541.out 1).trans rfl, (blk_cell BK541.out 2).trans rfl, (blk_cell BK541.out 3).trans rfl, (blk_cell BK541.out 4).trans rfl, ((HB.out.cell (World.block_lt_of_cell? w _ hw557_0)).trans hw557_0), ((HB.out.cell (World.block_lt_of_cell? w _ hw557_1)).trans hw557_1)⟩ (fun hHeld => ?_)
              clear hK K
              refine norm_ (a' := ?_) ?_ ?_
              rotate_left
              ·show Act.put _ (some 86) _ = _
               simp only [Act.put, List.setIfInBounds_toArray, List.set_cons_zero, List.set_cons_succ, i64_w, i32_w]
               rfl
              refine pr_ 9 (some 77) ?_
              refine pr_ 10 (some 87) ?_
              refine pr_ 11 (some 88) ?_
              refine pr_ 12 (some 15) ?_
              refine pr_ 13 (some 16) ?_
              refine done_ (done_of HT_.out (by kernel_rfl)) ?_
              try go_wp2
              go_roundg k3
              case measure => have := HJ15.out; have := HK2.out; have := HK3.out; omega
              case rel => exact ⟨(false), (wrap64 (x12_3 + 1)), (by first | rfl | (simp; done) | (simp [*]; done)), (by first | rfl | (simp; done) | (simp [*]; done)), H', ⟨by have := HJ15.out; have := HK2.out; have := HK3.out; omega⟩, ⟨by exact BK540.out⟩, ⟨by exact BK541.out⟩, ⟨by exact BK546.out⟩, ⟨by exact BK553.out⟩, ⟨hb_⟩⟩
           ·rw [if_neg c47] at H
            exact absurd H (by simp)
          ·rw [if_neg c46] at H
           have c46b0 : decide (x12_3 < (l1_4.length : Int)) = false := decide_eq_false c46
           clear c46
           simp only [Option.some.injEq, Prod.mk.injEq] at H
           obtain ⟨rfl, rfl⟩ := H
           have hnb99 := NB541_540.out
           have hnc99 := NB540_541.out
           have hnb100 := NB541_546.out
           have hnc100 := NB546_541.out
           have hnb101 := NB541_553.out
           have hnc101 := NB553_541.out
           obtain ⟨hcz102_0, hcz102_1, hcz102_2, hcz102_3, hcz102_4, hfz102_0, hfz102_1, hfz102_2, hfz102_3, hfz102_4⟩ := BK541.c5
           go_wp2
           go_ret2
           exact fin_
 ·rw [if_neg c15] at H
  have c15b0 : (t545 == 0) = false := beq_eq_false_iff_ne.mpr c15
  have c15b1 : (t545 != 0) = true := bne_iff_ne.mpr c15
  (first | rw [c15b0] | (simp only [i64_w, i32_w]; rw [c15b0]) | rw [c15b1] | skip)
  simp only [Option.some.injEq, Prod.mk.injEq] at H
  obtain ⟨rfl, rfl⟩ := H
  go_wp2
  go_ret2
  exact fin_
attribute [local go_sem] max2_int max_two
set_option linter.unusedVariables false
set_option linter.unusedSimpArgs false
attribute [local go_sem high] eqA23 eqA25
mutual
def idiomlaw04_OperandShown.j0 : Nat → ByteArray → Int → Bool → ByteArray → ByteArray → Bool → Bool → List (S48) → Bool → ByteArray → ByteArray → ByteArray → Int → Int → ByteArray → ByteArray → Int → Option (Bool)
  | 0, _, _, _, _, _, _, _, _, _, _, _, _, _, _, _, _, _ => none
  | k + 1, x2, x10, x47, x647000, x647001, x647002, x647003, x647004, x658000, x658001, x658002, x658003, x658004, x658005, x658006, x658007, x658008 => if x47 = true then (some false) else (if x10 = 0 then (idiomlaw04_OperandShown.l0 k x2 0 x647000 x647001 x647002 x647003 x647004 x658000 x658001 x658002 x658003 x658004 x658005 x658006 x658007 x658008) else (some true))
def idiomlaw04_OperandShown.l0 : Nat → ByteArray → Int → ByteArray → ByteArray → Bool → Bool → List (S48) → Bool → ByteArray → ByteArray → ByteArray → Int → Int → ByteArray → ByteArray → Int → Option (Bool)
  | 0, _, _, _, _, _, _, _, _, _, _, _, _, _, _, _, _ => none
  | k + 1, x2, x13, x647000, x647001, x647002, x647003, x647004, x658000, x658001, x658002, x658003, x658004, x658005, x658006, x658007, x658008 => if x13 < 8 then (if 0 ≤ x13 then (if x13 ≤ (wrap64 (x13 + 1)) then (if (wrap64 (x13 + 1)) ≤ 8 then ((operand_Mod.f k x658000 x658001 x658002 x658003 x658004 x658005 x658006 x658007 x658008 ((⟨#[110, 105, 118, 119, 102, 116, 99, 101]⟩ : ByteArray).extract (x13 : Int).toNat ((wrap64 (x13 + 1)) : Int).toNat) x2).bind fun bt670 => ((idiomref04_Mod.f k x658000 x658001 x658002 x658003 x658004 x658005 x658006 x658007 x658008 ((⟨#[110, 105, 118, 119, 102, 116, 99, 101]⟩ : ByteArray).extract (x13 : Int).toNat ((wrap64 (x13 + 1)) : Int).toNat) x2).bind fun bt675 => (if (!(bt670.1 == bt675.1) || (!(bt670.2.1.toList == bt675.2.1.toList) || (!(bt670.2.2.1.toList == bt675.2.2.1.toList)))) = true then (idiomlaw04_OperandShown.j2 k x2 x13 ((⟨#[110, 105, 118, 119, 102, 116, 99, 101]⟩ : ByteArray).extract (x13 : Int).toNat ((wrap64 (x13 + 1)) : Int).toNat) true x647000 x647001 x647002 x647003 x647004 x658000 x658001 x658002 x658003 x658004 x658005 x658006 x658007 x658008) else (idiomlaw04_OperandShown.j2 k x2 x13 ((⟨#[110, 105, 118, 119, 102, 116, 99, 101]⟩ : ByteArray).extract (x13 : Int).toNat ((wrap64 (x13 + 1)) : Int).toNat) (bt670.2.2.2 != bt675.2.2.2) x647000 x647001 x647002 x647003 x647004 x658000 x658001 x658002 x658003 x658004 x658005 x658006 x658007 x658008)))) else (none)) else (none)) else (none)) else (some true)
def idiomlaw04_OperandShown.j2 : Nat → ByteArray → Int → ByteArray → Bool → ByteArray → ByteArray → Bool → Bool → List (S48) → Bool → ByteArray → ByteArray → ByteArray → Int → Int → ByteArray → ByteArray → Int → Option (Bool)
  | 0, _, _, _, _, _, _, _, _, _, _, _, _, _, _, _, _, _, _ => none
  | k + 1, x2, x13, x14, x79, x647000, x647001, x647002, x647003, x647004, x658000, x658001, x658002, x658003, x658004, x658005, x658006, x658007, x658008 => if x79 = true then (some false) else ((idiomlaw04_copied.f x647000 x647001 x647002 x647003 x647004).bind fun bt680 => ((idiomlaw04_copied.f x14 bt680.2.1 bt680.2.2.1 bt680.2.2.2.1 bt680.2.2.2.2).bind fun bt688 => ((operand_In.f k x658000 x658001 x658002 x658003 x658004 x658005 x658006 x658007 x658008 bt688.1 bt688.2.1 bt688.2.2.1 bt688.2.2.2.1 bt688.2.2.2.2).bind fun bt695 => ((idiomref04_In.f k x658000 x658001 x658002 x658003 x658004 x658005 x658006 x658007 x658008 x14 bt680.2.1 bt680.2.2.1 bt680.2.2.2.1 bt680.2.2.2.2).bind fun bt697 => (if (bt695.1 != bt697.1) = true then (some false) else (if bt695.2 = bt697.2 then (idiomlaw04_OperandShown.l0 k x2 (wrap64 (x13 + 1)) x647000 x647001 x647002 x647003 x647004 x658000 x658001 x658002 x658003 x658004 x658005 x658006 x658007 x658008) else (some false)))))))
end
def idiomlaw04_OperandShown.f (k : Nat) (a0_0 : Bool) (a0_1 : ByteArray) (a0_2 : ByteArray) (a1 : Int) (a2 : ByteArray) (a3_0 : ByteArray) (a3_1 : ByteArray) (a3_2 : Bool) (a3_3 : Bool) (l3_4 : List (S48)) : Option (Bool) := (operand_Of.f k a0_0 a0_1 a0_2 a1).bind fun bt647 => ((idiomref04_Of.f k a0_0 a0_1 a0_2 a1).bind fun bt658 => (if ((!(bt647.1 == bt658.1) || (!(bt647.2.1.toList == bt658.2.1.toList) || (!(bt647.2.2.1.toList == bt658.2.2.1.toList)))) || (!(bt647.2.2.2.1.toList == bt658.2.2.2.1.toList) || (!(bt647.2.2.2.2.1 == bt658.2.2.2.2.1) || (!(bt647.2.2.2.2.2.1 == bt658.2.2.2.2.2.1) || (!(bt647.2.2.2.2.2.2.1.toList == bt658.2.2.2.2.2.2.1.toList) || (!(bt647.2.2.2.2.2.2.2.1.toList == bt658.2.2.2.2.2.2.2.1.toList) || (!(bt647.2.2.2.2.2.2.2.2.1 == bt658.2.2.2.2.2.2.2.2.1)))))))) = true then (idiomlaw04_OperandShown.j0 k a2 bt647.2.2.2.2.2.2.2.2.2 true a3_0 a3_1 a3_2 a3_3 l3_4 bt647.1 bt647.2.1 bt647.2.2.1 bt647.2.2.2.1 bt647.2.2.2.2.1 bt647.2.2.2.2.2.1 bt647.2.2.2.2.2.2.1 bt647.2.2.2.2.2.2.2.1 bt647.2.2.2.2.2.2.2.2.1) else (if bt647.2.2.2.2.2.2.2.2.2 = bt658.2.2.2.2.2.2.2.2.2 then ((idiomlaw04_awake.f k).bind fun t669 => (idiomlaw04_OperandShown.j0 k a2 bt647.2.2.2.2.2.2.2.2.2 (!t669) a3_0 a3_1 a3_2 a3_3 l3_4 bt647.1 bt647.2.1 bt647.2.2.1 bt647.2.2.2.1 bt647.2.2.2.2.1 bt647.2.2.2.2.2.1 bt647.2.2.2.2.2.2.1 bt647.2.2.2.2.2.2.2.1 bt647.2.2.2.2.2.2.2.2.1)) else (idiomlaw04_OperandShown.j0 k a2 bt647.2.2.2.2.2.2.2.2.2 true a3_0 a3_1 a3_2 a3_3 l3_4 bt647.1 bt647.2.1 bt647.2.2.1 bt647.2.2.2.1 bt647.2.2.2.2.1 bt647.2.2.2.2.2.1 bt647.2.2.2.2.2.2.1 bt647.2.2.2.2.2.2.2.1 bt647.2.2.2.2.2.2.2.2.1))))
def idiomlaw04_OperandShown.T17 : Bool × List (List Nat × List Nat) := (true, [([], []), ([], []), ([1], [1]), ([0, 2, 2], [0, 2]), ([3], [3]), ([4], [4]), ([4], [4]), ([5, 3, 0, 1, 2, 3, 4, 5], [5]), ([6, 7, 0, 1, 2, 3, 4, 5, 6, 7], [6])])
def idiomlaw04_OperandShown.B17 : List Nat := [0, 0, 2, 7, 15, 31, 31, 63, 255]
theorem idiomlaw04_OperandShown.tab17 : rtab .any (opsOf Tryz.f4 17) = idiomlaw04_OperandShown.T17 := by kernel_rfl
theorem idiomlaw04_OperandShown.bits17 : waitsOk idiomlaw04_OperandShown.T17.2 idiomlaw04_OperandShown.B17 = true := by kernel_rfl
set_option maxHeartbeats 8000000 in
set_option maxRecDepth 100000 in
theorem idiomlaw04_OperandShown.calls (k : Nat) (a0_0 : Bool) (a0_1 : ByteArray) (a0_2 : ByteArray) (a1 : Int) (a2 : ByteArray) (a3_0 : ByteArray) (a3_1 : ByteArray) (a3_2 : Bool) (a3_3 : Bool) (A3_4 : Option Addr) (c3_4 : Nat) (l3_4 : List (S48)) (r : Bool) (w : World) (ht : TB w) (hr3_4 : Kd.C k48 w A3_4 l3_4.length l3_4) (hc3_4 : l3_4.length ≤ c3_4) (h : idiomlaw04_OperandShown.f k a0_0 a0_1 a0_2 a1 a2 a3_0 a3_1 a3_2 a3_3 l3_4 = some r) :
    Calls Tryz.prog 4 #[.agg #[.bool a0_0, .string a0_1, .string a0_2], .int .i64 a1, .string a2, .agg #[.string a3_0, .string a3_1, .bool a3_2, .bool a3_3, .slice A3_4 l3_4.length c3_4]] w fun e w' => e = .returned (.bool r) ∧ Below w.heap.size w w' := by
 have hu23 := Tryz.underlying23
 have hu28 := Tryz.underlying28
 have hu25 := Tryz.underlying25
 have HR3_4 := Aside0.mk hr3_4
 have HC3_4 := Aside0.mk hc3_4
 clear hr3_4 hc3_4
 have HTB := Aside0.mk ht
 clear ht
 have HB := Aside0.mk (Below.refl w.heap.size w)
 unfold idiomlaw04_OperandShown.f at h
 have H := h
 clear h
 replace H := Option.bind_eq_some_iff.mp H
 obtain ⟨⟨t647, t648, t649, t650, t651, t652, t653, t654, t655, t656⟩, A50, H⟩ := H
 try dsimp only at H
 have A5 := Aside0.mk A50
 clear A50
 replace H := Option.bind_eq_some_iff.mp H
 obtain ⟨⟨t658, t659, t660, t661, t662, t663, t664, t665, t666, t667⟩, A60, H⟩ := H
 try dsimp only at H
 have A6 := Aside0.mk A60
 clear A60
 have HC7 := Aside0.mk H
 clear H
 go_enter Tryz.func4, Tryz.ntmps4
 go_upto_region 3 with (first | ((with_reducible refine gate_dst (N := 4) rfl ?_); refine bx_ #[.bool a0_0, .string a0_1, .string a0_2] 23 ?_; intro gb645 hg w8 hbox hb; have BK645 := Aside0.mk (hbox); have GW645 := ge_ (w := w) hg; have GE645 := ge_ (w := w) hg; replace HB := Aside0.mk (below_step hb_ hb); clear hb hbox hg) | ((with_reducible refine gate_dst (N := 7) rfl ?_); refine bx_ #[.string a3_0, .string a3_1, .bool a3_2, .bool a3_3, .slice A3_4 l3_4.length c3_4] 28 ?_; intro gb646 hg w9 hbox hb; have BK646 := Aside0.mk (hbox); have GW646 := ge_ (w := w) hg; have GE646 := ge_ (w := w) hg; have NB645_646 := BK645.nl hg; have NB646_645 := BK645.ng hg; replace BK645 := BK645.bl hb; replace HB := Aside0.mk (below_step hb_ hb); clear hb hbox hg; have hnb10 := NB645_646.out; have hnc10 := NB646_645.out; obtain ⟨hcz11_0, hcz11_1, hcz11_2, hfz11_0, hfz11_1, hfz11_2⟩ := BK645.c3) | ((with_reducible refine gate_callee (f := 13) rfl ?_); refine gL_ (some 27) Tryz.func13 #[.agg #[.bool a0_0, .string a0_1, .string a0_2], .int .i64 a1] ?_; (with_reducible refine (operand_Of.calls k a0_0 a0_1 a0_2 a1 t647 t648 t649 t650 t651 t652 t653 t654 t655 t656 _ A5.out).mono ?_); rintro e w12 ⟨rfl, hb⟩; refine ⟨_, rfl, ?_⟩; replace BK645 := BK645.bl hb; replace BK646 := BK646.bl hb; replace HB := Aside0.mk (below_step hb_ hb)) | ((with_reducible refine gate_dst (N := 9) rfl ?_); refine bx_ #[.bool false, .string (⟨#[]⟩ : ByteArray), .string (⟨#[]⟩ : ByteArray), .string (⟨#[]⟩ : ByteArray), .int .i64 0, .int .i64 0, .string (⟨#[]⟩ : ByteArray), .string (⟨#[]⟩ : ByteArray), .int .i64 0] 25 ?_; intro gb657 hg w13 hbox hb; have BK657 := Aside0.mk (hbox); have GW657 := ge_ (w := w) hg; have GE657 := ge_ (w := w) hg; have NB645_657 := BK645.nl hg; have NB657_645 := BK645.ng hg; have NB646_657 := BK646.nl hg; have NB657_646 := BK646.ng hg; replace BK645 := BK645.bl hb; replace BK646 := BK646.bl hb; replace HB := Aside0.mk (below_step hb_ hb); clear hb hbox hg; have hnb14 := NB657_645.out; have hnc14 := NB645_657.out; have hnb15 := NB657_646.out; have hnc15 := NB646_657.out; obtain ⟨hcz16_0, hcz16_1, hcz16_2, hcz16_3, hcz16_4, hcz16_5, hcz16_6, hcz16_7, hcz16_8, hfz16_0, hfz16_1, hfz16_2, hfz16_3, hfz16_4, hfz16_5, hfz16_6, hfz16_7, hfz16_8⟩ := BK657.c9; obtain ⟨hcz17_0, hcz17_1, hcz17_2, hfz17_0, hfz17_1, hfz17_2⟩ := BK645.c3) | ((with_reducible refine gate_callee (f := 14) rfl ?_); refine gL_ (some 33) Tryz.func14 #[.agg #[.bool a0_0, .string a0_1, .string a0_2], .int .i64 a1] ?_; (with_reducible refine (idiomref04_Of.calls k a0_0 a0_1 a0_2 a1 t658 t659 t660 t661 t662 t663 t664 t665 t666 t667 _ A6.out).mono ?_); rintro e w18 ⟨rfl, hb⟩; refine ⟨_, rfl, ?_⟩; replace BK645 := Aside0.mk (blk_below (g := gb645) (o := .cells #[.bool a0_0, .string a0_1, .string a0_2] 23 (0, 0)) (by refine far3_ ?_ NB645_657.out; refine far3_ ?_ NB645_657.out; refine far3_ ?_ NB645_657.out; exact BK645.out) hb); replace BK646 := Aside0.mk (blk_below (g := gb646) (o := .cells #[.string a3_0, .string a3_1, .bool a3_2, .bool a3_3, .slice A3_4 l3_4.length c3_4] 28 (0, 0)) (by refine far3_ ?_ NB646_657.out; refine far3_ ?_ NB646_657.out; refine far3_ ?_ NB646_657.out; exact BK646.out) hb); replace BK657 := Aside0.mk (blk_below (g := gb657) (o := .cells #[.bool t647, .string t648, .string t649, .string t650, .int .i64 t651, .int .i64 t652, .string t653, .string t654, .int .i64 t655] 25 (0, 0)) (by refine put9_ (cs := #[.bool false, .string (⟨#[]⟩ : ByteArray), .string (⟨#[]⟩ : ByteArray), .string (⟨#[]⟩ : ByteArray), .int .i64 0, .int .i64 0, .string (⟨#[]⟩ : ByteArray), .string (⟨#[]⟩ : ByteArray), .int .i64 0]) ?_; exact BK657.out) hb); replace HB := Aside0.mk (below_step hb_ hb)) | ((with_reducible refine gate_dst (N := 11) rfl ?_); refine bx_ #[.bool false, .string (⟨#[]⟩ : ByteArray), .string (⟨#[]⟩ : ByteArray), .string (⟨#[]⟩ : ByteArray), .int .i64 0, .int .i64 0, .string (⟨#[]⟩ : ByteArray), .string (⟨#[]⟩ : ByteArray), .int .i64 0] 25 ?_; intro gb668 hg w19 hbox hb; have BK668 := Aside0.mk (hbox); have GW668 := ge_ (w := w) hg; have GE668 := ge_ (w := w) hg; have NB645_668 := BK645.nl hg; have NB668_645 := BK645.ng hg; have NB646_668 := BK646.nl hg; have NB668_646 := BK646.ng hg; have NB657_668 := BK657.nl hg; have NB668_657 := BK657.ng hg; replace BK645 := BK645.bl hb; replace BK646 := BK646.bl hb; replace BK657 := BK657.bl hb; replace HB := Aside0.mk (below_step hb_ hb); clear hb hbox hg; have hnb20 := NB668_645.out; have hnc20 := NB645_668.out; have hnb21 := NB668_646.out; have hnc21 := NB646_668.out; have hnb22 := NB668_657.out; have hnc22 := NB657_668.out; obtain ⟨hcz23_0, hcz23_1, hcz23_2, hcz23_3, hcz23_4, hcz23_5, hcz23_6, hcz23_7, hcz23_8, hfz23_0, hfz23_1, hfz23_2, hfz23_3, hfz23_4, hfz23_5, hfz23_6, hfz23_7, hfz23_8⟩ := BK668.c9))
 (try simp only [Act.put, List.setIfInBounds_toArray, List.set_cons_zero, List.set_cons_succ])
 go_cut [47] (fun v47 wc => ∃ (kq : Nat) (x47_6 : Bool), v47 = .bool x47_6 ∧ Aside0 (idiomlaw04_OperandShown.j0 kq a2 t656 x47_6 a3_0 a3_1 a3_2 a3_3 l3_4 t647 t648 t649 t650 t651 t652 t653 t654 t655 = some r) ∧ Aside0 (kq ≤ k) ∧ Aside0 (wc.heap[gb645]? = some (.cells #[.bool a0_0, .string a0_1, .string a0_2] 23 (0, 0))) ∧ Aside0 (wc.heap[gb646]? = some (.cells #[.string a3_0, .string a3_1, .bool a3_2, .bool a3_3, (.slice A3_4 l3_4.length c3_4)] 28 (0, 0))) ∧ Aside0 (wc.heap[gb657]? = some (.cells #[.bool t647, .string t648, .string t649, .string t650, .int .i64 t651, .int .i64 t652, .string t653, .string t654, .int .i64 t655] 25 (0, 0))) ∧ Aside0 (wc.heap[gb668]? = some (.cells #[.bool t658, .string t659, .string t660, .string t661, .int .i64 t662, .int .i64 t663, .string t664, .string t665, .int .i64 t666] 25 (0, 0))) ∧ Aside0 (Below w.heap.size w wc))
 case first =>
  have H := HC7.out
  clear HC7
  by_cases c24 : ((!(t647 == t658) || (!(t648.toList == t659.toList) || (!(t649.toList == t660.toList)))) || (!(t650.toList == t661.toList) || (!(t651 == t662) || (!(t652 == t663) || (!(t653.toList == t664.toList) || (!(t654.toList == t665.toList) || (!(t655 == t666)))))))) = true
  ·rw [if_pos c24] at H
   have c24b0 : ((!(t647 == t658) || (!(t648.toList == t659.toList) || (!(t649.toList == t660.toList)))) || (!(t650.toList == t661.toList) || (!(t651 == t662) || (!(t652 == t663) || (!(t653.toList == t664.toList) || (!(t654.toList == t665.toList) || (!(t655 == t666)))))))) = true := c24
   clear c24
   (first | rw [c24b0] | (simp only [i64_w, i32_w]; rw [c24b0]) | skip)
   have H' := Aside0.mk H
   clear H
   have hnb25 := NB657_645.out
   have hnc25 := NB645_657.out
   have hnb26 := NB657_646.out
   have hnc26 := NB646_657.out
   have hnb27 := NB657_668.out
   have hnc27 := NB668_657.out
   obtain ⟨hcz28_0, hcz28_1, hcz28_2, hcz28_3, hcz28_4, hcz28_5, hcz28_6, hcz28_7, hcz28_8, hfz28_0, hfz28_1, hfz28_2, hfz28_3, hfz28_4, hfz28_5, hfz28_6, hfz28_7, hfz28_8⟩ := BK657.c9
   have hnb29 := NB668_645.out
   have hnc29 := NB645_668.out
   have hnb30 := NB668_646.out
   have hnc30 := NB646_668.out
   obtain ⟨hcz31_0, hcz31_1, hcz31_2, hcz31_3, hcz31_4, hcz31_5, hcz31_6, hcz31_7, hcz31_8, hfz31_0, hfz31_1, hfz31_2, hfz31_3, hfz31_4, hfz31_5, hfz31_6, hfz31_7, hfz31_8⟩ := BK668.c9
   go_wp2
   go_meet
   case rel => exact ⟨_, (true), (by first | rfl | (simp; done) | (simp [*]; done)), H', ⟨by first | omega | exact Nat.le_refl _⟩, ⟨by refine far3_ ?_ NB645_668.out; refine far3_ ?_ NB645_668.out; refine far3_ ?_ NB645_668.out; exact BK645.out⟩, ⟨by refine far3_ ?_ NB646_668.out; refine far3_ ?_ NB646_668.out; refine far3_ ?_ NB646_668.out; exact BK646.out⟩, ⟨by refine far3_ ?_ NB657_668.out; refine far3_ ?_ NB657_668.out; refine far3_ ?_ NB657_668.out; exact BK657.out⟩, ⟨by refine put9_ (cs := #[.bool false, .string (⟨#[]⟩ : ByteArray), .string (⟨#[]⟩ : ByteArray), .string (⟨#[]⟩ : ByteArray), .int .i64 0, .int .i64 0, .string (⟨#[]⟩ : ByteArray), .string (⟨#[]⟩ : ByteArray), .int .i64 0]) ?_; exact BK668.out⟩, ⟨hb_⟩⟩
  ·rw [if_neg c24] at H
   have c24b0 : ((!(t647 == t658) || (!(t648.toList == t659.toList) || (!(t649.toList == t660.toList)))) || (!(t650.toList == t661.toList) || (!(t651 == t662) || (!(t652 == t663) || (!(t653.toList == t664.toList) || (!(t654.toList == t665.toList) || (!(t655 == t666)))))))) = false := by simpa using c24
   clear c24
   (first | rw [c24b0] | (simp only [i64_w, i32_w]; rw [c24b0]) | skip)
   by_cases c32 : t656 = t667
   ·rw [if_pos c32] at H
    have c32b0 : (t656 == t667) = true := beq_iff_eq.mpr c32
    have c32b1 : (t656 != t667) = false := bne_eq_false_iff_eq.mpr c32
    clear c32
    replace H := Option.bind_eq_some_iff.mp H
    obtain ⟨t669, A330, H⟩ := H
    try dsimp only at H
    have A33 := Aside0.mk A330
    clear A330
    have H' := Aside0.mk H
    clear H
    have hnb34 := NB657_645.out
    have hnc34 := NB645_657.out
    have hnb35 := NB657_646.out
    have hnc35 := NB646_657.out
    have hnb36 := NB657_668.out
    have hnc36 := NB668_657.out
    obtain ⟨hcz37_0, hcz37_1, hcz37_2, hcz37_3, hcz37_4, hcz37_5, hcz37_6, hcz37_7, hcz37_8, hfz37_0, hfz37_1, hfz37_2, hfz37_3, hfz37_4, hfz37_5, hfz37_6, hfz37_7, hfz37_8⟩ := BK657.c9
    have hnb38 := NB668_645.out
    have hnc38 := NB645_668.out
    have hnb39 := NB668_646.out
    have hnc39 := NB646_668.out
    obtain ⟨hcz40_0, hcz40_1, hcz40_2, hcz40_3, hcz40_4, hcz40_5, hcz40_6, hcz40_7, hcz40_8, hfz40_0, hfz40_1, hfz40_2, hfz40_3, hfz40_4, hfz40_5, hfz40_6, hfz40_7, hfz40_8⟩ := BK668.c9
    go_wp2_with (first | (go_at_call 7; (with_reducible refine (idiomlaw04_awake.calls k  t669 _ (TB.below HTB.out hb_) A33.out).mono ?_); rintro e w41 ⟨rfl, hb⟩; replace BK645 := Aside0.mk (blk_below (g := gb645) (o := .cells #[.bool a0_0, .string a0_1, .string a0_2] 23 (0, 0)) (by refine far3_ ?_ NB645_668.out; refine far3_ ?_ NB645_668.out; refine far3_ ?_ NB645_668.out; exact BK645.out) hb); replace BK646 := Aside0.mk (blk_below (g := gb646) (o := .cells #[.string a3_0, .string a3_1, .bool a3_2, .bool a3_3, .slice A3_4 l3_4.length c3_4] 28 (0, 0)) (by refine far3_ ?_ NB646_668.out; refine far3_ ?_ NB646_668.out; refine far3_ ?_ NB646_668.out; exact BK646.out) hb); replace BK657 := Aside0.mk (blk_below (g := gb657) (o := .cells #[.bool t647, .string t648, .string t649, .string t650, .int .i64 t651, .int .i64 t652, .string t653, .string t654, .int .i64 t655] 25 (0, 0)) (by refine far3_ ?_ NB657_668.out; refine far3_ ?_ NB657_668.out; refine far3_ ?_ NB657_668.out; exact BK657.out) hb); replace BK668 := Aside0.mk (blk_below (g := gb668) (o := .cells #[.bool t658, .string t659, .string t660, .string t661, .int .i64 t662, .int .i64 t663, .string t664, .string t665, .int .i64 t666] 25 (0, 0)) (by refine put9_ (cs := #[.bool false, .string (⟨#[]⟩ : ByteArray), .string (⟨#[]⟩ : ByteArray), .string (⟨#[]⟩ : ByteArray), .int .i64 0, .int .i64 0, .string (⟨#[]⟩ : ByteArray), .string (⟨#[]⟩ : ByteArray), .int .i64 0]) ?_; exact BK668.out) hb); replace HB := Aside0.mk (below_step hb_ hb)))
    go_meet
    case rel => exact ⟨_, (!t669), (by first | rfl | (simp; done) | (simp [*]; done)), H', ⟨by first | omega | exact Nat.le_refl _⟩, ⟨by exact BK645.out⟩, ⟨by exact BK646.out⟩, ⟨by exact BK657.out⟩, ⟨by exact BK668.out⟩, ⟨hb_⟩⟩
   ·rw [if_neg c32] at H
    have c32b0 : (t656 == t667) = false := beq_eq_false_iff_ne.mpr c32
    have c32b1 : (t656 != t667) = true := bne_iff_ne.mpr c32
    have H' := Aside0.mk H
    clear H
    have hnb42 := NB657_645.out
    have hnc42 := NB645_657.out
    have hnb43 := NB657_646.out
    have hnc43 := NB646_657.out
    have hnb44 := NB657_668.out
    have hnc44 := NB668_657.out
    obtain ⟨hcz45_0, hcz45_1, hcz45_2, hcz45_3, hcz45_4, hcz45_5, hcz45_6, hcz45_7, hcz45_8, hfz45_0, hfz45_1, hfz45_2, hfz45_3, hfz45_4, hfz45_5, hfz45_6, hfz45_7, hfz45_8⟩ := BK657.c9
    have hnb46 := NB668_645.out
    have hnc46 := NB645_668.out
    have hnb47 := NB668_646.out
    have hnc47 := NB646_668.out
    obtain ⟨hcz48_0, hcz48_1, hcz48_2, hcz48_3, hcz48_4, hcz48_5, hcz48_6, hcz48_7, hcz48_8, hfz48_0, hfz48_1, hfz48_2, hfz48_3, hfz48_4, hfz48_5, hfz48_6, hfz48_7, hfz48_8⟩ := BK668.c9
    go_wp2
    go_meet
    case rel => exact ⟨_, (true), (by first | rfl | (simp; done) | (simp [*]; done)), H', ⟨by first | omega | exact Nat.le_refl _⟩, ⟨by refine far3_ ?_ NB645_668.out; refine far3_ ?_ NB645_668.out; refine far3_ ?_ NB645_668.out; exact BK645.out⟩, ⟨by refine far3_ ?_ NB646_668.out; refine far3_ ?_ NB646_668.out; refine far3_ ?_ NB646_668.out; exact BK646.out⟩, ⟨by refine far3_ ?_ NB657_668.out; refine far3_ ?_ NB657_668.out; refine far3_ ?_ NB657_668.out; exact BK657.out⟩, ⟨by refine put9_ (cs := #[.bool false, .string (⟨#[]⟩ : ByteArray), .string (⟨#[]⟩ : ByteArray), .string (⟨#[]⟩ : ByteArray), .int .i64 0, .int .i64 0, .string (⟨#[]⟩ : ByteArray), .string (⟨#[]⟩ : ByteArray), .int .i64 0]) ?_; exact BK668.out⟩, ⟨hb_⟩⟩
 case rest =>
  clear HC7
  (try clear hcz11_0); (try clear hcz11_1); (try clear hcz11_2); (try clear hcz16_0); (try clear hcz16_1); (try clear hcz16_2); (try clear hcz16_3); (try clear hcz16_4); (try clear hcz16_5); (try clear hcz16_6); (try clear hcz16_7); (try clear hcz16_8); (try clear hcz17_0); (try clear hcz17_1); (try clear hcz17_2); (try clear hcz23_0); (try clear hcz23_1); (try clear hcz23_2); (try clear hcz23_3); (try clear hcz23_4); (try clear hcz23_5); (try clear hcz23_6); (try clear hcz23_7); (try clear hcz23_8); (try clear hfz11_0); (try clear hfz11_1); (try clear hfz11_2); (try clear hfz16_0); (try clear hfz16_1); (try clear hfz16_2); (try clear hfz16_3); (try clear hfz16_4); (try clear hfz16_5); (try clear hfz16_6); (try clear hfz16_7); (try clear hfz16_8); (try clear hfz17_0); (try clear hfz17_1); (try clear hfz17_2); (try clear hfz23_0); (try clear hfz23_1); (try clear hfz23_2); (try clear hfz23_3); (try clear hfz23_4); (try clear hfz23_5); (try clear hfz23_6); (try clear hfz23_7); (try clear hfz23_8)
  obtain ⟨kq, x47_6, rfl, HA, HJ6, BK645, BK646, BK657, BK668, HB⟩ := hcut
  cases kq with
  | zero => exact absurd HA.out (by simp [idiomlaw04_OperandShown.j0])
  | succ kj6 =>
   have H := HA.out
   clear HA
   simp only [idiomlaw04_OperandShown.j0] at H
   by_cases c49 : x47_6 = true
   ·subst c49
    have H1 : (some false) = some r := by rw [if_pos rfl] at H; exact H
    clear H
    have H := H1
    clear H1
    obtain rfl := Option.some.inj H
    go_wp2
    go_ret
    exact fin_
   ·replace c49 := Bool.eq_false_iff.mpr c49
    subst c49
    have H1 : (if t656 = 0 then (idiomlaw04_OperandShown.l0 kj6 a2 0 a3_0 a3_1 a3_2 a3_3 l3_4 t647 t648 t649 t650 t651 t652 t653 t654 t655) else (some true)) = some r := by rw [if_neg (show ¬ (false = true) by decide)] at H; exact H
    clear H
    have H := H1
    clear H1
    by_cases c50 : t656 = 0
    ·rw [if_pos c50] at H
     have c50b0 : (t656 == 0) = true := beq_iff_eq.mpr c50
     have c50b1 : (t656 != 0) = false := bne_eq_false_iff_eq.mpr c50
     clear c50
     have H' := Aside0.mk H
     clear H
     go_wp2
     go_loopg [13] kj6 (fun kq v13 w' => ∃ (x13_2 : Int), v13 = .int .i64 x13_2 ∧ Aside0 (idiomlaw04_OperandShown.l0 kq a2 x13_2 a3_0 a3_1 a3_2 a3_3 l3_4 t647 t648 t649 t650 t651 t652 t653 t654 t655 = some r) ∧ Aside0 (kq ≤ kj6) ∧ Aside0 (w'.heap[gb645]? = some (.cells #[.bool a0_0, .string a0_1, .string a0_2] 23 (0, 0))) ∧ Aside0 (w'.heap[gb646]? = some (.cells #[.string a3_0, .string a3_1, .bool a3_2, .bool a3_3, (.slice A3_4 l3_4.length c3_4)] 28 (0, 0))) ∧ Aside0 (w'.heap[gb657]? = some (.cells #[.bool t647, .string t648, .string t649, .string t650, .int .i64 t651, .int .i64 t652, .string t653, .string t654, .int .i64 t655] 25 (0, 0))) ∧ Aside0 (w'.heap[gb668]? = some (.cells #[.bool t658, .string t659, .string t660, .string t661, .int .i64 t662, .int .i64 t663, .string t664, .string t665, .int .i64 t666] 25 (0, 0))) ∧ Aside0 (Below w.heap.size w w'))
     case atStart => exact ⟨(0), (by first | rfl | (simp; done) | (simp [*]; done)), H', ⟨Nat.le_refl _⟩, ⟨by exact BK645.out⟩, ⟨by exact BK646.out⟩, ⟨by exact BK657.out⟩, ⟨by exact BK668.out⟩, ⟨hb_⟩⟩
     case round =>
      clear H'
      (try clear c49); (try clear c50); (try clear c50b0); (try clear c50b1); (try clear hcz11_0); (try clear hcz11_1); (try clear hcz11_2); (try clear hcz16_0); (try clear hcz16_1); (try clear hcz16_2); (try clear hcz16_3); (try clear hcz16_4); (try clear hcz16_5); (try clear hcz16_6); (try clear hcz16_7); (try clear hcz16_8); (try clear hcz17_0); (try clear hcz17_1); (try clear hcz17_2); (try clear hcz23_0); (try clear hcz23_1); (try clear hcz23_2); (try clear hcz23_3); (try clear hcz23_4); (try clear hcz23_5); (try clear hcz23_6); (try clear hcz23_7); (try clear hcz23_8); (try clear hfz11_0); (try clear hfz11_1); (try clear hfz11_2); (try clear hfz16_0); (try clear hfz16_1); (try clear hfz16_2); (try clear hfz16_3); (try clear hfz16_4); (try clear hfz16_5); (try clear hfz16_6); (try clear hfz16_7); (try clear hfz16_8); (try clear hfz17_0); (try clear hfz17_1); (try clear hfz17_2); (try clear hfz23_0); (try clear hfz23_1); (try clear hfz23_2); (try clear hfz23_3); (try clear hfz23_4); (try clear hfz23_5); (try clear hfz23_6); (try clear hfz23_7); (try clear hfz23_8)
      obtain ⟨x13_2, rfl, HA, HK2, BK645, BK646, BK657, BK668, HB⟩ := hrel
      cases gk with
      | zero => exact absurd HA.out (by simp [idiomlaw04_OperandShown.l0])
      | succ k2 =>
       have H := HA.out
       clear HA
       simp only [idiomlaw04_OperandShown.l0] at H
       by_cases c51 : x13_2 < 8
       ·rw [if_pos c51] at H
        have c51b0 : decide (x13_2 < 8) = true := decide_eq_true c51
        clear c51
        by_cases c52 : 0 ≤ x13_2
        ·rw [if_pos c52] at H
         have c52b0 := eq_true c52
         have c52b1 : decide (0 ≤ x13_2) = true := decide_eq_true c52
         clear c52
         by_cases c53 : x13_2 ≤ (wrap64 (x13_2 + 1))
         ·rw [if_pos c53] at H
          have c53b0 := eq_true c53
          have c53b1 : decide (x13_2 ≤ (wrap64 (x13_2 + 1))) = true := decide_eq_true c53
          by_cases c54 : (wrap64 (x13_2 + 1)) ≤ 8
          ·rw [if_pos c54] at H
           have c54b0 := eq_true c54
           have c54b1 : decide ((wrap64 (x13_2 + 1)) ≤ 8) = true := decide_eq_true c54
           replace H := Option.bind_eq_some_iff.mp H
           obtain ⟨⟨t670, t671, t672, t673⟩, A550, H⟩ := H
           try dsimp only at H
           have A55 := Aside0.mk A550
           clear A550
           replace H := Option.bind_eq_some_iff.mp H
           obtain ⟨⟨t675, t676, t677, t678⟩, A560, H⟩ := H
           try dsimp only at H
           have A56 := Aside0.mk A560
           clear A560
           have HC57 := Aside0.mk H
           clear H
           have hnb58 := NB657_645.out
           have hnc58 := NB645_657.out
           have hnb59 := NB657_646.out
           have hnc59 := NB646_657.out
           have hnb60 := NB657_668.out
           have hnc60 := NB668_657.out
           obtain ⟨hcz61_0, hcz61_1, hcz61_2, hcz61_3, hcz61_4, hcz61_5, hcz61_6, hcz61_7, hcz61_8, hfz61_0, hfz61_1, hfz61_2, hfz61_3, hfz61_4, hfz61_5, hfz61_6, hfz61_7, hfz61_8⟩ := BK657.c9
           go_upto_region 13 with (first | ((with_reducible refine gate_callee (f := 8) rfl ?_); refine gL_ (some 62) Tryz.func8 #[.agg #[.bool t647, .string t648, .string t649, .string t650, .int .i64 t651, .int .i64 t652, .string t653, .string t654, .int .i64 t655], .string ((⟨#[110, 105, 118, 119, 102, 116, 99, 101]⟩ : ByteArray).extract (x13_2 : Int).toNat ((wrap64 (x13_2 + 1)) : Int).toNat), .string a2] ?_; (with_reducible refine (operand_Mod.calls k2 t647 t648 t649 t650 t651 t652 t653 t654 t655 ((⟨#[110, 105, 118, 119, 102, 116, 99, 101]⟩ : ByteArray).extract (x13_2 : Int).toNat ((wrap64 (x13_2 + 1)) : Int).toNat) a2 t670 t671 t672 t673 _ (TB.below HTB.out hb_) A55.out).mono ?_); rintro e w62 ⟨rfl, hb⟩; refine ⟨_, rfl, ?_⟩; replace BK645 := BK645.bl hb; replace BK646 := BK646.bl hb; replace BK657 := BK657.bl hb; replace BK668 := BK668.bl hb; replace HB := Aside0.mk (below_step hb_ hb)) | ((with_reducible refine gate_dst (N := 15) rfl ?_); refine bx_ #[.bool false, .string (⟨#[]⟩ : ByteArray), .string (⟨#[]⟩ : ByteArray)] 23 ?_; intro gb674 hg w63 hbox hb; have BK674 := Aside0.mk (hbox); have GW674 := ge_ (w := w) hg; have GE674 := ge_ (w := w) hg; have NB645_674 := BK645.nl hg; have NB674_645 := BK645.ng hg; have NB646_674 := BK646.nl hg; have NB674_646 := BK646.ng hg; have NB657_674 := BK657.nl hg; have NB674_657 := BK657.ng hg; have NB668_674 := BK668.nl hg; have NB674_668 := BK668.ng hg; replace BK645 := BK645.bl hb; replace BK646 := BK646.bl hb; replace BK657 := BK657.bl hb; replace BK668 := BK668.bl hb; replace HB := Aside0.mk (below_step hb_ hb); clear hb hbox hg; have hnb64 := NB674_645.out; have hnc64 := NB645_674.out; have hnb65 := NB674_646.out; have hnc65 := NB646_674.out; have hnb66 := NB674_657.out; have hnc66 := NB657_674.out; have hnb67 := NB674_668.out; have hnc67 := NB668_674.out; obtain ⟨hcz68_0, hcz68_1, hcz68_2, hfz68_0, hfz68_1, hfz68_2⟩ := BK674.c3; obtain ⟨hcz69_0, hcz69_1, hcz69_2, hcz69_3, hcz69_4, hcz69_5, hcz69_6, hcz69_7, hcz69_8, hfz69_0, hfz69_1, hfz69_2, hfz69_3, hfz69_4, hfz69_5, hfz69_6, hfz69_7, hfz69_8⟩ := BK657.c9) | ((with_reducible refine gate_callee (f := 9) rfl ?_); refine gL_ (some 69) Tryz.func9 #[.agg #[.bool t647, .string t648, .string t649, .string t650, .int .i64 t651, .int .i64 t652, .string t653, .string t654, .int .i64 t655], .string ((⟨#[110, 105, 118, 119, 102, 116, 99, 101]⟩ : ByteArray).extract (x13_2 : Int).toNat ((wrap64 (x13_2 + 1)) : Int).toNat), .string a2] ?_; (with_reducible refine (idiomref04_Mod.calls k2 t647 t648 t649 t650 t651 t652 t653 t654 t655 ((⟨#[110, 105, 118, 119, 102, 116, 99, 101]⟩ : ByteArray).extract (x13_2 : Int).toNat ((wrap64 (x13_2 + 1)) : Int).toNat) a2 t675 t676 t677 t678 _ (TB.below HTB.out hb_) A56.out).mono ?_); rintro e w70 ⟨rfl, hb⟩; refine ⟨_, rfl, ?_⟩; replace BK645 := Aside0.mk (blk_below (g := gb645) (o := .cells #[.bool a0_0, .string a0_1, .string a0_2] 23 (0, 0)) (by refine far3_ ?_ NB645_674.out; exact BK645.out) hb); replace BK646 := Aside0.mk (blk_below (g := gb646) (o := .cells #[.string a3_0, .string a3_1, .bool a3_2, .bool a3_3, .slice A3_4 l3_4.length c3_4] 28 (0, 0)) (by refine far3_ ?_ NB646_674.out; exact BK646.out) hb); replace BK657 := Aside0.mk (blk_below (g := gb657) (o := .cells #[.bool t647, .string t648, .string t649, .string t650, .int .i64 t651, .int .i64 t652, .string t653, .string t654, .int .i64 t655] 25 (0, 0)) (by refine far3_ ?_ NB657_674.out; exact BK657.out) hb); replace BK668 := Aside0.mk (blk_below (g := gb668) (o := .cells #[.bool t658, .string t659, .string t660, .string t661, .int .i64 t662, .int .i64 t663, .string t664, .string t665, .int .i64 t666] 25 (0, 0)) (by refine far3_ ?_ NB668_674.out; exact BK668.out) hb); replace BK674 := Aside0.mk (blk_below (g := gb674) (o := .cells #[.bool t670, .string t671, .string t672] 23 (0, 0)) (by refine put3_ (cs := #[.bool false, .string (⟨#[]⟩ : ByteArray), .string (⟨#[]⟩ : ByteArray)]) ?_; exact BK674.out) hb); replace HB := Aside0.mk (below_step hb_ hb)) | ((with_reducible refine gate_dst (N := 17) rfl ?_); refine bx_ #[.bool false, .string (⟨#[]⟩ : ByteArray), .string (⟨#[]⟩ : ByteArray)] 23 ?_; intro gb679 hg w71 hbox hb; have BK679 := Aside0.mk (hbox); have GW679 := ge_ (w := w) hg; have GE679 := ge_ (w := w) hg; have NB645_679 := BK645.nl hg; have NB679_645 := BK645.ng hg; have NB646_679 := BK646.nl hg; have NB679_646 := BK646.ng hg; have NB657_679 := BK657.nl hg; have NB679_657 := BK657.ng hg; have NB668_679 := BK668.nl hg; have NB679_668 := BK668.ng hg; have NB674_679 := BK674.nl hg; have NB679_674 := BK674.ng hg; replace BK645 := BK645.bl hb; replace BK646 := BK646.bl hb; replace BK657 := BK657.bl hb; replace BK668 := BK668.bl hb; replace BK674 := BK674.bl hb; replace HB := Aside0.mk (below_step hb_ hb); clear hb hbox hg; have hnb72 := NB679_645.out; have hnc72 := NB645_679.out; have hnb73 := NB679_646.out; have hnc73 := NB646_679.out; have hnb74 := NB679_657.out; have hnc74 := NB657_679.out; have hnb75 := NB679_668.out; have hnc75 := NB668_679.out; have hnb76 := NB679_674.out; have hnc76 := NB674_679.out; obtain ⟨hcz77_0, hcz77_1, hcz77_2, hfz77_0, hfz77_1, hfz77_2⟩ := BK679.c3))
           (try simp only [Act.put, List.setIfInBounds_toArray, List.set_cons_zero, List.set_cons_succ])
           go_cut [79] (fun v79 wc => ∃ (kq : Nat) (x79_56 : Bool), v79 = .bool x79_56 ∧ Aside0 (idiomlaw04_OperandShown.j2 kq a2 x13_2 ((⟨#[110, 105, 118, 119, 102, 116, 99, 101]⟩ : ByteArray).extract (x13_2 : Int).toNat ((wrap64 (x13_2 + 1)) : Int).toNat) x79_56 a3_0 a3_1 a3_2 a3_3 l3_4 t647 t648 t649 t650 t651 t652 t653 t654 t655 = some r) ∧ Aside0 (kq ≤ k2) ∧ Aside0 (wc.heap[gb645]? = some (.cells #[.bool a0_0, .string a0_1, .string a0_2] 23 (0, 0))) ∧ Aside0 (wc.heap[gb646]? = some (.cells #[.string a3_0, .string a3_1, .bool a3_2, .bool a3_3, (.slice A3_4 l3_4.length c3_4)] 28 (0, 0))) ∧ Aside0 (wc.heap[gb657]? = some (.cells #[.bool t647, .string t648, .string t649, .string t650, .int .i64 t651, .int .i64 t652, .string t653, .string t654, .int .i64 t655] 25 (0, 0))) ∧ Aside0 (wc.heap[gb668]? = some (.cells #[.bool t658, .string t659, .string t660, .string t661, .int .i64 t662, .int .i64 t663, .string t664, .string t665, .int .i64 t666] 25 (0, 0))) ∧ Aside0 (wc.heap[gb674]? = some (.cells #[.bool t670, .string t671, .string t672] 23 (0, 0))) ∧ Aside0 (wc.heap[gb679]? = some (.cells #[.bool t675, .string t676, .string t677] 23 (0, 0))) ∧ Aside0 (Below w.heap.size w wc))
           case first =>
            have H := HC57.out
            clear HC57
            by_cases c78 : (!(t670 == t675) || (!(t671.toList == t676.toList) || (!(t672.toList == t677.toList)))) = true
            ·rw [if_pos c78] at H
             have c78b0 : (!(t670 == t675) || (!(t671.toList == t676.toList) || (!(t672.toList == t677.toList)))) = true := c78
             clear c78
             (first | rw [c78b0] | (simp only [i64_w, i32_w]; rw [c78b0]) | skip)
             have H' := Aside0.mk H
             clear H
             have hnb79 := NB674_645.out
             have hnc79 := NB645_674.out
             have hnb80 := NB674_646.out
             have hnc80 := NB646_674.out
             have hnb81 := NB674_657.out
             have hnc81 := NB657_674.out
             have hnb82 := NB674_668.out
             have hnc82 := NB668_674.out
             have hnb83 := NB674_679.out
             have hnc83 := NB679_674.out
             obtain ⟨hcz84_0, hcz84_1, hcz84_2, hfz84_0, hfz84_1, hfz84_2⟩ := BK674.c3
             have hnb85 := NB679_645.out
             have hnc85 := NB645_679.out
             have hnb86 := NB679_646.out
             have hnc86 := NB646_679.out
             have hnb87 := NB679_657.out
             have hnc87 := NB657_679.out
             have hnb88 := NB679_668.out
             have hnc88 := NB668_679.out
             obtain ⟨hcz89_0, hcz89_1, hcz89_2, hfz89_0, hfz89_1, hfz89_2⟩ := BK679.c3
             go_wp2
             go_meet
             case rel => exact ⟨_, (true), (by first | rfl | (simp; done) | (simp [*]; done)), H', ⟨by have := HJ6.out; have := HK2.out; first | omega | exact Nat.le_refl _⟩, ⟨by refine far3_ ?_ NB645_679.out; exact BK645.out⟩, ⟨by refine far3_ ?_ NB646_679.out; exact BK646.out⟩, ⟨by refine far3_ ?_ NB657_679.out; exact BK657.out⟩, ⟨by refine far3_ ?_ NB668_679.out; exact BK668.out⟩, ⟨by refine far3_ ?_ NB674_679.out; exact BK674.out⟩, ⟨by refine put3_ (cs := #[.bool false, .string (⟨#[]⟩ : ByteArray), .string (⟨#[]⟩ : ByteArray)]) ?_; exact BK679.out⟩, ⟨hb_⟩⟩
            ·rw [if_neg c78] at H
             have c78b0 : (!(t670 == t675) || (!(t671.toList == t676.toList) || (!(t672.toList == t677.toList)))) = false := by simpa using c78
             clear c78
             (first | rw [c78b0] | (simp only [i64_w, i32_w]; rw [c78b0]) | skip)
             have H' := Aside0.mk H
             clear H
             have hnb90 := NB674_645.out
             have hnc90 := NB645_674.out
             have hnb91 := NB674_646.out
             have hnc91 := NB646_674.out
             have hnb92 := NB674_657.out
             have hnc92 := NB657_674.out
             have hnb93 := NB674_668.out
             have hnc93 := NB668_674.out
             have hnb94 := NB674_679.out
             have hnc94 := NB679_674.out
             obtain ⟨hcz95_0, hcz95_1, hcz95_2, hfz95_0, hfz95_1, hfz95_2⟩ := BK674.c3
             have hnb96 := NB679_645.out
             have hnc96 := NB645_679.out
             have hnb97 := NB679_646.out
             have hnc97 := NB646_679.out
             have hnb98 := NB679_657.out
             have hnc98 := NB657_679.out
             have hnb99 := NB679_668.out
             have hnc99 := NB668_679.out
             obtain ⟨hcz100_0, hcz100_1, hcz100_2, hfz100_0, hfz100_1, hfz100_2⟩ := BK679.c3
             go_wp2
             go_meet
             case rel => exact ⟨_, ((t673 != t678)), (by first | rfl | (simp; done) | (simp [*]; done)), H', ⟨by have := HJ6.out; have := HK2.out; first | omega | exact Nat.le_refl _⟩, ⟨by refine far3_ ?_ NB645_679.out; exact BK645.out⟩, ⟨by refine far3_ ?_ NB646_679.out; exact BK646.out⟩, ⟨by refine far3_ ?_ NB657_679.out; exact BK657.out⟩, ⟨by refine far3_ ?_ NB668_679.out; exact BK668.out⟩, ⟨by refine far3_ ?_ NB674_679.out; exact BK674.out⟩, ⟨by refine put3_ (cs := #[.bool false, .string (⟨#[]⟩ : ByteArray), .string (⟨#[]⟩ : ByteArray)]) ?_; exact BK679.out⟩, ⟨hb_⟩⟩
           case rest =>
            clear HC57
            (try clear c49); (try clear c50); (try clear c50b0); (try clear c50b1); (try clear c51); (try clear c51b0); (try clear c52); (try clear c52b0); (try clear c52b1); (try clear c53); (try clear c53b0); (try clear c53b1); (try clear c54); (try clear c54b0); (try clear c54b1); (try clear hcz11_0); (try clear hcz11_1); (try clear hcz11_2); (try clear hcz16_0); (try clear hcz16_1); (try clear hcz16_2); (try clear hcz16_3); (try clear hcz16_4); (try clear hcz16_5); (try clear hcz16_6); (try clear hcz16_7); (try clear hcz16_8); (try clear hcz17_0); (try clear hcz17_1); (try clear hcz17_2); (try clear hcz23_0); (try clear hcz23_1); (try clear hcz23_2); (try clear hcz23_3); (try clear hcz23_4); (try clear hcz23_5); (try clear hcz23_6); (try clear hcz23_7); (try clear hcz23_8); (try clear hcz61_0); (try clear hcz61_1); (try clear hcz61_2); (try clear hcz61_3); (try clear hcz61_4); (try clear hcz61_5); (try clear hcz61_6); (try clear hcz61_7); (try clear hcz61_8); (try clear hcz68_0); (try clear hcz68_1); (try clear hcz68_2); (try clear hcz69_0); (try clear hcz69_1); (try clear hcz69_2); (try clear hcz69_3); (try clear hcz69_4); (try clear hcz69_5); (try clear hcz69_6); (try clear hcz69_7); (try clear hcz69_8); (try clear hcz77_0); (try clear hcz77_1); (try clear hcz77_2); (try clear hfz11_0); (try clear hfz11_1); (try clear hfz11_2); (try clear hfz16_0); (try clear hfz16_1); (try clear hfz16_2); (try clear hfz16_3); (try clear hfz16_4); (try clear hfz16_5); (try clear hfz16_6); (try clear hfz16_7); (try clear hfz16_8); (try clear hfz17_0); (try clear hfz17_1); (try clear hfz17_2); (try clear hfz23_0); (try clear hfz23_1); (try clear hfz23_2); (try clear hfz23_3); (try clear hfz23_4); (try clear hfz23_5); (try clear hfz23_6); (try clear hfz23_7); (try clear hfz23_8); (try clear hfz61_0); (try clear hfz61_1); (try clear hfz61_2); (try clear hfz61_3); (try clear hfz61_4); (try clear hfz61_5); (try clear hfz61_6); (try clear hfz61_7); (try clear hfz61_8); (try clear hfz68_0); (try clear hfz68_1); (try clear hfz68_2); (try clear hfz69_0); (try clear hfz69_1); (try clear hfz69_2); (try clear hfz69_3); (try clear hfz69_4); (try clear hfz69_5); (try clear hfz69_6); (try clear hfz69_7); (try clear hfz69_8); (try clear hfz77_0); (try clear hfz77_1); (try clear hfz77_2)
            obtain ⟨kq, x79_56, rfl, HA, HJ56, BK645, BK646, BK657, BK668, BK674, BK679, HB⟩ := hcut
            cases kq with
            | zero => exact absurd HA.out (by simp [idiomlaw04_OperandShown.j2])
            | succ kj56 =>
             have H := HA.out
             clear HA
             simp only [idiomlaw04_OperandShown.j2] at H
             by_cases c101 : x79_56 = true
             ·subst c101
              have H1 : (some false) = some r := by rw [if_pos rfl] at H; exact H
              clear H
              have H := H1
              clear H1
              obtain rfl := Option.some.inj H
              go_wp2
              go_ret
              exact fin_
             ·replace c101 := Bool.eq_false_iff.mpr c101
              subst c101
              have H1 : ((idiomlaw04_copied.f a3_0 a3_1 a3_2 a3_3 l3_4).bind fun bt680 => ((idiomlaw04_copied.f ((⟨#[110, 105, 118, 119, 102, 116, 99, 101]⟩ : ByteArray).extract (x13_2 : Int).toNat ((wrap64 (x13_2 + 1)) : Int).toNat) bt680.2.1 bt680.2.2.1 bt680.2.2.2.1 bt680.2.2.2.2).bind fun bt688 => ((operand_In.f kj56 t647 t648 t649 t650 t651 t652 t653 t654 t655 bt688.1 bt688.2.1 bt688.2.2.1 bt688.2.2.2.1 bt688.2.2.2.2).bind fun bt695 => ((idiomref04_In.f kj56 t647 t648 t649 t650 t651 t652 t653 t654 t655 ((⟨#[110, 105, 118, 119, 102, 116, 99, 101]⟩ : ByteArray).extract (x13_2 : Int).toNat ((wrap64 (x13_2 + 1)) : Int).toNat) bt680.2.1 bt680.2.2.1 bt680.2.2.2.1 bt680.2.2.2.2).bind fun bt697 => (if (bt695.1 != bt697.1) = true then (some false) else (if bt695.2 = bt697.2 then (idiomlaw04_OperandShown.l0 kj56 a2 (wrap64 (x13_2 + 1)) a3_0 a3_1 a3_2 a3_3 l3_4 t647 t648 t649 t650 t651 t652 t653 t654 t655) else (some false))))))) = some r := by rw [if_neg (show ¬ (false = true) by decide)] at H; exact H
              clear H
              have H := H1
              clear H1
              replace H := Option.bind_eq_some_iff.mp H
              obtain ⟨⟨t680, t681, t682, t683, t684⟩, A1020, H⟩ := H
              try dsimp only at H
              have A102 := Aside0.mk A1020
              clear A1020
              replace H := Option.bind_eq_some_iff.mp H
              obtain ⟨⟨t688, t689, t690, t691, t692⟩, A1030, H⟩ := H
              try dsimp only at H
              have A103 := Aside0.mk A1030
              clear A1030
              replace H := Option.bind_eq_some_iff.mp H
              obtain ⟨⟨t695, t696⟩, A1040, H⟩ := H
              try dsimp only at H
              have A104 := Aside0.mk A1040
              clear A1040
              replace H := Option.bind_eq_some_iff.mp H
              obtain ⟨⟨t697, t698⟩, A1050, H⟩ := H
              try dsimp only at H
              have A105 := Aside0.mk A1050
              clear A1050
              by_cases c106 : (t695 != t697) = true
              ·rw [if_pos c106] at H
               have c106b0 : (t695 != t697) = true := c106
               (try (have c106b1 : decide (t695 = t697) = false := by simpa using c106))
               (try (have c106b2 : (t695 == t697) = false := by simpa using c106))
               (try (have c106b3 : ¬ (t695 = t697) := by simpa using c106))
               clear c106
               (try (have c106w0 := c106b0; simp only [bne] at c106w0))
               obtain rfl := Option.some.inj H
               have hnb107 := NB646_645.out
               have hnc107 := NB645_646.out
               have hnb108 := NB646_657.out
               have hnc108 := NB657_646.out
               have hnb109 := NB646_668.out
               have hnc109 := NB668_646.out
               have hnb110 := NB646_674.out
               have hnc110 := NB674_646.out
               have hnb111 := NB646_679.out
               have hnc111 := NB679_646.out
               obtain ⟨hcz112_0, hcz112_1, hcz112_2, hcz112_3, hcz112_4, hfz112_0, hfz112_1, hfz112_2, hfz112_3, hfz112_4⟩ := BK646.c5
               try go_wp2_with (first | ((with_reducible refine gate_callee (f := 11) rfl ?_); refine gL_ (some 81) Tryz.func11 #[.agg #[.string a3_0, .string a3_1, .bool a3_2, .bool a3_3, .slice A3_4 l3_4.length c3_4]] ?_; (with_reducible refine (idiomlaw04_copied.calls a3_0 a3_1 a3_2 a3_3 _ _ l3_4 t680 t681 t682 t683 t684 _ ?side1 ?side2 A102.out).mono ?_); (case side1 => repeat (first | exact (Kd.C_below HR3_4.out HB.out) | (with_reducible refine Kd.C_alloc ?_ _) | (with_reducible refine Kd.C_drewN ?_ _) | (with_reducible refine Kd.C_drew ?_))); (case side2 => exact HC3_4.out); rintro e w113 ⟨v685, rfl, ho0, hb⟩; refine ⟨_, rfl, ?_⟩; have HO686 := Aside0.mk (Kd.R_lower ho0 (below_size hb_)); replace BK645 := BK645.bl hb; replace BK646 := BK646.bl hb; replace BK657 := BK657.bl hb; replace BK668 := BK668.bl hb; replace BK674 := BK674.bl hb; replace BK679 := BK679.bl hb; replace HB := Aside0.mk (below_step hb_ hb); (try clear ho0)) | ((with_reducible refine gate_dst (N := 19) rfl ?_); refine bx_ #[.string (⟨#[]⟩ : ByteArray), .string (⟨#[]⟩ : ByteArray), .bool false, .bool false, .slice none 0 0] 28 ?_; intro gb687 hg w114 hbox hb; have BK687 := Aside0.mk (hbox); have GW687 := ge_ (w := w) hg; have GE687 := ge_ (w := w) hg; have NB645_687 := BK645.nl hg; have NB687_645 := BK645.ng hg; have NB646_687 := BK646.nl hg; have NB687_646 := BK646.ng hg; have NB657_687 := BK657.nl hg; have NB687_657 := BK657.ng hg; have NB668_687 := BK668.nl hg; have NB687_668 := BK668.ng hg; have NB674_687 := BK674.nl hg; have NB687_674 := BK674.ng hg; have NB679_687 := BK679.nl hg; have NB687_679 := BK679.ng hg; replace HO686 := Aside0.mk (Kd.R_below (by (with_reducible repeat (first | apply Kd.R_alloc | apply Kd.R_drewN | apply Kd.R_drew)); exact HO686.out) hb); replace BK645 := BK645.bl hb; replace BK646 := BK646.bl hb; replace BK657 := BK657.bl hb; replace BK668 := BK668.bl hb; replace BK674 := BK674.bl hb; replace BK679 := BK679.bl hb; replace HB := Aside0.mk (below_step hb_ hb); clear hb hbox hg; have hnb115 := NB687_645.out; have hnc115 := NB645_687.out; have hnb116 := NB687_646.out; have hnc116 := NB646_687.out; have hnb117 := NB687_657.out; have hnc117 := NB657_687.out; have hnb118 := NB687_668.out; have hnc118 := NB668_687.out; have hnb119 := NB687_674.out; have hnc119 := NB674_687.out; have hnb120 := NB687_679.out; have hnc120 := NB679_687.out; obtain ⟨hcz121_0, hcz121_1, hcz121_2, hcz121_3, hcz121_4, hfz121_0, hfz121_1, hfz121_2, hfz121_3, hfz121_4⟩ := BK687.c5; obtain ⟨Ao122, co122, eo122⟩ := Kd.R_slice HO686.out; subst eo122))
               have n0_ : Aside0 (Kd.R k48 48 ((((((w114.setCell ⟨gb687, 0, none⟩ (.string t680)).setCell ⟨gb687, 1, none⟩ (.string t681)).setCell ⟨gb687, 2, none⟩ (.bool t682)).setCell ⟨gb687, 3, none⟩ (.bool t683)).setCell ⟨gb687, 4, none⟩ (.slice Ao122 t684.length co122)).setCell ⟨gb687, 0, none⟩ (.string ((⟨#[110, 105, 118, 119, 102, 116, 99, 101]⟩ : ByteArray).extract (x13_2 : Int).toNat ((wrap64 (x13_2 + 1)) : Int).toNat))) w.heap.size (fun _ => True) (.slice Ao122 t684.length co122) t684) := ⟨by (with_reducible repeat (first | apply Kd.R_alloc | apply Kd.R_drewN | apply Kd.R_drew)); exact Kd.R_mono (Kd.R_far (p := ⟨gb687, 0, none⟩) (Kd.R_far (p := ⟨gb687, 4, none⟩) (Kd.R_far (p := ⟨gb687, 3, none⟩) (Kd.R_far (p := ⟨gb687, 2, none⟩) (Kd.R_far (p := ⟨gb687, 1, none⟩) (Kd.R_far (p := ⟨gb687, 0, none⟩) (Kd.R_types HO686.out BK687.out (by decide)) (fun _ hk => hk.2) (.string t680)) (fun _ hk => hk.2) (.string t681)) (fun _ hk => hk.2) (.bool t682)) (fun _ hk => hk.2) (.bool t683)) (fun _ hk => hk.2) (.slice Ao122 t684.length co122)) (fun _ hk => hk.2) (.string ((⟨#[110, 105, 118, 119, 102, 116, 99, 101]⟩ : ByteArray).extract (x13_2 : Int).toNat ((wrap64 (x13_2 + 1)) : Int).toNat))) (fun _ hk => trivial)⟩
               have n1_ : Aside0 (((((((w114.setCell ⟨gb687, 0, none⟩ (.string t680)).setCell ⟨gb687, 1, none⟩ (.string t681)).setCell ⟨gb687, 2, none⟩ (.bool t682)).setCell ⟨gb687, 3, none⟩ (.bool t683)).setCell ⟨gb687, 4, none⟩ (.slice Ao122 t684.length co122)).setCell ⟨gb687, 0, none⟩ (.string ((⟨#[110, 105, 118, 119, 102, 116, 99, 101]⟩ : ByteArray).extract (x13_2 : Int).toNat ((wrap64 (x13_2 + 1)) : Int).toNat))).heap[gb645]? = some (.cells #[.bool a0_0, .string a0_1, .string a0_2] 23 (0, 0))) := ⟨by refine far3_ ?_ NB645_687.out; refine far3_ ?_ NB645_687.out; exact BK645.out⟩
               have n2_ : Aside0 (((((((w114.setCell ⟨gb687, 0, none⟩ (.string t680)).setCell ⟨gb687, 1, none⟩ (.string t681)).setCell ⟨gb687, 2, none⟩ (.bool t682)).setCell ⟨gb687, 3, none⟩ (.bool t683)).setCell ⟨gb687, 4, none⟩ (.slice Ao122 t684.length co122)).setCell ⟨gb687, 0, none⟩ (.string ((⟨#[110, 105, 118, 119, 102, 116, 99, 101]⟩ : ByteArray).extract (x13_2 : Int).toNat ((wrap64 (x13_2 + 1)) : Int).toNat))).heap[gb646]? = some (.cells #[.string a3_0, .string a3_1, .bool a3_2, .bool a3_3, .slice A3_4 l3_4.length c3_4] 28 (0, 0))) := ⟨by refine far3_ ?_ NB646_687.out; refine far3_ ?_ NB646_687.out; exact BK646.out⟩
               have n3_ : Aside0 (((((((w114.setCell ⟨gb687, 0, none⟩ (.string t680)).setCell ⟨gb687, 1, none⟩ (.string t681)).setCell ⟨gb687, 2, none⟩ (.bool t682)).setCell ⟨gb687, 3, none⟩ (.bool t683)).setCell ⟨gb687, 4, none⟩ (.slice Ao122 t684.length co122)).setCell ⟨gb687, 0, none⟩ (.string ((⟨#[110, 105, 118, 119, 102, 116, 99, 101]⟩ : ByteArray).extract (x13_2 : Int).toNat ((wrap64 (x13_2 + 1)) : Int).toNat))).heap[gb657]? = some (.cells #[.bool t647, .string t648, .string t649, .string t650, .int .i64 t651, .int .i64 t652, .string t653, .string t654, .int .i64 t655] 25 (0, 0))) := ⟨by refine far3_ ?_ NB657_687.out; refine far3_ ?_ NB657_687.out; exact BK657.out⟩
               have n4_ : Aside0 (((((((w114.setCell ⟨gb687, 0, none⟩ (.string t680)).setCell ⟨gb687, 1, none⟩ (.string t681)).setCell ⟨gb687, 2, none⟩ (.bool t682)).setCell ⟨gb687, 3, none⟩ (.bool t683)).setCell ⟨gb687, 4, none⟩ (.slice Ao122 t684.length co122)).setCell ⟨gb687, 0, none⟩ (.string ((⟨#[110, 105, 118, 119, 102, 116, 99, 101]⟩ : ByteArray).extract (x13_2 : Int).toNat ((wrap64 (x13_2 + 1)) : Int).toNat))).heap[gb668]? = some (.cells #[.bool t658, .string t659, .string t660, .string t661, .int .i64 t662, .int .i64 t663, .string t664, .string t665, .int .i64 t666] 25 (0, 0))) := ⟨by refine far3_ ?_ NB668_687.out; refine far3_ ?_ NB668_687.out; exact BK668.out⟩
               have n5_ : Aside0 (((((((w114.setCell ⟨gb687, 0, none⟩ (.string t680)).setCell ⟨gb687, 1, none⟩ (.string t681)).setCell ⟨gb687, 2, none⟩ (.bool t682)).setCell ⟨gb687, 3, none⟩ (.bool t683)).setCell ⟨gb687, 4, none⟩ (.slice Ao122 t684.length co122)).setCell ⟨gb687, 0, none⟩ (.string ((⟨#[110, 105, 118, 119, 102, 116, 99, 101]⟩ : ByteArray).extract (x13_2 : Int).toNat ((wrap64 (x13_2 + 1)) : Int).toNat))).heap[gb674]? = some (.cells #[.bool t670, .string t671, .string t672] 23 (0, 0))) := ⟨by refine far3_ ?_ NB674_687.out; refine far3_ ?_ NB674_687.out; exact BK674.out⟩
               have n6_ : Aside0 (((((((w114.setCell ⟨gb687, 0, none⟩ (.string t680)).setCell ⟨gb687, 1, none⟩ (.string t681)).setCell ⟨gb687, 2, none⟩ (.bool t682)).setCell ⟨gb687, 3, none⟩ (.bool t683)).setCell ⟨gb687, 4, none⟩ (.slice Ao122 t684.length co122)).setCell ⟨gb687, 0, none⟩ (.string ((⟨#[110, 105, 118, 119, 102, 116, 99, 101]⟩ : ByteArray).extract (x13_2 : Int).toNat ((wrap64 (x13_2 + 1)) : Int).toNat))).heap[gb679]? = some (.cells #[.bool t675, .string t676, .string t677] 23 (0, 0))) := ⟨by refine far3_ ?_ NB679_687.out; refine far3_ ?_ NB679_687.out; exact BK679.out⟩
               have n7_ : Aside0 (((((((w114.setCell ⟨gb687, 0, none⟩ (.string t680)).setCell ⟨gb687, 1, none⟩ (.string t681)).setCell ⟨gb687, 2, none⟩ (.bool t682)).setCell ⟨gb687, 3, none⟩ (.bool t683)).setCell ⟨gb687, 4, none⟩ (.slice Ao122 t684.length co122)).setCell ⟨gb687, 0, none⟩ (.string ((⟨#[110, 105, 118, 119, 102, 116, 99, 101]⟩ : ByteArray).extract (x13_2 : Int).toNat ((wrap64 (x13_2 + 1)) : Int).toNat))).heap[gb687]? = some (.cells #[.string ((⟨#[110, 105, 118, 119, 102, 116, 99, 101]⟩ : ByteArray).extract (x13_2 : Int).toNat ((wrap64 (x13_2 + 1)) : Int).toNat), .string t681, .bool t682, .bool t683, .slice Ao122 t684.length co122] 28 (0, 0))) := ⟨by refine blk_put (cs := #[.string t680, .string t681, .bool t682, .bool t683, .slice Ao122 t684.length co122]) ?_ 0 _ rfl; refine blk_put (cs := #[.string t680, .string t681, .bool t682, .bool t683, .slice none 0 0]) ?_ 4 _ rfl; refine blk_put (cs := #[.string t680, .string t681, .bool t682, .bool false, .slice none 0 0]) ?_ 3 _ rfl; refine blk_put (cs := #[.string t680, .string t681, .bool false, .bool false, .slice none 0 0]) ?_ 2 _ rfl; refine blk_put (cs := #[.string t680, .string (⟨#[]⟩ : ByteArray), .bool false, .bool false, .slice none 0 0]) ?_ 1 _ rfl; refine blk_put (cs := #[.string (⟨#[]⟩ : ByteArray), .string (⟨#[]⟩ : ByteArray), .bool false, .bool false, .slice none 0 0]) ?_ 0 _ rfl; exact BK687.out⟩
               have n8_ : Aside0 (Below w.heap.size w ((((((w114.setCell ⟨gb687, 0, none⟩ (.string t680)).setCell ⟨gb687, 1, none⟩ (.string t681)).setCell ⟨gb687, 2, none⟩ (.bool t682)).setCell ⟨gb687, 3, none⟩ (.bool t683)).setCell ⟨gb687, 4, none⟩ (.slice Ao122 t684.length co122)).setCell ⟨gb687, 0, none⟩ (.string ((⟨#[110, 105, 118, 119, 102, 116, 99, 101]⟩ : ByteArray).extract (x13_2 : Int).toNat ((wrap64 (x13_2 + 1)) : Int).toNat)))) := ⟨hb_⟩
               (try clear HO686)
               (try clear BK645)
               (try clear BK646)
               (try clear BK657)
               (try clear BK668)
               (try clear BK674)
               (try clear BK679)
               (try clear BK687)
               (try clear HB)
               generalize ((((((w114.setCell ⟨gb687, 0, none⟩ (.string t680)).setCell ⟨gb687, 1, none⟩ (.string t681)).setCell ⟨gb687, 2, none⟩ (.bool t682)).setCell ⟨gb687, 3, none⟩ (.bool t683)).setCell ⟨gb687, 4, none⟩ (.slice Ao122 t684.length co122)).setCell ⟨gb687, 0, none⟩ (.string ((⟨#[110, 105, 118, 119, 102, 116, 99, 101]⟩ : ByteArray).extract (x13_2 : Int).toNat ((wrap64 (x13_2 + 1)) : Int).toNat))) = w123 at n0_ n1_ n2_ n3_ n4_ n5_ n6_ n7_ n8_ ⊢
               have HO686 := n0_
               have BK645 := n1_
               have BK646 := n2_
               have BK657 := n3_
               have BK668 := n4_
               have BK674 := n5_
               have BK679 := n6_
               have BK687 := n7_
               have HB := n8_
               clear n0_ n1_ n2_ n3_ n4_ n5_ n6_ n7_ n8_
               replace HO686 := Aside0.mk (Kd.R_drew HO686.out)
               replace BK645 := Aside0.mk (blk_drew BK645.out)
               replace BK646 := Aside0.mk (blk_drew BK646.out)
               replace BK657 := Aside0.mk (blk_drew BK657.out)
               replace BK668 := Aside0.mk (blk_drew BK668.out)
               replace BK674 := Aside0.mk (blk_drew BK674.out)
               replace BK679 := Aside0.mk (blk_drew BK679.out)
               replace BK687 := Aside0.mk (blk_drew BK687.out)
               replace HB := Aside0.mk (below_drew1 HB.out)
               refine start_ (n := 9) (S := fun w' => w'.cell? ⟨gb657, 0, none⟩ = some (.bool t647) ∧ w'.cell? ⟨gb657, 1, none⟩ = some (.string t648) ∧ w'.cell? ⟨gb657, 2, none⟩ = some (.string t649) ∧ w'.cell? ⟨gb657, 3, none⟩ = some (.string t650) ∧ w'.cell? ⟨gb657, 4, none⟩ = some (.int .i64 t651) ∧ w'.cell? ⟨gb657, 5, none⟩ = some (.int .i64 t652) ∧ w'.cell? ⟨gb657, 6, none⟩ = some (.string t653) ∧ w'.cell? ⟨gb657, 7, none⟩ = some (.string t654) ∧ w'.cell? ⟨gb657, 8, none⟩ = some (.int .i64 t655) ∧ w'.cell? ⟨gb687, 0, none⟩ = some (.string ((⟨#[110, 105, 118, 119, 102, 116, 99, 101]⟩ : ByteArray).extract (x13_2 : Int).toNat ((wrap64 (x13_2 + 1)) : Int).toNat)) ∧ w'.cell? ⟨gb687, 1, none⟩ = some (.string t681) ∧ w'.cell? ⟨gb687, 2, none⟩ = some (.bool t682) ∧ w'.cell? ⟨gb687, 3, none⟩ = some (.bool t683) ∧ w'.cell? ⟨gb687, 4, none⟩ = some (.slice Ao122 t684.length co122)) (ds := []) #[false, false, false, false, false, false, false, false, false] (by kernel_rfl) rfl rfl ⟨(blk_cell BK657.out 0).trans rfl, (blk_cell BK657.out 1).trans rfl, (blk_cell BK657.out 2).trans rfl, (blk_cell BK657.out 3).trans rfl, (blk_cell BK657.out 4).trans rfl, (blk_cell BK657.out 5).trans rfl, (blk_cell BK657.out 6).trans rfl, (blk_cell BK657.out 7).trans rfl, (blk_cell BK657.out 8).trans rfl, (blk_cell BK687.out 0).trans rfl, (blk_cell BK687.out 1).trans rfl, (blk_cell BK687.out 2).trans rfl, (blk_cell BK687.out 3).trans rfl, (blk_cell BK687.out 4).trans rfl⟩ (fun hHeld => ?_); refine with_tabW idiomlaw04_OperandShown.tab17 idiomlaw04_OperandShown.bits17 (fun HT_ HW_ => ?_)
               generalize w123.drew = w124 at HO686 BK645 BK646 BK657 BK668 BK674 BK679 BK687 HB hHeld ⊢
               refine tk_ 0 (some 85) hHeld ?_
               refine tk_ 1 (some 86) hHeld ?_
               refine one_ (i := 2) (N := some 87) #[true, true, true, false, false, false, false, false, false] rfl rfl (one_of HT_.out (by kernel_rfl)) (by decide) (fun K hK => ?_)
               refine goes_ Tryz.func11 (by kernel_rfl) rfl #[.agg #[.string ((⟨#[110, 105, 118, 119, 102, 116, 99, 101]⟩ : ByteArray).extract (x13_2 : Int).toNat ((wrap64 (x13_2 + 1)) : Int).toNat), .string t681, .bool t682, .bool t683, .slice Ao122 t684.length co122]] (by rfl) rfl rfl ar_ ?_
               with_reducible refine (idiomlaw04_copied.calls ((⟨#[110, 105, 118, 119, 102, 116, 99, 101]⟩ : ByteArray).extract (x13_2 : Int).toNat ((wrap64 (x13_2 + 1)) : Int).toNat) t681 t682 t683 _ _ t684 t688 t689 t690 t691 t692 _ ?side1 ?side2 A103.out).mono ?_
               (case side1 => repeat (first | exact (Kd.R_reads' HO686.out).2.2 | (with_reducible refine Kd.C_alloc ?_ _) | (with_reducible refine Kd.C_drewN ?_ _) | (with_reducible refine Kd.C_drew ?_)))
               (case side2 => exact (Kd.R_reads' HO686.out).2.1)
               rintro e w125 ⟨v693, rfl, ho0, hb⟩
               refine ⟨_, rfl, ?_⟩
               have HO694 := Aside0.mk (Kd.R_lower (Kd.R_new' ho0 (Kd.R_lt (by (with_reducible repeat (first | apply Kd.R_alloc | apply Kd.R_drewN | apply Kd.R_drew)); exact HO686.out))) (below_size hb_))
               replace HO686 := Aside0.mk (Kd.R_elder' (by (with_reducible repeat (first | apply Kd.R_alloc | apply Kd.R_drewN | apply Kd.R_drew)); exact HO686.out) (Kd.R_base ho0) hb)
               replace BK645 := BK645.bl hb
               replace BK646 := BK646.bl hb
               replace BK657 := BK657.bl hb
               replace BK668 := BK668.bl hb
               replace BK674 := BK674.bl hb
               replace BK679 := BK679.bl hb
               replace BK687 := Aside0.mk (blk_below (g := gb687) (o := .cells #[.string ((⟨#[110, 105, 118, 119, 102, 116, 99, 101]⟩ : ByteArray).extract (x13_2 : Int).toNat ((wrap64 (x13_2 + 1)) : Int).toNat), .string t681, .bool t682, .bool t683, .slice Ao122 t684.length co122] 28 (0, 0)) BK687.out hb)
               replace HB := Aside0.mk (below_step hb_ hb)
               (try clear hb)
               (try clear hb2)
               (try clear hk)
               (try clear hi)
               (try clear ho0)
               obtain ⟨Ao126, co126, eo126⟩ := Kd.R_slice HO694.out
               (first | subst eo126 | (injection eo126 with f1_ f2_ f3_; have f4_ := f1_.symm; have f5_ := f3_.symm; clear f1_ f2_ f3_; subst f4_; subst f5_))
               refine hK.out _ _ ⟨(blk_cell BK657.out 0).trans rfl, (blk_cell BK657.out 1).trans rfl, (blk_cell BK657.out 2).trans rfl, (blk_cell BK657.out 3).trans rfl, (blk_cell BK657.out 4).trans rfl, (blk_cell BK657.out 5).trans rfl, (blk_cell BK657.out 6).trans rfl, (blk_cell BK657.out 7).trans rfl, (blk_cell BK657.out 8).trans rfl, (blk_cell BK687.out 0).trans rfl, (blk_cell BK687.out 1).trans rfl, (blk_cell BK687.out 2).trans rfl, (blk_cell BK687.out 3).trans rfl, (blk_cell BK687.out 4).trans rfl⟩ (fun hHeld => ?_)
               clear hK K
               refine norm_ (a' := ?_) ?_ ?_
               rotate_left
               ·show Act.put _ (some 87) _ = _
                simp only [Act.put, List.setIfInBounds_toArray, List.set_cons_zero, List.set_cons_succ, i64_w, i32_w]
                rfl
               refine one_ (i := 3) (N := some 88) #[true, true, true, true, false, false, false, false, false] rfl rfl (one_of HT_.out (by kernel_rfl)) (by decide) (fun K hK => ?_)
               refine goes_ Tryz.func10 (by kernel_rfl) rfl #[.agg #[.bool t647, .string t648, .string t649, .string t650, .int .i64 t651, .int .i64 t652, .string t653, .string t654, .int .i64 t655], .agg #[.string t688, .string t689, .bool t690, .bool t691, .slice Ao126 t692.length co126]] (by rfl) rfl rfl ar_ ?_
               with_reducible refine (operand_In.calls kj56 t647 t648 t649 t650 t651 t652 t653 t654 t655 t688 t689 t690 t691 _ _ t692 t695 t696 _ (TB.below HTB.out hb_) ?side1 ?side2 A104.out).mono ?_
               (case side1 => repeat (first | exact (Kd.R_reads' HO694.out).2.2 | (with_reducible refine Kd.C_alloc ?_ _) | (with_reducible refine Kd.C_drewN ?_ _) | (with_reducible refine Kd.C_drew ?_)))
               (case side2 => exact (Kd.R_reads' HO694.out).2.1)
               rintro e w127 ⟨rfl, hb⟩
               refine ⟨_, rfl, ?_⟩
               replace HO686 := Aside0.mk (Kd.R_below (by (with_reducible repeat (first | apply Kd.R_alloc | apply Kd.R_drewN | apply Kd.R_drew)); exact HO686.out) hb)
               replace HO694 := Aside0.mk (Kd.R_below (by (with_reducible repeat (first | apply Kd.R_alloc | apply Kd.R_drewN | apply Kd.R_drew)); exact HO694.out) hb)
               replace BK645 := BK645.bl hb
               replace BK646 := BK646.bl hb
               replace BK657 := BK657.bl hb
               replace BK668 := BK668.bl hb
               replace BK674 := BK674.bl hb
               replace BK679 := BK679.bl hb
               replace BK687 := Aside0.mk (blk_below (g := gb687) (o := .cells #[.string ((⟨#[110, 105, 118, 119, 102, 116, 99, 101]⟩ : ByteArray).extract (x13_2 : Int).toNat ((wrap64 (x13_2 + 1)) : Int).toNat), .string t681, .bool t682, .bool t683, .slice Ao122 t684.length co122] 28 (0, 0)) BK687.out hb)
               replace HB := Aside0.mk (below_step hb_ hb)
               (try clear hb)
               (try clear hb2)
               (try clear hk)
               (try clear hi)
               refine hK.out _ _ ⟨(blk_cell BK657.out 0).trans rfl, (blk_cell BK657.out 1).trans rfl, (blk_cell BK657.out 2).trans rfl, (blk_cell BK657.out 3).trans rfl, (blk_cell BK657.out 4).trans rfl, (blk_cell BK657.out 5).trans rfl, (blk_cell BK657.out 6).trans rfl, (blk_cell BK657.out 7).trans rfl, (blk_cell BK657.out 8).trans rfl, (blk_cell BK687.out 0).trans rfl, (blk_cell BK687.out 1).trans rfl, (blk_cell BK687.out 2).trans rfl, (blk_cell BK687.out 3).trans rfl, (blk_cell BK687.out 4).trans rfl⟩ (fun hHeld => ?_)
               clear hK K
               refine norm_ (a' := ?_) ?_ ?_
               rotate_left
               ·show Act.put _ (some 88) _ = _
                simp only [Act.put, List.setIfInBounds_toArray, List.set_cons_zero, List.set_cons_succ, i64_w, i32_w]
                rfl
               refine pr_ 4 (some 84) ?_
               refine pr_ 5 (some 89) ?_
               refine pr_ 6 (some 90) ?_
               refine pr_ 7 (some 20) ?_
               refine pr_ 8 (some 21) ?_
               refine done_ (done_of HT_.out (by kernel_rfl)) ?_
               have hnb128 := NB657_645.out
               have hnc128 := NB645_657.out
               have hnb129 := NB657_668.out
               have hnc129 := NB668_657.out
               have hnb130 := NB657_674.out
               have hnc130 := NB674_657.out
               have hnb131 := NB657_679.out
               have hnc131 := NB679_657.out
               obtain ⟨hcz132_0, hcz132_1, hcz132_2, hcz132_3, hcz132_4, hcz132_5, hcz132_6, hcz132_7, hcz132_8, hfz132_0, hfz132_1, hfz132_2, hfz132_3, hfz132_4, hfz132_5, hfz132_6, hfz132_7, hfz132_8⟩ := BK657.c9
               obtain ⟨hcz133_0, hcz133_1, hcz133_2, hcz133_3, hcz133_4, hfz133_0, hfz133_1, hfz133_2, hfz133_3, hfz133_4⟩ := BK687.c5
               try go_wp2_with (first | ((with_reducible refine gate_callee (f := 12) rfl ?_); refine gL_ (some 94) Tryz.func12 #[.agg #[.bool t647, .string t648, .string t649, .string t650, .int .i64 t651, .int .i64 t652, .string t653, .string t654, .int .i64 t655], .agg #[.string ((⟨#[110, 105, 118, 119, 102, 116, 99, 101]⟩ : ByteArray).extract (x13_2 : Int).toNat ((wrap64 (x13_2 + 1)) : Int).toNat), .string t681, .bool t682, .bool t683, .slice Ao122 t684.length co122]] ?_; (with_reducible refine (idiomref04_In.calls kj56 t647 t648 t649 t650 t651 t652 t653 t654 t655 ((⟨#[110, 105, 118, 119, 102, 116, 99, 101]⟩ : ByteArray).extract (x13_2 : Int).toNat ((wrap64 (x13_2 + 1)) : Int).toNat) t681 t682 t683 _ _ t684 t697 t698 _ (TB.below HTB.out hb_) ?side1 ?side2 A105.out).mono ?_); (case side1 => repeat (first | exact (Kd.R_reads' HO686.out).2.2 | (with_reducible refine Kd.C_alloc ?_ _) | (with_reducible refine Kd.C_drewN ?_ _) | (with_reducible refine Kd.C_drew ?_))); (case side2 => exact (Kd.R_reads' HO686.out).2.1); rintro e w134 ⟨rfl, hb⟩; refine ⟨_, rfl, ?_⟩; replace HO686 := Aside0.mk (Kd.R_below (by (with_reducible repeat (first | apply Kd.R_alloc | apply Kd.R_drewN | apply Kd.R_drew)); exact HO686.out) hb); replace HO694 := Aside0.mk (Kd.R_below (by (with_reducible repeat (first | apply Kd.R_alloc | apply Kd.R_drewN | apply Kd.R_drew)); exact HO694.out) hb); replace BK645 := BK645.bl hb; replace BK646 := BK646.bl hb; replace BK657 := BK657.bl hb; replace BK668 := BK668.bl hb; replace BK674 := BK674.bl hb; replace BK679 := BK679.bl hb; replace BK687 := Aside0.mk (blk_below (g := gb687) (o := .cells #[.string ((⟨#[110, 105, 118, 119, 102, 116, 99, 101]⟩ : ByteArray).extract (x13_2 : Int).toNat ((wrap64 (x13_2 + 1)) : Int).toNat), .string t681, .bool t682, .bool t683, .slice Ao122 t684.length co122] 28 (0, 0)) BK687.out hb); replace HB := Aside0.mk (below_step hb_ hb)))
               go_ret
               exact fin_
              ·rw [if_neg c106] at H
               have c106b0 : (t695 != t697) = false := by simpa using c106
               (try (have c106b1 : decide (t695 = t697) = true := by simpa using c106))
               (try (have c106b2 : (t695 == t697) = true := by simpa using c106))
               clear c106
               (try (have c106w0 := c106b0; simp only [bne] at c106w0))
               have HF135 := Aside0.mk H
               clear H
               have hnb136 := NB646_645.out
               have hnc136 := NB645_646.out
               have hnb137 := NB646_657.out
               have hnc137 := NB657_646.out
               have hnb138 := NB646_668.out
               have hnc138 := NB668_646.out
               have hnb139 := NB646_674.out
               have hnc139 := NB674_646.out
               have hnb140 := NB646_679.out
               have hnc140 := NB679_646.out
               obtain ⟨hcz141_0, hcz141_1, hcz141_2, hcz141_3, hcz141_4, hfz141_0, hfz141_1, hfz141_2, hfz141_3, hfz141_4⟩ := BK646.c5
               try go_wp2_with (first | ((with_reducible refine gate_callee (f := 11) rfl ?_); refine gL_ (some 81) Tryz.func11 #[.agg #[.string a3_0, .string a3_1, .bool a3_2, .bool a3_3, .slice A3_4 l3_4.length c3_4]] ?_; (with_reducible refine (idiomlaw04_copied.calls a3_0 a3_1 a3_2 a3_3 _ _ l3_4 t680 t681 t682 t683 t684 _ ?side1 ?side2 A102.out).mono ?_); (case side1 => repeat (first | exact (Kd.C_below HR3_4.out HB.out) | (with_reducible refine Kd.C_alloc ?_ _) | (with_reducible refine Kd.C_drewN ?_ _) | (with_reducible refine Kd.C_drew ?_))); (case side2 => exact HC3_4.out); rintro e w142 ⟨v685, rfl, ho0, hb⟩; refine ⟨_, rfl, ?_⟩; have HO686 := Aside0.mk (Kd.R_lower ho0 (below_size hb_)); replace BK645 := BK645.bl hb; replace BK646 := BK646.bl hb; replace BK657 := BK657.bl hb; replace BK668 := BK668.bl hb; replace BK674 := BK674.bl hb; replace BK679 := BK679.bl hb; replace HB := Aside0.mk (below_step hb_ hb); (try clear ho0)) | ((with_reducible refine gate_dst (N := 19) rfl ?_); refine bx_ #[.string (⟨#[]⟩ : ByteArray), .string (⟨#[]⟩ : ByteArray), .bool false, .bool false, .slice none 0 0] 28 ?_; intro gb687 hg w143 hbox hb; have BK687 := Aside0.mk (hbox); have GW687 := ge_ (w := w) hg; have GE687 := ge_ (w := w) hg; have NB645_687 := BK645.nl hg; have NB687_645 := BK645.ng hg; have NB646_687 := BK646.nl hg; have NB687_646 := BK646.ng hg; have NB657_687 := BK657.nl hg; have NB687_657 := BK657.ng hg; have NB668_687 := BK668.nl hg; have NB687_668 := BK668.ng hg; have NB674_687 := BK674.nl hg; have NB687_674 := BK674.ng hg; have NB679_687 := BK679.nl hg; have NB687_679 := BK679.ng hg; replace HO686 := Aside0.mk (Kd.R_below (by (with_reducible repeat (first | apply Kd.R_alloc | apply Kd.R_drewN | apply Kd.R_drew)); exact HO686.out) hb); replace BK645 := BK645.bl hb; replace BK646 := BK646.bl hb; replace BK657 := BK657.bl hb; replace BK668 := BK668.bl hb; replace BK674 := BK674.bl hb; replace BK679 := BK679.bl hb; replace HB := Aside0.mk (below_step hb_ hb); clear hb hbox hg; have hnb144 := NB687_645.out; have hnc144 := NB645_687.out; have hnb145 := NB687_646.out; have hnc145 := NB646_687.out; have hnb146 := NB687_657.out; have hnc146 := NB657_687.out; have hnb147 := NB687_668.out; have hnc147 := NB668_687.out; have hnb148 := NB687_674.out; have hnc148 := NB674_687.out; have hnb149 := NB687_679.out; have hnc149 := NB679_687.out; obtain ⟨hcz150_0, hcz150_1, hcz150_2, hcz150_3, hcz150_4, hfz150_0, hfz150_1, hfz150_2, hfz150_3, hfz150_4⟩ := BK687.c5; obtain ⟨Ao151, co151, eo151⟩ := Kd.R_slice HO686.out; subst eo151))
               have n0_ : Aside0 (Kd.R k48 48 ((((((w143.setCell ⟨gb687, 0, none⟩ (.string t680)).setCell ⟨gb687, 1, none⟩ (.string t681)).setCell ⟨gb687, 2, none⟩ (.bool t682)).setCell ⟨gb687, 3, none⟩ (.bool t683)).setCell ⟨gb687, 4, none⟩ (.slice Ao151 t684.length co151)).setCell ⟨gb687, 0, none⟩ (.string ((⟨#[110, 105, 118, 119, 102, 116, 99, 101]⟩ : ByteArray).extract (x13_2 : Int).toNat ((wrap64 (x13_2 + 1)) : Int).toNat))) w.heap.size (fun _ => True) (.slice Ao151 t684.length co151) t684) := ⟨by (with_reducible repeat (first | apply Kd.R_alloc | apply Kd.R_drewN | apply Kd.R_drew)); exact Kd.R_mono (Kd.R_far (p := ⟨gb687, 0, none⟩) (Kd.R_far (p := ⟨gb687, 4, none⟩) (Kd.R_far (p := ⟨gb687, 3, none⟩) (Kd.R_far (p := ⟨gb687, 2, none⟩) (Kd.R_far (p := ⟨gb687, 1, none⟩) (Kd.R_far (p := ⟨gb687, 0, none⟩) (Kd.R_types HO686.out BK687.out (by decide)) (fun _ hk => hk.2) (.string t680)) (fun _ hk => hk.2) (.string t681)) (fun _ hk => hk.2) (.bool t682)) (fun _ hk => hk.2) (.bool t683)) (fun _ hk => hk.2) (.slice Ao151 t684.length co151)) (fun _ hk => hk.2) (.string ((⟨#[110, 105, 118, 119, 102, 116, 99, 101]⟩ : ByteArray).extract (x13_2 : Int).toNat ((wrap64 (x13_2 + 1)) : Int).toNat))) (fun _ hk => trivial)⟩
               have n1_ : Aside0 (((((((w143.setCell ⟨gb687, 0, none⟩ (.string t680)).setCell ⟨gb687, 1, none⟩ (.string t681)).setCell ⟨gb687, 2, none⟩ (.bool t682)).setCell ⟨gb687, 3, none⟩ (.bool t683)).setCell ⟨gb687, 4, none⟩ (.slice Ao151 t684.length co151)).setCell ⟨gb687, 0, none⟩ (.string ((⟨#[110, 105, 118, 119, 102, 116, 99, 101]⟩ : ByteArray).extract (x13_2 : Int).toNat ((wrap64 (x13_2 + 1)) : Int).toNat))).heap[gb645]? = some (.cells #[.bool a0_0, .string a0_1, .string a0_2] 23 (0, 0))) := ⟨by refine far3_ ?_ NB645_687.out; refine far3_ ?_ NB645_687.out; exact BK645.out⟩
               have n2_ : Aside0 (((((((w143.setCell ⟨gb687, 0, none⟩ (.string t680)).setCell ⟨gb687, 1, none⟩ (.string t681)).setCell ⟨gb687, 2, none⟩ (.bool t682)).setCell ⟨gb687, 3, none⟩ (.bool t683)).setCell ⟨gb687, 4, none⟩ (.slice Ao151 t684.length co151)).setCell ⟨gb687, 0, none⟩ (.string ((⟨#[110, 105, 118, 119, 102, 116, 99, 101]⟩ : ByteArray).extract (x13_2 : Int).toNat ((wrap64 (x13_2 + 1)) : Int).toNat))).heap[gb646]? = some (.cells #[.string a3_0, .string a3_1, .bool a3_2, .bool a3_3, .slice A3_4 l3_4.length c3_4] 28 (0, 0))) := ⟨by refine far3_ ?_ NB646_687.out; refine far3_ ?_ NB646_687.out; exact BK646.out⟩
               have n3_ : Aside0 (((((((w143.setCell ⟨gb687, 0, none⟩ (.string t680)).setCell ⟨gb687, 1, none⟩ (.string t681)).setCell ⟨gb687, 2, none⟩ (.bool t682)).setCell ⟨gb687, 3, none⟩ (.bool t683)).setCell ⟨gb687, 4, none⟩ (.slice Ao151 t684.length co151)).setCell ⟨gb687, 0, none⟩ (.string ((⟨#[110, 105, 118, 119, 102, 116, 99, 101]⟩ : ByteArray).extract (x13_2 : Int).toNat ((wrap64 (x13_2 + 1)) : Int).toNat))).heap[gb657]? = some (.cells #[.bool t647, .string t648, .string t649, .string t650, .int .i64 t651, .int .i64 t652, .string t653, .string t654, .int .i64 t655] 25 (0, 0))) := ⟨by refine far3_ ?_ NB657_687.out; refine far3_ ?_ NB657_687.out; exact BK657.out⟩
               have n4_ : Aside0 (((((((w143.setCell ⟨gb687, 0, none⟩ (.string t680)).setCell ⟨gb687, 1, none⟩ (.string t681)).setCell ⟨gb687, 2, none⟩ (.bool t682)).setCell ⟨gb687, 3, none⟩ (.bool t683)).setCell ⟨gb687, 4, none⟩ (.slice Ao151 t684.length co151)).setCell ⟨gb687, 0, none⟩ (.string ((⟨#[110, 105, 118, 119, 102, 116, 99, 101]⟩ : ByteArray).extract (x13_2 : Int).toNat ((wrap64 (x13_2 + 1)) : Int).toNat))).heap[gb668]? = some (.cells #[.bool t658, .string t659, .string t660, .string t661, .int .i64 t662, .int .i64 t663, .string t664, .string t665, .int .i64 t666] 25 (0, 0))) := ⟨by refine far3_ ?_ NB668_687.out; refine far3_ ?_ NB668_687.out; exact BK668.out⟩
               have n5_ : Aside0 (((((((w143.setCell ⟨gb687, 0, none⟩ (.string t680)).setCell ⟨gb687, 1, none⟩ (.string t681)).setCell ⟨gb687, 2, none⟩ (.bool t682)).setCell ⟨gb687, 3, none⟩ (.bool t683)).setCell ⟨gb687, 4, none⟩ (.slice Ao151 t684.length co151)).setCell ⟨gb687, 0, none⟩ (.string ((⟨#[110, 105, 118, 119, 102, 116, 99, 101]⟩ : ByteArray).extract (x13_2 : Int).toNat ((wrap64 (x13_2 + 1)) : Int).toNat))).heap[gb674]? = some (.cells #[.bool t670, .string t671, .string t672] 23 (0, 0))) := ⟨by refine far3_ ?_ NB674_687.out; refine far3_ ?_ NB674_687.out; exact BK674.out⟩
               have n6_ : Aside0 (((((((w143.setCell ⟨gb687, 0, none⟩ (.string t680)).setCell ⟨gb687, 1, none⟩ (.string t681)).setCell ⟨gb687, 2, none⟩ (.bool t682)).setCell ⟨gb687, 3, none⟩ (.bool t683)).setCell ⟨gb687, 4, none⟩ (.slice Ao151 t684.length co151)).setCell ⟨gb687, 0, none⟩ (.string ((⟨#[110, 105, 118, 119, 102, 116, 99, 101]⟩ : ByteArray).extract (x13_2 : Int).toNat ((wrap64 (x13_2 + 1)) : Int).toNat))).heap[gb679]? = some (.cells #[.bool t675, .string t676, .string t677] 23 (0, 0))) := ⟨by refine far3_ ?_ NB679_687.out; refine far3_ ?_ NB679_687.out; exact BK679.out⟩
               have n7_ : Aside0 (((((((w143.setCell ⟨gb687, 0, none⟩ (.string t680)).setCell ⟨gb687, 1, none⟩ (.string t681)).setCell ⟨gb687, 2, none⟩ (.bool t682)).setCell ⟨gb687, 3, none⟩ (.bool t683)).setCell ⟨gb687, 4, none⟩ (.slice Ao151 t684.length co151)).setCell ⟨gb687, 0, none⟩ (.string ((⟨#[110, 105, 118, 119, 102, 116, 99, 101]⟩ : ByteArray).extract (x13_2 : Int).toNat ((wrap64 (x13_2 + 1)) : Int).toNat))).heap[gb687]? = some (.cells #[.string ((⟨#[110, 105, 118, 119, 102, 116, 99, 101]⟩ : ByteArray).extract (x13_2 : Int).toNat ((wrap64 (x13_2 + 1)) : Int).toNat), .string t681, .bool t682, .bool t683, .slice Ao151 t684.length co151] 28 (0, 0))) := ⟨by refine blk_put (cs := #[.string t680, .string t681, .bool t682, .bool t683, .slice Ao151 t684.length co151]) ?_ 0 _ rfl; refine blk_put (cs := #[.string t680, .string t681, .bool t682, .bool t683, .slice none 0 0]) ?_ 4 _ rfl; refine blk_put (cs := #[.string t680, .string t681, .bool t682, .bool false, .slice none 0 0]) ?_ 3 _ rfl; refine blk_put (cs := #[.string t680, .string t681, .bool false, .bool false, .slice none 0 0]) ?_ 2 _ rfl; refine blk_put (cs := #[.string t680, .string (⟨#[]⟩ : ByteArray), .bool false, .bool false, .slice none 0 0]) ?_ 1 _ rfl; refine blk_put (cs := #[.string (⟨#[]⟩ : ByteArray), .string (⟨#[]⟩ : ByteArray), .bool false, .bool false, .slice none 0 0]) ?_ 0 _ rfl; exact BK687.out⟩
               have n8_ : Aside0 (Below w.heap.size w ((((((w143.setCell ⟨gb687, 0, none⟩ (.string t680)).setCell ⟨gb687, 1, none⟩ (.string t681)).setCell ⟨gb687, 2, none⟩ (.bool t682)).setCell ⟨gb687, 3, none⟩ (.bool t683)).setCell ⟨gb687, 4, none⟩ (.slice Ao151 t684.length co151)).setCell ⟨gb687, 0, none⟩ (.string ((⟨#[110, 105, 118, 119, 102, 116, 99, 101]⟩ : ByteArray).extract (x13_2 : Int).toNat ((wrap64 (x13_2 + 1)) : Int).toNat)))) := ⟨hb_⟩
               (try clear HO686)
               (try clear BK645)
               (try clear BK646)
               (try clear BK657)
               (try clear BK668)
               (try clear BK674)
               (try clear BK679)
               (try clear BK687)
               (try clear HB)
               generalize ((((((w143.setCell ⟨gb687, 0, none⟩ (.string t680)).setCell ⟨gb687, 1, none⟩ (.string t681)).setCell ⟨gb687, 2, none⟩ (.bool t682)).setCell ⟨gb687, 3, none⟩ (.bool t683)).setCell ⟨gb687, 4, none⟩ (.slice Ao151 t684.length co151)).setCell ⟨gb687, 0, none⟩ (.string ((⟨#[110, 105, 118, 119, 102, 116, 99, 101]⟩ : ByteArray).extract (x13_2 : Int).toNat ((wrap64 (x13_2 + 1)) : Int).toNat))) = w152 at n0_ n1_ n2_ n3_ n4_ n5_ n6_ n7_ n8_ ⊢
               have HO686 := n0_
               have BK645 := n1_
               have BK646 := n2_
               have BK657 := n3_
               have BK668 := n4_
               have BK674 := n5_
               have BK679 := n6_
               have BK687 := n7_
               have HB := n8_
               clear n0_ n1_ n2_ n3_ n4_ n5_ n6_ n7_ n8_
               replace HO686 := Aside0.mk (Kd.R_drew HO686.out)
               replace BK645 := Aside0.mk (blk_drew BK645.out)
               replace BK646 := Aside0.mk (blk_drew BK646.out)
               replace BK657 := Aside0.mk (blk_drew BK657.out)
               replace BK668 := Aside0.mk (blk_drew BK668.out)
               replace BK674 := Aside0.mk (blk_drew BK674.out)
               replace BK679 := Aside0.mk (blk_drew BK679.out)
               replace BK687 := Aside0.mk (blk_drew BK687.out)
               replace HB := Aside0.mk (below_drew1 HB.out)
               refine start_ (n := 9) (S := fun w' => w'.cell? ⟨gb657, 0, none⟩ = some (.bool t647) ∧ w'.cell? ⟨gb657, 1, none⟩ = some (.string t648) ∧ w'.cell? ⟨gb657, 2, none⟩ = some (.string t649) ∧ w'.cell? ⟨gb657, 3, none⟩ = some (.string t650) ∧ w'.cell? ⟨gb657, 4, none⟩ = some (.int .i64 t651) ∧ w'.cell? ⟨gb657, 5, none⟩ = some (.int .i64 t652) ∧ w'.cell? ⟨gb657, 6, none⟩ = some (.string t653) ∧ w'.cell? ⟨gb657, 7, none⟩ = some (.string t654) ∧ w'.cell? ⟨gb657, 8, none⟩ = some (.int .i64 t655) ∧ w'.cell? ⟨gb687, 0, none⟩ = some (.string ((⟨#[110, 105, 118, 119, 102, 116, 99, 101]⟩ : ByteArray).extract (x13_2 : Int).toNat ((wrap64 (x13_2 + 1)) : Int).toNat)) ∧ w'.cell? ⟨gb687, 1, none⟩ = some (.string t681) ∧ w'.cell? ⟨gb687, 2, none⟩ = some (.bool t682) ∧ w'.cell? ⟨gb687, 3, none⟩ = some (.bool t683) ∧ w'.cell? ⟨gb687, 4, none⟩ = some (.slice Ao151 t684.length co151)) (ds := []) #[false, false, false, false, false, false, false, false, false] (by kernel_rfl) rfl rfl ⟨(blk_cell BK657.out 0).trans rfl, (blk_cell BK657.out 1).trans rfl, (blk_cell BK657.out 2).trans rfl, (blk_cell BK657.out 3).trans rfl, (blk_cell BK657.out 4).trans rfl, (blk_cell BK657.out 5).trans rfl, (blk_cell BK657.out 6).trans rfl, (blk_cell BK657.out 7).trans rfl, (blk_cell BK657.out 8).trans rfl, (blk_cell BK687.out 0).trans rfl, (blk_cell BK687.out 1).trans rfl, (blk_cell BK687.out 2).trans rfl, (blk_cell BK687.out 3).trans rfl, (blk_cell BK687.out 4).trans rfl⟩ (fun hHeld => ?_); refine with_tabW idiomlaw04_OperandShown.tab17 idiomlaw04_OperandShown.bits17 (fun HT_ HW_ => ?_)
               generalize w152.drew = w153 at HO686 BK645 BK646 BK657 BK668 BK674 BK679 BK687 HB hHeld ⊢
               refine tk_ 0 (some 85) hHeld ?_
               refine tk_ 1 (some 86) hHeld ?_
               refine one_ (i := 2) (N := some 87) #[true, true, true, false, false, false, false, false, false] rfl rfl (one_of HT_.out (by kernel_rfl)) (by decide) (fun K hK => ?_)
               refine goes_ Tryz.func11 (by kernel_rfl) rfl #[.agg #[.string ((⟨#[110, 105, 118, 119, 102, 116, 99, 101]⟩ : ByteArray).extract (x13_2 : Int).toNat ((wrap64 (x13_2 + 1)) : Int).toNat), .string t681, .bool t682, .bool t683, .slice Ao151 t684.length co151]] (by rfl) rfl rfl ar_ ?_
               with_reducible refine (idiomlaw04_copied.calls ((⟨#[110, 105, 118, 119, 102, 116, 99, 101]⟩ : ByteArray).extract (x13_2 : Int).toNat ((wrap64 (x13_2 + 1)) : Int).toNat) t681 t682 t683 _ _ t684 t688 t689 t690 t691 t692 _ ?side1 ?side2 A103.out).mono ?_
               (case side1 => repeat (first | exact (Kd.R_reads' HO686.out).2.2 | (with_reducible refine Kd.C_alloc ?_ _) | (with_reducible refine Kd.C_drewN ?_ _) | (with_reducible refine Kd.C_drew ?_)))
               (case side2 => exact (Kd.R_reads' HO686.out).2.1)
               rintro e w154 ⟨v693, rfl, ho0, hb⟩
               refine ⟨_, rfl, ?_⟩
               have HO694 := Aside0.mk (Kd.R_lower (Kd.R_new' ho0 (Kd.R_lt (by (with_reducible repeat (first | apply Kd.R_alloc | apply Kd.R_drewN | apply Kd.R_drew)); exact HO686.out))) (below_size hb_))
               replace HO686 := Aside0.mk (Kd.R_elder' (by (with_reducible repeat (first | apply Kd.R_alloc | apply Kd.R_drewN | apply Kd.R_drew)); exact HO686.out) (Kd.R_base ho0) hb)
               replace BK645 := BK645.bl hb
               replace BK646 := BK646.bl hb
               replace BK657 := BK657.bl hb
               replace BK668 := BK668.bl hb
               replace BK674 := BK674.bl hb
               replace BK679 := BK679.bl hb
               replace BK687 := Aside0.mk (blk_below (g := gb687) (o := .cells #[.string ((⟨#[110, 105, 118, 119, 102, 116, 99, 101]⟩ : ByteArray).extract (x13_2 : Int).toNat ((wrap64 (x13_2 + 1)) : Int).toNat), .string t681, .bool t682, .bool t683, .slice Ao151 t684.length co151] 28 (0, 0)) BK687.out hb)
               replace HB := Aside0.mk (below_step hb_ hb)
               (try clear hb)
               (try clear hb2)
               (try clear hk)
               (try clear hi)
               (try clear ho0)
               obtain ⟨Ao155, co155, eo155⟩ := Kd.R_slice HO694.out
               (first | subst eo155 | (injection eo155 with f1_ f2_ f3_; have f4_ := f1_.symm; have f5_ := f3_.symm; clear f1_ f2_ f3_; subst f4_; subst f5_))
               refine hK.out _ _ ⟨(blk_cell BK657.out 0).trans rfl, (blk_cell BK657.out 1).trans rfl, (blk_cell BK657.out 2).trans rfl, (blk_cell BK657.out 3).trans rfl, (blk_cell BK657.out 4).trans rfl, (blk_cell BK657.out 5).trans rfl, (blk_cell BK657.out 6).trans rfl, (blk_cell BK657.out 7).trans rfl, (blk_cell BK657.out 8).trans rfl, (blk_cell BK687.out 0).trans rfl, (blk_cell BK687.out 1).trans rfl, (blk_cell BK687.out 2).trans rfl, (blk_cell BK687.out 3).trans rfl, (blk_cell BK687.out 4).trans rfl⟩ (fun hHeld => ?_)
               clear hK K
               refine norm_ (a' := ?_) ?_ ?_
               rotate_left
               ·show Act.put _ (some 87) _ = _
                simp only [Act.put, List.setIfInBounds_toArray, List.set_cons_zero, List.set_cons_succ, i64_w, i32_w]
                rfl
               refine one_ (i := 3) (N := some 88) #[true, true, true, true, false, false, false, false, false] rfl rfl (one_of HT_.out (by kernel_rfl)) (by decide) (fun K hK => ?_)
               refine goes_ Tryz.func10 (by kernel_rfl) rfl #[.agg #[.bool t647, .string t648, .string t649, .string t650, .int .i64 t651, .int .i64 t652, .string t653, .string t654, .int .i64 t655], .agg #[.string t688, .string t689, .bool t690, .bool t691, .slice Ao155 t692.length co155]] (by rfl) rfl rfl ar_ ?_
               with_reducible refine (operand_In.calls kj56 t647 t648 t649 t650 t651 t652 t653 t654 t655 t688 t689 t690 t691 _ _ t692 t695 t696 _ (TB.below HTB.out hb_) ?side1 ?side2 A104.out).mono ?_
               (case side1 => repeat (first | exact (Kd.R_reads' HO694.out).2.2 | (with_reducible refine Kd.C_alloc ?_ _) | (with_reducible refine Kd.C_drewN ?_ _) | (with_reducible refine Kd.C_drew ?_)))
               (case side2 => exact (Kd.R_reads' HO694.out).2.1)
               rintro e w156 ⟨rfl, hb⟩
               refine ⟨_, rfl, ?_⟩
               replace HO686 := Aside0.mk (Kd.R_below (by (with_reducible repeat (first | apply Kd.R_alloc | apply Kd.R_drewN | apply Kd.R_drew)); exact HO686.out) hb)
               replace HO694 := Aside0.mk (Kd.R_below (by (with_reducible repeat (first | apply Kd.R_alloc | apply Kd.R_drewN | apply Kd.R_drew)); exact HO694.out) hb)
               replace BK645 := BK645.bl hb
               replace BK646 := BK646.bl hb
               replace BK657 := BK657.bl hb
               replace BK668 := BK668.bl hb
               replace BK674 := BK674.bl hb
               replace BK679 := BK679.bl hb
               replace BK687 := Aside0.mk (blk_below (g := gb687) (o := .cells #[.string ((⟨#[110, 105, 118, 119, 102, 116, 99, 101]⟩ : ByteArray).extract (x13_2 : Int).toNat ((wrap64 (x13_2 + 1)) : Int).toNat), .string t681, .bool t682, .bool t683, .slice Ao151 t684.length co151] 28 (0, 0)) BK687.out hb)
               replace HB := Aside0.mk (below_step hb_ hb)
               (try clear hb)
               (try clear hb2)
               (try clear hk)
               (try clear hi)
               refine hK.out _ _ ⟨(blk_cell BK657.out 0).trans rfl, (blk_cell BK657.out 1).trans rfl, (blk_cell BK657.out 2).trans rfl, (blk_cell BK657.out 3).trans rfl, (blk_cell BK657.out 4).trans rfl, (blk_cell BK657.out 5).trans rfl, (blk_cell BK657.out 6).trans rfl, (blk_cell BK657.out 7).trans rfl, (blk_cell BK657.out 8).trans rfl, (blk_cell BK687.out 0).trans rfl, (blk_cell BK687.out 1).trans rfl, (blk_cell BK687.out 2).trans rfl, (blk_cell BK687.out 3).trans rfl, (blk_cell BK687.out 4).trans rfl⟩ (fun hHeld => ?_)
               clear hK K
               refine norm_ (a' := ?_) ?_ ?_
               rotate_left
               ·show Act.put _ (some 88) _ = _
                simp only [Act.put, List.setIfInBounds_toArray, List.set_cons_zero, List.set_cons_succ, i64_w, i32_w]
                rfl
               refine pr_ 4 (some 84) ?_
               refine pr_ 5 (some 89) ?_
               refine pr_ 6 (some 90) ?_
               refine pr_ 7 (some 20) ?_
               refine pr_ 8 (some 21) ?_
               refine done_ (done_of HT_.out (by kernel_rfl)) ?_
               have hnb157 := NB657_645.out
               have hnc157 := NB645_657.out
               have hnb158 := NB657_668.out
               have hnc158 := NB668_657.out
               have hnb159 := NB657_674.out
               have hnc159 := NB674_657.out
               have hnb160 := NB657_679.out
               have hnc160 := NB679_657.out
               obtain ⟨hcz161_0, hcz161_1, hcz161_2, hcz161_3, hcz161_4, hcz161_5, hcz161_6, hcz161_7, hcz161_8, hfz161_0, hfz161_1, hfz161_2, hfz161_3, hfz161_4, hfz161_5, hfz161_6, hfz161_7, hfz161_8⟩ := BK657.c9
               obtain ⟨hcz162_0, hcz162_1, hcz162_2, hcz162_3, hcz162_4, hfz162_0, hfz162_1, hfz162_2, hfz162_3, hfz162_4⟩ := BK687.c5
               go_upto_if 104 with (first | ((with_reducible refine gate_callee (f := 12) rfl ?_); refine gL_ (some 94) Tryz.func12 #[.agg #[.bool t647, .string t648, .string t649, .string t650, .int .i64 t651, .int .i64 t652, .string t653, .string t654, .int .i64 t655], .agg #[.string ((⟨#[110, 105, 118, 119, 102, 116, 99, 101]⟩ : ByteArray).extract (x13_2 : Int).toNat ((wrap64 (x13_2 + 1)) : Int).toNat), .string t681, .bool t682, .bool t683, .slice Ao151 t684.length co151]] ?_; (with_reducible refine (idiomref04_In.calls kj56 t647 t648 t649 t650 t651 t652 t653 t654 t655 ((⟨#[110, 105, 118, 119, 102, 116, 99, 101]⟩ : ByteArray).extract (x13_2 : Int).toNat ((wrap64 (x13_2 + 1)) : Int).toNat) t681 t682 t683 _ _ t684 t697 t698 _ (TB.below HTB.out hb_) ?side1 ?side2 A105.out).mono ?_); (case side1 => repeat (first | exact (Kd.R_reads' HO686.out).2.2 | (with_reducible refine Kd.C_alloc ?_ _) | (with_reducible refine Kd.C_drewN ?_ _) | (with_reducible refine Kd.C_drew ?_))); (case side2 => exact (Kd.R_reads' HO686.out).2.1); rintro e w163 ⟨rfl, hb⟩; refine ⟨_, rfl, ?_⟩; replace HO686 := Aside0.mk (Kd.R_below (by (with_reducible repeat (first | apply Kd.R_alloc | apply Kd.R_drewN | apply Kd.R_drew)); exact HO686.out) hb); replace HO694 := Aside0.mk (Kd.R_below (by (with_reducible repeat (first | apply Kd.R_alloc | apply Kd.R_drewN | apply Kd.R_drew)); exact HO694.out) hb); replace BK645 := BK645.bl hb; replace BK646 := BK646.bl hb; replace BK657 := BK657.bl hb; replace BK668 := BK668.bl hb; replace BK674 := BK674.bl hb; replace BK679 := BK679.bl hb; replace BK687 := Aside0.mk (blk_below (g := gb687) (o := .cells #[.string ((⟨#[110, 105, 118, 119, 102, 116, 99, 101]⟩ : ByteArray).extract (x13_2 : Int).toNat ((wrap64 (x13_2 + 1)) : Int).toNat), .string t681, .bool t682, .bool t683, .slice Ao151 t684.length co151] 28 (0, 0)) BK687.out hb); replace HB := Aside0.mk (below_step hb_ hb)))
               (try simp only [Act.put, List.setIfInBounds_toArray, List.set_cons_zero, List.set_cons_succ])
               have H := HF135.out
               clear HF135
               by_cases c164 : t696 = t698
               ·rw [if_pos c164] at H
                have c164b0 : (t696 == t698) = true := beq_iff_eq.mpr c164
                have c164b1 : (t696 != t698) = false := bne_eq_false_iff_eq.mpr c164
                clear c164
                (first | rw [c164b0] | (simp only [i64_w, i32_w]; rw [c164b0]) | rw [c164b1] | skip)
                have H' := Aside0.mk H
                clear H
                go_wp2
                go_roundg kj56
                case measure => have := HJ6.out; have := HK2.out; have := HJ56.out; omega
                case rel => exact ⟨(wrap64 (x13_2 + 1)), (by first | rfl | (simp; done) | (simp [*]; done)), H', ⟨by have := HJ6.out; have := HK2.out; have := HJ56.out; omega⟩, ⟨by exact BK645.out⟩, ⟨by exact BK646.out⟩, ⟨by exact BK657.out⟩, ⟨by exact BK668.out⟩, ⟨hb_⟩⟩
               ·rw [if_neg c164] at H
                have c164b0 : (t696 == t698) = false := beq_eq_false_iff_ne.mpr c164
                have c164b1 : (t696 != t698) = true := bne_iff_ne.mpr c164
                (first | rw [c164b0] | (simp only [i64_w, i32_w]; rw [c164b0]) | rw [c164b1] | skip)
                obtain rfl := Option.some.inj H
                go_wp2
                go_ret
                exact fin_
          ·rw [if_neg c54] at H
           exact absurd H (by simp)
         ·rw [if_neg c53] at H
          exact absurd H (by simp)
        ·rw [if_neg c52] at H
         exact absurd H (by simp)
       ·rw [if_neg c51] at H
        have c51b0 : decide (x13_2 < 8) = false := decide_eq_false c51
        clear c51
        obtain rfl := Option.some.inj H
        go_wp2
        go_ret
        exact fin_
    ·rw [if_neg c50] at H
     have c50b0 : (t656 == 0) = false := beq_eq_false_iff_ne.mpr c50
     have c50b1 : (t656 != 0) = true := bne_iff_ne.mpr c50
     obtain rfl := Option.some.inj H
     go_wp2
     go_ret
     exact fin_
end Go.Proofs.YtihjcaglhjepdaaGreatDoor.P
