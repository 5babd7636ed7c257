/- A part of the proof. Part 3 of 7; its texts were written by programs, some out of the kit's print. -/
import Derived.Test.YtihjcaglhjepdaaDoorZRing1
namespace Go.Proofs.YtihjcaglhjepdaaDoor.P
open Go.RowKit Go.Proofs.YtihjcaglhjepdaaDoorW.PrintWords Go.Proofs.YtihjcaglhjepdaaDoorW.PrintLast Go.Proofs.YtihjcaglhjepdaaDoorW.PrintMore
attribute [local go_sem] max2_int max_two
set_option linter.unusedVariables false
set_option linter.unusedSimpArgs false
mutual
def decimal_made.l0 : Nat → Bool → List Int → Int → List Int → Int → Int → Option (Bool × ByteArray × ByteArray × Int)
  | 0, _, _, _, _, _, _ => none
  | k + 1, x0, x1, x2, x9, x29, x30 => if x30 < x29 then (if x9.length < 140737488355328 then (decimal_made.l0 k x0 x1 x2 (x9 ++ [48]) x29 (wrap64 (x30 + 1))) else (none)) else (decimal_made.l1 k x0 x1 x2 x9 x1 (x1.length : Int) 0)
def decimal_made.l1 : Nat → Bool → List Int → Int → List Int → List Int → Int → Int → Option (Bool × ByteArray × ByteArray × Int)
  | 0, _, _, _, _, _, _, _ => none
  | k + 1, x0, x1, x2, x9, x36, x37, x38 => if x38 < x37 then (if 0 ≤ x38 then (if x38 < (x36.length : Int) then (if x9.length < 140737488355328 then (decimal_made.l1 k x0 x1 x2 (x9 ++ [(48 + (rd x36 x38)) % 256]) x36 x37 (wrap64 (x38 + 1))) else (none)) else (none)) else (none)) else (if x0 = true then (if 0 ≤ (wrap64 ((x9.length : Int) - x2)) then (if (wrap64 ((x9.length : Int) - x2)) ≤ (x9.length : Int) then (some (decide ((x1.length : Int) > 0), strOfNums (x9.take ((wrap64 ((x9.length : Int) - x2)) : Int).toNat), strOfNums (x9.drop ((wrap64 ((x9.length : Int) - x2)) : Int).toNat), 0)) else (none)) else (none)) else (if 0 ≤ (wrap64 ((x9.length : Int) - x2)) then (if (wrap64 ((x9.length : Int) - x2)) ≤ (x9.length : Int) then (some (false, strOfNums (x9.take ((wrap64 ((x9.length : Int) - x2)) : Int).toNat), strOfNums (x9.drop ((wrap64 ((x9.length : Int) - x2)) : Int).toNat), 0)) else (none)) else (none)))
end
def decimal_made.f (k : Nat) (a0 : Bool) (l1 : List Int) (a2 : Int) : Option (Bool × ByteArray × ByteArray × Int) := if (wrap64 ((mx (mx (wrap64 ((l1.length : Int) - a2)) 0) 1) + a2)) > 40 then (some (false, (⟨#[]⟩ : ByteArray), (⟨#[]⟩ : ByteArray), 3)) else (if 0 ≤ 281474976710656 then (decimal_made.l0 k a0 l1 a2 (([] : List Int)) (wrap64 ((wrap64 (a2 + 1)) - (l1.length : Int))) 0) else (none))
theorem decimal_made.mono_l : ∀ k, (∀ y0 y1 y2 y3 y4 y5, LeO (decimal_made.l0 k y0 y1 y2 y3 y4 y5) (decimal_made.l0 (k + 1) y0 y1 y2 y3 y4 y5)) ∧ (∀ y0 y1 y2 y3 y4 y5 y6, LeO (decimal_made.l1 k y0 y1 y2 y3 y4 y5 y6) (decimal_made.l1 (k + 1) y0 y1 y2 y3 y4 y5 y6))
  | 0 => ⟨fun _ _ _ _ _ _ r h => by simp [decimal_made.l0] at h, fun _ _ _ _ _ _ _ r h => by simp [decimal_made.l1] at h⟩
  | k + 1 => by
    obtain ⟨ih0, ih1⟩ := decimal_made.mono_l k
    refine ⟨?_, ?_⟩
    · intro y0 y1 y2 y3 y4 y5
      unfold decimal_made.l0
      repeat' first
      | (with_reducible exact ih0 _ _ _ _ _ _)
      | (with_reducible exact ih1 _ _ _ _ _ _ _)
      | (with_reducible exact LeO.refl _)
      | (with_reducible exact LeO.none _)
      | (with_reducible refine LeO.ite ?_ ?_)
      | (with_reducible refine LeO.bind ?_ (fun _ => ?_))
      | exact ih0 _ _ _ _ _ _
      | exact ih1 _ _ _ _ _ _ _
      | exact LeO.none _
      | refine LeO.ite ?_ ?_
      | refine LeO.bind ?_ (fun _ => ?_)
    · intro y0 y1 y2 y3 y4 y5 y6
      unfold decimal_made.l1
      repeat' first
      | (with_reducible exact ih0 _ _ _ _ _ _)
      | (with_reducible exact ih1 _ _ _ _ _ _ _)
      | (with_reducible exact LeO.refl _)
      | (with_reducible exact LeO.none _)
      | (with_reducible refine LeO.ite ?_ ?_)
      | (with_reducible refine LeO.bind ?_ (fun _ => ?_))
      | exact ih0 _ _ _ _ _ _
      | exact ih1 _ _ _ _ _ _ _
      | exact LeO.none _
      | refine LeO.ite ?_ ?_
      | refine LeO.bind ?_ (fun _ => ?_)
theorem decimal_made.mono : ∀ a0 a1 a2 k, LeO (decimal_made.f k a0 a1 a2) (decimal_made.f (k + 1) a0 a1 a2) := by
  intro a0 a1 a2 k
  obtain ⟨ih0, ih1⟩ := decimal_made.mono_l k
  unfold decimal_made.f
  repeat' first
      | (with_reducible exact ih0 _ _ _ _ _ _)
      | (with_reducible exact ih1 _ _ _ _ _ _ _)
      | (with_reducible exact LeO.refl _)
      | (with_reducible exact LeO.none _)
      | (with_reducible refine LeO.ite ?_ ?_)
      | (with_reducible refine LeO.bind ?_ (fun _ => ?_))
      | exact ih0 _ _ _ _ _ _
      | exact ih1 _ _ _ _ _ _ _
      | exact LeO.none _
      | refine LeO.ite ?_ ?_
      | refine LeO.bind ?_ (fun _ => ?_)
def decimal_made.T15 : Bool × List (List Nat × List Nat) := (true, [([], []), ([0], [0]), ([1], [1]), ([2, 1], [1, 2]), ([3, 1], [1, 3]), ([1, 4], [1, 4]), ([], []), ([], []), ([6, 7], [6, 7]), ([8], [8]), ([], []), ([], []), ([10, 11], [10, 11]), ([12], [12]), ([5, 9, 13], [5, 9, 13]), ([14, 1, 0, 1, 2, 3, 4, 5, 6, 7, 8, 9, 10, 11, 12, 13, 14], [14]), ([15, 0, 1, 2, 3, 4, 5, 6, 7, 8, 9, 10, 11, 12, 13, 14, 15], [])])
def decimal_made.B15 : List Nat := [0, 1, 3, 7, 15, 31, 0, 0, 192, 448, 0, 0, 3072, 7168, 16383, 32767, 65535]
theorem decimal_made.tab15 : rtab .any (opsOf Tryd.f62 15) = decimal_made.T15 := by kernel_rfl
theorem decimal_made.bits15 : waitsOk decimal_made.T15.2 decimal_made.B15 = true := by kernel_rfl
set_option maxHeartbeats 8000000 in
set_option maxRecDepth 100000 in
theorem decimal_made.calls (k : Nat) (a0 : Bool) (A1 : Option Addr) (c1 : Nat) (l1 : List Int) (a2 : Int) (r1 : Bool) (r2 : ByteArray) (r3 : ByteArray) (r4 : Int) (w : World) (hr1 : Kd.C (Kd.int .u8) w A1 l1.length l1) (hc1 : l1.length ≤ c1) (h : decimal_made.f k a0 l1 a2 = some (r1, r2, r3, r4)) :
    Calls Tryd.prog 62 #[.bool a0, .slice A1 l1.length c1, .int .i64 a2] w fun e w' => e = .returned (.tuple #[.agg #[.bool r1, .string r2, .string r3], .int .i64 r4]) ∧ Below w.heap.size w w' := by
  have hu23 := Tryd.underlying23
  have HR1 := Aside0.mk hr1
  have HC1 := Aside0.mk hc1
  clear hr1 hc1
  have HB := Aside0.mk (Below.refl w.heap.size w)
  unfold decimal_made.f at h
  have H := h
  clear h
  obtain ⟨ji4, hji4⟩ : ∃ j_ : Int, (mx (wrap64 ((l1.length : Int) - a2)) 0) = j_ := ⟨_, rfl⟩
  replace H : (if (wrap64 ((mx (ji4) 1) + a2)) > 40 then (some (false, (⟨#[]⟩ : ByteArray), (⟨#[]⟩ : ByteArray), 3)) else (if 0 ≤ 281474976710656 then (decimal_made.l0 k a0 l1 a2 (([] : List Int)) (wrap64 ((wrap64 (a2 + 1)) - (l1.length : Int))) 0) else (none))) = some (r1, r2, r3, r4) := by first | (rw [hji4] at H; exact H) | (simp only [hji4] at H ⊢; exact H)
  (try (have hji4l : 0 ≤ ji4 := by (rw [← hji4]; unfold mx; (repeat' split) <;> omega)))
  (try (have hji4m : 0 ≤ ji4 := by omega))
  have hji4_ : (if (wrap64 ((l1.length : Int) - a2)) < 0 then 0 else (wrap64 ((l1.length : Int) - a2))) = ji4 := hji4
  (try (have hji4n := hji4_; simp only [Int.ofNat_lt] at hji4n))
  obtain ⟨ji5, hji5⟩ : ∃ j_ : Int, (mx (ji4) 1) = j_ := ⟨_, rfl⟩
  replace H : (if (wrap64 ((ji5) + a2)) > 40 then (some (false, (⟨#[]⟩ : ByteArray), (⟨#[]⟩ : ByteArray), 3)) else (if 0 ≤ 281474976710656 then (decimal_made.l0 k a0 l1 a2 (([] : List Int)) (wrap64 ((wrap64 (a2 + 1)) - (l1.length : Int))) 0) else (none))) = some (r1, r2, r3, r4) := by first | (rw [hji5] at H; exact H) | (simp only [hji5] at H ⊢; exact H)
  have hji5_ : (if (ji4) < 1 then 1 else (ji4)) = ji5 := hji5
  (try (have hji5n := hji5_; simp only [Int.ofNat_lt] at hji5n))
  have HF6 := Aside0.mk H
  clear H
  go_enter Tryd.func62, Tryd.ntmps62
  go_upto_if 22 with (first | ((with_reducible refine gate_dst (N := 6) rfl ?_); (try (refine gate_guard (by rfl) ?_; dsimp only)); refine box_event ?hg (N := 6) ?hd (cs := #[.bool false, .string (⟨#[]⟩ : ByteArray), .string (⟨#[]⟩ : ByteArray)]) (t := 23) ?hr ?_; (case hd => rfl); (case hg => rfl); (case hr => first | (go_simp; done) | (go_simp; rfl)); intro gb144 hg w7 hbox hb; have n0_ := Aside0.mk (below_step (by repeat (first | (with_reducible first | exact HB.out | apply below_alloc | apply pw_below_drewN | apply below_drew1) | exact HB.out)) hb); have n1_ := Aside0.mk (hbox); have n2_ := Aside0.mk ((by rw [hg]; exact (below_size (by repeat (first | (with_reducible first | exact HB.out | apply below_alloc | apply pw_below_drewN | apply below_drew1) | exact HB.out))) : w.heap.size ≤ gb144)); have n3_ := Aside0.mk ((by rw [hg]; exact (below_size (by repeat (first | (with_reducible first | exact HB.out | apply below_alloc | apply pw_below_drewN | apply below_drew1) | exact HB.out))) : w.heap.size ≤ gb144)); clear HB; have HB := n0_; have BK144 := n1_; have GW144 := n2_; have GE144 := n3_; clear n0_ n1_ n2_ n3_; clear hb hbox hg))
  (try simp only [Act.put, List.setIfInBounds_toArray, List.set_cons_zero, List.set_cons_succ])
  have H := HF6.out
  clear HF6
  by_cases c8 : (wrap64 ((ji5) + a2)) > 40
  · rw [if_pos c8] at H
    have c8b0 : decide (40 < (wrap64 ((ji5) + a2))) = true := decide_eq_true c8
    clear c8
    (first | rw [c8b0] | (simp only [i64_w, i32_w]; rw [c8b0]) | skip)
    simp only [Option.some.injEq, Prod.mk.injEq] at H
    obtain ⟨rfl, rfl, rfl, rfl⟩ := H
    have hcz9_0 : w7.cell? ⟨gb144, 0, none⟩ = some (.bool false) := (blk_cell BK144.out 0).trans rfl
    have hcz9_1 : w7.cell? ⟨gb144, 1, none⟩ = some (.string (⟨#[]⟩ : ByteArray)) := (blk_cell BK144.out 1).trans rfl
    have hcz9_2 : w7.cell? ⟨gb144, 2, none⟩ = some (.string (⟨#[]⟩ : ByteArray)) := (blk_cell BK144.out 2).trans rfl
    have hfz9_0 := blk_frozen BK144.out 0
    have hfz9_1 := blk_frozen BK144.out 1
    have hfz9_2 := blk_frozen BK144.out 2
    go_wp2
    refine bodyPost_ret (results_ct rfl _ _ gb144 23 #[.bool false, .string (⟨#[]⟩ : ByteArray), .string (⟨#[]⟩ : ByteArray)] (0, 0) _ rfl (by (with_reducible repeat (first | refine blk_drewN ?_ _ | refine blk_drew ?_ | refine blk_alloc ?_ _)); refine blk_put (cs := #[.bool false, .string (⟨#[]⟩ : ByteArray), .string (⟨#[]⟩ : ByteArray)]) ?_ 2 _ (by first | rfl | simp); (with_reducible repeat (first | refine blk_drewN ?_ _ | refine blk_drew ?_ | refine blk_alloc ?_ _)); refine blk_put (cs := #[.bool false, .string (⟨#[]⟩ : ByteArray), .string (⟨#[]⟩ : ByteArray)]) ?_ 1 _ (by first | rfl | simp); (with_reducible repeat (first | refine blk_drewN ?_ _ | refine blk_drew ?_ | refine blk_alloc ?_ _)); refine blk_put (cs := #[.bool false, .string (⟨#[]⟩ : ByteArray), .string (⟨#[]⟩ : ByteArray)]) ?_ 0 _ (by first | rfl | simp); (with_reducible repeat (first | refine blk_drewN ?_ _ | refine blk_drew ?_ | refine blk_alloc ?_ _)); exact BK144.out) Tryd.underlying23 rfl (by kernel_rfl)) rfl ?_
    exact ⟨by first | rfl | (simp; done) | (simp [errW_none, errW_some] <;> rfl) | (simp only [← hji4, ← hji5]; first | rfl | (simp [errW_none, errW_some] <;> rfl)) | (simp [*, errW_none, errW_some] <;> rfl) | (simp [bne_nil_]; done), by repeat (first | (with_reducible first | exact HB.out | apply below_alloc | apply pw_below_drewN | apply below_drew1 | refine below_set ?_ GE144.out) | exact HB.out)⟩
  · rw [if_neg c8] at H
    have c8b0 : decide (40 < (wrap64 ((ji5) + a2))) = false := decide_eq_false c8
    clear c8
    (first | rw [c8b0] | (simp only [i64_w, i32_w]; rw [c8b0]) | skip)
    by_cases c10 : 0 ≤ 281474976710656
    · rw [if_pos c10] at H
      have c10b0 := eq_true c10
      have c10b1 : decide (0 ≤ 281474976710656) = true := decide_eq_true c10
      clear c10
      obtain ⟨y145, hy145⟩ : ∃ y_ : List Int, y_ = (([] : List Int)) := ⟨_, rfl⟩
      rw [← hy145] at H
      have Ny145 := Aside0.mk hy145
      clear hy145
      have H' := Aside0.mk H
      clear H
      go_wp2_with (first | ((with_reducible refine gate_dst (N := 24) rfl ?_); (try (refine gate_guard (by rfl) ?_; dsimp only)); refine Kd.R_makecap (Kd.int .u8) _ 5 rfl (N := 24) rfl 68 _ _ rfl 40 rfl rfl Tryd.underlying68 (.int .u8 0) 1 info5 rfl (by decide) (by omega) (ok := fun _ => True) trivial (by omega) (by omega) (Below.refl _ _) (Nat.le_refl _) ?_; intro v146 w11 ho12 hb hg_ hnew_; clear hg_ hnew_; (first | rw [← Ny145.out] at ho12 | (simp only [Int.reduceToNat] at ho12; rw [← Ny145.out] at ho12)); have n0_ := Aside0.mk (Kd.R_lower ho12 (below_size (by repeat (first | (with_reducible first | exact HB.out | apply below_alloc | apply pw_below_drewN | apply below_drew1 | refine below_set ?_ GE144.out) | exact HB.out)))); have n1_ := Aside0.mk (blk_below (g := gb144) (o := .cells #[.bool false, .string (⟨#[]⟩ : ByteArray), .string (⟨#[]⟩ : ByteArray)] 23 (0, 0)) (by (with_reducible repeat (first | refine blk_drewN ?_ _ | refine blk_drew ?_ | refine blk_alloc ?_ _)); exact BK144.out) hb); have n2_ := Aside0.mk (below_step (by repeat (first | (with_reducible first | exact HB.out | apply below_alloc | apply pw_below_drewN | apply below_drew1 | refine below_set ?_ GE144.out) | exact HB.out)) hb); clear BK144; clear HB; have HO147 := n0_; have BK144 := n1_; have HB := n2_; clear n0_ n1_ n2_; clear hb ho12))
      go_loopg [9, 30] k (fun kq v9 v30 w' => ∃ (x9_1 : List Int) (x30_1 : Int), v30 = .int .i64 x30_1 ∧ Aside0 (decimal_made.l0 kq a0 l1 a2 x9_1 (wrap64 ((wrap64 (a2 + 1)) - (l1.length : Int))) x30_1 = some (r1, r2, r3, r4)) ∧ Aside0 (kq ≤ k) ∧ Aside0 (Kd.R (Kd.int .u8) 5 w' w.heap.size (fun _ => True) v9 x9_1) ∧ Aside0 (w'.heap[gb144]? = some (.cells #[.bool false, .string (⟨#[]⟩ : ByteArray), .string (⟨#[]⟩ : ByteArray)] 23 (0, 0))) ∧ Aside0 (Below w.heap.size w w'))
      case atStart => exact ⟨(y145), (0), (by first | rfl | (simp; done) | (simp [*]; done)), H', ⟨Nat.le_refl _⟩, ⟨by (with_reducible repeat (first | apply Kd.R_alloc | apply Kd.R_drewN | apply Kd.R_drew)); exact HO147.out⟩, ⟨by (with_reducible repeat (first | refine blk_drewN ?_ _ | refine blk_drew ?_ | refine blk_alloc ?_ _)); exact BK144.out⟩, ⟨by repeat (first | (with_reducible first | exact HB.out | apply below_alloc | apply pw_below_drewN | apply below_drew1 | refine below_set ?_ GE144.out) | exact HB.out)⟩⟩
      case round =>
        clear H'
        try clear c1
        try clear p2
        try clear c6
        try clear p6
        try clear c8
        try clear c8b0
        try clear c10
        try clear c10b0
        try clear c10b1
        try clear hcz9_0
        try clear hcz9_1
        try clear hcz9_2
        try clear hfz9_0
        try clear hfz9_1
        try clear hfz9_2
        obtain ⟨x9_1, x30_1, rfl, HA, HK1, HO_9, BK144, HB⟩ := hrel
        cases gk with
        | zero => exact absurd HA.out (by simp [decimal_made.l0])
        | succ k1 =>
          have H := HA.out
          clear HA
          simp only [decimal_made.l0] at H
          by_cases c13 : x30_1 < (wrap64 ((wrap64 (a2 + 1)) - (l1.length : Int)))
          · rw [if_pos c13] at H
            have c13b0 : decide (x30_1 < (wrap64 ((wrap64 (a2 + 1)) - (l1.length : Int)))) = true := decide_eq_true c13
            clear c13
            by_cases c14 : x9_1.length < 140737488355328
            · rw [if_pos c14] at H
              have LMc14 := Aside0.mk c14
              clear c14
              obtain ⟨y148, hy148⟩ : ∃ y_ : List Int, y_ = (x9_1 ++ [48]) := ⟨_, rfl⟩
              rw [← hy148] at H
              have Ny148 := Aside0.mk hy148
              clear hy148
              have H' := Aside0.mk H
              clear H
              go_wp2_with (first | ((with_reducible refine gate_builtin (b := .append) (xs := #[.tmp 32, .tmp 33]) rfl ?_); (try (refine gate_guard (by rfl) ?_; dsimp only)); at_builtin; refine Kd.R_append (Kd.int .u8) (w0 := w) w.heap.size rfl (.tmp 32) (.tmp 33) 68 5 (.int .u8 0) 1 rfl Tryd.underlying68 info5 rfl (by decide) (by omega) u9 x9_1 48 [.int .u8 48] (fun _ => True) (fun _ => False) rfl rfl ?aP (fun _ hk => hk.elim) ?aF ?aO ?aB ?aS ?aL ?_; (case aP => exact rfl); (case aB => exact (by repeat (first | (with_reducible first | exact HB.out | apply below_alloc | apply pw_below_drewN | apply below_drew1 | refine below_set ?_ GE144.out) | exact HB.out))); (case aF => exact (fun _ _ => trivial)); (case aO => exact (by (with_reducible repeat (first | apply Kd.R_alloc | apply Kd.R_drewN | apply Kd.R_drew)); exact HO_9.out)); (case aS => exact (below_size (by repeat (first | (with_reducible first | exact HB.out | apply below_alloc | apply pw_below_drewN | apply below_drew1 | refine below_set ?_ GE144.out) | exact HB.out)))); (case aL => have := LMc14.out; omega); intro v149 w15 ho hb hg hat; rw [← Ny148.out] at ho; have n0_ := Aside0.mk (blk_grown (g := gb144) (o := .cells #[.bool false, .string (⟨#[]⟩ : ByteArray), .string (⟨#[]⟩ : ByteArray)] 23 (0, 0)) (by (with_reducible repeat (first | refine blk_drewN ?_ _ | refine blk_drew ?_ | refine blk_alloc ?_ _)); exact BK144.out) hg (Kd.R_ne HO_9.out BK144.out (by decide))); have n1_ := Aside0.mk (hb); have n2_ := Aside0.mk (ho); clear BK144; clear HB; clear HO_9; have BK144 := n0_; have HB := n1_; have HO150 := n2_; clear n0_ n1_ n2_; clear ho hb hg hat))
              go_roundg k1
              case measure => have := HK1.out; omega
              case rel => exact ⟨(y148), (wrap64 (x30_1 + 1)), (by first | rfl | (simp; done) | (simp [*]; done)), H', ⟨by have := HK1.out; omega⟩, ⟨by (with_reducible repeat (first | apply Kd.R_alloc | apply Kd.R_drewN | apply Kd.R_drew)); exact HO150.out⟩, ⟨by (with_reducible repeat (first | refine blk_drewN ?_ _ | refine blk_drew ?_ | refine blk_alloc ?_ _)); exact BK144.out⟩, ⟨by repeat (first | (with_reducible first | exact HB.out | apply below_alloc | apply pw_below_drewN | apply below_drew1 | refine below_set ?_ GE144.out) | exact HB.out)⟩⟩
            · rw [if_neg c14] at H
              exact absurd H (by simp)
          · rw [if_neg c13] at H
            have c13b0 : decide (x30_1 < (wrap64 ((wrap64 (a2 + 1)) - (l1.length : Int)))) = false := decide_eq_false c13
            clear c13
            have H' := Aside0.mk H
            clear H
            go_wp2
            go_loopg [9, 38] k1 (fun kq v9 v38 w' => ∃ (x9_2 : List Int) (x38_2 : Int), v38 = .int .i64 x38_2 ∧ Aside0 (decimal_made.l1 kq a0 l1 a2 x9_2 l1 (l1.length : Int) x38_2 = some (r1, r2, r3, r4)) ∧ Aside0 (kq ≤ k1) ∧ Aside0 (Kd.R (Kd.int .u8) 5 w' w.heap.size (fun _ => True) v9 x9_2) ∧ Aside0 (w'.heap[gb144]? = some (.cells #[.bool false, .string (⟨#[]⟩ : ByteArray), .string (⟨#[]⟩ : ByteArray)] 23 (0, 0))) ∧ Aside0 (Below w.heap.size w w'))
            case atStart => exact ⟨(x9_1), (0), (by first | rfl | (simp; done) | (simp [*]; done)), H', ⟨Nat.le_refl _⟩, ⟨by (with_reducible repeat (first | apply Kd.R_alloc | apply Kd.R_drewN | apply Kd.R_drew)); exact HO_9.out⟩, ⟨by (with_reducible repeat (first | refine blk_drewN ?_ _ | refine blk_drew ?_ | refine blk_alloc ?_ _)); exact BK144.out⟩, ⟨by repeat (first | (with_reducible first | exact HB.out | apply below_alloc | apply pw_below_drewN | apply below_drew1 | refine below_set ?_ GE144.out) | exact HB.out)⟩⟩
            case round =>
              clear H'
              try clear c1
              try clear p2
              try clear c6
              try clear p6
              try clear c8
              try clear c8b0
              try clear c10
              try clear c10b0
              try clear c10b1
              try clear c13
              try clear c13b0
              try clear c14
              try clear hcz9_0
              try clear hcz9_1
              try clear hcz9_2
              try clear hfz9_0
              try clear hfz9_1
              try clear hfz9_2
              try clear p2
              try clear p6
              obtain ⟨x9_2, x38_2, rfl, HA, HK2, HO_9, BK144, HB⟩ := hrel
              cases gk with
              | zero => exact absurd HA.out (by simp [decimal_made.l1])
              | succ k2 =>
                have H := HA.out
                clear HA
                simp only [decimal_made.l1] at H
                by_cases c16 : x38_2 < (l1.length : Int)
                · rw [if_pos c16] at H
                  have c16b0 : decide (x38_2 < (l1.length : Int)) = true := decide_eq_true c16
                  clear c16
                  by_cases c17 : 0 ≤ x38_2
                  · rw [if_pos c17] at H
                    have c17b0 : decide (0 ≤ x38_2) = true := decide_eq_true c17
                    clear c17
                    by_cases c18 : x38_2 < (l1.length : Int)
                    · rw [if_pos c18] at H
                      have c18b0 : decide (x38_2 < (l1.length : Int)) = true := decide_eq_true c18
                      clear c18
                      by_cases c19 : x9_2.length < 140737488355328
                      · rw [if_pos c19] at H
                        have LMc19 := Aside0.mk c19
                        clear c19
                        obtain ⟨y152, hy152⟩ : ∃ y_ : List Int, y_ = (x9_2 ++ [(48 + (rd l1 x38_2)) % 256]) := ⟨_, rfl⟩
                        rw [← hy152] at H
                        have Ny152 := Aside0.mk hy152
                        clear hy152
                        have H' := Aside0.mk H
                        clear H
                        have p151 : 0 ≤ (x38_2 : Int) := of_decide_eq_true (by first | (with_reducible assumption) | assumption)
                        have q151 : x38_2 < (l1.length : Int) := of_decide_eq_true (by first | (with_reducible assumption) | assumption)
                        obtain ⟨ad151, e151, hx151_0⟩ := Kd.at_int HR1.out x38_2 p151 q151
                        cases e151
                        replace hx151_0 := (HB.out.cell (World.block_lt_of_cell? w _ hx151_0)).trans hx151_0
                        replace p151 := eq_true p151
                        replace q151 := eq_true q151
                        go_wp2_with (first | ((with_reducible refine gate_builtin (b := .append) (xs := #[.tmp 42, .tmp 45]) rfl ?_); (try (refine gate_guard (by rfl) ?_; dsimp only)); at_builtin; refine Kd.R_append (Kd.int .u8) (w0 := w) w.heap.size rfl (.tmp 42) (.tmp 45) 68 5 (.int .u8 0) 1 rfl Tryd.underlying68 info5 rfl (by decide) (by omega) u9 x9_2 ((48 + (rd l1 x38_2)) % 256) [.int .u8 ((48 + (rd l1 x38_2)) % 256)] (fun _ => True) (fun _ => False) rfl rfl ?aP (fun _ hk => hk.elim) ?aF ?aO ?aB ?aS ?aL ?_; (case aP => exact rfl); (case aB => exact (by repeat (first | (with_reducible first | exact HB.out | apply below_alloc | apply pw_below_drewN | apply below_drew1 | refine below_set ?_ GE144.out) | exact HB.out))); (case aF => exact (fun _ _ => trivial)); (case aO => exact (by (with_reducible repeat (first | apply Kd.R_alloc | apply Kd.R_drewN | apply Kd.R_drew)); exact HO_9.out)); (case aS => exact (below_size (by repeat (first | (with_reducible first | exact HB.out | apply below_alloc | apply pw_below_drewN | apply below_drew1 | refine below_set ?_ GE144.out) | exact HB.out)))); (case aL => have := LMc19.out; omega); intro v153 w20 ho hb hg hat; rw [← Ny152.out] at ho; have n0_ := Aside0.mk (blk_grown (g := gb144) (o := .cells #[.bool false, .string (⟨#[]⟩ : ByteArray), .string (⟨#[]⟩ : ByteArray)] 23 (0, 0)) (by (with_reducible repeat (first | refine blk_drewN ?_ _ | refine blk_drew ?_ | refine blk_alloc ?_ _)); exact BK144.out) hg (Kd.R_ne HO_9.out BK144.out (by decide))); have n1_ := Aside0.mk (hb); have n2_ := Aside0.mk (ho); clear BK144; clear HB; clear HO_9; have BK144 := n0_; have HB := n1_; have HO154 := n2_; clear n0_ n1_ n2_; clear ho hb hg hat))
                        go_roundg k2
                        case measure => have := HK1.out; have := HK2.out; omega
                        case rel => exact ⟨(y152), (wrap64 (x38_2 + 1)), (by first | rfl | (simp; done) | (simp [*]; done)), H', ⟨by have := HK1.out; have := HK2.out; omega⟩, ⟨by (with_reducible repeat (first | apply Kd.R_alloc | apply Kd.R_drewN | apply Kd.R_drew)); exact HO154.out⟩, ⟨by (with_reducible repeat (first | refine blk_drewN ?_ _ | refine blk_drew ?_ | refine blk_alloc ?_ _)); exact BK144.out⟩, ⟨by repeat (first | (with_reducible first | exact HB.out | apply below_alloc | apply pw_below_drewN | apply below_drew1 | refine below_set ?_ GE144.out) | exact HB.out)⟩⟩
                      · rw [if_neg c19] at H
                        exact absurd H (by simp)
                    · rw [if_neg c18] at H
                      exact absurd H (by simp)
                  · rw [if_neg c17] at H
                    exact absurd H (by simp)
                · rw [if_neg c16] at H
                  have c16b0 : decide (x38_2 < (l1.length : Int)) = false := decide_eq_false c16
                  clear c16
                  by_cases c21 : a0 = true
                  · subst c21
                    have H1 : (if 0 ≤ (wrap64 ((x9_2.length : Int) - a2)) then (if (wrap64 ((x9_2.length : Int) - a2)) ≤ (x9_2.length : Int) then (some (decide ((l1.length : Int) > 0), strOfNums (x9_2.take ((wrap64 ((x9_2.length : Int) - a2)) : Int).toNat), strOfNums (x9_2.drop ((wrap64 ((x9_2.length : Int) - a2)) : Int).toNat), 0)) else (none)) else (none)) = some (r1, r2, r3, r4) := by rw [if_pos rfl] at H; exact H
                    clear H
                    have H := H1
                    clear H1
                    obtain ⟨ji22, hji22⟩ : ∃ j_ : Int, (wrap64 ((x9_2.length : Int) - a2)) = j_ := ⟨_, rfl⟩
                    replace H : (if 0 ≤ (ji22) then (if (ji22) ≤ (x9_2.length : Int) then (some (decide ((l1.length : Int) > 0), strOfNums (x9_2.take ((ji22) : Int).toNat), strOfNums (x9_2.drop ((ji22) : Int).toNat), 0)) else (none)) else (none)) = some (r1, r2, r3, r4) := by first | (rw [hji22] at H; exact H) | (simp only [hji22] at H ⊢; exact H)
                    have hji22w : (IntKind.i64.wrap ((x9_2.length : Int) - a2)) = ji22 := (i64_w _).trans hji22
                    by_cases c23 : 0 ≤ (ji22)
                    · rw [if_pos c23] at H
                      have c23b0 := eq_true c23
                      have c23b1 : decide (0 ≤ (ji22)) = true := decide_eq_true c23
                      clear c23
                      by_cases c24 : (ji22) ≤ (x9_2.length : Int)
                      · rw [if_pos c24] at H
                        have c24b0 := eq_true c24
                        have c24b1 : decide ((ji22) ≤ (x9_2.length : Int)) = true := decide_eq_true c24
                        clear c24
                        obtain ⟨y155, hy155⟩ : ∃ y_ : List Int, y_ = (x9_2.take ((ji22) : Int).toNat) := ⟨_, rfl⟩
                        rw [← hy155] at H
                        have Ny155 := Aside0.mk hy155
                        clear hy155
                        have c25b0 := eq_true (of_decide_eq_true (by first | (with_reducible assumption) | assumption) : 0 ≤ (ji22))
                        have c26b0 := eq_true (of_decide_eq_true (by first | (with_reducible assumption) | assumption) : (ji22) ≤ (x9_2.length : Int))
                        obtain ⟨y159, hy159⟩ : ∃ y_ : List Int, y_ = (x9_2.drop ((ji22) : Int).toNat) := ⟨_, rfl⟩
                        rw [← hy159] at H
                        have Ny159 := Aside0.mk hy159
                        clear hy159
                        simp only [Option.some.injEq, Prod.mk.injEq] at H
                        obtain ⟨rfl, rfl, rfl, rfl⟩ := H
                        obtain ⟨Ao27, co27, eo27⟩ := Kd.R_slice HO_9.out
                        subst eo27
                        try go_wp2
                        have n0_ := Aside0.mk (Kd.R_drew HO_9.out)
                        have n1_ := Aside0.mk (blk_drew BK144.out)
                        have n2_ := Aside0.mk (below_drew1 HB.out)
                        clear HO_9
                        clear BK144
                        clear HB
                        have HO_9 := n0_
                        have BK144 := n1_
                        have HB := n2_
                        clear n0_ n1_ n2_
                        have q29 : ((ji22) : Int) ≤ ((x9_2.length : Int) : Int) := of_decide_eq_true (by first | (with_reducible assumption) | assumption)
                        obtain ⟨i029, hi029, _, hsz29, _⟩ := info_parts info5
                        have hroom29 : x9_2.length ≤ co27 := (Kd.R_reads' HO_9.out).2.1
                        have hC29 : Kd.C (Kd.int .u8) _ Ao27 x9_2.length x9_2 := (Kd.R_reads' HO_9.out).2.2
                        have hcut29 := cut_to (P := Tryd.prog) 68 5 .i64 Tryd.underlying68 hi029 Ao27 x9_2.length co27 (ji22) (of_decide_eq_true (by first | (with_reducible assumption) | assumption)) q29 hroom29
                        have hr29 := Kd.C_take (m := ((ji22) : Int).toNat) hC29 (by omega)
                        have hy29 : y155.length = ((ji22) : Int).toNat := (by rw [Ny155.out, List.length_take]; omega)
                        rw [← Ny155.out] at hr29
                        rw [← hy29] at hcut29
                        have HR158 := Aside0.mk hr29
                        have HC158 := Aside0.mk (show y155.length ≤ co27 from by omega)
                        clear hr29 hC29 hroom29 hi029 hsz29
                        have KY29 := Aside0.mk hy29
                        clear hy29
                        have KL29 := Aside0.mk (show ((ji22) : Int).toNat ≤ x9_2.length from by omega)
                        replace q29 := eq_true q29
                        have q30 : ((ji22) : Int) ≤ ((x9_2.length : Int) : Int) := of_decide_eq_true (by first | (with_reducible assumption) | assumption)
                        obtain ⟨i030, hi030, _, hsz30, _⟩ := info_parts info5
                        have hroom30 : x9_2.length ≤ co27 := (Kd.R_reads' HO_9.out).2.1
                        have hC30 : Kd.C (Kd.int .u8) _ Ao27 x9_2.length x9_2 := (Kd.R_reads' HO_9.out).2.2
                        have q030 : (0 : Int) ≤ ((ji22) : Int) := of_decide_eq_true (by first | (with_reducible assumption) | assumption)
                        have hcut30 := cut_from (P := Tryd.prog) 68 5 .i64 Tryd.underlying68 hi030 1 hsz30 Ao27 x9_2.length co27 (ji22) q030 q30
                        have hr30 := Kd.C_drop (m := ((ji22) : Int).toNat) (c := co27) hC30 (by omega) hroom30
                        obtain ⟨A30, hA30⟩ : ∃ A1, A1 = (if co27 = ((ji22) : Int).toNat then Ao27 else (Ao27 : Option Addr).map (·.add (((ji22) : Int).toNat * 1))) := ⟨_, rfl⟩
                        obtain ⟨c30, hc30⟩ : ∃ c1, c1 = co27 - ((ji22) : Int).toNat := ⟨_, rfl⟩
                        have hy30 : y159.length = x9_2.length - ((ji22) : Int).toNat := (by rw [Ny159.out, List.length_drop] <;> omega)
                        rw [show (x9_2).drop ((ji22) : Int).toNat = y159 from Ny159.out.symm] at hr30
                        replace hr30 : Kd.C (Kd.int .u8) _ A30 y159.length y159 := (by rw [hA30]; exact hr30)
                        rw [← hy30, ← hA30, ← hc30] at hcut30
                        have HR162 := Aside0.mk hr30
                        have HC162 := Aside0.mk (show y159.length ≤ c30 from by rw [hy30, hc30]; exact Nat.sub_le_sub_right hroom30 _)
                        clear hr30 hC30 hroom30 hi030 hsz30 hc30
                        have KY30 := Aside0.mk hy30
                        have KA30 := Aside0.mk hA30
                        clear hy30 hA30
                        have KL30 := Aside0.mk (show ((ji22) : Int).toNat ≤ x9_2.length from by omega)
                        replace q30 := eq_true q30
                        have hcv31 := Kd.C_string (P := Tryd.prog) (A := Ao27) (c := co27) Tryd.underlying68 Tryd.underlying5 Tryd.underlying9 (by repeat (first | (with_reducible exact HR158.out) | (with_reducible refine Kd.C_alloc ?_ _) | (with_reducible refine Kd.C_drewN ?_ _) | (with_reducible refine Kd.C_drew ?_) | exact HR158.out))
                        have hcv32 := Kd.C_string (P := Tryd.prog) (A := A30) (c := c30) Tryd.underlying68 Tryd.underlying5 Tryd.underlying9 (by repeat (first | (with_reducible exact HR162.out) | (with_reducible refine Kd.C_alloc ?_ _) | (with_reducible refine Kd.C_drewN ?_ _) | (with_reducible refine Kd.C_drew ?_) | exact HR162.out))
                        refine start_ (n := 17) (S := fun w' => (convert 68 9 (.slice Ao27 y155.length co27)).run Tryd.prog w' = .ok (.string (strOfNums y155)) w' ∧ (convert 68 9 (.slice A30 y159.length c30)).run Tryd.prog w' = .ok (.string (strOfNums y159)) w') (ds := [15]) #[false, false, false, false, false, false, false, false, false, false, false, false, false, false, false, false, false] (by kernel_rfl) rfl rfl ⟨hcv31, hcv32⟩ (fun hHeld => ?_); refine with_tabW decimal_made.tab15 decimal_made.bits15 (fun HT_ HW_ => ?_)
                        generalize wr.drew = w28 at HO_9 BK144 HB HR158 HR162 hHeld ⊢
                        refine pure_ (i := 0) (N := some 52) (v := ?_) (a' := ?_) #[true, false, false, false, false, false, false, false, false, false, false, false, false, false, false, false, false] rfl rfl (any_of HT_.out (by kernel_rfl)) (fun _ _ _ h => h) (Or.inl ⟨by rfl, ?_⟩) ?_ ?_
                        rotate_left
                        · intro w'
                          go_simp
                          with_reducible rfl
                        rotate_left
                        · simp only [Act.put, List.setIfInBounds_toArray, List.set_cons_zero, List.set_cons_succ, i64_w, i32_w]
                          rfl
                        refine pure_ (i := 1) (N := some 53) (v := ?_) (a' := ?_) #[true, true, false, false, false, false, false, false, false, false, false, false, false, false, false, false, false] rfl rfl (any_of HT_.out (by kernel_rfl)) (fun _ _ _ h => h) (Or.inl ⟨by rfl, ?_⟩) ?_ ?_
                        rotate_left
                        · intro w'
                          go_simp
                          with_reducible rfl
                        rotate_left
                        · simp only [Act.put, List.setIfInBounds_toArray, List.set_cons_zero, List.set_cons_succ, i64_w, i32_w]
                          rfl
                        refine pure_ (i := 2) (N := some 54) (v := ?_) (a' := ?_) #[true, true, true, false, false, false, false, false, false, false, false, false, false, false, false, false, false] rfl rfl (any_of HT_.out (by kernel_rfl)) (fun _ _ _ h => h) (Or.inl ⟨by rfl, ?_⟩) ?_ ?_
                        rotate_left
                        · intro w'
                          go_simp
                          with_reducible rfl
                        rotate_left
                        · simp only [Act.put, List.setIfInBounds_toArray, List.set_cons_zero, List.set_cons_succ, i64_w, i32_w]
                          rfl
                        refine pure_ (i := 3) (N := some 55) (v := ?_) (a' := ?_) #[true, true, true, true, false, false, false, false, false, false, false, false, false, false, false, false, false] rfl rfl (any_of HT_.out (by kernel_rfl)) (fun _ _ _ h => h) (Or.inl ⟨by rfl, ?_⟩) ?_ ?_
                        rotate_left
                        · intro w'
                          go_simp
                          with_reducible rfl
                        rotate_left
                        · simp only [Act.put, List.setIfInBounds_toArray, List.set_cons_zero, List.set_cons_succ, i64_w, i32_w]
                          rfl
                        refine pure_ (i := 4) (N := some 56) (v := ?_) (a' := ?_) #[true, true, true, true, true, false, false, false, false, false, false, false, false, false, false, false, false] rfl rfl (any_of HT_.out (by kernel_rfl)) (fun _ _ _ h => h) (Or.inl ⟨by rfl, ?_⟩) ?_ ?_
                        rotate_left
                        · intro w'
                          go_simp
                          with_reducible rfl
                        rotate_left
                        · simp only [Act.put, List.setIfInBounds_toArray, List.set_cons_zero, List.set_cons_succ, i64_w, i32_w]
                          rfl
                        refine pure_ (i := 5) (N := some 57) (v := ?_) (a' := ?_) #[true, true, true, true, true, true, false, false, false, false, false, false, false, false, false, false, false] rfl rfl (any_of HT_.out (by kernel_rfl)) (fun _ _ _ h => h) (Or.inl ⟨by rfl, ?_⟩) ?_ ?_
                        rotate_left
                        · intro w'
                          go_simp
                          with_reducible rfl
                        rotate_left
                        · simp only [Act.put, List.setIfInBounds_toArray, List.set_cons_zero, List.set_cons_succ, i64_w, i32_w]
                          rfl
                        refine pure_ (i := 6) (N := some 58) (v := ?_) (a' := ?_) #[true, true, true, true, true, true, true, false, false, false, false, false, false, false, false, false, false] rfl rfl (any_of HT_.out (by kernel_rfl)) (fun _ _ _ h => h) (Or.inl ⟨by rfl, ?_⟩) ?_ ?_
                        rotate_left
                        · intro w'
                          go_simp
                          with_reducible rfl
                        rotate_left
                        · simp only [Act.put, List.setIfInBounds_toArray, List.set_cons_zero, List.set_cons_succ, i64_w, i32_w]
                          rfl
                        refine pure_ (i := 7) (N := some 59) (v := ?_) (a' := ?_) #[true, true, true, true, true, true, true, true, false, false, false, false, false, false, false, false, false] rfl rfl (any_of HT_.out (by kernel_rfl)) (fun _ _ _ h => h) (Or.inl ⟨by rfl, ?_⟩) ?_ ?_
                        rotate_left
                        · intro w'
                          go_simp
                          with_reducible rfl
                        rotate_left
                        · simp only [Act.put, List.setIfInBounds_toArray, List.set_cons_zero, List.set_cons_succ, i64_w, i32_w]
                          rfl
                        refine pure_ (i := 8) (N := some 60) (v := ?_) (a' := ?_) #[true, true, true, true, true, true, true, true, true, false, false, false, false, false, false, false, false] rfl rfl (any_of HT_.out (by kernel_rfl)) (fun _ _ _ h => h) (Or.inl ⟨by rfl, ?_⟩) ?_ ?_
                        rotate_left
                        · intro w'
                          go_simp
                          with_reducible rfl
                        rotate_left
                        · simp only [Act.put, List.setIfInBounds_toArray, List.set_cons_zero, List.set_cons_succ, i64_w, i32_w]
                          rfl
                        refine pure_ (i := 10) (N := some 62) (v := ?_) (a' := ?_) #[true, true, true, true, true, true, true, true, true, false, true, false, false, false, false, false, false] rfl rfl (any_of HT_.out (by kernel_rfl)) (fun _ _ _ h => h) (Or.inl ⟨by rfl, ?_⟩) ?_ ?_
                        rotate_left
                        · intro w'
                          go_simp
                          with_reducible rfl
                        rotate_left
                        · simp only [Act.put, List.setIfInBounds_toArray, List.set_cons_zero, List.set_cons_succ, i64_w, i32_w]
                          rfl
                        refine pure_ (i := 11) (N := some 63) (v := ?_) (a' := ?_) #[true, true, true, true, true, true, true, true, true, false, true, true, false, false, false, false, false] rfl rfl (any_of HT_.out (by kernel_rfl)) (fun _ _ _ h => h) (Or.inl ⟨by rfl, ?_⟩) ?_ ?_
                        rotate_left
                        · intro w'
                          go_simp
                          with_reducible rfl
                        rotate_left
                        · simp only [Act.put, List.setIfInBounds_toArray, List.set_cons_zero, List.set_cons_succ, i64_w, i32_w]
                          rfl
                        refine pure_ (i := 12) (N := some 64) (v := ?_) (a' := ?_) #[true, true, true, true, true, true, true, true, true, false, true, true, true, false, false, false, false] rfl rfl (any_of HT_.out (by kernel_rfl)) (fun _ _ _ h => h) (Or.inl ⟨by rfl, ?_⟩) ?_ ?_
                        rotate_left
                        · intro w'
                          go_simp
                          with_reducible rfl
                        rotate_left
                        · simp only [Act.put, List.setIfInBounds_toArray, List.set_cons_zero, List.set_cons_succ, i64_w, i32_w]
                          rfl
                        refine take_ (i := 9) (N := some 61) (v := ?_) (a' := ?_) #[true, true, true, true, true, true, true, true, true, true, true, true, true, false, false, false, false] rfl rfl (take_ofW HT_.out HW_.out (by kernel_rfl)) (fun _ _ _ h => h) (Or.inl ⟨by rfl, ?_⟩) hHeld ?_ ?_
                        rotate_left
                        · rintro w' ⟨s0, s1⟩
                          go_simp
                          with_reducible rfl
                        rotate_left
                        · simp only [Act.put, List.setIfInBounds_toArray, List.set_cons_zero, List.set_cons_succ, i64_w, i32_w]
                          rfl
                        refine take_ (i := 13) (N := some 65) (v := ?_) (a' := ?_) #[true, true, true, true, true, true, true, true, true, true, true, true, true, true, false, false, false] rfl rfl (take_ofW HT_.out HW_.out (by kernel_rfl)) (fun _ _ _ h => h) (Or.inl ⟨by rfl, ?_⟩) hHeld ?_ ?_
                        rotate_left
                        · rintro w' ⟨s0, s1⟩
                          go_simp
                          with_reducible rfl
                        rotate_left
                        · simp only [Act.put, List.setIfInBounds_toArray, List.set_cons_zero, List.set_cons_succ, i64_w, i32_w]
                          rfl
                        refine pure_ (i := 14) (N := some 66) (v := ?_) (a' := ?_) #[true, true, true, true, true, true, true, true, true, true, true, true, true, true, true, false, false] rfl rfl (any_of HT_.out (by kernel_rfl)) (fun _ _ _ h => h) (Or.inl ⟨by rfl, ?_⟩) ?_ ?_
                        rotate_left
                        · intro w'
                          go_simp
                          with_reducible rfl
                        rotate_left
                        · simp only [Act.put, List.setIfInBounds_toArray, List.set_cons_zero, List.set_cons_succ, i64_w, i32_w]
                          rfl
                        refine last_ (i := 15) (N := none) #[true, true, true, true, true, true, true, true, true, true, true, true, true, true, true, true, false] rfl rfl (one_of HT_.out (by kernel_rfl)) (by decide) (fun K hK => ?_)
                        have hs34 : w28.cell? ⟨gb144, 0, none⟩ = some (.bool false) := (blk_cell BK144.out 0).trans rfl
                        have hfs34 := blk_frozen BK144.out 0
                        have hs35 : w28.cell? ⟨gb144, 1, none⟩ = some (.string (⟨#[]⟩ : ByteArray)) := (blk_cell BK144.out 1).trans rfl
                        have hfs35 := blk_frozen BK144.out 1
                        have hs36 : w28.cell? ⟨gb144, 2, none⟩ = some (.string (⟨#[]⟩ : ByteArray)) := (blk_cell BK144.out 2).trans rfl
                        have hfs36 := blk_frozen BK144.out 2
                        refine skip_ (w1 := ?_) (by rfl) rfl ?_ ?_
                        rotate_left
                        · go_simp
                          rfl
                        refine hK.out _ _ ?_
                        clear hK K
                        refine pure_ (i := 16) (N := some 7) (v := ?_) (a' := ?_) #[true, true, true, true, true, true, true, true, true, true, true, true, true, true, true, true, true] rfl rfl (any_of HT_.out (by kernel_rfl)) (fun _ _ _ h => h) (Or.inl ⟨by rfl, ?_⟩) ?_ ?_
                        rotate_left
                        · intro w'
                          go_simp
                          with_reducible rfl
                        rotate_left
                        · simp only [Act.put, List.setIfInBounds_toArray, List.set_cons_zero, List.set_cons_succ, i64_w, i32_w]
                          rfl
                        refine done_ (done_of HT_.out (by kernel_rfl)) ?_
                        try go_wp2
                        refine bodyPost_ret (results_ct rfl _ _ gb144 23 #[.bool (decide ((l1.length : Int) > 0)), .string (strOfNums y155), .string (strOfNums y159)] (0, 0) _ rfl (by (with_reducible repeat (first | refine blk_drewN ?_ _ | refine blk_drew ?_ | refine blk_alloc ?_ _)); refine blk_put (cs := #[.bool (decide ((l1.length : Int) > 0)), .string (strOfNums y155), .string (⟨#[]⟩ : ByteArray)]) ?_ 2 _ (by first | rfl | simp); (with_reducible repeat (first | refine blk_drewN ?_ _ | refine blk_drew ?_ | refine blk_alloc ?_ _)); refine blk_put (cs := #[.bool (decide ((l1.length : Int) > 0)), .string (⟨#[]⟩ : ByteArray), .string (⟨#[]⟩ : ByteArray)]) ?_ 1 _ (by first | rfl | simp); (with_reducible repeat (first | refine blk_drewN ?_ _ | refine blk_drew ?_ | refine blk_alloc ?_ _)); refine blk_put (cs := #[.bool false, .string (⟨#[]⟩ : ByteArray), .string (⟨#[]⟩ : ByteArray)]) ?_ 0 _ (by first | rfl | simp); (with_reducible repeat (first | refine blk_drewN ?_ _ | refine blk_drew ?_ | refine blk_alloc ?_ _)); exact BK144.out) Tryd.underlying23 rfl (by kernel_rfl)) rfl ?_
                        exact ⟨by first | rfl | (simp; done) | (simp [errW_none, errW_some] <;> rfl) | (simp only [← hji4, ← hji5, ← hji22]; first | rfl | (simp [errW_none, errW_some] <;> rfl)) | (simp [*, errW_none, errW_some] <;> rfl) | (simp [bne_nil_]; done), by repeat (first | (with_reducible first | exact HB.out | apply below_alloc | apply pw_below_drewN | apply below_drew1 | refine below_set ?_ GE144.out) | exact HB.out)⟩
                      · rw [if_neg c24] at H
                        exact absurd H (by simp)
                    · rw [if_neg c23] at H
                      exact absurd H (by simp)
                  · replace c21 := Bool.eq_false_iff.mpr c21
                    subst c21
                    have H1 : (if 0 ≤ (wrap64 ((x9_2.length : Int) - a2)) then (if (wrap64 ((x9_2.length : Int) - a2)) ≤ (x9_2.length : Int) then (some (false, strOfNums (x9_2.take ((wrap64 ((x9_2.length : Int) - a2)) : Int).toNat), strOfNums (x9_2.drop ((wrap64 ((x9_2.length : Int) - a2)) : Int).toNat), 0)) else (none)) else (none)) = some (r1, r2, r3, r4) := by rw [if_neg (show ¬ (false = true) by decide)] at H; exact H
                    clear H
                    have H := H1
                    clear H1
                    obtain ⟨ji37, hji37⟩ : ∃ j_ : Int, (wrap64 ((x9_2.length : Int) - a2)) = j_ := ⟨_, rfl⟩
                    replace H : (if 0 ≤ (ji37) then (if (ji37) ≤ (x9_2.length : Int) then (some (false, strOfNums (x9_2.take ((ji37) : Int).toNat), strOfNums (x9_2.drop ((ji37) : Int).toNat), 0)) else (none)) else (none)) = some (r1, r2, r3, r4) := by first | (rw [hji37] at H; exact H) | (simp only [hji37] at H ⊢; exact H)
                    have hji37w : (IntKind.i64.wrap ((x9_2.length : Int) - a2)) = ji37 := (i64_w _).trans hji37
                    by_cases c38 : 0 ≤ (ji37)
                    · rw [if_pos c38] at H
                      have c38b0 := eq_true c38
                      have c38b1 : decide (0 ≤ (ji37)) = true := decide_eq_true c38
                      clear c38
                      by_cases c39 : (ji37) ≤ (x9_2.length : Int)
                      · rw [if_pos c39] at H
                        have c39b0 := eq_true c39
                        have c39b1 : decide ((ji37) ≤ (x9_2.length : Int)) = true := decide_eq_true c39
                        clear c39
                        obtain ⟨y163, hy163⟩ : ∃ y_ : List Int, y_ = (x9_2.take ((ji37) : Int).toNat) := ⟨_, rfl⟩
                        rw [← hy163] at H
                        have Ny163 := Aside0.mk hy163
                        clear hy163
                        have c40b0 := eq_true (of_decide_eq_true (by first | (with_reducible assumption) | assumption) : 0 ≤ (ji37))
                        have c41b0 := eq_true (of_decide_eq_true (by first | (with_reducible assumption) | assumption) : (ji37) ≤ (x9_2.length : Int))
                        obtain ⟨y167, hy167⟩ : ∃ y_ : List Int, y_ = (x9_2.drop ((ji37) : Int).toNat) := ⟨_, rfl⟩
                        rw [← hy167] at H
                        have Ny167 := Aside0.mk hy167
                        clear hy167
                        simp only [Option.some.injEq, Prod.mk.injEq] at H
                        obtain ⟨rfl, rfl, rfl, rfl⟩ := H
                        obtain ⟨Ao42, co42, eo42⟩ := Kd.R_slice HO_9.out
                        subst eo42
                        try go_wp2
                        have n0_ := Aside0.mk (Kd.R_drew HO_9.out)
                        have n1_ := Aside0.mk (blk_drew BK144.out)
                        have n2_ := Aside0.mk (below_drew1 HB.out)
                        clear HO_9
                        clear BK144
                        clear HB
                        have HO_9 := n0_
                        have BK144 := n1_
                        have HB := n2_
                        clear n0_ n1_ n2_
                        have q44 : ((ji37) : Int) ≤ ((x9_2.length : Int) : Int) := of_decide_eq_true (by first | (with_reducible assumption) | assumption)
                        obtain ⟨i044, hi044, _, hsz44, _⟩ := info_parts info5
                        have hroom44 : x9_2.length ≤ co42 := (Kd.R_reads' HO_9.out).2.1
                        have hC44 : Kd.C (Kd.int .u8) _ Ao42 x9_2.length x9_2 := (Kd.R_reads' HO_9.out).2.2
                        have hcut44 := cut_to (P := Tryd.prog) 68 5 .i64 Tryd.underlying68 hi044 Ao42 x9_2.length co42 (ji37) (of_decide_eq_true (by first | (with_reducible assumption) | assumption)) q44 hroom44
                        have hr44 := Kd.C_take (m := ((ji37) : Int).toNat) hC44 (by omega)
                        have hy44 : y163.length = ((ji37) : Int).toNat := (by rw [Ny163.out, List.length_take]; omega)
                        rw [← Ny163.out] at hr44
                        rw [← hy44] at hcut44
                        have HR166 := Aside0.mk hr44
                        have HC166 := Aside0.mk (show y163.length ≤ co42 from by omega)
                        clear hr44 hC44 hroom44 hi044 hsz44
                        have KY44 := Aside0.mk hy44
                        clear hy44
                        have KL44 := Aside0.mk (show ((ji37) : Int).toNat ≤ x9_2.length from by omega)
                        replace q44 := eq_true q44
                        have q45 : ((ji37) : Int) ≤ ((x9_2.length : Int) : Int) := of_decide_eq_true (by first | (with_reducible assumption) | assumption)
                        obtain ⟨i045, hi045, _, hsz45, _⟩ := info_parts info5
                        have hroom45 : x9_2.length ≤ co42 := (Kd.R_reads' HO_9.out).2.1
                        have hC45 : Kd.C (Kd.int .u8) _ Ao42 x9_2.length x9_2 := (Kd.R_reads' HO_9.out).2.2
                        have q045 : (0 : Int) ≤ ((ji37) : Int) := of_decide_eq_true (by first | (with_reducible assumption) | assumption)
                        have hcut45 := cut_from (P := Tryd.prog) 68 5 .i64 Tryd.underlying68 hi045 1 hsz45 Ao42 x9_2.length co42 (ji37) q045 q45
                        have hr45 := Kd.C_drop (m := ((ji37) : Int).toNat) (c := co42) hC45 (by omega) hroom45
                        obtain ⟨A45, hA45⟩ : ∃ A1, A1 = (if co42 = ((ji37) : Int).toNat then Ao42 else (Ao42 : Option Addr).map (·.add (((ji37) : Int).toNat * 1))) := ⟨_, rfl⟩
                        obtain ⟨c45, hc45⟩ : ∃ c1, c1 = co42 - ((ji37) : Int).toNat := ⟨_, rfl⟩
                        have hy45 : y167.length = x9_2.length - ((ji37) : Int).toNat := (by rw [Ny167.out, List.length_drop] <;> omega)
                        rw [show (x9_2).drop ((ji37) : Int).toNat = y167 from Ny167.out.symm] at hr45
                        replace hr45 : Kd.C (Kd.int .u8) _ A45 y167.length y167 := (by rw [hA45]; exact hr45)
                        rw [← hy45, ← hA45, ← hc45] at hcut45
                        have HR170 := Aside0.mk hr45
                        have HC170 := Aside0.mk (show y167.length ≤ c45 from by rw [hy45, hc45]; exact Nat.sub_le_sub_right hroom45 _)
                        clear hr45 hC45 hroom45 hi045 hsz45 hc45
                        have KY45 := Aside0.mk hy45
                        have KA45 := Aside0.mk hA45
                        clear hy45 hA45
                        have KL45 := Aside0.mk (show ((ji37) : Int).toNat ≤ x9_2.length from by omega)
                        replace q45 := eq_true q45
                        have hcv46 := Kd.C_string (P := Tryd.prog) (A := Ao42) (c := co42) Tryd.underlying68 Tryd.underlying5 Tryd.underlying9 (by repeat (first | (with_reducible exact HR166.out) | (with_reducible refine Kd.C_alloc ?_ _) | (with_reducible refine Kd.C_drewN ?_ _) | (with_reducible refine Kd.C_drew ?_) | exact HR166.out))
                        have hcv47 := Kd.C_string (P := Tryd.prog) (A := A45) (c := c45) Tryd.underlying68 Tryd.underlying5 Tryd.underlying9 (by repeat (first | (with_reducible exact HR170.out) | (with_reducible refine Kd.C_alloc ?_ _) | (with_reducible refine Kd.C_drewN ?_ _) | (with_reducible refine Kd.C_drew ?_) | exact HR170.out))
                        refine start_ (n := 17) (S := fun w' => (convert 68 9 (.slice Ao42 y163.length co42)).run Tryd.prog w' = .ok (.string (strOfNums y163)) w' ∧ (convert 68 9 (.slice A45 y167.length c45)).run Tryd.prog w' = .ok (.string (strOfNums y167)) w') (ds := [15]) #[false, false, false, false, false, false, false, false, false, false, false, false, false, false, false, false, false] (by kernel_rfl) rfl rfl ⟨hcv46, hcv47⟩ (fun hHeld => ?_); refine with_tabW decimal_made.tab15 decimal_made.bits15 (fun HT_ HW_ => ?_)
                        generalize wr.drew = w43 at HO_9 BK144 HB HR166 HR170 hHeld ⊢
                        refine pure_ (i := 0) (N := some 52) (v := ?_) (a' := ?_) #[true, false, false, false, false, false, false, false, false, false, false, false, false, false, false, false, false] rfl rfl (any_of HT_.out (by kernel_rfl)) (fun _ _ _ h => h) (Or.inl ⟨by rfl, ?_⟩) ?_ ?_
                        rotate_left
                        · intro w'
                          go_simp
                          with_reducible rfl
                        rotate_left
                        · simp only [Act.put, List.setIfInBounds_toArray, List.set_cons_zero, List.set_cons_succ, i64_w, i32_w]
                          rfl
                        refine pure_ (i := 1) (N := some 53) (v := ?_) (a' := ?_) #[true, true, false, false, false, false, false, false, false, false, false, false, false, false, false, false, false] rfl rfl (any_of HT_.out (by kernel_rfl)) (fun _ _ _ h => h) (Or.inl ⟨by rfl, ?_⟩) ?_ ?_
                        rotate_left
                        · intro w'
                          go_simp
                          with_reducible rfl
                        rotate_left
                        · simp only [Act.put, List.setIfInBounds_toArray, List.set_cons_zero, List.set_cons_succ, i64_w, i32_w]
                          rfl
                        refine pure_ (i := 2) (N := some 54) (v := undef) (a' := ?_) #[true, true, true, false, false, false, false, false, false, false, false, false, false, false, false, false, false] rfl rfl (any_of HT_.out (by kernel_rfl)) (fun _ _ _ h => h) (Or.inr ⟨by rfl, rfl⟩) ?_ ?_
                        rotate_left
                        · simp only [Act.put, List.setIfInBounds_toArray, List.set_cons_zero, List.set_cons_succ, i64_w, i32_w]
                          rfl
                        refine pure_ (i := 3) (N := some 55) (v := undef) (a' := ?_) #[true, true, true, true, false, false, false, false, false, false, false, false, false, false, false, false, false] rfl rfl (any_of HT_.out (by kernel_rfl)) (fun _ _ _ h => h) (Or.inr ⟨by rfl, rfl⟩) ?_ ?_
                        rotate_left
                        · simp only [Act.put, List.setIfInBounds_toArray, List.set_cons_zero, List.set_cons_succ, i64_w, i32_w]
                          rfl
                        refine pure_ (i := 4) (N := some 56) (v := undef) (a' := ?_) #[true, true, true, true, true, false, false, false, false, false, false, false, false, false, false, false, false] rfl rfl (any_of HT_.out (by kernel_rfl)) (fun _ _ _ h => h) (Or.inr ⟨by rfl, rfl⟩) ?_ ?_
                        rotate_left
                        · simp only [Act.put, List.setIfInBounds_toArray, List.set_cons_zero, List.set_cons_succ, i64_w, i32_w]
                          rfl
                        refine pure_ (i := 5) (N := some 57) (v := ?_) (a' := ?_) #[true, true, true, true, true, true, false, false, false, false, false, false, false, false, false, false, false] rfl rfl (any_of HT_.out (by kernel_rfl)) (fun _ _ _ h => h) (Or.inl ⟨by rfl, ?_⟩) ?_ ?_
                        rotate_left
                        · intro w'
                          go_simp
                          with_reducible rfl
                        rotate_left
                        · simp only [Act.put, List.setIfInBounds_toArray, List.set_cons_zero, List.set_cons_succ, i64_w, i32_w]
                          rfl
                        refine pure_ (i := 6) (N := some 58) (v := ?_) (a' := ?_) #[true, true, true, true, true, true, true, false, false, false, false, false, false, false, false, false, false] rfl rfl (any_of HT_.out (by kernel_rfl)) (fun _ _ _ h => h) (Or.inl ⟨by rfl, ?_⟩) ?_ ?_
                        rotate_left
                        · intro w'
                          go_simp
                          with_reducible rfl
                        rotate_left
                        · simp only [Act.put, List.setIfInBounds_toArray, List.set_cons_zero, List.set_cons_succ, i64_w, i32_w]
                          rfl
                        refine pure_ (i := 7) (N := some 59) (v := ?_) (a' := ?_) #[true, true, true, true, true, true, true, true, false, false, false, false, false, false, false, false, false] rfl rfl (any_of HT_.out (by kernel_rfl)) (fun _ _ _ h => h) (Or.inl ⟨by rfl, ?_⟩) ?_ ?_
                        rotate_left
                        · intro w'
                          go_simp
                          with_reducible rfl
                        rotate_left
                        · simp only [Act.put, List.setIfInBounds_toArray, List.set_cons_zero, List.set_cons_succ, i64_w, i32_w]
                          rfl
                        refine pure_ (i := 8) (N := some 60) (v := ?_) (a' := ?_) #[true, true, true, true, true, true, true, true, true, false, false, false, false, false, false, false, false] rfl rfl (any_of HT_.out (by kernel_rfl)) (fun _ _ _ h => h) (Or.inl ⟨by rfl, ?_⟩) ?_ ?_
                        rotate_left
                        · intro w'
                          go_simp
                          with_reducible rfl
                        rotate_left
                        · simp only [Act.put, List.setIfInBounds_toArray, List.set_cons_zero, List.set_cons_succ, i64_w, i32_w]
                          rfl
                        refine pure_ (i := 10) (N := some 62) (v := ?_) (a' := ?_) #[true, true, true, true, true, true, true, true, true, false, true, false, false, false, false, false, false] rfl rfl (any_of HT_.out (by kernel_rfl)) (fun _ _ _ h => h) (Or.inl ⟨by rfl, ?_⟩) ?_ ?_
                        rotate_left
                        · intro w'
                          go_simp
                          with_reducible rfl
                        rotate_left
                        · simp only [Act.put, List.setIfInBounds_toArray, List.set_cons_zero, List.set_cons_succ, i64_w, i32_w]
                          rfl
                        refine pure_ (i := 11) (N := some 63) (v := ?_) (a' := ?_) #[true, true, true, true, true, true, true, true, true, false, true, true, false, false, false, false, false] rfl rfl (any_of HT_.out (by kernel_rfl)) (fun _ _ _ h => h) (Or.inl ⟨by rfl, ?_⟩) ?_ ?_
                        rotate_left
                        · intro w'
                          go_simp
                          with_reducible rfl
                        rotate_left
                        · simp only [Act.put, List.setIfInBounds_toArray, List.set_cons_zero, List.set_cons_succ, i64_w, i32_w]
                          rfl
                        refine pure_ (i := 12) (N := some 64) (v := ?_) (a' := ?_) #[true, true, true, true, true, true, true, true, true, false, true, true, true, false, false, false, false] rfl rfl (any_of HT_.out (by kernel_rfl)) (fun _ _ _ h => h) (Or.inl ⟨by rfl, ?_⟩) ?_ ?_
                        rotate_left
                        · intro w'
                          go_simp
                          with_reducible rfl
                        rotate_left
                        · simp only [Act.put, List.setIfInBounds_toArray, List.set_cons_zero, List.set_cons_succ, i64_w, i32_w]
                          rfl
                        refine take_ (i := 9) (N := some 61) (v := ?_) (a' := ?_) #[true, true, true, true, true, true, true, true, true, true, true, true, true, false, false, false, false] rfl rfl (take_ofW HT_.out HW_.out (by kernel_rfl)) (fun _ _ _ h => h) (Or.inl ⟨by rfl, ?_⟩) hHeld ?_ ?_
                        rotate_left
                        · rintro w' ⟨s0, s1⟩
                          go_simp
                          with_reducible rfl
                        rotate_left
                        · simp only [Act.put, List.setIfInBounds_toArray, List.set_cons_zero, List.set_cons_succ, i64_w, i32_w]
                          rfl
                        refine take_ (i := 13) (N := some 65) (v := ?_) (a' := ?_) #[true, true, true, true, true, true, true, true, true, true, true, true, true, true, false, false, false] rfl rfl (take_ofW HT_.out HW_.out (by kernel_rfl)) (fun _ _ _ h => h) (Or.inl ⟨by rfl, ?_⟩) hHeld ?_ ?_
                        rotate_left
                        · rintro w' ⟨s0, s1⟩
                          go_simp
                          with_reducible rfl
                        rotate_left
                        · simp only [Act.put, List.setIfInBounds_toArray, List.set_cons_zero, List.set_cons_succ, i64_w, i32_w]
                          rfl
                        refine pure_ (i := 14) (N := some 66) (v := ?_) (a' := ?_) #[true, true, true, true, true, true, true, true, true, true, true, true, true, true, true, false, false] rfl rfl (any_of HT_.out (by kernel_rfl)) (fun _ _ _ h => h) (Or.inl ⟨by rfl, ?_⟩) ?_ ?_
                        rotate_left
                        · intro w'
                          go_simp
                          with_reducible rfl
                        rotate_left
                        · simp only [Act.put, List.setIfInBounds_toArray, List.set_cons_zero, List.set_cons_succ, i64_w, i32_w]
                          rfl
                        refine last_ (i := 15) (N := none) #[true, true, true, true, true, true, true, true, true, true, true, true, true, true, true, true, false] rfl rfl (one_of HT_.out (by kernel_rfl)) (by decide) (fun K hK => ?_)
                        have hs49 : w43.cell? ⟨gb144, 0, none⟩ = some (.bool false) := (blk_cell BK144.out 0).trans rfl
                        have hfs49 := blk_frozen BK144.out 0
                        have hs50 : w43.cell? ⟨gb144, 1, none⟩ = some (.string (⟨#[]⟩ : ByteArray)) := (blk_cell BK144.out 1).trans rfl
                        have hfs50 := blk_frozen BK144.out 1
                        have hs51 : w43.cell? ⟨gb144, 2, none⟩ = some (.string (⟨#[]⟩ : ByteArray)) := (blk_cell BK144.out 2).trans rfl
                        have hfs51 := blk_frozen BK144.out 2
                        refine skip_ (w1 := ?_) (by rfl) rfl ?_ ?_
                        rotate_left
                        · go_simp
                          rfl
                        refine hK.out _ _ ?_
                        clear hK K
                        refine pure_ (i := 16) (N := some 7) (v := ?_) (a' := ?_) #[true, true, true, true, true, true, true, true, true, true, true, true, true, true, true, true, true] rfl rfl (any_of HT_.out (by kernel_rfl)) (fun _ _ _ h => h) (Or.inl ⟨by rfl, ?_⟩) ?_ ?_
                        rotate_left
                        · intro w'
                          go_simp
                          with_reducible rfl
                        rotate_left
                        · simp only [Act.put, List.setIfInBounds_toArray, List.set_cons_zero, List.set_cons_succ, i64_w, i32_w]
                          rfl
                        refine done_ (done_of HT_.out (by kernel_rfl)) ?_
                        try go_wp2
                        refine bodyPost_ret (results_ct rfl _ _ gb144 23 #[.bool false, .string (strOfNums y163), .string (strOfNums y167)] (0, 0) _ rfl (by (with_reducible repeat (first | refine blk_drewN ?_ _ | refine blk_drew ?_ | refine blk_alloc ?_ _)); refine blk_put (cs := #[.bool false, .string (strOfNums y163), .string (⟨#[]⟩ : ByteArray)]) ?_ 2 _ (by first | rfl | simp); (with_reducible repeat (first | refine blk_drewN ?_ _ | refine blk_drew ?_ | refine blk_alloc ?_ _)); refine blk_put (cs := #[.bool false, .string (⟨#[]⟩ : ByteArray), .string (⟨#[]⟩ : ByteArray)]) ?_ 1 _ (by first | rfl | simp); (with_reducible repeat (first | refine blk_drewN ?_ _ | refine blk_drew ?_ | refine blk_alloc ?_ _)); refine blk_put (cs := #[.bool false, .string (⟨#[]⟩ : ByteArray), .string (⟨#[]⟩ : ByteArray)]) ?_ 0 _ (by first | rfl | simp); (with_reducible repeat (first | refine blk_drewN ?_ _ | refine blk_drew ?_ | refine blk_alloc ?_ _)); exact BK144.out) Tryd.underlying23 rfl (by kernel_rfl)) rfl ?_
                        exact ⟨by first | rfl | (simp; done) | (simp [errW_none, errW_some] <;> rfl) | (simp only [← hji4, ← hji5, ← hji37]; first | rfl | (simp [errW_none, errW_some] <;> rfl)) | (simp [*, errW_none, errW_some] <;> rfl) | (simp [bne_nil_]; done), by repeat (first | (with_reducible first | exact HB.out | apply below_alloc | apply pw_below_drewN | apply below_drew1 | refine below_set ?_ GE144.out) | exact HB.out)⟩
                      · rw [if_neg c39] at H
                        exact absurd H (by simp)
                    · rw [if_neg c38] at H
                      exact absurd H (by simp)
    · rw [if_neg c10] at H
      exact absurd H (by simp)
end Go.Proofs.YtihjcaglhjepdaaDoor.P
namespace Go.Proofs.YtihjcaglhjepdaaDoor.P
open Go.RowKit Go.Proofs.YtihjcaglhjepdaaDoorW.PrintWords Go.Proofs.YtihjcaglhjepdaaDoorW.PrintLast Go.Proofs.YtihjcaglhjepdaaDoorW.PrintMore
attribute [local go_sem] max2_int max_two
set_option linter.unusedVariables false
set_option linter.unusedSimpArgs false
def decimal_aligned.f (k : Nat) (a0_0 : Bool) (a0_1 : ByteArray) (a0_2 : ByteArray) (a1_0 : Bool) (a1_1 : ByteArray) (a1_2 : ByteArray) : Option (List Int × List Int × Int) := if a0_1.size + a0_2.size ≤ 9223372036854775807 then ((decimal_of.f k (a0_1 ++ a0_2)).bind fun t192 => ((decimal_digits_up.f t192 (wrap64 ((mx (a0_2.size : Int) (a1_2.size : Int)) - (a0_2.size : Int)))).bind fun t195 => (if a1_1.size + a1_2.size ≤ 9223372036854775807 then ((decimal_of.f k (a1_1 ++ a1_2)).bind fun t198 => ((decimal_digits_up.f t198 (wrap64 ((mx (a0_2.size : Int) (a1_2.size : Int)) - (a1_2.size : Int)))).bind fun t201 => (some (t195, t201, mx (a0_2.size : Int) (a1_2.size : Int))))) else (none)))) else (none)
theorem decimal_aligned.mono : ∀ a0 a1 a2 a3 a4 a5 k, LeO (decimal_aligned.f k a0 a1 a2 a3 a4 a5) (decimal_aligned.f (k + 1) a0 a1 a2 a3 a4 a5) := by
 intro a0 a1 a2 a3 a4 a5 k
 unfold decimal_aligned.f
 repeat' first
   | (with_reducible exact decimal_of.mono _ _)
   | (with_reducible exact LeO.refl _)
   | (with_reducible exact LeO.none _)
   | (with_reducible refine LeO.ite ?_ ?_)
   | (with_reducible refine LeO.bind ?_ (fun _ => ?_))
   | exact decimal_of.mono _ _
   | exact LeO.none _
   | refine LeO.ite ?_ ?_
   | refine LeO.bind ?_ (fun _ => ?_)
def decimal_aligned.T2 : Bool × List (List Nat × List Nat) := (true, [([], []), ([0], [0]), ([], []), ([2], [2]), ([1, 3], [1, 3]), ([4], [4]), ([], []), ([], []), ([7], [7]), ([8], [8]), ([6, 9], [6, 9]), ([5, 10, 5], [5, 10]), ([], []), ([12], [12]), ([], []), ([14], [14]), ([13, 15], [13, 15]), ([16, 11], [16]), ([], []), ([], []), ([19], [19]), ([20], [20]), ([18, 21], [18, 21]), ([17, 22, 17], [17, 22]), ([], []), ([11, 23, 0, 1, 2, 3, 4, 5, 6, 7, 8, 9, 10, 11], [11]), ([23, 25, 0, 1, 2, 3, 4, 5, 6, 7, 8, 9, 10, 11, 12, 13, 14, 15, 16, 17, 18, 19, 20, 21, 22, 23, 25], [23]), ([24, 26, 0, 1, 2, 3, 4, 5, 6, 7, 8, 9, 10, 11, 12, 13, 14, 15, 16, 17, 18, 19, 20, 21, 22, 23, 24, 25, 26], [6, 18, 24])])
def decimal_aligned.B2 : List Nat := [0, 1, 0, 4, 15, 31, 0, 0, 128, 384, 960, 2047, 0, 4096, 0, 16384, 61440, 131071, 0, 0, 524288, 1572864, 3932160, 8388607, 0, 16777215, 50331647, 134217727]
theorem decimal_aligned.tab2 : rtab .any (opsOf Tryd.f66 2) = decimal_aligned.T2 := by kernel_rfl
theorem decimal_aligned.bits2 : waitsOk decimal_aligned.T2.2 decimal_aligned.B2 = true := by kernel_rfl
set_option maxHeartbeats 8000000 in
set_option maxRecDepth 100000 in
theorem decimal_aligned.calls (k : Nat) (a0_0 : Bool) (a0_1 : ByteArray) (a0_2 : ByteArray) (a1_0 : Bool) (a1_1 : ByteArray) (a1_2 : ByteArray) (r1 : List Int) (r2 : List Int) (r3 : Int) (w : World) (h : decimal_aligned.f k a0_0 a0_1 a0_2 a1_0 a1_1 a1_2 = some (r1, r2, r3)) :
    Calls Tryd.prog 66 #[.agg #[.bool a0_0, .string a0_1, .string a0_2], .agg #[.bool a1_0, .string a1_1, .string a1_2]] w fun e w' => ∃ v0_ v1_ : Value, e = .returned (.tuple #[v0_, v1_, .int .i64 r3]) ∧ Kd.V (Kd.int .u8) 5 w' w.heap.size (fun k_ => (w.heap.size ≤ k_)) v0_ r1 ∧ Kd.V (Kd.int .u8) 5 w' w.heap.size (fun k_ => (w.heap.size ≤ k_)) v1_ r2 ∧ Below w.heap.size w w' := by
 have hu23 := Tryd.underlying23
 have HB := Aside0.mk (Below.refl w.heap.size w)
 unfold decimal_aligned.f at h
 have H := h
 clear h
 obtain ⟨ji3, hji3⟩ : ∃ j_ : Int, (mx (a0_2.size : Int) (a1_2.size : Int)) = j_ := ⟨_, rfl⟩
 replace H : (if a0_1.size + a0_2.size ≤ 9223372036854775807 then ((decimal_of.f k (a0_1 ++ a0_2)).bind fun t192 => ((decimal_digits_up.f t192 (wrap64 ((ji3) - (a0_2.size : Int)))).bind fun t195 => (if a1_1.size + a1_2.size ≤ 9223372036854775807 then ((decimal_of.f k (a1_1 ++ a1_2)).bind fun t198 => ((decimal_digits_up.f t198 (wrap64 ((ji3) - (a1_2.size : Int)))).bind fun t201 => (some (t195, t201, ji3)))) else (none)))) else (none)) = some (r1, r2, r3) := by first | (rw [hji3] at H; exact H) | (simp only [hji3] at H ⊢; exact H)
 (try (have hji3l : 0 ≤ ji3 := by (rw [← hji3]; unfold mx; (repeat' split) <;> omega)))
 (try (have hji3m : 0 ≤ ji3 := by omega))
 have hji3_ : (if (a0_2.size : Int) < (a1_2.size : Int) then (a1_2.size : Int) else (a0_2.size : Int)) = ji3 := hji3
 (try (have hji3n := hji3_; simp only [Int.ofNat_lt] at hji3n))
 by_cases c4 : a0_1.size + a0_2.size ≤ 9223372036854775807
 ·rw [if_pos c4] at H
  have c4b0 := eq_true c4
  have c4b1 : decide (a0_1.size + a0_2.size ≤ 9223372036854775807) = true := decide_eq_true c4
  try have c4b2 : (9223372036854775807 < a0_1.size + a0_2.size) = False := eq_false (Nat.not_lt.2 c4)
  replace H := Option.bind_eq_some_iff.mp H
  obtain ⟨t192, A50, H⟩ := H
  try dsimp only at H
  have A5 := Aside0.mk A50
  clear A50
  replace H := Option.bind_eq_some_iff.mp H
  obtain ⟨t195, A60, H⟩ := H
  try dsimp only at H
  have A6 := Aside0.mk A60
  clear A60
  by_cases c7 : a1_1.size + a1_2.size ≤ 9223372036854775807
  ·rw [if_pos c7] at H
   have c7b0 := eq_true c7
   have c7b1 : decide (a1_1.size + a1_2.size ≤ 9223372036854775807) = true := decide_eq_true c7
   try have c7b2 : (9223372036854775807 < a1_1.size + a1_2.size) = False := eq_false (Nat.not_lt.2 c7)
   replace H := Option.bind_eq_some_iff.mp H
   obtain ⟨t198, A80, H⟩ := H
   try dsimp only at H
   have A8 := Aside0.mk A80
   clear A80
   replace H := Option.bind_eq_some_iff.mp H
   obtain ⟨t201, A90, H⟩ := H
   try dsimp only at H
   have A9 := Aside0.mk A90
   clear A90
   simp only [Option.some.injEq, Prod.mk.injEq] at H
   obtain ⟨rfl, rfl, rfl⟩ := H
   go_enter Tryd.func66, Tryd.ntmps66
   try go_wp2_with (first | ((with_reducible refine gate_dst (N := 2) rfl ?_); refine bx_ #[.bool a0_0, .string a0_1, .string a0_2] 23 ?_; intro gb190 hg w10 hbox hb; have BK190 := Aside0.mk (hbox); have GW190 := Aside0.mk ((by rw [hg]; exact (below_size hb_) : w.heap.size ≤ gb190)); have GE190 := Aside0.mk ((by rw [hg]; exact (below_size hb_) : w.heap.size ≤ gb190)); replace HB := Aside0.mk (below_step hb_ hb); clear hb hbox hg) | ((with_reducible refine gate_dst (N := 3) rfl ?_); refine bx_ #[.bool a1_0, .string a1_1, .string a1_2] 23 ?_; intro gb191 hg w11 hbox hb; have BK191 := Aside0.mk (hbox); have GW191 := Aside0.mk ((by rw [hg]; exact (below_size hb_) : w.heap.size ≤ gb191)); have GE191 := Aside0.mk ((by rw [hg]; exact (below_size hb_) : w.heap.size ≤ gb191)); have NB190_191 := BK190.nl hg; have NB191_190 := BK190.ng hg; replace BK190 := BK190.bl hb; replace HB := Aside0.mk (below_step hb_ hb); clear hb hbox hg; have hnb12 := NB190_191.out; have hnc12 := NB191_190.out; obtain ⟨hcz13_0, hcz13_1, hcz13_2, hfz13_0, hfz13_1, hfz13_2⟩ := BK190.c3; obtain ⟨hcz14_0, hcz14_1, hcz14_2, hfz14_0, hfz14_1, hfz14_2⟩ := BK191.c3))
   replace BK190 := Aside0.mk (blk_drew BK190.out)
   replace BK191 := Aside0.mk (blk_drew BK191.out)
   replace HB := Aside0.mk (below_drew1 HB.out)
   refine start_ (n := 28) (S := fun w' => w'.cell? ⟨gb190, 0, none⟩ = some (.bool a0_0) ∧ w'.cell? ⟨gb190, 1, none⟩ = some (.string a0_1) ∧ w'.cell? ⟨gb190, 2, none⟩ = some (.string a0_2) ∧ w'.cell? ⟨gb191, 0, none⟩ = some (.bool a1_0) ∧ w'.cell? ⟨gb191, 1, none⟩ = some (.string a1_1) ∧ w'.cell? ⟨gb191, 2, none⟩ = some (.string a1_2)) (ds := []) #[false, false, false, false, false, false, false, false, false, false, false, false, false, false, false, false, false, false, false, false, false, false, false, false, false, false, false, false] (by kernel_rfl) rfl rfl ⟨(blk_cell BK190.out 0).trans rfl, (blk_cell BK190.out 1).trans rfl, (blk_cell BK190.out 2).trans rfl, (blk_cell BK191.out 0).trans rfl, (blk_cell BK191.out 1).trans rfl, (blk_cell BK191.out 2).trans rfl⟩ (fun hHeld => ?_); refine with_tabW decimal_aligned.tab2 decimal_aligned.bits2 (fun HT_ HW_ => ?_)
   generalize w11.drew = w15 at BK190 BK191 HB hHeld ⊢
   refine pr_ 0 (some 14) ?_
   refine pr_ 2 (some 16) ?_
   refine pr_ 6 (some 20) ?_
   refine pr_ 7 (some 21) ?_
   refine pr_ 12 (some 26) ?_
   refine pr_ 14 (some 28) ?_
   refine pr_ 18 (some 32) ?_
   refine pr_ 19 (some 33) ?_
   refine pr_ 24 (some 38) ?_
   refine tk_ 1 (some 15) hHeld ?_
   refine tk_ 3 (some 17) hHeld ?_
   refine pr_ 4 (some 18) ?_
   refine tk_ 8 (some 22) hHeld ?_
   refine pr_ 9 (some 23) ?_
   refine pr_ 10 (some 24) ?_
   refine tk_ 13 (some 27) hHeld ?_
   refine tk_ 15 (some 29) hHeld ?_
   refine pr_ 16 (some 30) ?_
   refine tk_ 20 (some 34) hHeld ?_
   refine pr_ 21 (some 35) ?_
   refine pr_ 22 (some 36) ?_
   refine one_ (i := 5) (N := some 19) #[true, true, true, true, true, true, true, true, true, true, true, false, true, true, true, true, true, false, true, true, true, true, true, false, true, false, false, false] rfl rfl (one_of HT_.out (by kernel_rfl)) (by decide) (fun K hK => ?_)
   refine goes_ Tryd.func73 (by kernel_rfl) rfl #[.string (a0_1 ++ a0_2)] (by rfl) rfl rfl ar_ ?_
   with_reducible refine (decimal_of.calls k (a0_1 ++ a0_2) t192 _ A5.out).mono ?_
   rintro e w16 ⟨v193, rfl, ho0, hb⟩
   refine ⟨_, rfl, ?_⟩
   have HO194 := Aside0.mk (Kd.R_lower (Kd.R_newM (M := fun k_ => (w.heap.size ≤ k_)) ho0 (below_size hb_) (fun k_ h_ => h_)) (below_size hb_))
   replace BK190 := BK190.bl hb
   replace BK191 := BK191.bl hb
   replace HB := Aside0.mk (below_step hb_ hb)
   (try clear hb)
   (try clear hb2)
   (try clear hk)
   (try clear hi)
   (try clear ho0)
   obtain ⟨Ao17, co17, eo17⟩ := Kd.R_slice HO194.out
   (first | subst eo17 | (injection eo17 with f1_ f2_ f3_; have f4_ := f1_.symm; have f5_ := f3_.symm; clear f1_ f2_ f3_; subst f4_; subst f5_))
   refine hK.out _ _ ⟨(blk_cell BK190.out 0).trans rfl, (blk_cell BK190.out 1).trans rfl, (blk_cell BK190.out 2).trans rfl, (blk_cell BK191.out 0).trans rfl, (blk_cell BK191.out 1).trans rfl, (blk_cell BK191.out 2).trans rfl⟩ (fun hHeld => ?_)
   clear hK K
   refine norm_ (a' := ?_) ?_ ?_
   rotate_left
   ·show Act.put _ (some 19) _ = _
    simp only [Act.put, List.setIfInBounds_toArray, List.set_cons_zero, List.set_cons_succ, i64_w, i32_w]
    rfl
   refine one_ (i := 11) (N := some 25) #[true, true, true, true, true, true, true, true, true, true, true, true, true, true, true, true, true, false, true, true, true, true, true, false, true, false, false, false] rfl rfl (one_of HT_.out (by kernel_rfl)) (by decide) (fun K hK => ?_)
   refine goes_ Tryd.func77 (by kernel_rfl) rfl #[.slice Ao17 t192.length co17, .int .i64 (wrap64 ((ji3) - (a0_2.size : Int)))] (by rfl) rfl rfl (by (try simp only [List.map_toArray, List.map_cons, List.map_nil]); first | done | (simp only [hji3]; rfl) | rfl | (simp only [List.length_drop, List.length_take]; rfl)) ?_
   with_reducible refine (decimal_digits_up.calls (fun k_ => some k_ = (.slice Ao17 t192.length co17 : Value).ownBlock) _ _ t192 (wrap64 ((ji3) - (a0_2.size : Int))) t195 _ ?side1 A6.out).mono ?_
   (case side1 => exact Kd.R_V (Kd.R_tight rfl (Kd.R_types (Kd.R_types (HO194.out) BK190.out (by decide)) BK191.out (by decide))))
   rintro e w18 ⟨v196, rfl, ho0, hb⟩
   refine ⟨_, rfl, ?_⟩
   have HO197 := Aside0.mk (Kd.V_lower (Kd.V_mono (ok' := fun k_ => (w.heap.size ≤ k_) ∧ k_ ≠ gb190 ∧ k_ ≠ gb191) ho0 (fun k_ hk_ => ⟨Or.elim hk_ (fun hs_ => ((Kd.R_types (Kd.R_types (HO194.out) BK190.out (by decide)) BK191.out (by decide)).1 k_ hs_.symm).1.1.1) (fun hn_ => (Nat.le_trans (below_size hb_) hn_)), Or.elim hk_ (fun hs_ => ((Kd.R_types (Kd.R_types (HO194.out) BK190.out (by decide)) BK191.out (by decide)).1 k_ hs_.symm).1.2) (fun hn_ => (Kd.freshB (g := gb190) (o := .cells #[.bool a0_0, .string a0_1, .string a0_2] 23 (0, 0)) BK190.out k_ hn_)), Or.elim hk_ (fun hs_ => ((Kd.R_types (Kd.R_types (HO194.out) BK190.out (by decide)) BK191.out (by decide)).1 k_ hs_.symm).2) (fun hn_ => (Kd.freshB (g := gb191) (o := .cells #[.bool a1_0, .string a1_1, .string a1_2] 23 (0, 0)) BK191.out k_ hn_))⟩)) (below_size hb_))
   replace HO194 := Aside0.mk (Kd.R_below (by (with_reducible repeat (first | apply Kd.R_alloc | apply Kd.R_drewN | apply Kd.R_drew)); exact HO194.out) hb)
   replace BK190 := BK190.bl hb
   replace BK191 := BK191.bl hb
   replace HB := Aside0.mk (below_step hb_ hb)
   (try clear hb)
   (try clear hb2)
   (try clear hk)
   (try clear hi)
   (try clear ho0)
   refine hK.out _ _ ⟨(blk_cell BK190.out 0).trans rfl, (blk_cell BK190.out 1).trans rfl, (blk_cell BK190.out 2).trans rfl, (blk_cell BK191.out 0).trans rfl, (blk_cell BK191.out 1).trans rfl, (blk_cell BK191.out 2).trans rfl⟩ (fun hHeld => ?_)
   clear hK K
   refine norm_ (a' := ?_) ?_ ?_
   rotate_left
   ·show Act.put _ (some 25) _ = _
    simp only [Act.put, List.setIfInBounds_toArray, List.set_cons_zero, List.set_cons_succ, i64_w, i32_w]
    rfl
   refine one_ (i := 17) (N := some 31) #[true, true, true, true, true, true, true, true, true, true, true, true, true, true, true, true, true, true, true, true, true, true, true, false, true, false, false, false] rfl rfl (one_of HT_.out (by kernel_rfl)) (by decide) (fun K hK => ?_)
   refine goes_ Tryd.func73 (by kernel_rfl) rfl #[.string (a1_1 ++ a1_2)] (by rfl) rfl rfl ar_ ?_
   with_reducible refine (decimal_of.calls k (a1_1 ++ a1_2) t198 _ A8.out).mono ?_
   rintro e w19 ⟨v199, rfl, ho0, hb⟩
   refine ⟨_, rfl, ?_⟩
   have HO200 := Aside0.mk (Kd.R_lower (Kd.R_new' (Kd.R_newM (M := fun k_ => (w.heap.size ≤ k_)) ho0 (below_size hb_) (fun k_ h_ => h_)) (Kd.R_lt (by (with_reducible repeat (first | apply Kd.R_alloc | apply Kd.R_drewN | apply Kd.R_drew)); exact HO194.out))) (below_size hb_))
   replace HO194 := Aside0.mk (Kd.R_elder' (by (with_reducible repeat (first | apply Kd.R_alloc | apply Kd.R_drewN | apply Kd.R_drew)); exact HO194.out) (Kd.R_base ho0) hb)
   replace HO197 := Aside0.mk (Kd.V_elder' (by (with_reducible repeat (first | apply Kd.V_alloc | apply Kd.V_drewN | apply Kd.V_drew)); exact HO197.out) (Kd.R_base ho0) hb)
   replace BK190 := BK190.bl hb
   replace BK191 := BK191.bl hb
   replace HB := Aside0.mk (below_step hb_ hb)
   (try clear hb)
   (try clear hb2)
   (try clear hk)
   (try clear hi)
   (try clear ho0)
   obtain ⟨Ao20, co20, eo20⟩ := Kd.R_slice HO200.out
   (first | subst eo20 | (injection eo20 with f1_ f2_ f3_; have f4_ := f1_.symm; have f5_ := f3_.symm; clear f1_ f2_ f3_; subst f4_; subst f5_))
   refine hK.out _ _ ⟨(blk_cell BK190.out 0).trans rfl, (blk_cell BK190.out 1).trans rfl, (blk_cell BK190.out 2).trans rfl, (blk_cell BK191.out 0).trans rfl, (blk_cell BK191.out 1).trans rfl, (blk_cell BK191.out 2).trans rfl⟩ (fun hHeld => ?_)
   clear hK K
   refine norm_ (a' := ?_) ?_ ?_
   rotate_left
   ·show Act.put _ (some 31) _ = _
    simp only [Act.put, List.setIfInBounds_toArray, List.set_cons_zero, List.set_cons_succ, i64_w, i32_w]
    rfl
   refine one_ (i := 23) (N := some 37) #[true, true, true, true, true, true, true, true, true, true, true, true, true, true, true, true, true, true, true, true, true, true, true, true, true, false, false, false] rfl rfl (one_of HT_.out (by kernel_rfl)) (by decide) (fun K hK => ?_)
   refine goes_ Tryd.func77 (by kernel_rfl) rfl #[.slice Ao20 t198.length co20, .int .i64 (wrap64 ((ji3) - (a1_2.size : Int)))] (by rfl) rfl rfl (by (try simp only [List.map_toArray, List.map_cons, List.map_nil]); first | done | (simp only [hji3]; rfl) | rfl | (simp only [List.length_drop, List.length_take]; rfl)) ?_
   with_reducible refine (decimal_digits_up.calls (fun k_ => some k_ = (.slice Ao20 t198.length co20 : Value).ownBlock) _ _ t198 (wrap64 ((ji3) - (a1_2.size : Int))) t201 _ ?side1 A9.out).mono ?_
   (case side1 => exact Kd.R_V (Kd.R_tight rfl (Kd.R_types (Kd.R_types (HO200.out) BK190.out (by decide)) BK191.out (by decide))))
   rintro e w21 ⟨v202, rfl, ho0, hb⟩
   refine ⟨_, rfl, ?_⟩
   have HO203 := Aside0.mk (Kd.V_lower (Kd.V_mono (ok' := fun k_ => (w.heap.size ≤ k_) ∧ some k_ ≠ (.slice Ao17 t192.length co17 : Value).ownBlock ∧ k_ ≠ gb190 ∧ k_ ≠ gb191) ho0 (fun k_ hk_ => ⟨Or.elim hk_ (fun hs_ => ((Kd.R_types (Kd.R_types (HO200.out) BK190.out (by decide)) BK191.out (by decide)).1 k_ hs_.symm).1.1.1.1) (fun hn_ => (Nat.le_trans (below_size hb_) hn_)), Or.elim hk_ (fun hs_ => ((Kd.R_types (Kd.R_types (HO200.out) BK190.out (by decide)) BK191.out (by decide)).1 k_ hs_.symm).1.1.2) (fun hn_ => (Kd.fresh' (Kd.R_lt (by (with_reducible repeat (first | apply Kd.R_alloc | apply Kd.R_drewN | apply Kd.R_drew)); exact HO194.out)) k_ hn_)), Or.elim hk_ (fun hs_ => ((Kd.R_types (Kd.R_types (HO200.out) BK190.out (by decide)) BK191.out (by decide)).1 k_ hs_.symm).1.2) (fun hn_ => (Kd.freshB (g := gb190) (o := .cells #[.bool a0_0, .string a0_1, .string a0_2] 23 (0, 0)) BK190.out k_ hn_)), Or.elim hk_ (fun hs_ => ((Kd.R_types (Kd.R_types (HO200.out) BK190.out (by decide)) BK191.out (by decide)).1 k_ hs_.symm).2) (fun hn_ => (Kd.freshB (g := gb191) (o := .cells #[.bool a1_0, .string a1_1, .string a1_2] 23 (0, 0)) BK191.out k_ hn_))⟩)) (below_size hb_))
   replace HO194 := Aside0.mk (Kd.R_below (by (with_reducible repeat (first | apply Kd.R_alloc | apply Kd.R_drewN | apply Kd.R_drew)); exact HO194.out) hb)
   replace HO197 := Aside0.mk (Kd.V_below (by (with_reducible repeat (first | apply Kd.V_alloc | apply Kd.V_drewN | apply Kd.V_drew)); exact HO197.out) hb)
   replace HO200 := Aside0.mk (Kd.R_below (by (with_reducible repeat (first | apply Kd.R_alloc | apply Kd.R_drewN | apply Kd.R_drew)); exact HO200.out) hb)
   replace BK190 := BK190.bl hb
   replace BK191 := BK191.bl hb
   replace HB := Aside0.mk (below_step hb_ hb)
   (try clear hb)
   (try clear hb2)
   (try clear hk)
   (try clear hi)
   (try clear ho0)
   refine hK.out _ _ ⟨(blk_cell BK190.out 0).trans rfl, (blk_cell BK190.out 1).trans rfl, (blk_cell BK190.out 2).trans rfl, (blk_cell BK191.out 0).trans rfl, (blk_cell BK191.out 1).trans rfl, (blk_cell BK191.out 2).trans rfl⟩ (fun hHeld => ?_)
   clear hK K
   refine norm_ (a' := ?_) ?_ ?_
   rotate_left
   ·show Act.put _ (some 37) _ = _
    simp only [Act.put, List.setIfInBounds_toArray, List.set_cons_zero, List.set_cons_succ, i64_w, i32_w]
    rfl
   refine pr_ 25 (some 4) ?_
   refine pr_ 26 (some 5) ?_
   refine pr_ 27 (some 6) ?_
   refine done_ (done_of HT_.out (by kernel_rfl)) ?_
   try go_wp2
   go_ret3
   exact ⟨_, _, by first | rfl | (simp [errW_none, errW_some] <;> rfl) | (simp only [← hji3]; first | rfl | (simp [errW_none, errW_some] <;> rfl)) | (simp [*, errW_none, errW_some] <;> rfl) | (simp [bne_nil_]; done), by (with_reducible repeat (first | apply Kd.V_alloc | apply Kd.V_drewN | apply Kd.V_drew)); exact Kd.V_mono HO197.out (fun _ hk => hk.1.1), by (with_reducible repeat (first | apply Kd.V_alloc | apply Kd.V_drewN | apply Kd.V_drew)); exact Kd.V_mono HO203.out (fun _ hk => hk.1), by repeat (first | (with_reducible first | exact HB.out | apply below_alloc | apply pw_below_drewN | apply below_drew1 | refine below_set ?_ GE190.out | refine below_set ?_ GE191.out) | exact HB.out)⟩
  ·rw [if_neg c7] at H
   exact absurd H (by simp)
 ·rw [if_neg c4] at H
  exact absurd H (by simp)
end Go.Proofs.YtihjcaglhjepdaaDoor.P
namespace Go.Proofs.YtihjcaglhjepdaaDoor.P
open Go.RowKit Go.Proofs.YtihjcaglhjepdaaDoorW.PrintWords Go.Proofs.YtihjcaglhjepdaaDoorW.PrintLast Go.Proofs.YtihjcaglhjepdaaDoorW.PrintMore
attribute [local go_sem] max2_int max_two
set_option linter.unusedVariables false
set_option linter.unusedSimpArgs false
def decimal_sum.f (k : Nat) (a0_0 : Bool) (a0_1 : ByteArray) (a0_2 : ByteArray) (a1_0 : Bool) (a1_1 : ByteArray) (a1_2 : ByteArray) (a2 : Bool) : Option (Bool × ByteArray × ByteArray × Int) := (decimal_aligned.f k a0_0 a0_1 a0_2 a1_0 a1_1 a1_2).bind fun bt255 => (if (a0_0 == a2) = true then ((decimal_digits_plus.f k bt255.1 bt255.2.1).bind fun t262 => ((decimal_made.f k a2 t262 bt255.2.2).bind fun bt265 => (some (bt265.1, bt265.2.1, bt265.2.2.1, bt265.2.2.2)))) else ((decimal_digits_cmp.f k bt255.1 bt255.2.1).bind fun t269 => (if t269 < 0 then ((decimal_digits_minus.f k bt255.2.1 bt255.1).bind fun t270 => ((decimal_made.f k a2 t270 bt255.2.2).bind fun bt273 => (some (bt273.1, bt273.2.1, bt273.2.2.1, bt273.2.2.2)))) else ((decimal_digits_minus.f k bt255.1 bt255.2.1).bind fun t277 => ((decimal_made.f k a0_0 t277 bt255.2.2).bind fun bt280 => (some (bt280.1, bt280.2.1, bt280.2.2.1, bt280.2.2.2)))))))
theorem decimal_sum.mono : ∀ a0 a1 a2 a3 a4 a5 a6 k, LeO (decimal_sum.f k a0 a1 a2 a3 a4 a5 a6) (decimal_sum.f (k + 1) a0 a1 a2 a3 a4 a5 a6) := by
 intro a0 a1 a2 a3 a4 a5 a6 k
 unfold decimal_sum.f
 repeat' first
   | (with_reducible exact decimal_aligned.mono _ _ _ _ _ _ _)
   | (with_reducible exact decimal_digits_cmp.mono _ _ _)
   | (with_reducible exact decimal_digits_minus.mono _ _ _)
   | (with_reducible exact decimal_digits_plus.mono _ _ _)
   | (with_reducible exact decimal_made.mono _ _ _ _)
   | (with_reducible exact LeO.refl _)
   | (with_reducible exact LeO.none _)
   | (with_reducible refine LeO.ite ?_ ?_)
   | (with_reducible refine LeO.bind ?_ (fun _ => ?_))
   | exact decimal_aligned.mono _ _ _ _ _ _ _
   | exact decimal_digits_cmp.mono _ _ _
   | exact decimal_digits_minus.mono _ _ _
   | exact decimal_digits_plus.mono _ _ _
   | exact decimal_made.mono _ _ _ _
   | exact LeO.none _
   | refine LeO.ite ?_ ?_
   | refine LeO.bind ?_ (fun _ => ?_)
def decimal_sum.T6 : Bool × List (List Nat × List Nat) := (true, [([], []), ([0], [0]), ([], []), ([], []), ([2, 3], [2, 3]), ([], []), ([1, 4, 5, 4], [1, 4, 5]), ([6], [6]), ([6], [6]), ([7, 6, 0, 1, 2, 3, 4, 5, 6, 7, 8], [7]), ([8, 9, 0, 1, 2, 3, 4, 5, 6, 7, 8, 9], [8])])
def decimal_sum.B6 : List Nat := [0, 1, 0, 0, 12, 0, 63, 127, 127, 511, 1023]
theorem decimal_sum.tab6 : rtab .any (opsOf Tryd.f71 6) = decimal_sum.T6 := by kernel_rfl
theorem decimal_sum.bits6 : waitsOk decimal_sum.T6.2 decimal_sum.B6 = true := by kernel_rfl
set_option maxHeartbeats 8000000 in
set_option maxRecDepth 100000 in
theorem decimal_sum.calls (k : Nat) (a0_0 : Bool) (a0_1 : ByteArray) (a0_2 : ByteArray) (a1_0 : Bool) (a1_1 : ByteArray) (a1_2 : ByteArray) (a2 : Bool) (r1 : Bool) (r2 : ByteArray) (r3 : ByteArray) (r4 : Int) (w : World) (h : decimal_sum.f k a0_0 a0_1 a0_2 a1_0 a1_1 a1_2 a2 = some (r1, r2, r3, r4)) :
    Calls Tryd.prog 71 #[.agg #[.bool a0_0, .string a0_1, .string a0_2], .agg #[.bool a1_0, .string a1_1, .string a1_2], .bool a2] w fun e w' => e = .returned (.tuple #[.agg #[.bool r1, .string r2, .string r3], .int .i64 r4]) ∧ Below w.heap.size w w' := by
 have hu23 := Tryd.underlying23
 have HB := Aside0.mk (Below.refl w.heap.size w)
 unfold decimal_sum.f at h
 have H := h
 clear h
 replace H := Option.bind_eq_some_iff.mp H
 obtain ⟨⟨t255, t258, t261⟩, A40, H⟩ := H
 try dsimp only at H
 have A4 := Aside0.mk A40
 clear A40
 have HF5 := Aside0.mk H
 clear H
 go_enter Tryd.func71, Tryd.ntmps71
 go_upto_if 21 with (first | ((with_reducible refine gate_dst (N := 3) rfl ?_); refine bx_ #[.bool a0_0, .string a0_1, .string a0_2] 23 ?_; intro gb252 hg w6 hbox hb; have BK252 := Aside0.mk (hbox); have GW252 := Aside0.mk ((by rw [hg]; exact (below_size hb_) : w.heap.size ≤ gb252)); have GE252 := Aside0.mk ((by rw [hg]; exact (below_size hb_) : w.heap.size ≤ gb252)); replace HB := Aside0.mk (below_step hb_ hb); clear hb hbox hg) | ((with_reducible refine gate_dst (N := 4) rfl ?_); refine bx_ #[.bool a1_0, .string a1_1, .string a1_2] 23 ?_; intro gb253 hg w7 hbox hb; have BK253 := Aside0.mk (hbox); have GW253 := Aside0.mk ((by rw [hg]; exact (below_size hb_) : w.heap.size ≤ gb253)); have GE253 := Aside0.mk ((by rw [hg]; exact (below_size hb_) : w.heap.size ≤ gb253)); have NB252_253 := Aside0.mk ((by rw [hg]; exact Nat.ne_of_lt (blk_lt (g := gb252) (o := .cells #[.bool a0_0, .string a0_1, .string a0_2] 23 (0, 0)) (by (with_reducible repeat (first | refine blk_drewN ?_ _ | refine blk_drew ?_ | refine blk_alloc ?_ _)); exact BK252.out)) : gb252 ≠ gb253)); have NB253_252 := Aside0.mk ((by rw [hg]; exact Nat.ne_of_gt (blk_lt (g := gb252) (o := .cells #[.bool a0_0, .string a0_1, .string a0_2] 23 (0, 0)) (by (with_reducible repeat (first | refine blk_drewN ?_ _ | refine blk_drew ?_ | refine blk_alloc ?_ _)); exact BK252.out)) : gb253 ≠ gb252)); replace BK252 := Aside0.mk (blk_below (g := gb252) (o := .cells #[.bool a0_0, .string a0_1, .string a0_2] 23 (0, 0)) (by (with_reducible repeat (first | refine blk_drewN ?_ _ | refine blk_drew ?_ | refine blk_alloc ?_ _)); exact BK252.out) hb); replace HB := Aside0.mk (below_step hb_ hb); clear hb hbox hg) | ((with_reducible refine gate_dst (N := 6) rfl ?_); refine bx_ #[.bool false, .string (⟨#[]⟩ : ByteArray), .string (⟨#[]⟩ : ByteArray)] 23 ?_; intro gb254 hg w8 hbox hb; have BK254 := Aside0.mk (hbox); have GW254 := Aside0.mk ((by rw [hg]; exact (below_size hb_) : w.heap.size ≤ gb254)); have GE254 := Aside0.mk ((by rw [hg]; exact (below_size hb_) : w.heap.size ≤ gb254)); have NB252_254 := Aside0.mk ((by rw [hg]; exact Nat.ne_of_lt (blk_lt (g := gb252) (o := .cells #[.bool a0_0, .string a0_1, .string a0_2] 23 (0, 0)) (by (with_reducible repeat (first | refine blk_drewN ?_ _ | refine blk_drew ?_ | refine blk_alloc ?_ _)); exact BK252.out)) : gb252 ≠ gb254)); have NB254_252 := Aside0.mk ((by rw [hg]; exact Nat.ne_of_gt (blk_lt (g := gb252) (o := .cells #[.bool a0_0, .string a0_1, .string a0_2] 23 (0, 0)) (by (with_reducible repeat (first | refine blk_drewN ?_ _ | refine blk_drew ?_ | refine blk_alloc ?_ _)); exact BK252.out)) : gb254 ≠ gb252)); have NB253_254 := Aside0.mk ((by rw [hg]; exact Nat.ne_of_lt (blk_lt (g := gb253) (o := .cells #[.bool a1_0, .string a1_1, .string a1_2] 23 (0, 0)) (by (with_reducible repeat (first | refine blk_drewN ?_ _ | refine blk_drew ?_ | refine blk_alloc ?_ _)); exact BK253.out)) : gb253 ≠ gb254)); have NB254_253 := Aside0.mk ((by rw [hg]; exact Nat.ne_of_gt (blk_lt (g := gb253) (o := .cells #[.bool a1_0, .string a1_1, .string a1_2] 23 (0, 0)) (by (with_reducible repeat (first | refine blk_drewN ?_ _ | refine blk_drew ?_ | refine blk_alloc ?_ _)); exact BK253.out)) : gb254 ≠ gb253)); replace BK252 := Aside0.mk (blk_below (g := gb252) (o := .cells #[.bool a0_0, .string a0_1, .string a0_2] 23 (0, 0)) (by (with_reducible repeat (first | refine blk_drewN ?_ _ | refine blk_drew ?_ | refine blk_alloc ?_ _)); exact BK252.out) hb); replace BK253 := Aside0.mk (blk_below (g := gb253) (o := .cells #[.bool a1_0, .string a1_1, .string a1_2] 23 (0, 0)) (by (with_reducible repeat (first | refine blk_drewN ?_ _ | refine blk_drew ?_ | refine blk_alloc ?_ _)); exact BK253.out) hb); replace HB := Aside0.mk (below_step hb_ hb); clear hb hbox hg; have hnb9 := NB252_253.out; have hnc9 := NB253_252.out; have hnb10 := NB252_254.out; have hnc10 := NB254_252.out; obtain ⟨hcz11_0, hcz11_1, hcz11_2, hfz11_0, hfz11_1, hfz11_2⟩ := BK252.c3; have hnb12 := NB253_254.out; have hnc12 := NB254_253.out; obtain ⟨hcz13_0, hcz13_1, hcz13_2, hfz13_0, hfz13_1, hfz13_2⟩ := BK253.c3) | ((with_reducible refine gate_callee (f := 66) rfl ?_); refine gL_ (some 14) Tryd.func66 #[.agg #[.bool a0_0, .string a0_1, .string a0_2], .agg #[.bool a1_0, .string a1_1, .string a1_2]] ?_; (with_reducible refine (decimal_aligned.calls k a0_0 a0_1 a0_2 a1_0 a1_1 a1_2 t255 t258 t261 _ A4.out).mono ?_); rintro e w14 ⟨v256, v259, rfl, ho0, ho1, hb⟩; refine ⟨_, rfl, ?_⟩; have HO257 := Aside0.mk (Kd.V_lower (Kd.V_mono (ok' := fun k_ => k_ ≠ gb252 ∧ k_ ≠ gb253 ∧ k_ ≠ gb254) ho0 (fun k_ hk_ => ⟨(Kd.freshB (g := gb252) (o := .cells #[.bool a0_0, .string a0_1, .string a0_2] 23 (0, 0)) (by (with_reducible repeat (first | refine blk_drewN ?_ _ | refine blk_drew ?_ | refine blk_alloc ?_ _)); exact BK252.out) k_ hk_), (Kd.freshB (g := gb253) (o := .cells #[.bool a1_0, .string a1_1, .string a1_2] 23 (0, 0)) (by (with_reducible repeat (first | refine blk_drewN ?_ _ | refine blk_drew ?_ | refine blk_alloc ?_ _)); exact BK253.out) k_ hk_), (Kd.freshB (g := gb254) (o := .cells #[.bool false, .string (⟨#[]⟩ : ByteArray), .string (⟨#[]⟩ : ByteArray)] 23 (0, 0)) (by (with_reducible repeat (first | refine blk_drewN ?_ _ | refine blk_drew ?_ | refine blk_alloc ?_ _)); exact BK254.out) k_ hk_)⟩)) (below_size hb_)); have HO260 := Aside0.mk (Kd.V_lower (Kd.V_mono (ok' := fun k_ => k_ ≠ gb252 ∧ k_ ≠ gb253 ∧ k_ ≠ gb254) ho1 (fun k_ hk_ => ⟨(Kd.freshB (g := gb252) (o := .cells #[.bool a0_0, .string a0_1, .string a0_2] 23 (0, 0)) (by (with_reducible repeat (first | refine blk_drewN ?_ _ | refine blk_drew ?_ | refine blk_alloc ?_ _)); exact BK252.out) k_ hk_), (Kd.freshB (g := gb253) (o := .cells #[.bool a1_0, .string a1_1, .string a1_2] 23 (0, 0)) (by (with_reducible repeat (first | refine blk_drewN ?_ _ | refine blk_drew ?_ | refine blk_alloc ?_ _)); exact BK253.out) k_ hk_), (Kd.freshB (g := gb254) (o := .cells #[.bool false, .string (⟨#[]⟩ : ByteArray), .string (⟨#[]⟩ : ByteArray)] 23 (0, 0)) (by (with_reducible repeat (first | refine blk_drewN ?_ _ | refine blk_drew ?_ | refine blk_alloc ?_ _)); exact BK254.out) k_ hk_)⟩)) (below_size hb_)); replace BK252 := Aside0.mk (blk_below (g := gb252) (o := .cells #[.bool a0_0, .string a0_1, .string a0_2] 23 (0, 0)) (by (with_reducible repeat (first | refine blk_drewN ?_ _ | refine blk_drew ?_ | refine blk_alloc ?_ _)); exact BK252.out) hb); replace BK253 := Aside0.mk (blk_below (g := gb253) (o := .cells #[.bool a1_0, .string a1_1, .string a1_2] 23 (0, 0)) (by (with_reducible repeat (first | refine blk_drewN ?_ _ | refine blk_drew ?_ | refine blk_alloc ?_ _)); exact BK253.out) hb); replace BK254 := Aside0.mk (blk_below (g := gb254) (o := .cells #[.bool false, .string (⟨#[]⟩ : ByteArray), .string (⟨#[]⟩ : ByteArray)] 23 (0, 0)) (by (with_reducible repeat (first | refine blk_drewN ?_ _ | refine blk_drew ?_ | refine blk_alloc ?_ _)); exact BK254.out) hb); replace HB := Aside0.mk (below_step hb_ hb); (try clear ho0); (try clear ho1); obtain ⟨hcz15_0, hcz15_1, hcz15_2, hfz15_0, hfz15_1, hfz15_2⟩ := BK252.c3))
 (try simp only [Act.put, List.setIfInBounds_toArray, List.set_cons_zero, List.set_cons_succ])
 have H := HF5.out
 clear HF5
 by_cases c16 : (a0_0 == a2) = true
 ·rw [if_pos c16] at H
  have c16b0 : (a0_0 == a2) = true := c16
  (try (have c16b1 : decide (a0_0 = a2) = true := by simpa using c16))
  (try (have c16b2 : (a0_0 == a2) = true := by simpa using c16))
  clear c16
  (first | rw [c16b0] | (simp only [i64_w, i32_w]; rw [c16b0]) | rw [c16b1] | skip)
  replace H := Option.bind_eq_some_iff.mp H
  obtain ⟨t262, A170, H⟩ := H
  try dsimp only at H
  have A17 := Aside0.mk A170
  clear A170
  replace H := Option.bind_eq_some_iff.mp H
  obtain ⟨⟨t265, t266, t267, t268⟩, A180, H⟩ := H
  try dsimp only at H
  have A18 := Aside0.mk A180
  clear A180
  simp only [Option.some.injEq, Prod.mk.injEq] at H
  obtain ⟨rfl, rfl, rfl, rfl⟩ := H
  obtain ⟨Ao19, co19, eo19⟩ := Kd.V_slice HO257.out
  subst eo19
  obtain ⟨Ao20, co20, eo20⟩ := Kd.V_slice HO260.out
  subst eo20
  go_wp2_with (first | ((with_reducible refine gate_callee (f := 95) rfl ?_); refine gL_ (some 25) Tryd.func95 #[.slice Ao19 t255.length co19, .slice Ao20 t258.length co20] ?_; (with_reducible refine (decimal_digits_plus.calls k (fun k_ => (k_ ≠ gb252 ∧ (k_ ≠ gb253 ∧ k_ ≠ gb254))) _ _ t255 (fun k_ => (k_ ≠ gb252 ∧ (k_ ≠ gb253 ∧ k_ ≠ gb254))) _ _ t258 t262 _ ?side1 ?side2 A17.out).mono ?_); (case side1 => exact HO257.out); (case side2 => exact HO260.out); rintro e w21 ⟨v263, rfl, ho0, hb⟩; refine ⟨_, rfl, ?_⟩; have HO264 := Aside0.mk (Kd.V_lower (Kd.V_mono (ok' := fun k_ => k_ ≠ gb252 ∧ k_ ≠ gb253 ∧ k_ ≠ gb254) ho0 (fun k_ hk_ => ⟨Or.elim hk_ (fun hs_ => Or.elim hs_ (fun hs_ => hs_.1) (fun hs_ => hs_.1)) (fun hn_ => (Kd.freshB (g := gb252) (o := .cells #[.bool a0_0, .string a0_1, .string a0_2] 23 (0, 0)) (by (with_reducible repeat (first | refine blk_drewN ?_ _ | refine blk_drew ?_ | refine blk_alloc ?_ _)); exact BK252.out) k_ hn_)), Or.elim hk_ (fun hs_ => Or.elim hs_ (fun hs_ => hs_.2.1) (fun hs_ => hs_.2.1)) (fun hn_ => (Kd.freshB (g := gb253) (o := .cells #[.bool a1_0, .string a1_1, .string a1_2] 23 (0, 0)) (by (with_reducible repeat (first | refine blk_drewN ?_ _ | refine blk_drew ?_ | refine blk_alloc ?_ _)); exact BK253.out) k_ hn_)), Or.elim hk_ (fun hs_ => Or.elim hs_ (fun hs_ => hs_.2.2) (fun hs_ => hs_.2.2)) (fun hn_ => (Kd.freshB (g := gb254) (o := .cells #[.bool false, .string (⟨#[]⟩ : ByteArray), .string (⟨#[]⟩ : ByteArray)] 23 (0, 0)) (by (with_reducible repeat (first | refine blk_drewN ?_ _ | refine blk_drew ?_ | refine blk_alloc ?_ _)); exact BK254.out) k_ hn_))⟩)) (below_size hb_)); replace HO257 := Aside0.mk (Kd.V_below (by (with_reducible repeat (first | apply Kd.V_alloc | apply Kd.V_drewN | apply Kd.V_drew)); exact HO257.out) hb); replace HO260 := Aside0.mk (Kd.V_below (by (with_reducible repeat (first | apply Kd.V_alloc | apply Kd.V_drewN | apply Kd.V_drew)); exact HO260.out) hb); replace BK252 := Aside0.mk (blk_below (g := gb252) (o := .cells #[.bool a0_0, .string a0_1, .string a0_2] 23 (0, 0)) (by (with_reducible repeat (first | refine blk_drewN ?_ _ | refine blk_drew ?_ | refine blk_alloc ?_ _)); exact BK252.out) hb); replace BK253 := Aside0.mk (blk_below (g := gb253) (o := .cells #[.bool a1_0, .string a1_1, .string a1_2] 23 (0, 0)) (by (with_reducible repeat (first | refine blk_drewN ?_ _ | refine blk_drew ?_ | refine blk_alloc ?_ _)); exact BK253.out) hb); replace BK254 := Aside0.mk (blk_below (g := gb254) (o := .cells #[.bool false, .string (⟨#[]⟩ : ByteArray), .string (⟨#[]⟩ : ByteArray)] 23 (0, 0)) (by (with_reducible repeat (first | refine blk_drewN ?_ _ | refine blk_drew ?_ | refine blk_alloc ?_ _)); exact BK254.out) hb); replace HB := Aside0.mk (below_step hb_ hb); (try clear ho0); obtain ⟨Ao22, co22, eo22⟩ := Kd.V_slice HO264.out; subst eo22) | ((with_reducible refine gate_callee (f := 62) rfl ?_); refine gL_ (some 27) Tryd.func62 #[.bool a2, .slice Ao22 t262.length co22, .int .i64 t261] ?_; (with_reducible refine (decimal_made.calls k a2 _ _ t262 t261 t265 t266 t267 t268 _ ?side1 ?side2 A18.out).mono ?_); (case side1 => repeat (first | exact (Kd.V_reads' HO264.out).2.2 | (with_reducible refine Kd.C_alloc ?_ _) | (with_reducible refine Kd.C_drewN ?_ _) | (with_reducible refine Kd.C_drew ?_))); (case side2 => exact (Kd.V_reads' HO264.out).2.1); rintro e w23 ⟨rfl, hb⟩; refine ⟨_, rfl, ?_⟩; replace HO257 := Aside0.mk (Kd.V_below (by (with_reducible repeat (first | apply Kd.V_alloc | apply Kd.V_drewN | apply Kd.V_drew)); exact HO257.out) hb); replace HO260 := Aside0.mk (Kd.V_below (by (with_reducible repeat (first | apply Kd.V_alloc | apply Kd.V_drewN | apply Kd.V_drew)); exact HO260.out) hb); replace HO264 := Aside0.mk (Kd.V_below (by (with_reducible repeat (first | apply Kd.V_alloc | apply Kd.V_drewN | apply Kd.V_drew)); exact HO264.out) hb); replace BK252 := Aside0.mk (blk_below (g := gb252) (o := .cells #[.bool a0_0, .string a0_1, .string a0_2] 23 (0, 0)) (by (with_reducible repeat (first | refine blk_drewN ?_ _ | refine blk_drew ?_ | refine blk_alloc ?_ _)); exact BK252.out) hb); replace BK253 := Aside0.mk (blk_below (g := gb253) (o := .cells #[.bool a1_0, .string a1_1, .string a1_2] 23 (0, 0)) (by (with_reducible repeat (first | refine blk_drewN ?_ _ | refine blk_drew ?_ | refine blk_alloc ?_ _)); exact BK253.out) hb); replace BK254 := Aside0.mk (blk_below (g := gb254) (o := .cells #[.bool false, .string (⟨#[]⟩ : ByteArray), .string (⟨#[]⟩ : ByteArray)] 23 (0, 0)) (by (with_reducible repeat (first | refine blk_drewN ?_ _ | refine blk_drew ?_ | refine blk_alloc ?_ _)); exact BK254.out) hb); replace HB := Aside0.mk (below_step hb_ hb); have hnb24 := NB254_252.out; have hnc24 := NB252_254.out; have hnb25 := NB254_253.out; have hnc25 := NB253_254.out; obtain ⟨hcz26_0, hcz26_1, hcz26_2, hfz26_0, hfz26_1, hfz26_2⟩ := BK254.c3))
  refine bodyPost_ret (results_ct rfl _ _ gb254 23 #[.bool t265, .string t266, .string t267] (0, 0) _ rfl (by (with_reducible repeat (first | refine blk_drewN ?_ _ | refine blk_drew ?_ | refine blk_alloc ?_ _)); refine blk_put (cs := #[.bool t265, .string t266, .string (⟨#[]⟩ : ByteArray)]) ?_ 2 _ rfl; (with_reducible repeat (first | refine blk_drewN ?_ _ | refine blk_drew ?_ | refine blk_alloc ?_ _)); refine blk_put (cs := #[.bool t265, .string (⟨#[]⟩ : ByteArray), .string (⟨#[]⟩ : ByteArray)]) ?_ 1 _ rfl; (with_reducible repeat (first | refine blk_drewN ?_ _ | refine blk_drew ?_ | refine blk_alloc ?_ _)); refine blk_put (cs := #[.bool false, .string (⟨#[]⟩ : ByteArray), .string (⟨#[]⟩ : ByteArray)]) ?_ 0 _ rfl; (with_reducible repeat (first | refine blk_drewN ?_ _ | refine blk_drew ?_ | refine blk_alloc ?_ _)); exact BK254.out) Tryd.underlying23 rfl (by kernel_rfl)) rfl ?_
  exact ⟨by first | rfl | (simp [errW_none, errW_some] <;> rfl) | (simp [*, errW_none, errW_some] <;> rfl) | (simp [bne_nil_]; done), by repeat (first | (with_reducible first | exact HB.out | apply below_alloc | apply pw_below_drewN | apply below_drew1 | refine below_set ?_ GE252.out | refine below_set ?_ GE253.out | refine below_set ?_ GE254.out) | exact HB.out)⟩
 ·rw [if_neg c16] at H
  have c16b0 : (a0_0 == a2) = false := by simpa using c16
  (try (have c16b1 : decide (a0_0 = a2) = false := by simpa using c16))
  (try (have c16b2 : (a0_0 == a2) = false := by simpa using c16))
  (try (have c16b3 : ¬ (a0_0 = a2) := by simpa using c16))
  clear c16
  (first | rw [c16b0] | (simp only [i64_w, i32_w]; rw [c16b0]) | rw [c16b1] | skip)
  replace H := Option.bind_eq_some_iff.mp H
  obtain ⟨t269, A270, H⟩ := H
  try dsimp only at H
  have A27 := Aside0.mk A270
  clear A270
  have HF28 := Aside0.mk H
  clear H
  obtain ⟨Ao29, co29, eo29⟩ := Kd.V_slice HO257.out
  subst eo29
  obtain ⟨Ao30, co30, eo30⟩ := Kd.V_slice HO260.out
  subst eo30
  go_upto_if 33 with (first | ((with_reducible refine gate_callee (f := 67) rfl ?_); refine gL_ (some 32) Tryd.func67 #[.slice Ao29 t255.length co29, .slice Ao30 t258.length co30] ?_; (with_reducible refine (decimal_digits_cmp.calls k _ _ t255 _ _ t258 t269 _ ?side1 ?side2 ?side3 ?side4 A27.out).mono ?_); (case side1 => repeat (first | exact (Kd.V_reads' HO257.out).2.2 | (with_reducible refine Kd.C_alloc ?_ _) | (with_reducible refine Kd.C_drewN ?_ _) | (with_reducible refine Kd.C_drew ?_))); (case side2 => exact (Kd.V_reads' HO257.out).2.1); (case side3 => repeat (first | exact (Kd.V_reads' HO260.out).2.2 | (with_reducible refine Kd.C_alloc ?_ _) | (with_reducible refine Kd.C_drewN ?_ _) | (with_reducible refine Kd.C_drew ?_))); (case side4 => exact (Kd.V_reads' HO260.out).2.1); rintro e w' ⟨rfl, ⟨nd, rfl⟩⟩; refine ⟨_, rfl, ?_⟩))
  (try simp only [Act.put, List.setIfInBounds_toArray, List.set_cons_zero, List.set_cons_succ])
  have H := HF28.out
  clear HF28
  by_cases c31 : t269 < 0
  ·rw [if_pos c31] at H
   have c31b0 : decide (t269 < 0) = true := decide_eq_true c31
   clear c31
   (first | rw [c31b0] | (simp only [i64_w, i32_w]; rw [c31b0]) | skip)
   replace H := Option.bind_eq_some_iff.mp H
   obtain ⟨t270, A320, H⟩ := H
   try dsimp only at H
   have A32 := Aside0.mk A320
   clear A320
   replace H := Option.bind_eq_some_iff.mp H
   obtain ⟨⟨t273, t274, t275, t276⟩, A330, H⟩ := H
   try dsimp only at H
   have A33 := Aside0.mk A330
   clear A330
   simp only [Option.some.injEq, Prod.mk.injEq] at H
   obtain ⟨rfl, rfl, rfl, rfl⟩ := H
   go_wp2_with (first | ((with_reducible refine gate_callee (f := 96) rfl ?_); refine gL_ (some 37) Tryd.func96 #[.slice Ao30 t258.length co30, .slice Ao29 t255.length co29] ?_; (with_reducible refine (decimal_digits_minus.calls k _ _ t258 _ _ t255 t270 _ ?side1 ?side2 ?side3 ?side4 A32.out).mono ?_); (case side1 => repeat (first | exact (Kd.V_reads' HO260.out).2.2 | (with_reducible refine Kd.C_alloc ?_ _) | (with_reducible refine Kd.C_drewN ?_ _) | (with_reducible refine Kd.C_drew ?_))); (case side2 => exact (Kd.V_reads' HO260.out).2.1); (case side3 => repeat (first | exact (Kd.V_reads' HO257.out).2.2 | (with_reducible refine Kd.C_alloc ?_ _) | (with_reducible refine Kd.C_drewN ?_ _) | (with_reducible refine Kd.C_drew ?_))); (case side4 => exact (Kd.V_reads' HO257.out).2.1); rintro e w34 ⟨v271, rfl, ho0, hb⟩; refine ⟨_, rfl, ?_⟩; have HO272 := Aside0.mk (Kd.V_lower (Kd.V_mono (ok' := fun k_ => k_ ≠ gb252 ∧ k_ ≠ gb253 ∧ k_ ≠ gb254) ho0 (fun k_ hk_ => ⟨(Kd.freshB (g := gb252) (o := .cells #[.bool a0_0, .string a0_1, .string a0_2] 23 (0, 0)) (by (with_reducible repeat (first | refine blk_drewN ?_ _ | refine blk_drew ?_ | refine blk_alloc ?_ _)); exact BK252.out) k_ hk_), (Kd.freshB (g := gb253) (o := .cells #[.bool a1_0, .string a1_1, .string a1_2] 23 (0, 0)) (by (with_reducible repeat (first | refine blk_drewN ?_ _ | refine blk_drew ?_ | refine blk_alloc ?_ _)); exact BK253.out) k_ hk_), (Kd.freshB (g := gb254) (o := .cells #[.bool false, .string (⟨#[]⟩ : ByteArray), .string (⟨#[]⟩ : ByteArray)] 23 (0, 0)) (by (with_reducible repeat (first | refine blk_drewN ?_ _ | refine blk_drew ?_ | refine blk_alloc ?_ _)); exact BK254.out) k_ hk_)⟩)) (below_size hb_)); replace HO257 := Aside0.mk (Kd.V_below (by (with_reducible repeat (first | apply Kd.V_alloc | apply Kd.V_drewN | apply Kd.V_drew)); exact HO257.out) hb); replace HO260 := Aside0.mk (Kd.V_below (by (with_reducible repeat (first | apply Kd.V_alloc | apply Kd.V_drewN | apply Kd.V_drew)); exact HO260.out) hb); replace BK252 := Aside0.mk (blk_below (g := gb252) (o := .cells #[.bool a0_0, .string a0_1, .string a0_2] 23 (0, 0)) (by (with_reducible repeat (first | refine blk_drewN ?_ _ | refine blk_drew ?_ | refine blk_alloc ?_ _)); exact BK252.out) hb); replace BK253 := Aside0.mk (blk_below (g := gb253) (o := .cells #[.bool a1_0, .string a1_1, .string a1_2] 23 (0, 0)) (by (with_reducible repeat (first | refine blk_drewN ?_ _ | refine blk_drew ?_ | refine blk_alloc ?_ _)); exact BK253.out) hb); replace BK254 := Aside0.mk (blk_below (g := gb254) (o := .cells #[.bool false, .string (⟨#[]⟩ : ByteArray), .string (⟨#[]⟩ : ByteArray)] 23 (0, 0)) (by (with_reducible repeat (first | refine blk_drewN ?_ _ | refine blk_drew ?_ | refine blk_alloc ?_ _)); exact BK254.out) hb); replace HB := Aside0.mk (below_step hb_ hb); (try clear ho0); obtain ⟨Ao35, co35, eo35⟩ := Kd.V_slice HO272.out; subst eo35) | ((with_reducible refine gate_callee (f := 62) rfl ?_); refine gL_ (some 39) Tryd.func62 #[.bool a2, .slice Ao35 t270.length co35, .int .i64 t261] ?_; (with_reducible refine (decimal_made.calls k a2 _ _ t270 t261 t273 t274 t275 t276 _ ?side1 ?side2 A33.out).mono ?_); (case side1 => repeat (first | exact (Kd.V_reads' HO272.out).2.2 | (with_reducible refine Kd.C_alloc ?_ _) | (with_reducible refine Kd.C_drewN ?_ _) | (with_reducible refine Kd.C_drew ?_))); (case side2 => exact (Kd.V_reads' HO272.out).2.1); rintro e w36 ⟨rfl, hb⟩; refine ⟨_, rfl, ?_⟩; replace HO257 := Aside0.mk (Kd.V_below (by (with_reducible repeat (first | apply Kd.V_alloc | apply Kd.V_drewN | apply Kd.V_drew)); exact HO257.out) hb); replace HO260 := Aside0.mk (Kd.V_below (by (with_reducible repeat (first | apply Kd.V_alloc | apply Kd.V_drewN | apply Kd.V_drew)); exact HO260.out) hb); replace HO272 := Aside0.mk (Kd.V_below (by (with_reducible repeat (first | apply Kd.V_alloc | apply Kd.V_drewN | apply Kd.V_drew)); exact HO272.out) hb); replace BK252 := Aside0.mk (blk_below (g := gb252) (o := .cells #[.bool a0_0, .string a0_1, .string a0_2] 23 (0, 0)) (by (with_reducible repeat (first | refine blk_drewN ?_ _ | refine blk_drew ?_ | refine blk_alloc ?_ _)); exact BK252.out) hb); replace BK253 := Aside0.mk (blk_below (g := gb253) (o := .cells #[.bool a1_0, .string a1_1, .string a1_2] 23 (0, 0)) (by (with_reducible repeat (first | refine blk_drewN ?_ _ | refine blk_drew ?_ | refine blk_alloc ?_ _)); exact BK253.out) hb); replace BK254 := Aside0.mk (blk_below (g := gb254) (o := .cells #[.bool false, .string (⟨#[]⟩ : ByteArray), .string (⟨#[]⟩ : ByteArray)] 23 (0, 0)) (by (with_reducible repeat (first | refine blk_drewN ?_ _ | refine blk_drew ?_ | refine blk_alloc ?_ _)); exact BK254.out) hb); replace HB := Aside0.mk (below_step hb_ hb); have hnb37 := NB254_252.out; have hnc37 := NB252_254.out; have hnb38 := NB254_253.out; have hnc38 := NB253_254.out; obtain ⟨hcz39_0, hcz39_1, hcz39_2, hfz39_0, hfz39_1, hfz39_2⟩ := BK254.c3))
   refine bodyPost_ret (results_ct rfl _ _ gb254 23 #[.bool t273, .string t274, .string t275] (0, 0) _ rfl (by (with_reducible repeat (first | refine blk_drewN ?_ _ | refine blk_drew ?_ | refine blk_alloc ?_ _)); refine blk_put (cs := #[.bool t273, .string t274, .string (⟨#[]⟩ : ByteArray)]) ?_ 2 _ rfl; (with_reducible repeat (first | refine blk_drewN ?_ _ | refine blk_drew ?_ | refine blk_alloc ?_ _)); refine blk_put (cs := #[.bool t273, .string (⟨#[]⟩ : ByteArray), .string (⟨#[]⟩ : ByteArray)]) ?_ 1 _ rfl; (with_reducible repeat (first | refine blk_drewN ?_ _ | refine blk_drew ?_ | refine blk_alloc ?_ _)); refine blk_put (cs := #[.bool false, .string (⟨#[]⟩ : ByteArray), .string (⟨#[]⟩ : ByteArray)]) ?_ 0 _ rfl; (with_reducible repeat (first | refine blk_drewN ?_ _ | refine blk_drew ?_ | refine blk_alloc ?_ _)); exact BK254.out) Tryd.underlying23 rfl (by kernel_rfl)) rfl ?_
   exact ⟨by first | rfl | (simp [errW_none, errW_some] <;> rfl) | (simp [*, errW_none, errW_some] <;> rfl) | (simp [bne_nil_]; done), by repeat (first | (with_reducible first | exact HB.out | apply below_alloc | apply pw_below_drewN | apply below_drew1 | refine below_set ?_ GE252.out | refine below_set ?_ GE253.out | refine below_set ?_ GE254.out) | exact HB.out)⟩
  ·rw [if_neg c31] at H
   have c31b0 : decide (t269 < 0) = false := decide_eq_false c31
   clear c31
   (first | rw [c31b0] | (simp only [i64_w, i32_w]; rw [c31b0]) | skip)
   replace H := Option.bind_eq_some_iff.mp H
   obtain ⟨t277, A400, H⟩ := H
   try dsimp only at H
   have A40 := Aside0.mk A400
   clear A400
   replace H := Option.bind_eq_some_iff.mp H
   obtain ⟨⟨t280, t281, t282, t283⟩, A410, H⟩ := H
   try dsimp only at H
   have A41 := Aside0.mk A410
   clear A410
   simp only [Option.some.injEq, Prod.mk.injEq] at H
   obtain ⟨rfl, rfl, rfl, rfl⟩ := H
   try go_wp2
   (try (rw [drewN_self w14]; generalize hq_ : World.drewN w14 _ = w14; have n0_ : Aside0 (Kd.V (Kd.int .u8) 5 w14 w.heap.size (fun k_ => k_ ≠ gb252 ∧ k_ ≠ gb253 ∧ k_ ≠ gb254) (.slice Ao29 t255.length co29) t255) := ⟨by rw [← hq_]; exact (by (with_reducible repeat (first | apply Kd.V_alloc | apply Kd.V_drewN | apply Kd.V_drew)); exact HO257.out)⟩; have n1_ : Aside0 (Kd.V (Kd.int .u8) 5 w14 w.heap.size (fun k_ => k_ ≠ gb252 ∧ k_ ≠ gb253 ∧ k_ ≠ gb254) (.slice Ao30 t258.length co30) t258) := ⟨by rw [← hq_]; exact (by (with_reducible repeat (first | apply Kd.V_alloc | apply Kd.V_drewN | apply Kd.V_drew)); exact HO260.out)⟩; have n2_ : Aside0 (w14.heap[gb252]? = some (.cells #[.bool a0_0, .string a0_1, .string a0_2] 23 (0, 0))) := ⟨by rw [← hq_]; exact (by (with_reducible repeat (first | refine blk_drewN ?_ _ | refine blk_drew ?_ | refine blk_alloc ?_ _)); exact BK252.out)⟩; have n3_ : Aside0 (w14.heap[gb253]? = some (.cells #[.bool a1_0, .string a1_1, .string a1_2] 23 (0, 0))) := ⟨by rw [← hq_]; exact (by (with_reducible repeat (first | refine blk_drewN ?_ _ | refine blk_drew ?_ | refine blk_alloc ?_ _)); exact BK253.out)⟩; have n4_ : Aside0 (w14.heap[gb254]? = some (.cells #[.bool false, .string (⟨#[]⟩ : ByteArray), .string (⟨#[]⟩ : ByteArray)] 23 (0, 0))) := ⟨by rw [← hq_]; exact (by (with_reducible repeat (first | refine blk_drewN ?_ _ | refine blk_drew ?_ | refine blk_alloc ?_ _)); exact BK254.out)⟩; have n5_ : Aside0 (Below w.heap.size w w14) := ⟨by rw [← hq_]; exact hb_⟩; clear HO257 HO260 BK252 BK253 BK254 HB hq_; have HO257 := n0_; have HO260 := n1_; have BK252 := n2_; have BK253 := n3_; have BK254 := n4_; have HB := n5_; clear n0_ n1_ n2_ n3_ n4_ n5_))
   replace HO257 := Aside0.mk (Kd.V_drew HO257.out)
   replace HO260 := Aside0.mk (Kd.V_drew HO260.out)
   replace BK252 := Aside0.mk (blk_drew BK252.out)
   replace BK253 := Aside0.mk (blk_drew BK253.out)
   replace BK254 := Aside0.mk (blk_drew BK254.out)
   replace HB := Aside0.mk (below_drew1 HB.out)
   refine start_ (n := 11) (S := fun w' => w'.cell? ⟨gb252, 0, none⟩ = some (.bool a0_0) ∧ w'.cell? ⟨gb252, 1, none⟩ = some (.string a0_1) ∧ w'.cell? ⟨gb252, 2, none⟩ = some (.string a0_2)) (ds := []) #[false, false, false, false, false, false, false, false, false, false, false] (by kernel_rfl) rfl rfl ⟨(blk_cell BK252.out 0).trans rfl, (blk_cell BK252.out 1).trans rfl, (blk_cell BK252.out 2).trans rfl⟩ (fun hHeld => ?_); refine with_tabW decimal_sum.tab6 decimal_sum.bits6 (fun HT_ HW_ => ?_)
   generalize w14.drew = w42 at HO257 HO260 BK252 BK253 BK254 HB hHeld ⊢
   refine pr_ 0 (some 42) ?_
   refine pr_ 2 (some 44) ?_
   refine pr_ 3 (some 45) ?_
   refine pr_ 5 (some 47) ?_
   refine tk_ 1 (some 43) hHeld ?_
   refine one_ (i := 4) (N := some 46) #[true, true, true, true, true, true, false, false, false, false, false] rfl rfl (one_of HT_.out (by kernel_rfl)) (by decide) (fun K hK => ?_)
   refine goes_ Tryd.func96 (by kernel_rfl) rfl #[.slice Ao29 t255.length co29, .slice Ao30 t258.length co30] (by rfl) rfl rfl ar_ ?_
   with_reducible refine (decimal_digits_minus.calls k _ _ t255 _ _ t258 t277 _ ?side1 ?side2 ?side3 ?side4 A40.out).mono ?_
   (case side1 => repeat (first | exact (Kd.V_reads' HO257.out).2.2 | (with_reducible refine Kd.C_alloc ?_ _) | (with_reducible refine Kd.C_drewN ?_ _) | (with_reducible refine Kd.C_drew ?_)))
   (case side2 => exact (Kd.V_reads' HO257.out).2.1)
   (case side3 => repeat (first | exact (Kd.V_reads' HO260.out).2.2 | (with_reducible refine Kd.C_alloc ?_ _) | (with_reducible refine Kd.C_drewN ?_ _) | (with_reducible refine Kd.C_drew ?_)))
   (case side4 => exact (Kd.V_reads' HO260.out).2.1)
   rintro e w43 ⟨v278, rfl, ho0, hb⟩
   refine ⟨_, rfl, ?_⟩
   have HO279 := Aside0.mk (Kd.V_lower (Kd.V_mono (ok' := fun k_ => k_ ≠ gb252 ∧ k_ ≠ gb253 ∧ k_ ≠ gb254) ho0 (fun k_ hk_ => ⟨(Kd.freshB (g := gb252) (o := .cells #[.bool a0_0, .string a0_1, .string a0_2] 23 (0, 0)) (by (with_reducible repeat (first | refine blk_drewN ?_ _ | refine blk_drew ?_ | refine blk_alloc ?_ _)); exact BK252.out) k_ hk_), (Kd.freshB (g := gb253) (o := .cells #[.bool a1_0, .string a1_1, .string a1_2] 23 (0, 0)) (by (with_reducible repeat (first | refine blk_drewN ?_ _ | refine blk_drew ?_ | refine blk_alloc ?_ _)); exact BK253.out) k_ hk_), (Kd.freshB (g := gb254) (o := .cells #[.bool false, .string (⟨#[]⟩ : ByteArray), .string (⟨#[]⟩ : ByteArray)] 23 (0, 0)) (by (with_reducible repeat (first | refine blk_drewN ?_ _ | refine blk_drew ?_ | refine blk_alloc ?_ _)); exact BK254.out) k_ hk_)⟩)) (below_size hb_))
   replace HO257 := Aside0.mk (Kd.V_below (by (with_reducible repeat (first | apply Kd.V_alloc | apply Kd.V_drewN | apply Kd.V_drew)); exact HO257.out) hb)
   replace HO260 := Aside0.mk (Kd.V_below (by (with_reducible repeat (first | apply Kd.V_alloc | apply Kd.V_drewN | apply Kd.V_drew)); exact HO260.out) hb)
   replace BK252 := Aside0.mk (blk_below (g := gb252) (o := .cells #[.bool a0_0, .string a0_1, .string a0_2] 23 (0, 0)) (by (with_reducible repeat (first | refine blk_drewN ?_ _ | refine blk_drew ?_ | refine blk_alloc ?_ _)); exact BK252.out) hb)
   replace BK253 := Aside0.mk (blk_below (g := gb253) (o := .cells #[.bool a1_0, .string a1_1, .string a1_2] 23 (0, 0)) (by (with_reducible repeat (first | refine blk_drewN ?_ _ | refine blk_drew ?_ | refine blk_alloc ?_ _)); exact BK253.out) hb)
   replace BK254 := Aside0.mk (blk_below (g := gb254) (o := .cells #[.bool false, .string (⟨#[]⟩ : ByteArray), .string (⟨#[]⟩ : ByteArray)] 23 (0, 0)) (by (with_reducible repeat (first | refine blk_drewN ?_ _ | refine blk_drew ?_ | refine blk_alloc ?_ _)); exact BK254.out) hb)
   replace HB := Aside0.mk (below_step hb_ hb)
   (try clear hb)
   (try clear hb2)
   (try clear hk)
   (try clear hi)
   (try clear ho0)
   obtain ⟨Ao44, co44, eo44⟩ := Kd.V_slice HO279.out
   (first | subst eo44 | (injection eo44 with f1_ f2_ f3_; have f4_ := f1_.symm; have f5_ := f3_.symm; clear f1_ f2_ f3_; subst f4_; subst f5_))
   refine hK.out _ _ ⟨(blk_cell BK252.out 0).trans rfl, (blk_cell BK252.out 1).trans rfl, (blk_cell BK252.out 2).trans rfl⟩ (fun hHeld => ?_)
   clear hK K
   refine norm_ (a' := ?_) ?_ ?_
   rotate_left
   ·show Act.put _ (some 46) _ = _
    simp only [Act.put, List.setIfInBounds_toArray, List.set_cons_zero, List.set_cons_succ, i64_w, i32_w]
    rfl
   refine one_ (i := 6) (N := some 48) #[true, true, true, true, true, true, true, false, false, false, false] rfl rfl (one_of HT_.out (by kernel_rfl)) (by decide) (fun K hK => ?_)
   refine goes_ Tryd.func62 (by kernel_rfl) rfl #[.bool a0_0, .slice Ao44 t277.length co44, .int .i64 t261] (by rfl) rfl rfl ar_ ?_
   with_reducible refine (decimal_made.calls k a0_0 _ _ t277 t261 t280 t281 t282 t283 _ ?side1 ?side2 A41.out).mono ?_
   (case side1 => repeat (first | exact (Kd.V_reads' HO279.out).2.2 | (with_reducible refine Kd.C_alloc ?_ _) | (with_reducible refine Kd.C_drewN ?_ _) | (with_reducible refine Kd.C_drew ?_)))
   (case side2 => exact (Kd.V_reads' HO279.out).2.1)
   rintro e w45 ⟨rfl, hb⟩
   refine ⟨_, rfl, ?_⟩
   replace HO257 := Aside0.mk (Kd.V_below (by (with_reducible repeat (first | apply Kd.V_alloc | apply Kd.V_drewN | apply Kd.V_drew)); exact HO257.out) hb)
   replace HO260 := Aside0.mk (Kd.V_below (by (with_reducible repeat (first | apply Kd.V_alloc | apply Kd.V_drewN | apply Kd.V_drew)); exact HO260.out) hb)
   replace HO279 := Aside0.mk (Kd.V_below (by (with_reducible repeat (first | apply Kd.V_alloc | apply Kd.V_drewN | apply Kd.V_drew)); exact HO279.out) hb)
   replace BK252 := Aside0.mk (blk_below (g := gb252) (o := .cells #[.bool a0_0, .string a0_1, .string a0_2] 23 (0, 0)) (by (with_reducible repeat (first | refine blk_drewN ?_ _ | refine blk_drew ?_ | refine blk_alloc ?_ _)); exact BK252.out) hb)
   replace BK253 := Aside0.mk (blk_below (g := gb253) (o := .cells #[.bool a1_0, .string a1_1, .string a1_2] 23 (0, 0)) (by (with_reducible repeat (first | refine blk_drewN ?_ _ | refine blk_drew ?_ | refine blk_alloc ?_ _)); exact BK253.out) hb)
   replace BK254 := Aside0.mk (blk_below (g := gb254) (o := .cells #[.bool false, .string (⟨#[]⟩ : ByteArray), .string (⟨#[]⟩ : ByteArray)] 23 (0, 0)) (by (with_reducible repeat (first | refine blk_drewN ?_ _ | refine blk_drew ?_ | refine blk_alloc ?_ _)); exact BK254.out) hb)
   replace HB := Aside0.mk (below_step hb_ hb)
   (try clear hb)
   (try clear hb2)
   (try clear hk)
   (try clear hi)
   refine hK.out _ _ ⟨(blk_cell BK252.out 0).trans rfl, (blk_cell BK252.out 1).trans rfl, (blk_cell BK252.out 2).trans rfl⟩ (fun hHeld => ?_)
   clear hK K
   refine norm_ (a' := ?_) ?_ ?_
   rotate_left
   ·show Act.put _ (some 48) _ = _
    simp only [Act.put, List.setIfInBounds_toArray, List.set_cons_zero, List.set_cons_succ, i64_w, i32_w]
    rfl
   refine pr_ 7 (some 49) ?_
   refine pr_ 8 (some 50) ?_
   refine one_ (i := 9) (N := none) #[true, true, true, true, true, true, true, true, true, true, false] rfl rfl (one_of HT_.out (by kernel_rfl)) (by decide) (fun K hK => ?_)
   have hs46 : w45.cell? ⟨gb254, 0, none⟩ = some (.bool false) := (blk_cell BK254.out 0).trans rfl
   have hfs46 := blk_frozen BK254.out 0
   have hns46_0 := NB252_254.out
   have hns46_1 := NB253_254.out
   have hms46_0 := NB254_252.out
   have hms46_1 := NB254_253.out
   have hs47 : w45.cell? ⟨gb254, 1, none⟩ = some (.string (⟨#[]⟩ : ByteArray)) := (blk_cell BK254.out 1).trans rfl
   have hfs47 := blk_frozen BK254.out 1
   have hns47_0 := NB252_254.out
   have hns47_1 := NB253_254.out
   have hms47_0 := NB254_252.out
   have hms47_1 := NB254_253.out
   have hs48 : w45.cell? ⟨gb254, 2, none⟩ = some (.string (⟨#[]⟩ : ByteArray)) := (blk_cell BK254.out 2).trans rfl
   have hfs48 := blk_frozen BK254.out 2
   have hns48_0 := NB252_254.out
   have hns48_1 := NB253_254.out
   have hms48_0 := NB254_252.out
   have hms48_1 := NB254_253.out
   refine skip_ (w1 := ?_) (by rfl) rfl ?_ ?_
   rotate_left
   ·go_simp
    rfl
   refine hK.out _ _ ⟨((cell_far (p := ⟨gb254, _, none⟩) NB252_254.out _).trans (((cell_far (p := ⟨gb254, _, none⟩) NB252_254.out _).trans (((cell_far (p := ⟨gb254, _, none⟩) NB252_254.out _).trans (hHeld.1)))))), ((cell_far (p := ⟨gb254, _, none⟩) NB252_254.out _).trans (((cell_far (p := ⟨gb254, _, none⟩) NB252_254.out _).trans (((cell_far (p := ⟨gb254, _, none⟩) NB252_254.out _).trans (hHeld.2.1)))))), ((cell_far (p := ⟨gb254, _, none⟩) NB252_254.out _).trans (((cell_far (p := ⟨gb254, _, none⟩) NB252_254.out _).trans (((cell_far (p := ⟨gb254, _, none⟩) NB252_254.out _).trans (hHeld.2.2))))))⟩ (fun hHeld => ?_)
   clear hK K
   refine pr_ 10 (some 7) ?_
   refine done_ (done_of HT_.out (by kernel_rfl)) ?_
   (try clear hms48_1 hms48_0 hns48_1 hns48_0 hfs48 hs48 hms47_1 hms47_0 hns47_1 hns47_0 hfs47 hs47 hms46_1 hms46_0 hns46_1 hns46_0 hfs46 hs46)
   try go_wp2
   refine bodyPost_ret (results_ct rfl _ _ gb254 23 #[.bool t280, .string t281, .string t282] (0, 0) _ rfl (by (with_reducible repeat (first | refine blk_drewN ?_ _ | refine blk_drew ?_ | refine blk_alloc ?_ _)); refine blk_put (cs := #[.bool t280, .string t281, .string (⟨#[]⟩ : ByteArray)]) ?_ 2 _ rfl; (with_reducible repeat (first | refine blk_drewN ?_ _ | refine blk_drew ?_ | refine blk_alloc ?_ _)); refine blk_put (cs := #[.bool t280, .string (⟨#[]⟩ : ByteArray), .string (⟨#[]⟩ : ByteArray)]) ?_ 1 _ rfl; (with_reducible repeat (first | refine blk_drewN ?_ _ | refine blk_drew ?_ | refine blk_alloc ?_ _)); refine blk_put (cs := #[.bool false, .string (⟨#[]⟩ : ByteArray), .string (⟨#[]⟩ : ByteArray)]) ?_ 0 _ rfl; (with_reducible repeat (first | refine blk_drewN ?_ _ | refine blk_drew ?_ | refine blk_alloc ?_ _)); exact BK254.out) Tryd.underlying23 rfl (by kernel_rfl)) rfl ?_
   exact ⟨by first | rfl | (simp [errW_none, errW_some] <;> rfl) | (simp [*, errW_none, errW_some] <;> rfl) | (simp [bne_nil_]; done), by repeat (first | (with_reducible first | exact HB.out | apply below_alloc | apply pw_below_drewN | apply below_drew1 | refine below_set ?_ GE252.out | refine below_set ?_ GE253.out | refine below_set ?_ GE254.out) | exact HB.out)⟩
end Go.Proofs.YtihjcaglhjepdaaDoor.P
namespace Go.Proofs.YtihjcaglhjepdaaDoor.P
open Go.RowKit Go.Proofs.YtihjcaglhjepdaaDoorW.PrintWords Go.Proofs.YtihjcaglhjepdaaDoorW.PrintLast Go.Proofs.YtihjcaglhjepdaaDoorW.PrintMore
attribute [local go_sem] max2_int max_two
set_option linter.unusedVariables false
set_option linter.unusedSimpArgs false
def decimal_Add.f (k : Nat) (a0_0 : Bool) (a0_1 : ByteArray) (a0_2 : ByteArray) (a1_0 : Bool) (a1_1 : ByteArray) (a1_2 : ByteArray) : Option (Bool × ByteArray × ByteArray × Int) := (decimal_both.f k a0_0 a0_1 a0_2 a1_0 a1_1 a1_2).bind fun t287 => (if t287 = 0 then ((decimal_sum.f k a0_0 a0_1 a0_2 a1_0 a1_1 a1_2 a1_0).bind fun bt288 => (some (bt288.1, bt288.2.1, bt288.2.2.1, bt288.2.2.2))) else (some (false, (⟨#[]⟩ : ByteArray), (⟨#[]⟩ : ByteArray), t287)))
theorem decimal_Add.mono : ∀ a0 a1 a2 a3 a4 a5 k, LeO (decimal_Add.f k a0 a1 a2 a3 a4 a5) (decimal_Add.f (k + 1) a0 a1 a2 a3 a4 a5) := by
 intro a0 a1 a2 a3 a4 a5 k
 unfold decimal_Add.f
 repeat' first
   | (with_reducible exact decimal_both.mono _ _ _ _ _ _ _)
   | (with_reducible exact decimal_sum.mono _ _ _ _ _ _ _ _)
   | (with_reducible exact LeO.refl _)
   | (with_reducible exact LeO.none _)
   | (with_reducible refine LeO.ite ?_ ?_)
   | (with_reducible refine LeO.bind ?_ (fun _ => ?_))
   | exact decimal_both.mono _ _ _ _ _ _ _
   | exact decimal_sum.mono _ _ _ _ _ _ _ _
   | exact LeO.none _
   | refine LeO.ite ?_ ?_
   | refine LeO.bind ?_ (fun _ => ?_)
set_option maxHeartbeats 8000000 in
set_option maxRecDepth 100000 in
theorem decimal_Add.calls (k : Nat) (a0_0 : Bool) (a0_1 : ByteArray) (a0_2 : ByteArray) (a1_0 : Bool) (a1_1 : ByteArray) (a1_2 : ByteArray) (r1 : Bool) (r2 : ByteArray) (r3 : ByteArray) (r4 : Int) (w : World) (h : decimal_Add.f k a0_0 a0_1 a0_2 a1_0 a1_1 a1_2 = some (r1, r2, r3, r4)) :
    Calls Tryd.prog 31 #[.agg #[.bool a0_0, .string a0_1, .string a0_2], .agg #[.bool a1_0, .string a1_1, .string a1_2]] w fun e w' => e = .returned (.tuple #[.agg #[.bool r1, .string r2, .string r3], .int .i64 r4]) ∧ Below w.heap.size w w' := by
 have hu23 := Tryd.underlying23
 have HB := Aside0.mk (Below.refl w.heap.size w)
 unfold decimal_Add.f at h
 have H := h
 clear h
 replace H := Option.bind_eq_some_iff.mp H
 obtain ⟨t287, A30, H⟩ := H
 try dsimp only at H
 have A3 := Aside0.mk A30
 clear A30
 have HF4 := Aside0.mk H
 clear H
 go_enter Tryd.func31, Tryd.ntmps31
 go_upto_if 11 with (first | ((with_reducible refine gate_dst (N := 2) rfl ?_); refine bx_ #[.bool a0_0, .string a0_1, .string a0_2] 23 ?_; intro gb284 hg w5 hbox hb; have BK284 := Aside0.mk (hbox); have GW284 := Aside0.mk ((by rw [hg]; exact (below_size hb_) : w.heap.size ≤ gb284)); have GE284 := Aside0.mk ((by rw [hg]; exact (below_size hb_) : w.heap.size ≤ gb284)); replace HB := Aside0.mk (below_step hb_ hb); clear hb hbox hg) | ((with_reducible refine gate_dst (N := 3) rfl ?_); refine bx_ #[.bool a1_0, .string a1_1, .string a1_2] 23 ?_; intro gb285 hg w6 hbox hb; have BK285 := Aside0.mk (hbox); have GW285 := Aside0.mk ((by rw [hg]; exact (below_size hb_) : w.heap.size ≤ gb285)); have GE285 := Aside0.mk ((by rw [hg]; exact (below_size hb_) : w.heap.size ≤ gb285)); have NB284_285 := BK284.nl hg; have NB285_284 := BK284.ng hg; replace BK284 := BK284.bl hb; replace HB := Aside0.mk (below_step hb_ hb); clear hb hbox hg) | ((with_reducible refine gate_dst (N := 4) rfl ?_); refine bx_ #[.bool false, .string (⟨#[]⟩ : ByteArray), .string (⟨#[]⟩ : ByteArray)] 23 ?_; intro gb286 hg w7 hbox hb; have BK286 := Aside0.mk (hbox); have GW286 := Aside0.mk ((by rw [hg]; exact (below_size hb_) : w.heap.size ≤ gb286)); have GE286 := Aside0.mk ((by rw [hg]; exact (below_size hb_) : w.heap.size ≤ gb286)); have NB284_286 := BK284.nl hg; have NB286_284 := BK284.ng hg; have NB285_286 := BK285.nl hg; have NB286_285 := BK285.ng hg; replace BK284 := BK284.bl hb; replace BK285 := BK285.bl hb; replace HB := Aside0.mk (below_step hb_ hb); clear hb hbox hg; have hnb8 := NB284_285.out; have hnc8 := NB285_284.out; have hnb9 := NB284_286.out; have hnc9 := NB286_284.out; obtain ⟨hcz10_0, hcz10_1, hcz10_2, hfz10_0, hfz10_1, hfz10_2⟩ := BK284.c3; have hnb11 := NB285_286.out; have hnc11 := NB286_285.out; obtain ⟨hcz12_0, hcz12_1, hcz12_2, hfz12_0, hfz12_1, hfz12_2⟩ := BK285.c3) | ((with_reducible refine gate_callee (f := 65) rfl ?_); refine gL_ (some 9) Tryd.func65 #[.agg #[.bool a0_0, .string a0_1, .string a0_2], .agg #[.bool a1_0, .string a1_1, .string a1_2]] ?_; (with_reducible refine (decimal_both.calls k a0_0 a0_1 a0_2 a1_0 a1_1 a1_2 t287 _ A3.out).mono ?_); rintro e w13 ⟨rfl, hb⟩; refine ⟨_, rfl, ?_⟩; replace BK284 := BK284.bl hb; replace BK285 := BK285.bl hb; replace BK286 := BK286.bl hb; replace HB := Aside0.mk (below_step hb_ hb)))
 (try simp only [Act.put, List.setIfInBounds_toArray, List.set_cons_zero, List.set_cons_succ])
 have H := HF4.out
 clear HF4
 by_cases c14 : t287 = 0
 ·rw [if_pos c14] at H
  have c14b0 : (t287 == 0) = true := beq_iff_eq.mpr c14
  have c14b1 : (t287 != 0) = false := bne_eq_false_iff_eq.mpr c14
  clear c14
  (first | rw [c14b0] | (simp only [i64_w, i32_w]; rw [c14b0]) | rw [c14b1] | skip)
  replace H := Option.bind_eq_some_iff.mp H
  obtain ⟨⟨t288, t289, t290, t291⟩, A150, H⟩ := H
  try dsimp only at H
  have A15 := Aside0.mk A150
  clear A150
  simp only [Option.some.injEq, Prod.mk.injEq] at H
  obtain ⟨rfl, rfl, rfl, rfl⟩ := H
  have hnb16 := NB284_285.out
  have hnc16 := NB285_284.out
  have hnb17 := NB284_286.out
  have hnc17 := NB286_284.out
  obtain ⟨hcz18_0, hcz18_1, hcz18_2, hfz18_0, hfz18_1, hfz18_2⟩ := BK284.c3
  have hnb19 := NB285_286.out
  have hnc19 := NB286_285.out
  obtain ⟨hcz20_0, hcz20_1, hcz20_2, hfz20_0, hfz20_1, hfz20_2⟩ := BK285.c3
  go_wp2_with (first | ((with_reducible refine gate_callee (f := 71) rfl ?_); refine gL_ (some 18) Tryd.func71 #[.agg #[.bool a0_0, .string a0_1, .string a0_2], .agg #[.bool a1_0, .string a1_1, .string a1_2], .bool a1_0] ?_; (with_reducible refine (decimal_sum.calls k a0_0 a0_1 a0_2 a1_0 a1_1 a1_2 a1_0 t288 t289 t290 t291 _ A15.out).mono ?_); rintro e w21 ⟨rfl, hb⟩; refine ⟨_, rfl, ?_⟩; replace BK284 := BK284.bl hb; replace BK285 := BK285.bl hb; replace BK286 := BK286.bl hb; replace HB := Aside0.mk (below_step hb_ hb); obtain ⟨hcz22_0, hcz22_1, hcz22_2, hfz22_0, hfz22_1, hfz22_2⟩ := BK286.c3))
  refine bodyPost_ret (results_ct rfl _ _ gb286 23 #[.bool t288, .string t289, .string t290] (0, 0) _ rfl (by refine blk_put (cs := #[.bool t288, .string t289, .string (⟨#[]⟩ : ByteArray)]) ?_ 2 _ rfl; refine blk_put (cs := #[.bool t288, .string (⟨#[]⟩ : ByteArray), .string (⟨#[]⟩ : ByteArray)]) ?_ 1 _ rfl; refine blk_put (cs := #[.bool false, .string (⟨#[]⟩ : ByteArray), .string (⟨#[]⟩ : ByteArray)]) ?_ 0 _ rfl; exact BK286.out) Tryd.underlying23 rfl (by kernel_rfl)) rfl ?_
  exact ⟨by first | rfl | (simp [errW_none, errW_some] <;> rfl) | (simp [*, errW_none, errW_some] <;> rfl) | (simp [bne_nil_]; done), by repeat (first | (with_reducible first | exact HB.out | apply below_alloc | apply pw_below_drewN | apply below_drew1 | refine below_set ?_ GE284.out | refine below_set ?_ GE285.out | refine below_set ?_ GE286.out) | exact HB.out)⟩
 ·rw [if_neg c14] at H
  have c14b0 : (t287 == 0) = false := beq_eq_false_iff_ne.mpr c14
  have c14b1 : (t287 != 0) = true := bne_iff_ne.mpr c14
  (first | rw [c14b0] | (simp only [i64_w, i32_w]; rw [c14b0]) | rw [c14b1] | skip)
  simp only [Option.some.injEq, Prod.mk.injEq] at H
  obtain ⟨rfl, rfl, rfl, rfl⟩ := H
  have hnb23 := NB286_284.out
  have hnc23 := NB284_286.out
  have hnb24 := NB286_285.out
  have hnc24 := NB285_286.out
  obtain ⟨hcz25_0, hcz25_1, hcz25_2, hfz25_0, hfz25_1, hfz25_2⟩ := BK286.c3
  go_wp2
  refine bodyPost_ret (results_ct rfl _ _ gb286 23 #[.bool false, .string (⟨#[]⟩ : ByteArray), .string (⟨#[]⟩ : ByteArray)] (0, 0) _ rfl (by refine blk_put (cs := #[.bool false, .string (⟨#[]⟩ : ByteArray), .string (⟨#[]⟩ : ByteArray)]) ?_ 2 _ rfl; refine blk_put (cs := #[.bool false, .string (⟨#[]⟩ : ByteArray), .string (⟨#[]⟩ : ByteArray)]) ?_ 1 _ rfl; refine blk_put (cs := #[.bool false, .string (⟨#[]⟩ : ByteArray), .string (⟨#[]⟩ : ByteArray)]) ?_ 0 _ rfl; exact BK286.out) Tryd.underlying23 rfl (by kernel_rfl)) rfl ?_
  exact ⟨by first | rfl | (simp [errW_none, errW_some] <;> rfl) | (simp [*, errW_none, errW_some] <;> rfl) | (simp [bne_nil_]; done), by repeat (first | (with_reducible first | exact HB.out | apply below_alloc | apply pw_below_drewN | apply below_drew1 | refine below_set ?_ GE284.out | refine below_set ?_ GE285.out | refine below_set ?_ GE286.out) | exact HB.out)⟩
end Go.Proofs.YtihjcaglhjepdaaDoor.P
namespace Go.Proofs.YtihjcaglhjepdaaDoor.P
open Go.RowKit Go.Proofs.YtihjcaglhjepdaaDoorW.PrintWords Go.Proofs.YtihjcaglhjepdaaDoorW.PrintLast Go.Proofs.YtihjcaglhjepdaaDoorW.PrintMore
attribute [local go_sem] max2_int max_two
set_option linter.unusedVariables false
set_option linter.unusedSimpArgs false
attribute [local go_sem high] eqA23
def idiomlaw02_awake.f (k : Nat)  : Option (Bool) := (decimal_Parse.f k (⟨#[45, 49, 50, 46, 53, 48]⟩ : ByteArray)).bind fun bt292 => ((decimal_Print.f k false (⟨#[49]⟩ : ByteArray) (⟨#[48]⟩ : ByteArray)).bind fun bt297 => ((decimal_Add.f k false (⟨#[49]⟩ : ByteArray) (⟨#[48]⟩ : ByteArray) false (⟨#[48]⟩ : ByteArray) (⟨#[48, 53]⟩ : ByteArray)).bind fun bt299 => (if (bt292.1 && (bt292.2.1.toList == ([49, 50] : List UInt8) && (bt292.2.2.1.toList == ([53, 48] : List UInt8)))) = true then (if bt292.2.2.2 = 0 then (if bt297.1.toList = ([49, 46, 48] : List UInt8) then (if bt297.2 = 0 then (if (!bt299.1 && (bt299.2.1.toList == ([49] : List UInt8) && (bt299.2.2.1.toList == ([48, 53] : List UInt8)))) = true then (some (bt299.2.2.2 == 0)) else (some false)) else (some false)) else (some false)) else (some false)) else (some false))))
theorem idiomlaw02_awake.mono : ∀ k, LeO (idiomlaw02_awake.f k ) (idiomlaw02_awake.f (k + 1) ) := by
 intro  k
 unfold idiomlaw02_awake.f
 repeat' first
   | (with_reducible exact decimal_Add.mono _ _ _ _ _ _ _)
   | (with_reducible exact decimal_Parse.mono _ _)
   | (with_reducible exact decimal_Print.mono _ _ _ _)
   | (with_reducible exact LeO.refl _)
   | (with_reducible exact LeO.none _)
   | (with_reducible refine LeO.ite ?_ ?_)
   | (with_reducible refine LeO.bind ?_ (fun _ => ?_))
   | exact decimal_Add.mono _ _ _ _ _ _ _
   | exact decimal_Parse.mono _ _
   | exact decimal_Print.mono _ _ _ _
   | exact LeO.none _
   | refine LeO.ite ?_ ?_
   | refine LeO.bind ?_ (fun _ => ?_)
set_option maxHeartbeats 8000000 in
set_option maxRecDepth 100000 in
theorem idiomlaw02_awake.calls (k : Nat)  (r : Bool) (w : World) (h : idiomlaw02_awake.f k  = some r) :
    Calls Tryd.prog 21 #[] w fun e w' => e = .returned (.bool r) ∧ Below w.heap.size w w' := by
 have hu23 := Tryd.underlying23
 have HB := Aside0.mk (Below.refl w.heap.size w)
 unfold idiomlaw02_awake.f at h
 have H := h
 clear h
 replace H := Option.bind_eq_some_iff.mp H
 obtain ⟨⟨t292, t293, t294, t295⟩, A10, H⟩ := H
 try dsimp only at H
 have A1 := Aside0.mk A10
 clear A10
 replace H := Option.bind_eq_some_iff.mp H
 obtain ⟨⟨t297, t298⟩, A20, H⟩ := H
 try dsimp only at H
 have A2 := Aside0.mk A20
 clear A20
 replace H := Option.bind_eq_some_iff.mp H
 obtain ⟨⟨t299, t300, t301, t302⟩, A30, H⟩ := H
 try dsimp only at H
 have A3 := Aside0.mk A30
 clear A30
 by_cases c4 : (t292 && (t293.toList == ([49, 50] : List UInt8) && (t294.toList == ([53, 48] : List UInt8)))) = true
 ·rw [if_pos c4] at H
  have c4b0 : (t292 && (t293.toList == ([49, 50] : List UInt8) && (t294.toList == ([53, 48] : List UInt8)))) = true := c4
  clear c4
  by_cases c5 : t295 = 0
  ·rw [if_pos c5] at H
   have c5b0 : (t295 == 0) = true := beq_iff_eq.mpr c5
   have c5b1 : (t295 != 0) = false := bne_eq_false_iff_eq.mpr c5
   clear c5
   by_cases c6 : t297.toList = ([49, 46, 48] : List UInt8)
   ·rw [if_pos c6] at H
    have c6b0 : (t297.toList == ([49, 46, 48] : List UInt8)) = true := beq_iff_eq.mpr c6
    have c6b1 : (t297.toList != ([49, 46, 48] : List UInt8)) = false := bne_eq_false_iff_eq.mpr c6
    clear c6
    by_cases c7 : t298 = 0
    ·rw [if_pos c7] at H
     have c7b0 : (t298 == 0) = true := beq_iff_eq.mpr c7
     have c7b1 : (t298 != 0) = false := bne_eq_false_iff_eq.mpr c7
     clear c7
     by_cases c8 : (!t299 && (t300.toList == ([49] : List UInt8) && (t301.toList == ([48, 53] : List UInt8)))) = true
     ·rw [if_pos c8] at H
      have c8b0 : (!t299 && (t300.toList == ([49] : List UInt8) && (t301.toList == ([48, 53] : List UInt8)))) = true := c8
      clear c8
      obtain rfl := Option.some.inj H
      go_enter Tryd.func21, Tryd.ntmps21
      go_wp2_with (first | ((with_reducible refine gate_callee (f := 22) rfl ?_); refine gL_ (some 8) Tryd.func22 #[.string (⟨#[45, 49, 50, 46, 53, 48]⟩ : ByteArray)] ?_; (with_reducible refine (decimal_Parse.calls k (⟨#[45, 49, 50, 46, 53, 48]⟩ : ByteArray) t292 t293 t294 t295 _ A1.out).mono ?_); rintro e w9 ⟨rfl, hb⟩; refine ⟨_, rfl, ?_⟩; replace HB := Aside0.mk (below_step hb_ hb)) | ((with_reducible refine gate_dst (N := 1) rfl ?_); refine bx_ #[.bool false, .string (⟨#[]⟩ : ByteArray), .string (⟨#[]⟩ : ByteArray)] 23 ?_; intro gb296 hg w10 hbox hb; have BK296 := Aside0.mk (hbox); have GW296 := Aside0.mk ((by rw [hg]; exact (below_size hb_) : w.heap.size ≤ gb296)); have GE296 := Aside0.mk ((by rw [hg]; exact (below_size hb_) : w.heap.size ≤ gb296)); replace HB := Aside0.mk (below_step hb_ hb); clear hb hbox hg; obtain ⟨hcz11_0, hcz11_1, hcz11_2, hfz11_0, hfz11_1, hfz11_2⟩ := BK296.c3) | ((with_reducible refine gate_callee (f := 17) rfl ?_); refine gL_ (some 13) Tryd.func17 #[.agg #[.bool false, .string (⟨#[49]⟩ : ByteArray), .string (⟨#[48]⟩ : ByteArray)]] ?_; (with_reducible refine (decimal_Print.calls k false (⟨#[49]⟩ : ByteArray) (⟨#[48]⟩ : ByteArray) t297 t298 _ A2.out).mono ?_); rintro e w12 ⟨rfl, hb⟩; refine ⟨_, rfl, ?_⟩; replace BK296 := Aside0.mk (blk_below (g := gb296) (o := .cells #[.bool t292, .string t293, .string t294] 23 (0, 0)) (by refine blk_put (cs := #[.bool t292, .string t293, .string (⟨#[]⟩ : ByteArray)]) ?_ 2 _ rfl; refine blk_put (cs := #[.bool t292, .string (⟨#[]⟩ : ByteArray), .string (⟨#[]⟩ : ByteArray)]) ?_ 1 _ rfl; refine blk_put (cs := #[.bool false, .string (⟨#[]⟩ : ByteArray), .string (⟨#[]⟩ : ByteArray)]) ?_ 0 _ rfl; exact BK296.out) hb); replace HB := Aside0.mk (below_step hb_ hb)) | ((with_reducible refine gate_callee (f := 31) rfl ?_); refine gL_ (some 19) Tryd.func31 #[.agg #[.bool false, .string (⟨#[49]⟩ : ByteArray), .string (⟨#[48]⟩ : ByteArray)], .agg #[.bool false, .string (⟨#[48]⟩ : ByteArray), .string (⟨#[48, 53]⟩ : ByteArray)]] ?_; (with_reducible refine (decimal_Add.calls k false (⟨#[49]⟩ : ByteArray) (⟨#[48]⟩ : ByteArray) false (⟨#[48]⟩ : ByteArray) (⟨#[48, 53]⟩ : ByteArray) t299 t300 t301 t302 _ A3.out).mono ?_); rintro e w13 ⟨rfl, hb⟩; refine ⟨_, rfl, ?_⟩; replace BK296 := BK296.bl hb; replace HB := Aside0.mk (below_step hb_ hb)) | ((with_reducible refine gate_dst (N := 5) rfl ?_); refine bx_ #[.bool false, .string (⟨#[]⟩ : ByteArray), .string (⟨#[]⟩ : ByteArray)] 23 ?_; intro gb303 hg w14 hbox hb; have BK303 := Aside0.mk (hbox); have GW303 := Aside0.mk ((by rw [hg]; exact (below_size hb_) : w.heap.size ≤ gb303)); have GE303 := Aside0.mk ((by rw [hg]; exact (below_size hb_) : w.heap.size ≤ gb303)); have NB296_303 := BK296.nl hg; have NB303_296 := BK296.ng hg; replace BK296 := BK296.bl hb; replace HB := Aside0.mk (below_step hb_ hb); clear hb hbox hg; have hnb15 := NB303_296.out; have hnc15 := NB296_303.out; obtain ⟨hcz16_0, hcz16_1, hcz16_2, hfz16_0, hfz16_1, hfz16_2⟩ := BK303.c3; obtain ⟨hcz17_0, hcz17_1, hcz17_2, hfz17_0, hfz17_1, hfz17_2⟩ := BK296.c3))
      go_ret
      exact ⟨by first | rfl | (simp [errW_none, errW_some] <;> rfl) | (simp [*, errW_none, errW_some] <;> rfl) | (simp [bne_nil_]; done), by repeat (first | (with_reducible first | exact HB.out | apply below_alloc | apply pw_below_drewN | apply below_drew1 | refine below_set ?_ GE296.out | refine below_set ?_ GE303.out) | exact HB.out)⟩
     ·rw [if_neg c8] at H
      have c8b0 : (!t299 && (t300.toList == ([49] : List UInt8) && (t301.toList == ([48, 53] : List UInt8)))) = false := by simpa using c8
      clear c8
      obtain rfl := Option.some.inj H
      go_enter Tryd.func21, Tryd.ntmps21
      go_wp2_with (first | ((with_reducible refine gate_callee (f := 22) rfl ?_); refine gL_ (some 8) Tryd.func22 #[.string (⟨#[45, 49, 50, 46, 53, 48]⟩ : ByteArray)] ?_; (with_reducible refine (decimal_Parse.calls k (⟨#[45, 49, 50, 46, 53, 48]⟩ : ByteArray) t292 t293 t294 t295 _ A1.out).mono ?_); rintro e w18 ⟨rfl, hb⟩; refine ⟨_, rfl, ?_⟩; replace HB := Aside0.mk (below_step hb_ hb)) | ((with_reducible refine gate_dst (N := 1) rfl ?_); refine bx_ #[.bool false, .string (⟨#[]⟩ : ByteArray), .string (⟨#[]⟩ : ByteArray)] 23 ?_; intro gb296 hg w19 hbox hb; have BK296 := Aside0.mk (hbox); have GW296 := Aside0.mk ((by rw [hg]; exact (below_size hb_) : w.heap.size ≤ gb296)); have GE296 := Aside0.mk ((by rw [hg]; exact (below_size hb_) : w.heap.size ≤ gb296)); replace HB := Aside0.mk (below_step hb_ hb); clear hb hbox hg; obtain ⟨hcz20_0, hcz20_1, hcz20_2, hfz20_0, hfz20_1, hfz20_2⟩ := BK296.c3) | ((with_reducible refine gate_callee (f := 17) rfl ?_); refine gL_ (some 13) Tryd.func17 #[.agg #[.bool false, .string (⟨#[49]⟩ : ByteArray), .string (⟨#[48]⟩ : ByteArray)]] ?_; (with_reducible refine (decimal_Print.calls k false (⟨#[49]⟩ : ByteArray) (⟨#[48]⟩ : ByteArray) t297 t298 _ A2.out).mono ?_); rintro e w21 ⟨rfl, hb⟩; refine ⟨_, rfl, ?_⟩; replace BK296 := Aside0.mk (blk_below (g := gb296) (o := .cells #[.bool t292, .string t293, .string t294] 23 (0, 0)) (by refine blk_put (cs := #[.bool t292, .string t293, .string (⟨#[]⟩ : ByteArray)]) ?_ 2 _ rfl; refine blk_put (cs := #[.bool t292, .string (⟨#[]⟩ : ByteArray), .string (⟨#[]⟩ : ByteArray)]) ?_ 1 _ rfl; refine blk_put (cs := #[.bool false, .string (⟨#[]⟩ : ByteArray), .string (⟨#[]⟩ : ByteArray)]) ?_ 0 _ rfl; exact BK296.out) hb); replace HB := Aside0.mk (below_step hb_ hb)) | ((with_reducible refine gate_callee (f := 31) rfl ?_); refine gL_ (some 19) Tryd.func31 #[.agg #[.bool false, .string (⟨#[49]⟩ : ByteArray), .string (⟨#[48]⟩ : ByteArray)], .agg #[.bool false, .string (⟨#[48]⟩ : ByteArray), .string (⟨#[48, 53]⟩ : ByteArray)]] ?_; (with_reducible refine (decimal_Add.calls k false (⟨#[49]⟩ : ByteArray) (⟨#[48]⟩ : ByteArray) false (⟨#[48]⟩ : ByteArray) (⟨#[48, 53]⟩ : ByteArray) t299 t300 t301 t302 _ A3.out).mono ?_); rintro e w22 ⟨rfl, hb⟩; refine ⟨_, rfl, ?_⟩; replace BK296 := BK296.bl hb; replace HB := Aside0.mk (below_step hb_ hb)) | ((with_reducible refine gate_dst (N := 5) rfl ?_); refine bx_ #[.bool false, .string (⟨#[]⟩ : ByteArray), .string (⟨#[]⟩ : ByteArray)] 23 ?_; intro gb303 hg w23 hbox hb; have BK303 := Aside0.mk (hbox); have GW303 := Aside0.mk ((by rw [hg]; exact (below_size hb_) : w.heap.size ≤ gb303)); have GE303 := Aside0.mk ((by rw [hg]; exact (below_size hb_) : w.heap.size ≤ gb303)); have NB296_303 := BK296.nl hg; have NB303_296 := BK296.ng hg; replace BK296 := BK296.bl hb; replace HB := Aside0.mk (below_step hb_ hb); clear hb hbox hg; have hnb24 := NB303_296.out; have hnc24 := NB296_303.out; obtain ⟨hcz25_0, hcz25_1, hcz25_2, hfz25_0, hfz25_1, hfz25_2⟩ := BK303.c3; obtain ⟨hcz26_0, hcz26_1, hcz26_2, hfz26_0, hfz26_1, hfz26_2⟩ := BK296.c3))
      go_ret
      exact ⟨by first | rfl | (simp [errW_none, errW_some] <;> rfl) | (simp [*, errW_none, errW_some] <;> rfl) | (simp [bne_nil_]; done), by repeat (first | (with_reducible first | exact HB.out | apply below_alloc | apply pw_below_drewN | apply below_drew1 | refine below_set ?_ GE296.out | refine below_set ?_ GE303.out) | exact HB.out)⟩
    ·rw [if_neg c7] at H
     have c7b0 : (t298 == 0) = false := beq_eq_false_iff_ne.mpr c7
     have c7b1 : (t298 != 0) = true := bne_iff_ne.mpr c7
     obtain rfl := Option.some.inj H
     go_enter Tryd.func21, Tryd.ntmps21
     go_wp2_with (first | ((with_reducible refine gate_callee (f := 22) rfl ?_); refine gL_ (some 8) Tryd.func22 #[.string (⟨#[45, 49, 50, 46, 53, 48]⟩ : ByteArray)] ?_; (with_reducible refine (decimal_Parse.calls k (⟨#[45, 49, 50, 46, 53, 48]⟩ : ByteArray) t292 t293 t294 t295 _ A1.out).mono ?_); rintro e w27 ⟨rfl, hb⟩; refine ⟨_, rfl, ?_⟩; replace HB := Aside0.mk (below_step hb_ hb)) | ((with_reducible refine gate_dst (N := 1) rfl ?_); refine bx_ #[.bool false, .string (⟨#[]⟩ : ByteArray), .string (⟨#[]⟩ : ByteArray)] 23 ?_; intro gb296 hg w28 hbox hb; have BK296 := Aside0.mk (hbox); have GW296 := Aside0.mk ((by rw [hg]; exact (below_size hb_) : w.heap.size ≤ gb296)); have GE296 := Aside0.mk ((by rw [hg]; exact (below_size hb_) : w.heap.size ≤ gb296)); replace HB := Aside0.mk (below_step hb_ hb); clear hb hbox hg; obtain ⟨hcz29_0, hcz29_1, hcz29_2, hfz29_0, hfz29_1, hfz29_2⟩ := BK296.c3) | ((with_reducible refine gate_callee (f := 17) rfl ?_); refine gL_ (some 13) Tryd.func17 #[.agg #[.bool false, .string (⟨#[49]⟩ : ByteArray), .string (⟨#[48]⟩ : ByteArray)]] ?_; (with_reducible refine (decimal_Print.calls k false (⟨#[49]⟩ : ByteArray) (⟨#[48]⟩ : ByteArray) t297 t298 _ A2.out).mono ?_); rintro e w30 ⟨rfl, hb⟩; refine ⟨_, rfl, ?_⟩; replace BK296 := Aside0.mk (blk_below (g := gb296) (o := .cells #[.bool t292, .string t293, .string t294] 23 (0, 0)) (by refine blk_put (cs := #[.bool t292, .string t293, .string (⟨#[]⟩ : ByteArray)]) ?_ 2 _ rfl; refine blk_put (cs := #[.bool t292, .string (⟨#[]⟩ : ByteArray), .string (⟨#[]⟩ : ByteArray)]) ?_ 1 _ rfl; refine blk_put (cs := #[.bool false, .string (⟨#[]⟩ : ByteArray), .string (⟨#[]⟩ : ByteArray)]) ?_ 0 _ rfl; exact BK296.out) hb); replace HB := Aside0.mk (below_step hb_ hb)) | ((with_reducible refine gate_callee (f := 31) rfl ?_); refine gL_ (some 19) Tryd.func31 #[.agg #[.bool false, .string (⟨#[49]⟩ : ByteArray), .string (⟨#[48]⟩ : ByteArray)], .agg #[.bool false, .string (⟨#[48]⟩ : ByteArray), .string (⟨#[48, 53]⟩ : ByteArray)]] ?_; (with_reducible refine (decimal_Add.calls k false (⟨#[49]⟩ : ByteArray) (⟨#[48]⟩ : ByteArray) false (⟨#[48]⟩ : ByteArray) (⟨#[48, 53]⟩ : ByteArray) t299 t300 t301 t302 _ A3.out).mono ?_); rintro e w31 ⟨rfl, hb⟩; refine ⟨_, rfl, ?_⟩; replace BK296 := BK296.bl hb; replace HB := Aside0.mk (below_step hb_ hb)) | ((with_reducible refine gate_dst (N := 5) rfl ?_); refine bx_ #[.bool false, .string (⟨#[]⟩ : ByteArray), .string (⟨#[]⟩ : ByteArray)] 23 ?_; intro gb303 hg w32 hbox hb; have BK303 := Aside0.mk (hbox); have GW303 := Aside0.mk ((by rw [hg]; exact (below_size hb_) : w.heap.size ≤ gb303)); have GE303 := Aside0.mk ((by rw [hg]; exact (below_size hb_) : w.heap.size ≤ gb303)); have NB296_303 := BK296.nl hg; have NB303_296 := BK296.ng hg; replace BK296 := BK296.bl hb; replace HB := Aside0.mk (below_step hb_ hb); clear hb hbox hg; have hnb33 := NB303_296.out; have hnc33 := NB296_303.out; obtain ⟨hcz34_0, hcz34_1, hcz34_2, hfz34_0, hfz34_1, hfz34_2⟩ := BK303.c3; obtain ⟨hcz35_0, hcz35_1, hcz35_2, hfz35_0, hfz35_1, hfz35_2⟩ := BK296.c3))
     go_ret
     exact ⟨by first | rfl | (simp [errW_none, errW_some] <;> rfl) | (simp [*, errW_none, errW_some] <;> rfl) | (simp [bne_nil_]; done), by repeat (first | (with_reducible first | exact HB.out | apply below_alloc | apply pw_below_drewN | apply below_drew1 | refine below_set ?_ GE296.out | refine below_set ?_ GE303.out) | exact HB.out)⟩
   ·rw [if_neg c6] at H
    have c6b0 : (t297.toList == ([49, 46, 48] : List UInt8)) = false := beq_eq_false_iff_ne.mpr c6
    have c6b1 : (t297.toList != ([49, 46, 48] : List UInt8)) = true := bne_iff_ne.mpr c6
    obtain rfl := Option.some.inj H
    go_enter Tryd.func21, Tryd.ntmps21
    go_wp2_with (first | ((with_reducible refine gate_callee (f := 22) rfl ?_); refine gL_ (some 8) Tryd.func22 #[.string (⟨#[45, 49, 50, 46, 53, 48]⟩ : ByteArray)] ?_; (with_reducible refine (decimal_Parse.calls k (⟨#[45, 49, 50, 46, 53, 48]⟩ : ByteArray) t292 t293 t294 t295 _ A1.out).mono ?_); rintro e w36 ⟨rfl, hb⟩; refine ⟨_, rfl, ?_⟩; replace HB := Aside0.mk (below_step hb_ hb)) | ((with_reducible refine gate_dst (N := 1) rfl ?_); refine bx_ #[.bool false, .string (⟨#[]⟩ : ByteArray), .string (⟨#[]⟩ : ByteArray)] 23 ?_; intro gb296 hg w37 hbox hb; have BK296 := Aside0.mk (hbox); have GW296 := Aside0.mk ((by rw [hg]; exact (below_size hb_) : w.heap.size ≤ gb296)); have GE296 := Aside0.mk ((by rw [hg]; exact (below_size hb_) : w.heap.size ≤ gb296)); replace HB := Aside0.mk (below_step hb_ hb); clear hb hbox hg; obtain ⟨hcz38_0, hcz38_1, hcz38_2, hfz38_0, hfz38_1, hfz38_2⟩ := BK296.c3) | ((with_reducible refine gate_callee (f := 17) rfl ?_); refine gL_ (some 13) Tryd.func17 #[.agg #[.bool false, .string (⟨#[49]⟩ : ByteArray), .string (⟨#[48]⟩ : ByteArray)]] ?_; (with_reducible refine (decimal_Print.calls k false (⟨#[49]⟩ : ByteArray) (⟨#[48]⟩ : ByteArray) t297 t298 _ A2.out).mono ?_); rintro e w39 ⟨rfl, hb⟩; refine ⟨_, rfl, ?_⟩; replace BK296 := Aside0.mk (blk_below (g := gb296) (o := .cells #[.bool t292, .string t293, .string t294] 23 (0, 0)) (by refine blk_put (cs := #[.bool t292, .string t293, .string (⟨#[]⟩ : ByteArray)]) ?_ 2 _ rfl; refine blk_put (cs := #[.bool t292, .string (⟨#[]⟩ : ByteArray), .string (⟨#[]⟩ : ByteArray)]) ?_ 1 _ rfl; refine blk_put (cs := #[.bool false, .string (⟨#[]⟩ : ByteArray), .string (⟨#[]⟩ : ByteArray)]) ?_ 0 _ rfl; exact BK296.out) hb); replace HB := Aside0.mk (below_step hb_ hb)) | ((with_reducible refine gate_callee (f := 31) rfl ?_); refine gL_ (some 19) Tryd.func31 #[.agg #[.bool false, .string (⟨#[49]⟩ : ByteArray), .string (⟨#[48]⟩ : ByteArray)], .agg #[.bool false, .string (⟨#[48]⟩ : ByteArray), .string (⟨#[48, 53]⟩ : ByteArray)]] ?_; (with_reducible refine (decimal_Add.calls k false (⟨#[49]⟩ : ByteArray) (⟨#[48]⟩ : ByteArray) false (⟨#[48]⟩ : ByteArray) (⟨#[48, 53]⟩ : ByteArray) t299 t300 t301 t302 _ A3.out).mono ?_); rintro e w40 ⟨rfl, hb⟩; refine ⟨_, rfl, ?_⟩; replace BK296 := BK296.bl hb; replace HB := Aside0.mk (below_step hb_ hb)) | ((with_reducible refine gate_dst (N := 5) rfl ?_); refine bx_ #[.bool false, .string (⟨#[]⟩ : ByteArray), .string (⟨#[]⟩ : ByteArray)] 23 ?_; intro gb303 hg w41 hbox hb; have BK303 := Aside0.mk (hbox); have GW303 := Aside0.mk ((by rw [hg]; exact (below_size hb_) : w.heap.size ≤ gb303)); have GE303 := Aside0.mk ((by rw [hg]; exact (below_size hb_) : w.heap.size ≤ gb303)); have NB296_303 := BK296.nl hg; have NB303_296 := BK296.ng hg; replace BK296 := BK296.bl hb; replace HB := Aside0.mk (below_step hb_ hb); clear hb hbox hg; have hnb42 := NB303_296.out; have hnc42 := NB296_303.out; obtain ⟨hcz43_0, hcz43_1, hcz43_2, hfz43_0, hfz43_1, hfz43_2⟩ := BK303.c3; obtain ⟨hcz44_0, hcz44_1, hcz44_2, hfz44_0, hfz44_1, hfz44_2⟩ := BK296.c3))
    go_ret
    exact ⟨by first | rfl | (simp [errW_none, errW_some] <;> rfl) | (simp [*, errW_none, errW_some] <;> rfl) | (simp [bne_nil_]; done), by repeat (first | (with_reducible first | exact HB.out | apply below_alloc | apply pw_below_drewN | apply below_drew1 | refine below_set ?_ GE296.out | refine below_set ?_ GE303.out) | exact HB.out)⟩
  ·rw [if_neg c5] at H
   have c5b0 : (t295 == 0) = false := beq_eq_false_iff_ne.mpr c5
   have c5b1 : (t295 != 0) = true := bne_iff_ne.mpr c5
   obtain rfl := Option.some.inj H
   go_enter Tryd.func21, Tryd.ntmps21
   go_wp2_with (first | ((with_reducible refine gate_callee (f := 22) rfl ?_); refine gL_ (some 8) Tryd.func22 #[.string (⟨#[45, 49, 50, 46, 53, 48]⟩ : ByteArray)] ?_; (with_reducible refine (decimal_Parse.calls k (⟨#[45, 49, 50, 46, 53, 48]⟩ : ByteArray) t292 t293 t294 t295 _ A1.out).mono ?_); rintro e w45 ⟨rfl, hb⟩; refine ⟨_, rfl, ?_⟩; replace HB := Aside0.mk (below_step hb_ hb)) | ((with_reducible refine gate_dst (N := 1) rfl ?_); refine bx_ #[.bool false, .string (⟨#[]⟩ : ByteArray), .string (⟨#[]⟩ : ByteArray)] 23 ?_; intro gb296 hg w46 hbox hb; have BK296 := Aside0.mk (hbox); have GW296 := Aside0.mk ((by rw [hg]; exact (below_size hb_) : w.heap.size ≤ gb296)); have GE296 := Aside0.mk ((by rw [hg]; exact (below_size hb_) : w.heap.size ≤ gb296)); replace HB := Aside0.mk (below_step hb_ hb); clear hb hbox hg; obtain ⟨hcz47_0, hcz47_1, hcz47_2, hfz47_0, hfz47_1, hfz47_2⟩ := BK296.c3) | ((with_reducible refine gate_callee (f := 17) rfl ?_); refine gL_ (some 13) Tryd.func17 #[.agg #[.bool false, .string (⟨#[49]⟩ : ByteArray), .string (⟨#[48]⟩ : ByteArray)]] ?_; (with_reducible refine (decimal_Print.calls k false (⟨#[49]⟩ : ByteArray) (⟨#[48]⟩ : ByteArray) t297 t298 _ A2.out).mono ?_); rintro e w48 ⟨rfl, hb⟩; refine ⟨_, rfl, ?_⟩; replace BK296 := Aside0.mk (blk_below (g := gb296) (o := .cells #[.bool t292, .string t293, .string t294] 23 (0, 0)) (by refine blk_put (cs := #[.bool t292, .string t293, .string (⟨#[]⟩ : ByteArray)]) ?_ 2 _ rfl; refine blk_put (cs := #[.bool t292, .string (⟨#[]⟩ : ByteArray), .string (⟨#[]⟩ : ByteArray)]) ?_ 1 _ rfl; refine blk_put (cs := #[.bool false, .string (⟨#[]⟩ : ByteArray), .string (⟨#[]⟩ : ByteArray)]) ?_ 0 _ rfl; exact BK296.out) hb); replace HB := Aside0.mk (below_step hb_ hb)) | ((with_reducible refine gate_callee (f := 31) rfl ?_); refine gL_ (some 19) Tryd.func31 #[.agg #[.bool false, .string (⟨#[49]⟩ : ByteArray), .string (⟨#[48]⟩ : ByteArray)], .agg #[.bool false, .string (⟨#[48]⟩ : ByteArray), .string (⟨#[48, 53]⟩ : ByteArray)]] ?_; (with_reducible refine (decimal_Add.calls k false (⟨#[49]⟩ : ByteArray) (⟨#[48]⟩ : ByteArray) false (⟨#[48]⟩ : ByteArray) (⟨#[48, 53]⟩ : ByteArray) t299 t300 t301 t302 _ A3.out).mono ?_); rintro e w49 ⟨rfl, hb⟩; refine ⟨_, rfl, ?_⟩; replace BK296 := BK296.bl hb; replace HB := Aside0.mk (below_step hb_ hb)) | ((with_reducible refine gate_dst (N := 5) rfl ?_); refine bx_ #[.bool false, .string (⟨#[]⟩ : ByteArray), .string (⟨#[]⟩ : ByteArray)] 23 ?_; intro gb303 hg w50 hbox hb; have BK303 := Aside0.mk (hbox); have GW303 := Aside0.mk ((by rw [hg]; exact (below_size hb_) : w.heap.size ≤ gb303)); have GE303 := Aside0.mk ((by rw [hg]; exact (below_size hb_) : w.heap.size ≤ gb303)); have NB296_303 := BK296.nl hg; have NB303_296 := BK296.ng hg; replace BK296 := BK296.bl hb; replace HB := Aside0.mk (below_step hb_ hb); clear hb hbox hg; have hnb51 := NB303_296.out; have hnc51 := NB296_303.out; obtain ⟨hcz52_0, hcz52_1, hcz52_2, hfz52_0, hfz52_1, hfz52_2⟩ := BK303.c3; obtain ⟨hcz53_0, hcz53_1, hcz53_2, hfz53_0, hfz53_1, hfz53_2⟩ := BK296.c3))
   go_ret
   exact ⟨by first | rfl | (simp [errW_none, errW_some] <;> rfl) | (simp [*, errW_none, errW_some] <;> rfl) | (simp [bne_nil_]; done), by repeat (first | (with_reducible first | exact HB.out | apply below_alloc | apply pw_below_drewN | apply below_drew1 | refine below_set ?_ GE296.out | refine below_set ?_ GE303.out) | exact HB.out)⟩
 ·rw [if_neg c4] at H
  have c4b0 : (t292 && (t293.toList == ([49, 50] : List UInt8) && (t294.toList == ([53, 48] : List UInt8)))) = false := by simpa using c4
  clear c4
  obtain rfl := Option.some.inj H
  go_enter Tryd.func21, Tryd.ntmps21
  go_wp2_with (first | ((with_reducible refine gate_callee (f := 22) rfl ?_); refine gL_ (some 8) Tryd.func22 #[.string (⟨#[45, 49, 50, 46, 53, 48]⟩ : ByteArray)] ?_; (with_reducible refine (decimal_Parse.calls k (⟨#[45, 49, 50, 46, 53, 48]⟩ : ByteArray) t292 t293 t294 t295 _ A1.out).mono ?_); rintro e w54 ⟨rfl, hb⟩; refine ⟨_, rfl, ?_⟩; replace HB := Aside0.mk (below_step hb_ hb)) | ((with_reducible refine gate_dst (N := 1) rfl ?_); refine bx_ #[.bool false, .string (⟨#[]⟩ : ByteArray), .string (⟨#[]⟩ : ByteArray)] 23 ?_; intro gb296 hg w55 hbox hb; have BK296 := Aside0.mk (hbox); have GW296 := Aside0.mk ((by rw [hg]; exact (below_size hb_) : w.heap.size ≤ gb296)); have GE296 := Aside0.mk ((by rw [hg]; exact (below_size hb_) : w.heap.size ≤ gb296)); replace HB := Aside0.mk (below_step hb_ hb); clear hb hbox hg; obtain ⟨hcz56_0, hcz56_1, hcz56_2, hfz56_0, hfz56_1, hfz56_2⟩ := BK296.c3) | ((with_reducible refine gate_callee (f := 17) rfl ?_); refine gL_ (some 13) Tryd.func17 #[.agg #[.bool false, .string (⟨#[49]⟩ : ByteArray), .string (⟨#[48]⟩ : ByteArray)]] ?_; (with_reducible refine (decimal_Print.calls k false (⟨#[49]⟩ : ByteArray) (⟨#[48]⟩ : ByteArray) t297 t298 _ A2.out).mono ?_); rintro e w57 ⟨rfl, hb⟩; refine ⟨_, rfl, ?_⟩; replace BK296 := Aside0.mk (blk_below (g := gb296) (o := .cells #[.bool t292, .string t293, .string t294] 23 (0, 0)) (by refine blk_put (cs := #[.bool t292, .string t293, .string (⟨#[]⟩ : ByteArray)]) ?_ 2 _ rfl; refine blk_put (cs := #[.bool t292, .string (⟨#[]⟩ : ByteArray), .string (⟨#[]⟩ : ByteArray)]) ?_ 1 _ rfl; refine blk_put (cs := #[.bool false, .string (⟨#[]⟩ : ByteArray), .string (⟨#[]⟩ : ByteArray)]) ?_ 0 _ rfl; exact BK296.out) hb); replace HB := Aside0.mk (below_step hb_ hb)) | ((with_reducible refine gate_callee (f := 31) rfl ?_); refine gL_ (some 19) Tryd.func31 #[.agg #[.bool false, .string (⟨#[49]⟩ : ByteArray), .string (⟨#[48]⟩ : ByteArray)], .agg #[.bool false, .string (⟨#[48]⟩ : ByteArray), .string (⟨#[48, 53]⟩ : ByteArray)]] ?_; (with_reducible refine (decimal_Add.calls k false (⟨#[49]⟩ : ByteArray) (⟨#[48]⟩ : ByteArray) false (⟨#[48]⟩ : ByteArray) (⟨#[48, 53]⟩ : ByteArray) t299 t300 t301 t302 _ A3.out).mono ?_); rintro e w58 ⟨rfl, hb⟩; refine ⟨_, rfl, ?_⟩; replace BK296 := BK296.bl hb; replace HB := Aside0.mk (below_step hb_ hb)) | ((with_reducible refine gate_dst (N := 5) rfl ?_); refine bx_ #[.bool false, .string (⟨#[]⟩ : ByteArray), .string (⟨#[]⟩ : ByteArray)] 23 ?_; intro gb303 hg w59 hbox hb; have BK303 := Aside0.mk (hbox); have GW303 := Aside0.mk ((by rw [hg]; exact (below_size hb_) : w.heap.size ≤ gb303)); have GE303 := Aside0.mk ((by rw [hg]; exact (below_size hb_) : w.heap.size ≤ gb303)); have NB296_303 := BK296.nl hg; have NB303_296 := BK296.ng hg; replace BK296 := BK296.bl hb; replace HB := Aside0.mk (below_step hb_ hb); clear hb hbox hg; have hnb60 := NB303_296.out; have hnc60 := NB296_303.out; obtain ⟨hcz61_0, hcz61_1, hcz61_2, hfz61_0, hfz61_1, hfz61_2⟩ := BK303.c3; obtain ⟨hcz62_0, hcz62_1, hcz62_2, hfz62_0, hfz62_1, hfz62_2⟩ := BK296.c3))
  go_ret
  exact ⟨by first | rfl | (simp [errW_none, errW_some] <;> rfl) | (simp [*, errW_none, errW_some] <;> rfl) | (simp [bne_nil_]; done), by repeat (first | (with_reducible first | exact HB.out | apply below_alloc | apply pw_below_drewN | apply below_drew1 | refine below_set ?_ GE296.out | refine below_set ?_ GE303.out) | exact HB.out)⟩
end Go.Proofs.YtihjcaglhjepdaaDoor.P
namespace Go.Proofs.YtihjcaglhjepdaaDoor.P
open Go.RowKit Go.Proofs.YtihjcaglhjepdaaDoorW.PrintWords Go.Proofs.YtihjcaglhjepdaaDoorW.PrintLast Go.Proofs.YtihjcaglhjepdaaDoorW.PrintMore
attribute [local go_sem] max2_int max_two
set_option linter.unusedVariables false
set_option linter.unusedSimpArgs false
mutual
def decimal_digits_times.j0 : Nat → List Int → List Int → Bool → Option (List Int)
  | 0, _, _, _ => none
  | k + 1, x0, x1, x19 => if x19 = true then (some ([] : List Int)) else (if 0 ≤ (wrap64 ((x0.length : Int) + (x1.length : Int))) then (if (wrap64 ((x0.length : Int) + (x1.length : Int)) : Int).toNat ≤ 35184372088832 then (decimal_digits_times.l0 k x0 x1 (List.replicate (wrap64 ((x0.length : Int) + (x1.length : Int)) : Int).toNat 0) (x0.length : Int) 0) else (none)) else (none))
def decimal_digits_times.l0 : Nat → List Int → List Int → List Int → Int → Int → Option (List Int)
  | 0, _, _, _, _, _ => none
  | k + 1, x0, x1, x5, x27, x28 => if x28 < x27 then (decimal_digits_times.l1 k x0 x1 x5 x28 x27 x28 (x1.length : Int) 0) else (if 0 ≤ (x5.length : Int) then (if ((x5.length : Int) : Int).toNat ≤ 281474976710656 then (decimal_digits_times.l2 k x5 (List.replicate ((x5.length : Int) : Int).toNat 0) 0 (wrap64 ((x5.length : Int) - 1))) else (none)) else (none))
def decimal_digits_times.l1 : Nat → List Int → List Int → List Int → Int → Int → Int → Int → Int → Option (List Int)
  | 0, _, _, _, _, _, _, _, _ => none
  | k + 1, x0, x1, x5, x6, x27, x28, x32, x33 => if x33 < x32 then (if 0 ≤ (wrap64 ((wrap64 (x6 + x33)) + 1)) then (if (wrap64 ((wrap64 (x6 + x33)) + 1)) < (x5.length : Int) then (if 0 ≤ x6 then (if x6 < (x0.length : Int) then (if 0 ≤ x33 then (if x33 < (x1.length : Int) then (decimal_digits_times.l1 k x0 x1 (x5.set ((wrap64 ((wrap64 (x6 + x33)) + 1)) : Int).toNat (wrap64 ((rd x5 (wrap64 ((wrap64 (x6 + x33)) + 1))) + (wrap64 ((wrap64 (rd x0 x6)) * (wrap64 (rd x1 x33))))))) x6 x27 x28 x32 (wrap64 (x33 + 1))) else (none)) else (none)) else (none)) else (none)) else (none)) else (none)) else (decimal_digits_times.l0 k x0 x1 x5 x27 (wrap64 (x28 + 1)))
def decimal_digits_times.l2 : Nat → List Int → List Int → Int → Int → Option (List Int)
  | 0, _, _, _, _ => none
  | k + 1, x5, x8, x9, x10 => if x10 ≥ 0 then (if 0 ≤ x10 then (if x10 < (x5.length : Int) then (if x10 < (x8.length : Int) then (decimal_digits_times.l2 k x5 (x8.set (x10 : Int).toNat ((Int.tmod (wrap64 ((rd x5 x10) + x9)) 10) % 256)) (wrap64 (Int.tdiv (wrap64 ((rd x5 x10) + x9)) 10)) (wrap64 (x10 - 1))) else (none)) else (none)) else (none)) else ((decimal_digits_lead.f k x8).bind fun t587 => (some t587))
end
def decimal_digits_times.f (k : Nat) (l0 : List Int) (l1 : List Int) : Option (List Int) := if (l0.length : Int) = 0 then (decimal_digits_times.j0 k l0 l1 true) else (decimal_digits_times.j0 k l0 l1 ((l1.length : Int) == 0))
def decimal_digits_times.T10 : Bool × List (List Nat × List Nat) := (true, [([], []), ([], []), ([], []), ([1, 2], [1, 2]), ([3], [3]), ([0, 4], [0, 4]), ([5], [5]), ([], []), ([], []), ([7, 8], [7, 8]), ([9], [9]), ([10], [10]), ([], []), ([], []), ([12, 13], [12, 13]), ([14], [14]), ([15], [15]), ([11, 16], [11, 16]), ([6, 17], [6, 17]), ([0, 4, 0, 1, 2, 3, 4, 5, 6, 7, 8, 9, 10, 11, 12, 13, 14, 15, 16, 17, 18], [0, 4]), ([19, 18, 0, 1, 2, 3, 4, 5, 6, 7, 8, 9, 10, 11, 12, 13, 14, 15, 16, 17, 18], [18, 19])])
def decimal_digits_times.B10 : List Nat := [0, 0, 0, 6, 14, 31, 63, 0, 0, 384, 896, 1920, 0, 0, 12288, 28672, 61440, 130944, 262143, 524287, 1048575]
theorem decimal_digits_times.tab10 : rtab .any (opsOf Tryd.f74 10) = decimal_digits_times.T10 := by kernel_rfl
theorem decimal_digits_times.bits10 : waitsOk decimal_digits_times.T10.2 decimal_digits_times.B10 = true := by kernel_rfl
set_option maxHeartbeats 8000000 in
set_option maxRecDepth 100000 in
theorem decimal_digits_times.calls (k : Nat) (A0 : Option Addr) (c0 : Nat) (l0 : List Int) (A1 : Option Addr) (c1 : Nat) (l1 : List Int) (r : List Int) (w : World) (hr0 : Kd.C (Kd.int .u8) w A0 l0.length l0) (hc0 : l0.length ≤ c0) (hr1 : Kd.C (Kd.int .u8) w A1 l1.length l1) (hc1 : l1.length ≤ c1) (h : decimal_digits_times.f k l0 l1 = some r) :
    Calls Tryd.prog 74 #[.slice A0 l0.length c0, .slice A1 l1.length c1] w fun e w' => ∃ v0_ : Value, e = .returned (v0_) ∧ Kd.V (Kd.int .u8) 5 w' w.heap.size (fun k_ => (w.heap.size ≤ k_)) v0_ r ∧ Below w.heap.size w w' := by
 have HR0 := Aside0.mk hr0
 have HC0 := Aside0.mk hc0
 clear hr0 hc0
 have HR1 := Aside0.mk hr1
 have HC1 := Aside0.mk hc1
 clear hr1 hc1
 have HB := Aside0.mk (Below.refl w.heap.size w)
 unfold decimal_digits_times.f at h
 have H := h
 clear h
 have HC3 := Aside0.mk H
 clear H
 go_enter Tryd.func74, Tryd.ntmps74
 go_upto_region 1 with (fail)
 go_cut [19] (fun v19 wc => ∃ (kq : Nat) (x19_2 : Bool), v19 = .bool x19_2 ∧ Aside0 (decimal_digits_times.j0 kq l0 l1 x19_2 = some r) ∧ Aside0 (kq ≤ k) ∧ Aside0 (Below w.heap.size w wc))
 case first =>
  have H := HC3.out
  clear HC3
  by_cases c4 : (l0.length : Int) = 0
  ·rw [if_pos c4] at H
   have c4b0 : ((l0.length : Int) == 0) = true := beq_iff_eq.mpr c4
   have c4b1 : ((l0.length : Int) != 0) = false := bne_eq_false_iff_eq.mpr c4
   clear c4
   (first | rw [c4b0] | (simp only [i64_w, i32_w]; rw [c4b0]) | rw [c4b1] | skip)
   have H' := Aside0.mk H
   clear H
   go_wp2
   go_meet
   case rel => exact ⟨_, (true), (by first | rfl | (simp; done) | (simp [*]; done)), H', ⟨by first | omega | exact Nat.le_refl _⟩, ⟨by repeat (first | (with_reducible first | exact HB.out | apply below_alloc | apply pw_below_drewN | apply below_drew1) | exact HB.out)⟩⟩
  ·rw [if_neg c4] at H
   have c4b0 : ((l0.length : Int) == 0) = false := beq_eq_false_iff_ne.mpr c4
   have c4b1 : ((l0.length : Int) != 0) = true := bne_iff_ne.mpr c4
   have c4b2 : ¬ (l0 = []) := fun h_ => c4 (by rw [h_]; rfl)
   (first | rw [c4b0] | (simp only [i64_w, i32_w]; rw [c4b0]) | rw [c4b1] | skip)
   have H' := Aside0.mk H
   clear H
   go_wp2
   go_meet
   case rel => exact ⟨_, (((l1.length : Int) == 0)), (by first | rfl | (simp; done) | (simp [*]; done)), H', ⟨by first | omega | exact Nat.le_refl _⟩, ⟨by repeat (first | (with_reducible first | exact HB.out | apply below_alloc | apply pw_below_drewN | apply below_drew1) | exact HB.out)⟩⟩
 case rest =>
  clear HC3
  obtain ⟨kq, x19_2, rfl, HA, HJ2, HB⟩ := hcut
  cases kq with
  | zero => exact absurd HA.out (by simp [decimal_digits_times.j0])
  | succ kj2 =>
   have H := HA.out
   clear HA
   simp only [decimal_digits_times.j0] at H
   by_cases c5 : x19_2 = true
   ·subst c5
    have H1 : (some ([] : List Int)) = some r := by rw [if_pos rfl] at H; exact H
    clear H
    have H := H1
    clear H1
    obtain rfl := Option.some.inj H
    go_wp2
    go_ret
    exact ⟨_, by first | rfl | (simp [errW_none, errW_some] <;> rfl) | (simp [*, errW_none, errW_some] <;> rfl) | (simp [bne_nil_]; done), Kd.V_nil _ _ _ _ _, by repeat (first | (with_reducible first | exact HB.out | apply below_alloc | apply pw_below_drewN | apply below_drew1) | exact HB.out)⟩
   ·replace c5 := Bool.eq_false_iff.mpr c5
    subst c5
    have H1 : (if 0 ≤ (wrap64 ((l0.length : Int) + (l1.length : Int))) then (if (wrap64 ((l0.length : Int) + (l1.length : Int)) : Int).toNat ≤ 35184372088832 then (decimal_digits_times.l0 kj2 l0 l1 (List.replicate (wrap64 ((l0.length : Int) + (l1.length : Int)) : Int).toNat 0) (l0.length : Int) 0) else (none)) else (none)) = some r := by rw [if_neg (show ¬ (false = true) by decide)] at H; exact H
    clear H
    have H := H1
    clear H1
    obtain ⟨ji6, hji6⟩ : ∃ j_ : Int, (wrap64 ((l0.length : Int) + (l1.length : Int))) = j_ := ⟨_, rfl⟩
    replace H : (if 0 ≤ (ji6) then (if (ji6 : Int).toNat ≤ 35184372088832 then (decimal_digits_times.l0 kj2 l0 l1 (List.replicate (ji6 : Int).toNat 0) (l0.length : Int) 0) else (none)) else (none)) = some r := by first | (rw [hji6] at H; exact H) | (simp only [hji6] at H ⊢; exact H)
    have hji6w : (IntKind.i64.wrap ((l0.length : Int) + (l1.length : Int))) = ji6 := (i64_w _).trans hji6
    by_cases c7 : 0 ≤ (ji6)
    ·rw [if_pos c7] at H
     have c7b0 := eq_true c7
     have c7b1 : decide (0 ≤ (ji6)) = true := decide_eq_true c7
     clear c7
     by_cases c8 : (ji6 : Int).toNat ≤ 35184372088832
     ·rw [if_pos c8] at H
      have c8b0 := eq_true c8
      have c8b1 : decide ((ji6 : Int).toNat ≤ 35184372088832) = true := decide_eq_true c8
      clear c8
      obtain ⟨y575, hy575⟩ : ∃ y_ : List Int, y_ = (List.replicate (ji6 : Int).toNat 0) := ⟨_, rfl⟩
      rw [← hy575] at H
      have Ny575 := Aside0.mk hy575
      clear hy575
      have H' := Aside0.mk H
      clear H
      go_wp2_with (first | ((with_reducible refine gate_dst (N := 25) rfl ?_); (try (refine gate_guard (by rfl) ?_; dsimp only)); refine Kd.R_make (Kd.int .i64) _ 3 rfl (N := 25) rfl 100 _ _ rfl ji6 rfl rfl Tryd.underlying100 (.int .i64 0) 8 info3 rfl (by decide) (by omega) 0 (ok := fun _ => True) (okp := fun _ => True) rfl (fun _ hk => hk) trivial (of_decide_eq_true (by first | (with_reducible assumption) | assumption)) (Nat.le_trans (Nat.mul_le_mul_right _ (of_decide_eq_true (by first | (with_reducible assumption) | assumption) : ji6.toNat ≤ 35184372088832)) (by omega)) (Below.refl _ _) (Nat.le_refl _) ?_; intro v576 w9 ho10 hb hg_ hnew_; clear hg_ hnew_; (first | rw [← Ny575.out] at ho10 | (simp only [Int.reduceToNat] at ho10; rw [← Ny575.out] at ho10)); have HO577 := Aside0.mk (Kd.R_lower (Kd.R_newM (M := fun k_ => (w.heap.size ≤ k_)) ho10 (below_size hb_) (fun k_ h_ => h_)) (below_size hb_)); replace HB := Aside0.mk (below_step hb_ hb); clear hb ho10))
      go_loopg [28] kj2 (fun kq v28 w' => ∃ (x5_2 : List Int) (x28_2 : Int), v28 = .int .i64 x28_2 ∧ Aside0 (decimal_digits_times.l0 kq l0 l1 x5_2 (l0.length : Int) x28_2 = some r) ∧ Aside0 (kq ≤ kj2) ∧ Aside0 (Kd.R (Kd.int .i64) 3 w' w.heap.size (fun k_ => (w.heap.size ≤ k_)) v576 x5_2) ∧ Aside0 (Below w.heap.size w w'))
      case atStart => exact ⟨(y575), (0), (by first | rfl | (simp; done) | (simp [*]; done)), H', ⟨Nat.le_refl _⟩, ⟨by (with_reducible repeat (first | apply Kd.R_alloc | apply Kd.R_drewN | apply Kd.R_drew)); exact Kd.R_mono HO577.out (fun _ hk => hk.1)⟩, ⟨by repeat (first | (with_reducible first | exact HB.out | apply below_alloc | apply pw_below_drewN | apply below_drew1) | exact HB.out)⟩⟩
      case round =>
       clear H'
       (try clear c5); (try clear c7); (try clear c7b0); (try clear c7b1); (try clear c8); (try clear c8b0); (try clear c8b1)
       obtain ⟨x5_2, x28_2, rfl, HA, HK2, HO_5, HB⟩ := hrel
       cases gk with
       | zero => exact absurd HA.out (by simp [decimal_digits_times.l0])
       | succ k2 =>
        have H := HA.out
        clear HA
        simp only [decimal_digits_times.l0] at H
        by_cases c11 : x28_2 < (l0.length : Int)
        ·rw [if_pos c11] at H
         have c11b0 : decide (x28_2 < (l0.length : Int)) = true := decide_eq_true c11
         clear c11
         have H' := Aside0.mk H
         clear H
         go_wp2
         go_loopg [33] k2 (fun kq v33 w' => ∃ (x5_3 : List Int) (x33_3 : Int), v33 = .int .i64 x33_3 ∧ Aside0 (decimal_digits_times.l1 kq l0 l1 x5_3 x28_2 (l0.length : Int) x28_2 (l1.length : Int) x33_3 = some r) ∧ Aside0 (kq ≤ k2) ∧ Aside0 (Kd.R (Kd.int .i64) 3 w' w.heap.size (fun k_ => (w.heap.size ≤ k_)) v576 x5_3) ∧ Aside0 (Below w.heap.size w w'))
         case atStart => exact ⟨(x5_2), (0), (by first | rfl | (simp; done) | (simp [*]; done)), H', ⟨Nat.le_refl _⟩, ⟨by (with_reducible repeat (first | apply Kd.R_alloc | apply Kd.R_drewN | apply Kd.R_drew)); exact HO_5.out⟩, ⟨by repeat (first | (with_reducible first | exact HB.out | apply below_alloc | apply pw_below_drewN | apply below_drew1) | exact HB.out)⟩⟩
         case round =>
          clear H'
          (try clear c5); (try clear c7); (try clear c7b0); (try clear c7b1); (try clear c8); (try clear c8b0); (try clear c8b1); (try clear c11); (try clear c11b0)
          obtain ⟨x5_3, x33_3, rfl, HA, HK3, HO_5, HB⟩ := hrel
          cases gk with
          | zero => exact absurd HA.out (by simp [decimal_digits_times.l1])
          | succ k3 =>
           have H := HA.out
           clear HA
           simp only [decimal_digits_times.l1] at H
           by_cases c12 : x33_3 < (l1.length : Int)
           ·rw [if_pos c12] at H
            have c12b0 : decide (x33_3 < (l1.length : Int)) = true := decide_eq_true c12
            clear c12
            obtain ⟨ji13, hji13⟩ : ∃ j_ : Int, (wrap64 ((wrap64 (x28_2 + x33_3)) + 1)) = j_ := ⟨_, rfl⟩
            replace H : (if 0 ≤ (ji13) then (if (ji13) < (x5_3.length : Int) then (if 0 ≤ x28_2 then (if x28_2 < (l0.length : Int) then (if 0 ≤ x33_3 then (if x33_3 < (l1.length : Int) then (decimal_digits_times.l1 k3 l0 l1 (x5_3.set ((ji13) : Int).toNat (wrap64 ((rd x5_3 (ji13)) + (wrap64 ((wrap64 (rd l0 x28_2)) * (wrap64 (rd l1 x33_3))))))) x28_2 (l0.length : Int) x28_2 (l1.length : Int) (wrap64 (x33_3 + 1))) else (none)) else (none)) else (none)) else (none)) else (none)) else (none)) = some r := by first | (rw [hji13] at H; exact H) | (simp only [hji13] at H ⊢; exact H)
            have hji13w : (IntKind.i64.wrap ((wrap64 (x28_2 + x33_3)) + 1)) = ji13 := (i64_w _).trans hji13
            by_cases c14 : 0 ≤ (ji13)
            ·rw [if_pos c14] at H
             have c14b0 : decide (0 ≤ (ji13)) = true := decide_eq_true c14
             clear c14
             by_cases c15 : (ji13) < (x5_3.length : Int)
             ·rw [if_pos c15] at H
              have c15b0 : decide ((ji13) < (x5_3.length : Int)) = true := decide_eq_true c15
              clear c15
              by_cases c16 : 0 ≤ x28_2
              ·rw [if_pos c16] at H
               have c16b0 : decide (0 ≤ x28_2) = true := decide_eq_true c16
               clear c16
               by_cases c17 : x28_2 < (l0.length : Int)
               ·rw [if_pos c17] at H
                have c17b0 : decide (x28_2 < (l0.length : Int)) = true := decide_eq_true c17
                clear c17
                by_cases c18 : 0 ≤ x33_3
                ·rw [if_pos c18] at H
                 have c18b0 : decide (0 ≤ x33_3) = true := decide_eq_true c18
                 clear c18
                 by_cases c19 : x33_3 < (l1.length : Int)
                 ·rw [if_pos c19] at H
                  have c19b0 : decide (x33_3 < (l1.length : Int)) = true := decide_eq_true c19
                  clear c19
                  obtain ⟨y581, hy581⟩ : ∃ y_ : List Int, y_ = (x5_3.set ((ji13) : Int).toNat (wrap64 ((rd x5_3 (ji13)) + (wrap64 ((wrap64 (rd l0 x28_2)) * (wrap64 (rd l1 x33_3))))))) := ⟨_, rfl⟩
                  rw [← hy581] at H
                  have Ny581 := Aside0.mk hy581
                  clear hy581
                  have H' := Aside0.mk H
                  clear H
                  try go_wp2
                  replace HO_5 := Aside0.mk (Kd.R_drew HO_5.out)
                  replace HB := Aside0.mk (below_drew1 HB.out)
                  obtain ⟨Ao22, co22, eo22⟩ := Kd.R_slice HO_5.out
                  (first | subst eo22 | (injection eo22 with f1_ f2_ f3_; have f4_ := f1_.symm; have f5_ := f3_.symm; clear f1_ f2_ f3_; subst f4_; subst f5_))
                  have p578 : 0 ≤ ((ji13) : Int) := of_decide_eq_true (by first | (with_reducible assumption) | assumption)
                  have q578 : (ji13) < (x5_3.length : Int) := of_decide_eq_true (by first | (with_reducible assumption) | assumption)
                  obtain ⟨ad578, e578, hx578_0⟩ := Kd.at_int (Kd.R_reads' HO_5.out).2.2 (ji13) p578 q578
                  cases e578
                  replace p578 := eq_true p578
                  replace q578 := eq_true q578
                  have p579 : 0 ≤ (x28_2 : Int) := of_decide_eq_true (by first | (with_reducible assumption) | assumption)
                  have q579 : x28_2 < (l0.length : Int) := of_decide_eq_true (by first | (with_reducible assumption) | assumption)
                  obtain ⟨ad579, e579, hx579_0⟩ := Kd.at_int HR0.out x28_2 p579 q579
                  have hw579_0 := hx579_0
                  cases e579
                  replace hx579_0 := (HB.out.cell (World.block_lt_of_cell? w _ hx579_0)).trans hx579_0
                  replace p579 := eq_true p579
                  replace q579 := eq_true q579
                  have p580 : 0 ≤ (x33_3 : Int) := of_decide_eq_true (by first | (with_reducible assumption) | assumption)
                  have q580 : x33_3 < (l1.length : Int) := of_decide_eq_true (by first | (with_reducible assumption) | assumption)
                  obtain ⟨ad580, e580, hx580_0⟩ := Kd.at_int HR1.out x33_3 p580 q580
                  have hw580_0 := hx580_0
                  cases e580
                  replace hx580_0 := (HB.out.cell (World.block_lt_of_cell? w _ hx580_0)).trans hx580_0
                  replace p580 := eq_true p580
                  replace q580 := eq_true q580
                  have p20 : 0 ≤ ((ji13) : Int) := of_decide_eq_true (by first | (with_reducible assumption) | assumption)
                  have q20 : ((ji13) : Int) < ((x5_3.length : Int) : Int) := of_decide_eq_true (by first | (with_reducible assumption) | assumption)
                  obtain ⟨go20, co20, eo20, gb20, gl20, cl20, HG20⟩ := Kd.R_form HO_5.out (by omega)
                  (first | cases eo20 | (injection eo20 with ea_ en_ ec_; (first | subst ea_ | (injection ea_ with ea_; subst ea_)); subst ec_; clear en_))
                  have GB20 := Aside0.mk gb20
                  have GG20 := Aside0.mk HG20
                  clear gb20 gl20 HG20
                  (first | simp only [add_plain] at hx578_0 | skip)
                  obtain ⟨hx20_0, hf20_0⟩ := Kd.R_celln 0 HO_5.out ((ji13) : Int) p20 q20
                  replace p20 := eq_true p20
                  replace q20 := eq_true q20
                  have HP23 := Kd.R_putn HO_5.out ((ji13) : Int) (wrap64 ((rd x5_3 (ji13)) + (wrap64 ((wrap64 (rd l0 x28_2)) * (wrap64 (rd l1 x33_3))))))
                  rw [← Ny581.out] at HP23
                  have HQ23 := Aside0.mk HP23
                  clear HP23
                  refine start_ (n := 21) (S := fun w' => w'.cell? ⟨go20, ((ji13)).toNat, none⟩ = some (.int .i64 (rd x5_3 (ji13))) ∧ w'.cell? (ad579.add (x28_2).toNat) = some (.int .u8 (rd l0 x28_2)) ∧ w'.cell? (ad580.add (x33_3).toNat) = some (.int .u8 (rd l1 x33_3))) (ds := [20]) #[false, false, false, false, false, false, false, false, false, false, false, false, false, false, false, false, false, false, false, false, false] (by kernel_rfl) rfl rfl ⟨hx578_0, ((HB.out.cell (World.block_lt_of_cell? w _ hw579_0)).trans hw579_0), ((HB.out.cell (World.block_lt_of_cell? w _ hw580_0)).trans hw580_0)⟩ (fun hHeld => ?_); refine with_tabW decimal_digits_times.tab10 decimal_digits_times.bits10 (fun HT_ HW_ => ?_)
                  generalize wr.drew = w21 at HO_5 HB GG20 HQ23 hf20_0 hx20_0 hx578_0 hx579_0 hx580_0 hHeld ⊢
                  refine pr_ 0 (some 36) ?_
                  refine pr_ 1 (some 37) ?_
                  refine pr_ 2 (some 38) ?_
                  refine pr_ 3 (some 39) ?_
                  refine pr_ 4 (some 40) ?_
                  refine pr_ 5 (some 41) ?_
                  refine pr_ 7 (some 43) ?_
                  refine pr_ 8 (some 44) ?_
                  refine pr_ 9 (some 45) ?_
                  refine pr_ 12 (some 48) ?_
                  refine pr_ 13 (some 49) ?_
                  refine pr_ 14 (some 50) ?_
                  refine tk_ 6 (some 42) hHeld ?_
                  refine tk_ 10 (some 46) hHeld ?_
                  refine pr_ 11 (some 47) ?_
                  refine tk_ 15 (some 51) hHeld ?_
                  refine pr_ 16 (some 52) ?_
                  refine pr_ 17 (some 53) ?_
                  refine pr_ 18 (some 54) ?_
                  refine pr_ 19 (some 55) ?_
                  refine last_ (i := 20) (N := none) #[true, true, true, true, true, true, true, true, true, true, true, true, true, true, true, true, true, true, true, true, true] rfl rfl (one_of HT_.out (by kernel_rfl)) (by decide) (fun K hK => ?_)
                  refine skip_ (w1 := ?_) (by rfl) rfl ?_ ?_
                  rotate_left
                  ·go_simp
                   rfl
                  refine hK.out _ _ ?_
                  clear hK K
                  refine done_ (done_of HT_.out (by kernel_rfl)) ?_
                  try go_wp2
                  go_roundg k3
                  case measure => have := HJ2.out; have := HK2.out; have := HK3.out; omega
                  case rel => exact ⟨(y581), (wrap64 (x33_3 + 1)), (by first | rfl | (simp; done) | (simp [*]; done)), H', ⟨by have := HJ2.out; have := HK2.out; have := HK3.out; omega⟩, ⟨by (with_reducible repeat (first | apply Kd.R_alloc | apply Kd.R_drewN | apply Kd.R_drew)); exact HQ23.out⟩, ⟨by repeat (first | (with_reducible first | exact HB.out | apply below_alloc | apply pw_below_drewN | apply below_drew1 | refine below_set ?_ GB20.out) | exact HB.out)⟩⟩
                 ·rw [if_neg c19] at H
                  exact absurd H (by simp)
                ·rw [if_neg c18] at H
                 exact absurd H (by simp)
               ·rw [if_neg c17] at H
                exact absurd H (by simp)
              ·rw [if_neg c16] at H
               exact absurd H (by simp)
             ·rw [if_neg c15] at H
              exact absurd H (by simp)
            ·rw [if_neg c14] at H
             exact absurd H (by simp)
           ·rw [if_neg c12] at H
            have c12b0 : decide (x33_3 < (l1.length : Int)) = false := decide_eq_false c12
            clear c12
            have H' := Aside0.mk H
            clear H
            go_wp2
            go_roundg k3
            case measure => have := HJ2.out; have := HK2.out; have := HK3.out; omega
            case rel => exact ⟨(x5_3), (wrap64 (x28_2 + 1)), (by first | rfl | (simp; done) | (simp [*]; done)), H', ⟨by have := HJ2.out; have := HK2.out; have := HK3.out; omega⟩, ⟨by (with_reducible repeat (first | apply Kd.R_alloc | apply Kd.R_drewN | apply Kd.R_drew)); exact HO_5.out⟩, ⟨by repeat (first | (with_reducible first | exact HB.out | apply below_alloc | apply pw_below_drewN | apply below_drew1) | exact HB.out)⟩⟩
        ·rw [if_neg c11] at H
         have c11b0 : decide (x28_2 < (l0.length : Int)) = false := decide_eq_false c11
         clear c11
         by_cases c24 : 0 ≤ (x5_2.length : Int)
         ·rw [if_pos c24] at H
          have c24b0 := eq_true c24
          have c24b1 : decide (0 ≤ (x5_2.length : Int)) = true := decide_eq_true c24
          clear c24
          by_cases c25 : ((x5_2.length : Int) : Int).toNat ≤ 281474976710656
          ·rw [if_pos c25] at H
           have c25b0 := eq_true c25
           have c25b1 : decide (((x5_2.length : Int) : Int).toNat ≤ 281474976710656) = true := decide_eq_true c25
           clear c25
           obtain ⟨y582, hy582⟩ : ∃ y_ : List Int, y_ = (List.replicate ((x5_2.length : Int) : Int).toNat 0) := ⟨_, rfl⟩
           rw [← hy582] at H
           have Ny582 := Aside0.mk hy582
           clear hy582
           have H' := Aside0.mk H
           clear H
           obtain ⟨Ao26, co26, eo26⟩ := Kd.R_slice HO_5.out
           subst eo26
           go_wp2_with (first | ((with_reducible refine gate_dst (N := 60) rfl ?_); (try (refine gate_guard (by rfl) ?_; dsimp only)); refine Kd.R_make (Kd.int .u8) _ 5 rfl (N := 60) rfl 69 _ _ rfl (x5_2.length : Int) rfl rfl Tryd.underlying69 (.int .u8 0) 1 info5 rfl (by decide) (by omega) 0 (ok := fun _ => True) (okp := fun _ => True) rfl (fun _ hk => hk) trivial (of_decide_eq_true (by first | (with_reducible assumption) | assumption)) (Nat.le_trans (Nat.mul_le_mul_right _ (of_decide_eq_true (by first | (with_reducible assumption) | assumption) : (x5_2.length : Int).toNat ≤ 281474976710656)) (by omega)) (Below.refl _ _) (Nat.le_refl _) ?_; intro v583 w27 ho28 hb hg_ hnew_; clear hg_ hnew_; (first | rw [← Ny582.out] at ho28 | (simp only [Int.reduceToNat] at ho28; rw [← Ny582.out] at ho28)); have HO584 := Aside0.mk (Kd.R_lower (Kd.R_newM (M := fun k_ => (w.heap.size ≤ k_)) ho28 (below_size hb_) (fun k_ h_ => h_)) (below_size hb_)); replace HO_5 := Aside0.mk (Kd.R_below (by (with_reducible repeat (first | apply Kd.R_alloc | apply Kd.R_drewN | apply Kd.R_drew)); exact HO_5.out) hb); replace HB := Aside0.mk (below_step hb_ hb); clear hb ho28))
           go_loopg [9, 10] k2 (fun kq v9 v10 w' => ∃ (x8_3 : List Int) (x9_3 : Int) (x10_3 : Int), v9 = .int .i64 x9_3 ∧ v10 = .int .i64 x10_3 ∧ Aside0 (decimal_digits_times.l2 kq x5_2 x8_3 x9_3 x10_3 = some r) ∧ Aside0 (kq ≤ k2) ∧ Aside0 (Kd.R (Kd.int .i64) 3 w' w.heap.size (fun k_ => (w.heap.size ≤ k_)) (.slice Ao26 x5_2.length co26) x5_2) ∧ Aside0 (Kd.R (Kd.int .u8) 5 w' w.heap.size (fun k_ => (w.heap.size ≤ k_)) v583 x8_3) ∧ Aside0 (Below w.heap.size w w'))
           case atStart => exact ⟨(y582), (0), (wrap64 ((x5_2.length : Int) - 1)), (by first | rfl | (simp; done) | (simp [*]; done)), (by first | rfl | (simp; done) | (simp [*]; done)), H', ⟨Nat.le_refl _⟩, ⟨by (with_reducible repeat (first | apply Kd.R_alloc | apply Kd.R_drewN | apply Kd.R_drew)); exact HO_5.out⟩, ⟨by (with_reducible repeat (first | apply Kd.R_alloc | apply Kd.R_drewN | apply Kd.R_drew)); exact Kd.R_mono HO584.out (fun _ hk => hk.1)⟩, ⟨by repeat (first | (with_reducible first | exact HB.out | apply below_alloc | apply pw_below_drewN | apply below_drew1) | exact HB.out)⟩⟩
           case round =>
            clear H'
            (try clear c5); (try clear c7); (try clear c7b0); (try clear c7b1); (try clear c8); (try clear c8b0); (try clear c8b1); (try clear c11); (try clear c11b0); (try clear c24); (try clear c24b0); (try clear c24b1); (try clear c25); (try clear c25b0); (try clear c25b1)
            obtain ⟨x8_3, x9_3, x10_3, rfl, rfl, HA, HK3, HO_5, HO_8, HB⟩ := hrel
            cases gk with
            | zero => exact absurd HA.out (by simp [decimal_digits_times.l2])
            | succ k3 =>
             have H := HA.out
             clear HA
             simp only [decimal_digits_times.l2] at H
             by_cases c29 : x10_3 ≥ 0
             ·rw [if_pos c29] at H
              have c29b0 : decide (0 ≤ x10_3) = true := decide_eq_true c29
              clear c29
              by_cases c30 : 0 ≤ x10_3
              ·rw [if_pos c30] at H
               have c30b0 : decide (0 ≤ x10_3) = true := decide_eq_true c30
               clear c30
               by_cases c31 : x10_3 < (x5_2.length : Int)
               ·rw [if_pos c31] at H
                have c31b0 : decide (x10_3 < (x5_2.length : Int)) = true := decide_eq_true c31
                clear c31
                by_cases c32 : x10_3 < (x8_3.length : Int)
                ·rw [if_pos c32] at H
                 have c32b0 : decide (x10_3 < (x8_3.length : Int)) = true := decide_eq_true c32
                 clear c32
                 obtain ⟨y586, hy586⟩ : ∃ y_ : List Int, y_ = (x8_3.set (x10_3 : Int).toNat ((Int.tmod (wrap64 ((rd x5_2 x10_3) + x9_3)) 10) % 256)) := ⟨_, rfl⟩
                 rw [← hy586] at H
                 have Ny586 := Aside0.mk hy586
                 clear hy586
                 have H' := Aside0.mk H
                 clear H
                 have p585 : 0 ≤ (x10_3 : Int) := of_decide_eq_true (by first | (with_reducible assumption) | assumption)
                 have q585 : x10_3 < (x5_2.length : Int) := of_decide_eq_true (by first | (with_reducible assumption) | assumption)
                 obtain ⟨ad585, e585, hx585_0⟩ := Kd.at_int (Kd.R_reads' HO_5.out).2.2 x10_3 p585 q585
                 cases e585
                 replace p585 := eq_true p585
                 replace q585 := eq_true q585
                 have p33 : 0 ≤ (x10_3 : Int) := of_decide_eq_true (by first | (with_reducible assumption) | assumption)
                 have q33 : (x10_3 : Int) < ((x8_3.length : Int) : Int) := of_decide_eq_true (by first | (with_reducible assumption) | assumption)
                 obtain ⟨go33, co33, eo33, gb33, gl33, cl33, HG33⟩ := Kd.R_form HO_8.out (by omega)
                 (first | cases eo33 | (injection eo33 with ea_ en_ ec_; (first | subst ea_ | (injection ea_ with ea_; subst ea_)); subst ec_; clear en_))
                 have GB33 := Aside0.mk gb33
                 have GG33 := Aside0.mk HG33
                 clear gb33 gl33 HG33
                 obtain ⟨hx33_0, hf33_0⟩ := Kd.R_celln 0 HO_8.out (x10_3 : Int) p33 q33
                 replace p33 := eq_true p33
                 replace q33 := eq_true q33
                 have HP34 := Kd.R_putg HO_8.out (x10_3 : Int) ((Int.tmod (wrap64 ((rd x5_2 x10_3) + x9_3)) 10) % 256)
                 go_wp2_with (first | ((with_reducible refine gate_store (t := 5) (p := 79) rfl ?_); refine store_event (t := 5) (p := 79) (v := ?vo_w35) (w1 := (wr.setCell ⟨go33, (x10_3 : Int).toNat, none⟩ (.int .u8 ((Int.tmod (wrap64 ((rd x5_2 x10_3) + x9_3)) 10) % 256)))) ?hg ?ho ?hn ?hr ?_; (case ho => rfl); (case hg => rfl); (case hn => rfl); (case hr => first | (go_simp; done) | (go_simp; rfl)); intro w35 hw; have hg : wr.grownBy w35 (some go33) := (by rw [hw]; exact HP34.2); have hp_ : Kd.R (Kd.int .u8) 5 w35 w.heap.size (fun k_ => (w.heap.size ≤ k_)) (.slice (some ⟨go33, 0, none⟩) x8_3.length co33) y586 := (by rw [hw, Ny586.out]; exact HP34.1); clear HP34; replace HO_5 := Aside0.mk (Kd.R_over' (v := (.slice (some ⟨go33, 0, none⟩) x8_3.length co33)) (by (with_reducible repeat (first | apply Kd.R_alloc | apply Kd.R_drewN | apply Kd.R_drew)); exact HO_5.out) (Kd.R_typed HO_8.out) (by decide) hg); replace HO_8 := Aside0.mk (hp_); replace HB := Aside0.mk ((by rw [hw]; exact below_set (HB.out) GB33.out : Below w.heap.size w w35)); clear hg hw hp_))
                 go_roundg k3
                 case measure => have := HJ2.out; have := HK2.out; have := HK3.out; omega
                 case rel => exact ⟨(y586), (wrap64 (Int.tdiv (wrap64 ((rd x5_2 x10_3) + x9_3)) 10)), (wrap64 (x10_3 - 1)), (by first | rfl | (simp; done) | (simp [*]; done)), (by first | rfl | (simp; done) | (simp [*]; done)), H', ⟨by have := HJ2.out; have := HK2.out; have := HK3.out; omega⟩, ⟨by (with_reducible repeat (first | apply Kd.R_alloc | apply Kd.R_drewN | apply Kd.R_drew)); exact HO_5.out⟩, ⟨by (with_reducible repeat (first | apply Kd.R_alloc | apply Kd.R_drewN | apply Kd.R_drew)); exact HO_8.out⟩, ⟨by repeat (first | (with_reducible first | exact HB.out | apply below_alloc | apply pw_below_drewN | apply below_drew1) | exact HB.out)⟩⟩
                ·rw [if_neg c32] at H
                 exact absurd H (by simp)
               ·rw [if_neg c31] at H
                exact absurd H (by simp)
              ·rw [if_neg c30] at H
               exact absurd H (by simp)
             ·rw [if_neg c29] at H
              have c29b0 : decide (0 ≤ x10_3) = false := decide_eq_false c29
              clear c29
              replace H := Option.bind_eq_some_iff.mp H
              obtain ⟨t587, A360, H⟩ := H
              try dsimp only at H
              have A36 := Aside0.mk A360
              clear A360
              obtain rfl := Option.some.inj H
              obtain ⟨Ao37, co37, eo37⟩ := Kd.R_slice HO_8.out
              subst eo37
              go_wp2_with (first | ((with_reducible refine gate_callee (f := 100) rfl ?_); refine gL_ (some 83) Tryd.func100 #[.slice Ao37 x8_3.length co37] ?_; (with_reducible refine (decimal_digits_lead.calls k3 (fun k_ => some k_ = (.slice Ao37 x8_3.length co37 : Value).ownBlock) _ _ x8_3 t587 _ ?side1 A36.out).mono ?_); (case side1 => exact Kd.R_V (Kd.R_tight rfl (Kd.R_apart' (HO_8.out) (Kd.R_typed HO_5.out) (by decide)))); rintro e w38 ⟨v588, rfl, ho0, hb⟩; refine ⟨_, rfl, ?_⟩; have HO589 := Aside0.mk (Kd.V_lower (Kd.V_mono (ok' := fun k_ => (w.heap.size ≤ k_) ∧ some k_ ≠ (.slice Ao26 x5_2.length co26 : Value).ownBlock) ho0 (fun k_ hk_ => ⟨Or.elim hk_ (fun hs_ => ((Kd.R_apart' (HO_8.out) (Kd.R_typed HO_5.out) (by decide)).1 k_ hs_.symm).1) (fun hn_ => (Nat.le_trans (below_size hb_) hn_)), Or.elim hk_ (fun hs_ => ((Kd.R_apart' (HO_8.out) (Kd.R_typed HO_5.out) (by decide)).1 k_ hs_.symm).2) (fun hn_ => (Kd.fresh' (Kd.R_lt (by (with_reducible repeat (first | apply Kd.R_alloc | apply Kd.R_drewN | apply Kd.R_drew)); exact HO_5.out)) k_ hn_))⟩)) (below_size hb_)); replace HO_5 := Aside0.mk (Kd.R_below (by (with_reducible repeat (first | apply Kd.R_alloc | apply Kd.R_drewN | apply Kd.R_drew)); exact HO_5.out) hb); replace HO_8 := Aside0.mk (Kd.R_below (by (with_reducible repeat (first | apply Kd.R_alloc | apply Kd.R_drewN | apply Kd.R_drew)); exact HO_8.out) hb); replace HB := Aside0.mk (below_step hb_ hb); (try clear ho0)))
              go_ret
              exact ⟨_, by first | rfl | (simp [errW_none, errW_some] <;> rfl) | (simp only [← hji6]; first | rfl | (simp [errW_none, errW_some] <;> rfl)) | (simp [*, errW_none, errW_some] <;> rfl) | (simp [bne_nil_]; done), by (with_reducible repeat (first | apply Kd.V_alloc | apply Kd.V_drewN | apply Kd.V_drew)); exact Kd.V_mono HO589.out (fun _ hk => hk.1), by repeat (first | (with_reducible first | exact HB.out | apply below_alloc | apply pw_below_drewN | apply below_drew1) | exact HB.out)⟩
          ·rw [if_neg c25] at H
           exact absurd H (by simp)
         ·rw [if_neg c24] at H
          exact absurd H (by simp)
     ·rw [if_neg c8] at H
      exact absurd H (by simp)
    ·rw [if_neg c7] at H
     exact absurd H (by simp)
end Go.Proofs.YtihjcaglhjepdaaDoor.P
namespace Go.Proofs.YtihjcaglhjepdaaDoor.P
open Go.RowKit Go.Proofs.YtihjcaglhjepdaaDoorW.PrintWords Go.Proofs.YtihjcaglhjepdaaDoorW.PrintLast Go.Proofs.YtihjcaglhjepdaaDoorW.PrintMore
attribute [local go_sem] max2_int max_two
set_option linter.unusedVariables false
set_option linter.unusedSimpArgs false
def decimal_Compare.j0 : Nat → List Int → List Int → Bool → Bool → ByteArray → ByteArray → Bool → ByteArray → ByteArray → Option (Int × Int)
  | 0, _, _, _, _, _, _, _, _, _ => none
  | k + 1, x7, x8, x23, x498000, x498001, x498002, x499000, x499001, x499002 => if x23 = true then ((decimal_digits_cmp.f k x8 x7).bind fun t507 => (some (t507, 0))) else (if x498000 = true then (some ((-1), 0)) else (if x499000 = true then (some (1, 0)) else ((decimal_digits_cmp.f k x7 x8).bind fun t508 => (some (t508, 0)))))
def decimal_Compare.f (k : Nat) (a0_0 : Bool) (a0_1 : ByteArray) (a0_2 : ByteArray) (a1_0 : Bool) (a1_1 : ByteArray) (a1_2 : ByteArray) : Option (Int × Int) := (decimal_both.f k a0_0 a0_1 a0_2 a1_0 a1_1 a1_2).bind fun t499 => (if t499 = 0 then ((decimal_aligned.f k a0_0 a0_1 a0_2 a1_0 a1_1 a1_2).bind fun bt500 => (if a0_0 = true then (decimal_Compare.j0 k bt500.1 bt500.2.1 a1_0 a0_0 a0_1 a0_2 a1_0 a1_1 a1_2) else (decimal_Compare.j0 k bt500.1 bt500.2.1 false a0_0 a0_1 a0_2 a1_0 a1_1 a1_2))) else (some (0, t499)))
set_option maxHeartbeats 8000000 in
set_option maxRecDepth 100000 in
theorem decimal_Compare.calls (k : Nat) (a0_0 : Bool) (a0_1 : ByteArray) (a0_2 : ByteArray) (a1_0 : Bool) (a1_1 : ByteArray) (a1_2 : ByteArray) (r1 : Int) (r2 : Int) (w : World) (h : decimal_Compare.f k a0_0 a0_1 a0_2 a1_0 a1_1 a1_2 = some (r1, r2)) :
    Calls Tryd.prog 29 #[.agg #[.bool a0_0, .string a0_1, .string a0_2], .agg #[.bool a1_0, .string a1_1, .string a1_2]] w fun e w' => e = .returned (.tuple #[.int .i64 r1, .int .i64 r2]) ∧ Below w.heap.size w w' := by
 have hu23 := Tryd.underlying23
 have HB := Aside0.mk (Below.refl w.heap.size w)
 unfold decimal_Compare.f at h
 have H := h
 clear h
 replace H := Option.bind_eq_some_iff.mp H
 obtain ⟨t499, A30, H⟩ := H
 try dsimp only at H
 have A3 := Aside0.mk A30
 clear A30
 have HF4 := Aside0.mk H
 clear H
 go_enter Tryd.func29, Tryd.ntmps29
 go_upto_if 14 with (first | ((with_reducible refine gate_dst (N := 2) rfl ?_); refine bx_ #[.bool a0_0, .string a0_1, .string a0_2] 23 ?_; intro gb497 hg w5 hbox hb; have BK497 := Aside0.mk (hbox); have GW497 := Aside0.mk ((by rw [hg]; exact (below_size hb_) : w.heap.size ≤ gb497)); have GE497 := Aside0.mk ((by rw [hg]; exact (below_size hb_) : w.heap.size ≤ gb497)); replace HB := Aside0.mk (below_step hb_ hb); clear hb hbox hg) | ((with_reducible refine gate_dst (N := 3) rfl ?_); refine bx_ #[.bool a1_0, .string a1_1, .string a1_2] 23 ?_; intro gb498 hg w6 hbox hb; have BK498 := Aside0.mk (hbox); have GW498 := Aside0.mk ((by rw [hg]; exact (below_size hb_) : w.heap.size ≤ gb498)); have GE498 := Aside0.mk ((by rw [hg]; exact (below_size hb_) : w.heap.size ≤ gb498)); have NB497_498 := BK497.nl hg; have NB498_497 := BK497.ng hg; replace BK497 := BK497.bl hb; replace HB := Aside0.mk (below_step hb_ hb); clear hb hbox hg; have hnb7 := NB497_498.out; have hnc7 := NB498_497.out; obtain ⟨hcz8_0, hcz8_1, hcz8_2, hfz8_0, hfz8_1, hfz8_2⟩ := BK497.c3; obtain ⟨hcz9_0, hcz9_1, hcz9_2, hfz9_0, hfz9_1, hfz9_2⟩ := BK498.c3) | ((with_reducible refine gate_callee (f := 65) rfl ?_); refine gL_ (some 12) Tryd.func65 #[.agg #[.bool a0_0, .string a0_1, .string a0_2], .agg #[.bool a1_0, .string a1_1, .string a1_2]] ?_; (with_reducible refine (decimal_both.calls k a0_0 a0_1 a0_2 a1_0 a1_1 a1_2 t499 _ A3.out).mono ?_); rintro e w10 ⟨rfl, hb⟩; refine ⟨_, rfl, ?_⟩; replace BK497 := BK497.bl hb; replace BK498 := BK498.bl hb; replace HB := Aside0.mk (below_step hb_ hb)))
 (try simp only [Act.put, List.setIfInBounds_toArray, List.set_cons_zero, List.set_cons_succ])
 have H := HF4.out
 clear HF4
 by_cases c11 : t499 = 0
 ·rw [if_pos c11] at H
  have c11b0 : (t499 == 0) = true := beq_iff_eq.mpr c11
  have c11b1 : (t499 != 0) = false := bne_eq_false_iff_eq.mpr c11
  clear c11
  (first | rw [c11b0] | (simp only [i64_w, i32_w]; rw [c11b0]) | rw [c11b1] | skip)
  replace H := Option.bind_eq_some_iff.mp H
  obtain ⟨⟨t500, t503, t506⟩, A120, H⟩ := H
  try dsimp only at H
  have A12 := Aside0.mk A120
  clear A120
  have HC13 := Aside0.mk H
  clear H
  have hnb14 := NB497_498.out
  have hnc14 := NB498_497.out
  obtain ⟨hcz15_0, hcz15_1, hcz15_2, hfz15_0, hfz15_1, hfz15_2⟩ := BK497.c3
  obtain ⟨hcz16_0, hcz16_1, hcz16_2, hfz16_0, hfz16_1, hfz16_2⟩ := BK498.c3
  go_upto_region 5 with (first | ((with_reducible refine gate_callee (f := 66) rfl ?_); refine gL_ (some 19) Tryd.func66 #[.agg #[.bool a0_0, .string a0_1, .string a0_2], .agg #[.bool a1_0, .string a1_1, .string a1_2]] ?_; (with_reducible refine (decimal_aligned.calls k a0_0 a0_1 a0_2 a1_0 a1_1 a1_2 t500 t503 t506 _ A12.out).mono ?_); rintro e w17 ⟨v501, v504, rfl, ho0, ho1, hb⟩; refine ⟨_, rfl, ?_⟩; have HO502 := Aside0.mk (Kd.V_lower (Kd.V_mono (ok' := fun k_ => k_ ≠ gb497 ∧ k_ ≠ gb498) ho0 (fun k_ hk_ => ⟨(Kd.freshB (g := gb497) (o := .cells #[.bool a0_0, .string a0_1, .string a0_2] 23 (0, 0)) BK497.out k_ hk_), (Kd.freshB (g := gb498) (o := .cells #[.bool a1_0, .string a1_1, .string a1_2] 23 (0, 0)) BK498.out k_ hk_)⟩)) (below_size hb_)); have HO505 := Aside0.mk (Kd.V_lower (Kd.V_mono (ok' := fun k_ => k_ ≠ gb497 ∧ k_ ≠ gb498) ho1 (fun k_ hk_ => ⟨(Kd.freshB (g := gb497) (o := .cells #[.bool a0_0, .string a0_1, .string a0_2] 23 (0, 0)) BK497.out k_ hk_), (Kd.freshB (g := gb498) (o := .cells #[.bool a1_0, .string a1_1, .string a1_2] 23 (0, 0)) BK498.out k_ hk_)⟩)) (below_size hb_)); replace BK497 := BK497.bl hb; replace BK498 := BK498.bl hb; replace HB := Aside0.mk (below_step hb_ hb); (try clear ho0); (try clear ho1)))
  (try simp only [Act.put, List.setIfInBounds_toArray, List.set_cons_zero, List.set_cons_succ])
  go_cut [23] (fun v23 wc => ∃ (kq : Nat) (x23_12 : Bool), v23 = .bool x23_12 ∧ Aside0 (decimal_Compare.j0 kq t500 t503 x23_12 a0_0 a0_1 a0_2 a1_0 a1_1 a1_2 = some (r1, r2)) ∧ Aside0 (kq ≤ k) ∧ Aside0 (Kd.V (Kd.int .u8) 5 wc w.heap.size (fun k_ => k_ ≠ gb497 ∧ k_ ≠ gb498) v501 t500) ∧ Aside0 (Kd.V (Kd.int .u8) 5 wc w.heap.size (fun k_ => k_ ≠ gb497 ∧ k_ ≠ gb498) v504 t503) ∧ Aside0 (wc.heap[gb497]? = some (.cells #[.bool a0_0, .string a0_1, .string a0_2] 23 (0, 0))) ∧ Aside0 (wc.heap[gb498]? = some (.cells #[.bool a1_0, .string a1_1, .string a1_2] 23 (0, 0))) ∧ Aside0 (Below w.heap.size w wc))
  case first =>
   have H := HC13.out
   clear HC13
   by_cases c18 : a0_0 = true
   ·subst c18
    have H1 : (decimal_Compare.j0 k t500 t503 a1_0 true a0_1 a0_2 a1_0 a1_1 a1_2) = some (r1, r2) := by rw [if_pos rfl] at H; exact H
    clear H
    have H := H1
    clear H1
    have H' := Aside0.mk H
    clear H
    have hnb19 := NB497_498.out
    have hnc19 := NB498_497.out
    obtain ⟨hcz20_0, hcz20_1, hcz20_2, hfz20_0, hfz20_1, hfz20_2⟩ := BK497.c3
    obtain ⟨hcz21_0, hcz21_1, hcz21_2, hfz21_0, hfz21_1, hfz21_2⟩ := BK498.c3
    go_wp2
    go_meet
    case rel => exact ⟨_, (a1_0), (by first | rfl | (simp; done) | (simp [*]; done)), H', ⟨by first | omega | exact Nat.le_refl _⟩, ⟨by (with_reducible repeat (first | apply Kd.V_alloc | apply Kd.V_drewN | apply Kd.V_drew)); exact HO502.out⟩, ⟨by (with_reducible repeat (first | apply Kd.V_alloc | apply Kd.V_drewN | apply Kd.V_drew)); exact HO505.out⟩, ⟨by exact BK497.out⟩, ⟨by exact BK498.out⟩, ⟨by repeat (first | (with_reducible first | exact HB.out | apply below_alloc | apply pw_below_drewN | apply below_drew1 | refine below_set ?_ GE497.out | refine below_set ?_ GE498.out) | exact HB.out)⟩⟩
   ·replace c18 := Bool.eq_false_iff.mpr c18
    subst c18
    have H1 : (decimal_Compare.j0 k t500 t503 false false a0_1 a0_2 a1_0 a1_1 a1_2) = some (r1, r2) := by rw [if_neg (show ¬ (false = true) by decide)] at H; exact H
    clear H
    have H := H1
    clear H1
    have H' := Aside0.mk H
    clear H
    have hnb22 := NB497_498.out
    have hnc22 := NB498_497.out
    obtain ⟨hcz23_0, hcz23_1, hcz23_2, hfz23_0, hfz23_1, hfz23_2⟩ := BK497.c3
    go_wp2
    go_meet
    case rel => exact ⟨_, (false), (by first | rfl | (simp; done) | (simp [*]; done)), H', ⟨by first | omega | exact Nat.le_refl _⟩, ⟨by (with_reducible repeat (first | apply Kd.V_alloc | apply Kd.V_drewN | apply Kd.V_drew)); exact HO502.out⟩, ⟨by (with_reducible repeat (first | apply Kd.V_alloc | apply Kd.V_drewN | apply Kd.V_drew)); exact HO505.out⟩, ⟨by exact BK497.out⟩, ⟨by exact BK498.out⟩, ⟨by repeat (first | (with_reducible first | exact HB.out | apply below_alloc | apply pw_below_drewN | apply below_drew1 | refine below_set ?_ GE497.out | refine below_set ?_ GE498.out) | exact HB.out)⟩⟩
  case rest =>
   clear HC13
   (try clear c11); (try clear c11b0); (try clear c11b1); (try clear hcz15_0); (try clear hcz15_1); (try clear hcz15_2); (try clear hcz16_0); (try clear hcz16_1); (try clear hcz16_2); (try clear hcz8_0); (try clear hcz8_1); (try clear hcz8_2); (try clear hcz9_0); (try clear hcz9_1); (try clear hcz9_2); (try clear hfz15_0); (try clear hfz15_1); (try clear hfz15_2); (try clear hfz16_0); (try clear hfz16_1); (try clear hfz16_2); (try clear hfz8_0); (try clear hfz8_1); (try clear hfz8_2); (try clear hfz9_0); (try clear hfz9_1); (try clear hfz9_2)
   obtain ⟨kq, x23_12, rfl, HA, HJ12, HO_7, HO_8, BK497, BK498, HB⟩ := hcut
   cases kq with
   | zero => exact absurd HA.out (by simp [decimal_Compare.j0])
   | succ kj12 =>
    have H := HA.out
    clear HA
    simp only [decimal_Compare.j0] at H
    by_cases c24 : x23_12 = true
    ·subst c24
     have H1 : ((decimal_digits_cmp.f kj12 t503 t500).bind fun t507 => (some (t507, 0))) = some (r1, r2) := by rw [if_pos rfl] at H; exact H
     clear H
     have H := H1
     clear H1
     replace H := Option.bind_eq_some_iff.mp H
     obtain ⟨t507, A250, H⟩ := H
     try dsimp only at H
     have A25 := Aside0.mk A250
     clear A250
     simp only [Option.some.injEq, Prod.mk.injEq] at H
     obtain ⟨rfl, rfl⟩ := H
     obtain ⟨Ao26, co26, eo26⟩ := Kd.V_slice HO_8.out
     subst eo26
     obtain ⟨Ao27, co27, eo27⟩ := Kd.V_slice HO_7.out
     subst eo27
     go_wp2_with (first | ((with_reducible refine gate_callee (f := 67) rfl ?_); refine gL_ (some 32) Tryd.func67 #[.slice Ao26 t503.length co26, .slice Ao27 t500.length co27] ?_; (with_reducible refine (decimal_digits_cmp.calls kj12 _ _ t503 _ _ t500 t507 _ ?side1 ?side2 ?side3 ?side4 A25.out).mono ?_); (case side1 => repeat (first | exact (Kd.V_reads' HO_8.out).2.2 | (with_reducible refine Kd.C_alloc ?_ _) | (with_reducible refine Kd.C_drewN ?_ _) | (with_reducible refine Kd.C_drew ?_))); (case side2 => exact (Kd.V_reads' HO_8.out).2.1); (case side3 => repeat (first | exact (Kd.V_reads' HO_7.out).2.2 | (with_reducible refine Kd.C_alloc ?_ _) | (with_reducible refine Kd.C_drewN ?_ _) | (with_reducible refine Kd.C_drew ?_))); (case side4 => exact (Kd.V_reads' HO_7.out).2.1); rintro e w' ⟨rfl, ⟨nd, rfl⟩⟩; refine ⟨_, rfl, ?_⟩))
     go_ret2
     exact ⟨by first | rfl | (simp [errW_none, errW_some] <;> rfl) | (simp [*, errW_none, errW_some] <;> rfl) | (simp [bne_nil_]; done), by repeat (first | (with_reducible first | exact HB.out | apply below_alloc | apply pw_below_drewN | apply below_drew1 | refine below_set ?_ GE497.out | refine below_set ?_ GE498.out) | exact HB.out)⟩
    ·replace c24 := Bool.eq_false_iff.mpr c24
     subst c24
     have H1 : (if a0_0 = true then (some ((-1), 0)) else (if a1_0 = true then (some (1, 0)) else ((decimal_digits_cmp.f kj12 t500 t503).bind fun t508 => (some (t508, 0))))) = some (r1, r2) := by rw [if_neg (show ¬ (false = true) by decide)] at H; exact H
     clear H
     have H := H1
     clear H1
     by_cases c28 : a0_0 = true
     ·subst c28
      have H1 : (some ((-1), 0)) = some (r1, r2) := by rw [if_pos rfl] at H; exact H
      clear H
      have H := H1
      clear H1
      simp only [Option.some.injEq, Prod.mk.injEq] at H
      obtain ⟨rfl, rfl⟩ := H
      have hnb29 := NB497_498.out
      have hnc29 := NB498_497.out
      obtain ⟨hcz30_0, hcz30_1, hcz30_2, hfz30_0, hfz30_1, hfz30_2⟩ := BK497.c3
      go_wp2
      go_ret2
      exact ⟨by first | rfl | (simp [errW_none, errW_some] <;> rfl) | (simp [*, errW_none, errW_some] <;> rfl) | (simp [bne_nil_]; done), by repeat (first | (with_reducible first | exact HB.out | apply below_alloc | apply pw_below_drewN | apply below_drew1 | refine below_set ?_ GE497.out | refine below_set ?_ GE498.out) | exact HB.out)⟩
     ·replace c28 := Bool.eq_false_iff.mpr c28
      subst c28
      have H1 : (if a1_0 = true then (some (1, 0)) else ((decimal_digits_cmp.f kj12 t500 t503).bind fun t508 => (some (t508, 0)))) = some (r1, r2) := by rw [if_neg (show ¬ (false = true) by decide)] at H; exact H
      clear H
      have H := H1
      clear H1
      by_cases c31 : a1_0 = true
      ·subst c31
       have H1 : (some (1, 0)) = some (r1, r2) := by rw [if_pos rfl] at H; exact H
       clear H
       have H := H1
       clear H1
       simp only [Option.some.injEq, Prod.mk.injEq] at H
       obtain ⟨rfl, rfl⟩ := H
       have hnb32 := NB497_498.out
       have hnc32 := NB498_497.out
       obtain ⟨hcz33_0, hcz33_1, hcz33_2, hfz33_0, hfz33_1, hfz33_2⟩ := BK497.c3
       obtain ⟨hcz34_0, hcz34_1, hcz34_2, hfz34_0, hfz34_1, hfz34_2⟩ := BK498.c3
       go_wp2
       go_ret2
       exact ⟨by first | rfl | (simp [errW_none, errW_some] <;> rfl) | (simp [*, errW_none, errW_some] <;> rfl) | (simp [bne_nil_]; done), by repeat (first | (with_reducible first | exact HB.out | apply below_alloc | apply pw_below_drewN | apply below_drew1 | refine below_set ?_ GE497.out | refine below_set ?_ GE498.out) | exact HB.out)⟩
      ·replace c31 := Bool.eq_false_iff.mpr c31
       subst c31
       have H1 : ((decimal_digits_cmp.f kj12 t500 t503).bind fun t508 => (some (t508, 0))) = some (r1, r2) := by rw [if_neg (show ¬ (false = true) by decide)] at H; exact H
       clear H
       have H := H1
       clear H1
       replace H := Option.bind_eq_some_iff.mp H
       obtain ⟨t508, A350, H⟩ := H
       try dsimp only at H
       have A35 := Aside0.mk A350
       clear A350
       simp only [Option.some.injEq, Prod.mk.injEq] at H
       obtain ⟨rfl, rfl⟩ := H
       have hnb36 := NB497_498.out
       have hnc36 := NB498_497.out
       obtain ⟨hcz37_0, hcz37_1, hcz37_2, hfz37_0, hfz37_1, hfz37_2⟩ := BK497.c3
       obtain ⟨hcz38_0, hcz38_1, hcz38_2, hfz38_0, hfz38_1, hfz38_2⟩ := BK498.c3
       obtain ⟨Ao39, co39, eo39⟩ := Kd.V_slice HO_7.out
       subst eo39
       obtain ⟨Ao40, co40, eo40⟩ := Kd.V_slice HO_8.out
       subst eo40
       go_wp2_with (first | ((with_reducible refine gate_callee (f := 67) rfl ?_); refine gL_ (some 41) Tryd.func67 #[.slice Ao39 t500.length co39, .slice Ao40 t503.length co40] ?_; (with_reducible refine (decimal_digits_cmp.calls kj12 _ _ t500 _ _ t503 t508 _ ?side1 ?side2 ?side3 ?side4 A35.out).mono ?_); (case side1 => repeat (first | exact (Kd.V_reads' HO_7.out).2.2 | (with_reducible refine Kd.C_alloc ?_ _) | (with_reducible refine Kd.C_drewN ?_ _) | (with_reducible refine Kd.C_drew ?_))); (case side2 => exact (Kd.V_reads' HO_7.out).2.1); (case side3 => repeat (first | exact (Kd.V_reads' HO_8.out).2.2 | (with_reducible refine Kd.C_alloc ?_ _) | (with_reducible refine Kd.C_drewN ?_ _) | (with_reducible refine Kd.C_drew ?_))); (case side4 => exact (Kd.V_reads' HO_8.out).2.1); rintro e w' ⟨rfl, ⟨nd, rfl⟩⟩; refine ⟨_, rfl, ?_⟩))
       go_ret2
       exact ⟨by first | rfl | (simp [errW_none, errW_some] <;> rfl) | (simp [*, errW_none, errW_some] <;> rfl) | (simp [bne_nil_]; done), by repeat (first | (with_reducible first | exact HB.out | apply below_alloc | apply pw_below_drewN | apply below_drew1 | refine below_set ?_ GE497.out | refine below_set ?_ GE498.out) | exact HB.out)⟩
 ·rw [if_neg c11] at H
  have c11b0 : (t499 == 0) = false := beq_eq_false_iff_ne.mpr c11
  have c11b1 : (t499 != 0) = true := bne_iff_ne.mpr c11
  (first | rw [c11b0] | (simp only [i64_w, i32_w]; rw [c11b0]) | rw [c11b1] | skip)
  simp only [Option.some.injEq, Prod.mk.injEq] at H
  obtain ⟨rfl, rfl⟩ := H
  go_wp2
  go_ret2
  exact ⟨by first | rfl | (simp [errW_none, errW_some] <;> rfl) | (simp [*, errW_none, errW_some] <;> rfl) | (simp [bne_nil_]; done), by repeat (first | (with_reducible first | exact HB.out | apply below_alloc | apply pw_below_drewN | apply below_drew1 | refine below_set ?_ GE497.out | refine below_set ?_ GE498.out) | exact HB.out)⟩
end Go.Proofs.YtihjcaglhjepdaaDoor.P
namespace Go.Proofs.YtihjcaglhjepdaaDoor.P
open Go.RowKit Go.Proofs.YtihjcaglhjepdaaDoorW.PrintWords Go.Proofs.YtihjcaglhjepdaaDoorW.PrintLast Go.Proofs.YtihjcaglhjepdaaDoorW.PrintMore
attribute [local go_sem] max2_int max_two
set_option linter.unusedVariables false
set_option linter.unusedSimpArgs false
def decimal_Sub.f (k : Nat) (a0_0 : Bool) (a0_1 : ByteArray) (a0_2 : ByteArray) (a1_0 : Bool) (a1_1 : ByteArray) (a1_2 : ByteArray) : Option (Bool × ByteArray × ByteArray × Int) := (decimal_both.f k a0_0 a0_1 a0_2 a1_0 a1_1 a1_2).bind fun t563 => (if t563 = 0 then ((decimal_sum.f k a0_0 a0_1 a0_2 a1_0 a1_1 a1_2 (!a1_0)).bind fun bt564 => (some (bt564.1, bt564.2.1, bt564.2.2.1, bt564.2.2.2))) else (some (false, (⟨#[]⟩ : ByteArray), (⟨#[]⟩ : ByteArray), t563)))
set_option maxHeartbeats 8000000 in
set_option maxRecDepth 100000 in
theorem decimal_Sub.calls (k : Nat) (a0_0 : Bool) (a0_1 : ByteArray) (a0_2 : ByteArray) (a1_0 : Bool) (a1_1 : ByteArray) (a1_2 : ByteArray) (r1 : Bool) (r2 : ByteArray) (r3 : ByteArray) (r4 : Int) (w : World) (h : decimal_Sub.f k a0_0 a0_1 a0_2 a1_0 a1_1 a1_2 = some (r1, r2, r3, r4)) :
    Calls Tryd.prog 33 #[.agg #[.bool a0_0, .string a0_1, .string a0_2], .agg #[.bool a1_0, .string a1_1, .string a1_2]] w fun e w' => e = .returned (.tuple #[.agg #[.bool r1, .string r2, .string r3], .int .i64 r4]) ∧ Below w.heap.size w w' := by
 have hu23 := Tryd.underlying23
 have HB := Aside0.mk (Below.refl w.heap.size w)
 unfold decimal_Sub.f at h
 have H := h
 clear h
 replace H := Option.bind_eq_some_iff.mp H
 obtain ⟨t563, A30, H⟩ := H
 try dsimp only at H
 have A3 := Aside0.mk A30
 clear A30
 have HF4 := Aside0.mk H
 clear H
 go_enter Tryd.func33, Tryd.ntmps33
 go_upto_if 11 with (first | ((with_reducible refine gate_dst (N := 2) rfl ?_); refine bx_ #[.bool a0_0, .string a0_1, .string a0_2] 23 ?_; intro gb560 hg w5 hbox hb; have BK560 := Aside0.mk (hbox); have GW560 := Aside0.mk ((by rw [hg]; exact (below_size hb_) : w.heap.size ≤ gb560)); have GE560 := Aside0.mk ((by rw [hg]; exact (below_size hb_) : w.heap.size ≤ gb560)); replace HB := Aside0.mk (below_step hb_ hb); clear hb hbox hg) | ((with_reducible refine gate_dst (N := 3) rfl ?_); refine bx_ #[.bool a1_0, .string a1_1, .string a1_2] 23 ?_; intro gb561 hg w6 hbox hb; have BK561 := Aside0.mk (hbox); have GW561 := Aside0.mk ((by rw [hg]; exact (below_size hb_) : w.heap.size ≤ gb561)); have GE561 := Aside0.mk ((by rw [hg]; exact (below_size hb_) : w.heap.size ≤ gb561)); have NB560_561 := BK560.nl hg; have NB561_560 := BK560.ng hg; replace BK560 := BK560.bl hb; replace HB := Aside0.mk (below_step hb_ hb); clear hb hbox hg) | ((with_reducible refine gate_dst (N := 4) rfl ?_); refine bx_ #[.bool false, .string (⟨#[]⟩ : ByteArray), .string (⟨#[]⟩ : ByteArray)] 23 ?_; intro gb562 hg w7 hbox hb; have BK562 := Aside0.mk (hbox); have GW562 := Aside0.mk ((by rw [hg]; exact (below_size hb_) : w.heap.size ≤ gb562)); have GE562 := Aside0.mk ((by rw [hg]; exact (below_size hb_) : w.heap.size ≤ gb562)); have NB560_562 := BK560.nl hg; have NB562_560 := BK560.ng hg; have NB561_562 := BK561.nl hg; have NB562_561 := BK561.ng hg; replace BK560 := BK560.bl hb; replace BK561 := BK561.bl hb; replace HB := Aside0.mk (below_step hb_ hb); clear hb hbox hg; have hnb8 := NB560_561.out; have hnc8 := NB561_560.out; have hnb9 := NB560_562.out; have hnc9 := NB562_560.out; obtain ⟨hcz10_0, hcz10_1, hcz10_2, hfz10_0, hfz10_1, hfz10_2⟩ := BK560.c3; have hnb11 := NB561_562.out; have hnc11 := NB562_561.out; obtain ⟨hcz12_0, hcz12_1, hcz12_2, hfz12_0, hfz12_1, hfz12_2⟩ := BK561.c3) | ((with_reducible refine gate_callee (f := 65) rfl ?_); refine gL_ (some 9) Tryd.func65 #[.agg #[.bool a0_0, .string a0_1, .string a0_2], .agg #[.bool a1_0, .string a1_1, .string a1_2]] ?_; (with_reducible refine (decimal_both.calls k a0_0 a0_1 a0_2 a1_0 a1_1 a1_2 t563 _ A3.out).mono ?_); rintro e w13 ⟨rfl, hb⟩; refine ⟨_, rfl, ?_⟩; replace BK560 := BK560.bl hb; replace BK561 := BK561.bl hb; replace BK562 := BK562.bl hb; replace HB := Aside0.mk (below_step hb_ hb)))
 (try simp only [Act.put, List.setIfInBounds_toArray, List.set_cons_zero, List.set_cons_succ])
 have H := HF4.out
 clear HF4
 by_cases c14 : t563 = 0
 ·rw [if_pos c14] at H
  have c14b0 : (t563 == 0) = true := beq_iff_eq.mpr c14
  have c14b1 : (t563 != 0) = false := bne_eq_false_iff_eq.mpr c14
  clear c14
  (first | rw [c14b0] | (simp only [i64_w, i32_w]; rw [c14b0]) | rw [c14b1] | skip)
  replace H := Option.bind_eq_some_iff.mp H
  obtain ⟨⟨t564, t565, t566, t567⟩, A150, H⟩ := H
  try dsimp only at H
  have A15 := Aside0.mk A150
  clear A150
  simp only [Option.some.injEq, Prod.mk.injEq] at H
  obtain ⟨rfl, rfl, rfl, rfl⟩ := H
  have hnb16 := NB560_561.out
  have hnc16 := NB561_560.out
  have hnb17 := NB560_562.out
  have hnc17 := NB562_560.out
  obtain ⟨hcz18_0, hcz18_1, hcz18_2, hfz18_0, hfz18_1, hfz18_2⟩ := BK560.c3
  have hnb19 := NB561_562.out
  have hnc19 := NB562_561.out
  obtain ⟨hcz20_0, hcz20_1, hcz20_2, hfz20_0, hfz20_1, hfz20_2⟩ := BK561.c3
  go_wp2_with (first | ((with_reducible refine gate_callee (f := 71) rfl ?_); refine gL_ (some 19) Tryd.func71 #[.agg #[.bool a0_0, .string a0_1, .string a0_2], .agg #[.bool a1_0, .string a1_1, .string a1_2], .bool (!a1_0)] ?_; (with_reducible refine (decimal_sum.calls k a0_0 a0_1 a0_2 a1_0 a1_1 a1_2 (!a1_0) t564 t565 t566 t567 _ A15.out).mono ?_); rintro e w21 ⟨rfl, hb⟩; refine ⟨_, rfl, ?_⟩; replace BK560 := BK560.bl hb; replace BK561 := BK561.bl hb; replace BK562 := BK562.bl hb; replace HB := Aside0.mk (below_step hb_ hb); obtain ⟨hcz22_0, hcz22_1, hcz22_2, hfz22_0, hfz22_1, hfz22_2⟩ := BK562.c3))
  refine bodyPost_ret (results_ct rfl _ _ gb562 23 #[.bool t564, .string t565, .string t566] (0, 0) _ rfl (by refine blk_put (cs := #[.bool t564, .string t565, .string (⟨#[]⟩ : ByteArray)]) ?_ 2 _ rfl; refine blk_put (cs := #[.bool t564, .string (⟨#[]⟩ : ByteArray), .string (⟨#[]⟩ : ByteArray)]) ?_ 1 _ rfl; refine blk_put (cs := #[.bool false, .string (⟨#[]⟩ : ByteArray), .string (⟨#[]⟩ : ByteArray)]) ?_ 0 _ rfl; exact BK562.out) Tryd.underlying23 rfl (by kernel_rfl)) rfl ?_
  exact ⟨by first | rfl | (simp [errW_none, errW_some] <;> rfl) | (simp [*, errW_none, errW_some] <;> rfl) | (simp [bne_nil_]; done), by repeat (first | (with_reducible first | exact HB.out | apply below_alloc | apply pw_below_drewN | apply below_drew1 | refine below_set ?_ GE560.out | refine below_set ?_ GE561.out | refine below_set ?_ GE562.out) | exact HB.out)⟩
 ·rw [if_neg c14] at H
  have c14b0 : (t563 == 0) = false := beq_eq_false_iff_ne.mpr c14
  have c14b1 : (t563 != 0) = true := bne_iff_ne.mpr c14
  (first | rw [c14b0] | (simp only [i64_w, i32_w]; rw [c14b0]) | rw [c14b1] | skip)
  simp only [Option.some.injEq, Prod.mk.injEq] at H
  obtain ⟨rfl, rfl, rfl, rfl⟩ := H
  have hnb23 := NB562_560.out
  have hnc23 := NB560_562.out
  have hnb24 := NB562_561.out
  have hnc24 := NB561_562.out
  obtain ⟨hcz25_0, hcz25_1, hcz25_2, hfz25_0, hfz25_1, hfz25_2⟩ := BK562.c3
  go_wp2
  refine bodyPost_ret (results_ct rfl _ _ gb562 23 #[.bool false, .string (⟨#[]⟩ : ByteArray), .string (⟨#[]⟩ : ByteArray)] (0, 0) _ rfl (by refine blk_put (cs := #[.bool false, .string (⟨#[]⟩ : ByteArray), .string (⟨#[]⟩ : ByteArray)]) ?_ 2 _ rfl; refine blk_put (cs := #[.bool false, .string (⟨#[]⟩ : ByteArray), .string (⟨#[]⟩ : ByteArray)]) ?_ 1 _ rfl; refine blk_put (cs := #[.bool false, .string (⟨#[]⟩ : ByteArray), .string (⟨#[]⟩ : ByteArray)]) ?_ 0 _ rfl; exact BK562.out) Tryd.underlying23 rfl (by kernel_rfl)) rfl ?_
  exact ⟨by first | rfl | (simp [errW_none, errW_some] <;> rfl) | (simp [*, errW_none, errW_some] <;> rfl) | (simp [bne_nil_]; done), by repeat (first | (with_reducible first | exact HB.out | apply below_alloc | apply pw_below_drewN | apply below_drew1 | refine below_set ?_ GE560.out | refine below_set ?_ GE561.out | refine below_set ?_ GE562.out) | exact HB.out)⟩
end Go.Proofs.YtihjcaglhjepdaaDoor.P
namespace Go.Proofs.YtihjcaglhjepdaaDoor.P
open Go.RowKit Go.Proofs.YtihjcaglhjepdaaDoorW.PrintWords Go.Proofs.YtihjcaglhjepdaaDoorW.PrintLast Go.Proofs.YtihjcaglhjepdaaDoorW.PrintMore
attribute [local go_sem] max2_int max_two
set_option linter.unusedVariables false
set_option linter.unusedSimpArgs false
def decimal_Mul.f (k : Nat) (a0_0 : Bool) (a0_1 : ByteArray) (a0_2 : ByteArray) (a1_0 : Bool) (a1_1 : ByteArray) (a1_2 : ByteArray) : Option (Bool × ByteArray × ByteArray × Int) := (decimal_both.f k a0_0 a0_1 a0_2 a1_0 a1_1 a1_2).bind fun t593 => (if t593 = 0 then (if a0_1.size + a0_2.size ≤ 9223372036854775807 then ((decimal_of.f k (a0_1 ++ a0_2)).bind fun t594 => (if a1_1.size + a1_2.size ≤ 9223372036854775807 then ((decimal_of.f k (a1_1 ++ a1_2)).bind fun t597 => ((decimal_digits_times.f k t594 t597).bind fun t600 => ((decimal_made.f k (a0_0 != a1_0) t600 (wrap64 ((a0_2.size : Int) + (a1_2.size : Int)))).bind fun bt603 => (some (bt603.1, bt603.2.1, bt603.2.2.1, bt603.2.2.2))))) else (none))) else (none)) else (some (false, (⟨#[]⟩ : ByteArray), (⟨#[]⟩ : ByteArray), t593)))
def decimal_Mul.T4 : Bool × List (List Nat × List Nat) := (true, [([], []), ([0], [0]), ([], []), ([2], [2]), ([1, 3], [1, 3]), ([], []), ([5], [5]), ([], []), ([7], [7]), ([6, 8], [6, 8]), ([9], [9]), ([], []), ([11], [11]), ([], []), ([13], [13]), ([12, 14], [12, 14]), ([15, 10], [15]), ([10, 16, 16], [10, 16]), ([], []), ([18], [18]), ([19], [19]), ([], []), ([21], [21]), ([22], [22]), ([20, 23], [20, 23]), ([4, 17, 24, 17], [4, 17, 24]), ([25], [25]), ([25], [25]), ([26, 25, 0, 1, 2, 3, 4, 5, 6, 7, 8, 9, 10, 11, 12, 13, 14, 15, 16, 17, 18, 19, 20, 21, 22, 23, 24, 25, 26, 27], [26]), ([27, 28, 0, 1, 2, 3, 4, 5, 6, 7, 8, 9, 10, 11, 12, 13, 14, 15, 16, 17, 18, 19, 20, 21, 22, 23, 24, 25, 26, 27, 28], [27])])
def decimal_Mul.B4 : List Nat := [0, 1, 0, 4, 15, 0, 32, 0, 128, 480, 992, 0, 2048, 0, 8192, 30720, 65504, 131040, 0, 262144, 786432, 0, 2097152, 6291456, 16515072, 33554431, 67108863, 67108863, 268435455, 536870911]
theorem decimal_Mul.tab4 : rtab .any (opsOf Tryd.f35 4) = decimal_Mul.T4 := by kernel_rfl
theorem decimal_Mul.bits4 : waitsOk decimal_Mul.T4.2 decimal_Mul.B4 = true := by kernel_rfl
set_option maxHeartbeats 8000000 in
set_option maxRecDepth 100000 in
theorem decimal_Mul.calls (k : Nat) (a0_0 : Bool) (a0_1 : ByteArray) (a0_2 : ByteArray) (a1_0 : Bool) (a1_1 : ByteArray) (a1_2 : ByteArray) (r1 : Bool) (r2 : ByteArray) (r3 : ByteArray) (r4 : Int) (w : World) (h : decimal_Mul.f k a0_0 a0_1 a0_2 a1_0 a1_1 a1_2 = some (r1, r2, r3, r4)) :
    Calls Tryd.prog 35 #[.agg #[.bool a0_0, .string a0_1, .string a0_2], .agg #[.bool a1_0, .string a1_1, .string a1_2]] w fun e w' => e = .returned (.tuple #[.agg #[.bool r1, .string r2, .string r3], .int .i64 r4]) ∧ Below w.heap.size w w' := by
 have hu23 := Tryd.underlying23
 have HB := Aside0.mk (Below.refl w.heap.size w)
 unfold decimal_Mul.f at h
 have H := h
 clear h
 replace H := Option.bind_eq_some_iff.mp H
 obtain ⟨t593, A30, H⟩ := H
 try dsimp only at H
 have A3 := Aside0.mk A30
 clear A30
 have HF4 := Aside0.mk H
 clear H
 go_enter Tryd.func35, Tryd.ntmps35
 go_upto_if 11 with (first | ((with_reducible refine gate_dst (N := 2) rfl ?_); refine bx_ #[.bool a0_0, .string a0_1, .string a0_2] 23 ?_; intro gb590 hg w5 hbox hb; have BK590 := Aside0.mk (hbox); have GW590 := Aside0.mk ((by rw [hg]; exact (below_size hb_) : w.heap.size ≤ gb590)); have GE590 := Aside0.mk ((by rw [hg]; exact (below_size hb_) : w.heap.size ≤ gb590)); replace HB := Aside0.mk (below_step hb_ hb); clear hb hbox hg) | ((with_reducible refine gate_dst (N := 3) rfl ?_); refine bx_ #[.bool a1_0, .string a1_1, .string a1_2] 23 ?_; intro gb591 hg w6 hbox hb; have BK591 := Aside0.mk (hbox); have GW591 := Aside0.mk ((by rw [hg]; exact (below_size hb_) : w.heap.size ≤ gb591)); have GE591 := Aside0.mk ((by rw [hg]; exact (below_size hb_) : w.heap.size ≤ gb591)); have NB590_591 := BK590.nl hg; have NB591_590 := BK590.ng hg; replace BK590 := BK590.bl hb; replace HB := Aside0.mk (below_step hb_ hb); clear hb hbox hg) | ((with_reducible refine gate_dst (N := 4) rfl ?_); refine bx_ #[.bool false, .string (⟨#[]⟩ : ByteArray), .string (⟨#[]⟩ : ByteArray)] 23 ?_; intro gb592 hg w7 hbox hb; have BK592 := Aside0.mk (hbox); have GW592 := Aside0.mk ((by rw [hg]; exact (below_size hb_) : w.heap.size ≤ gb592)); have GE592 := Aside0.mk ((by rw [hg]; exact (below_size hb_) : w.heap.size ≤ gb592)); have NB590_592 := BK590.nl hg; have NB592_590 := BK590.ng hg; have NB591_592 := BK591.nl hg; have NB592_591 := BK591.ng hg; replace BK590 := BK590.bl hb; replace BK591 := BK591.bl hb; replace HB := Aside0.mk (below_step hb_ hb); clear hb hbox hg; have hnb8 := NB590_591.out; have hnc8 := NB591_590.out; have hnb9 := NB590_592.out; have hnc9 := NB592_590.out; obtain ⟨hcz10_0, hcz10_1, hcz10_2, hfz10_0, hfz10_1, hfz10_2⟩ := BK590.c3; have hnb11 := NB591_592.out; have hnc11 := NB592_591.out; obtain ⟨hcz12_0, hcz12_1, hcz12_2, hfz12_0, hfz12_1, hfz12_2⟩ := BK591.c3) | ((with_reducible refine gate_callee (f := 65) rfl ?_); refine gL_ (some 9) Tryd.func65 #[.agg #[.bool a0_0, .string a0_1, .string a0_2], .agg #[.bool a1_0, .string a1_1, .string a1_2]] ?_; (with_reducible refine (decimal_both.calls k a0_0 a0_1 a0_2 a1_0 a1_1 a1_2 t593 _ A3.out).mono ?_); rintro e w13 ⟨rfl, hb⟩; refine ⟨_, rfl, ?_⟩; replace BK590 := BK590.bl hb; replace BK591 := BK591.bl hb; replace BK592 := BK592.bl hb; replace HB := Aside0.mk (below_step hb_ hb)))
 (try simp only [Act.put, List.setIfInBounds_toArray, List.set_cons_zero, List.set_cons_succ])
 have H := HF4.out
 clear HF4
 by_cases c14 : t593 = 0
 ·rw [if_pos c14] at H
  have c14b0 : (t593 == 0) = true := beq_iff_eq.mpr c14
  have c14b1 : (t593 != 0) = false := bne_eq_false_iff_eq.mpr c14
  clear c14
  (first | rw [c14b0] | (simp only [i64_w, i32_w]; rw [c14b0]) | rw [c14b1] | skip)
  by_cases c15 : a0_1.size + a0_2.size ≤ 9223372036854775807
  ·rw [if_pos c15] at H
   have c15b0 := eq_true c15
   have c15b1 : decide (a0_1.size + a0_2.size ≤ 9223372036854775807) = true := decide_eq_true c15
   try have c15b2 : (9223372036854775807 < a0_1.size + a0_2.size) = False := eq_false (Nat.not_lt.2 c15)
   replace H := Option.bind_eq_some_iff.mp H
   obtain ⟨t594, A160, H⟩ := H
   try dsimp only at H
   have A16 := Aside0.mk A160
   clear A160
   by_cases c17 : a1_1.size + a1_2.size ≤ 9223372036854775807
   ·rw [if_pos c17] at H
    have c17b0 := eq_true c17
    have c17b1 : decide (a1_1.size + a1_2.size ≤ 9223372036854775807) = true := decide_eq_true c17
    try have c17b2 : (9223372036854775807 < a1_1.size + a1_2.size) = False := eq_false (Nat.not_lt.2 c17)
    replace H := Option.bind_eq_some_iff.mp H
    obtain ⟨t597, A180, H⟩ := H
    try dsimp only at H
    have A18 := Aside0.mk A180
    clear A180
    replace H := Option.bind_eq_some_iff.mp H
    obtain ⟨t600, A190, H⟩ := H
    try dsimp only at H
    have A19 := Aside0.mk A190
    clear A190
    replace H := Option.bind_eq_some_iff.mp H
    obtain ⟨⟨t603, t604, t605, t606⟩, A200, H⟩ := H
    try dsimp only at H
    have A20 := Aside0.mk A200
    clear A200
    simp only [Option.some.injEq, Prod.mk.injEq] at H
    obtain ⟨rfl, rfl, rfl, rfl⟩ := H
    try go_wp2
    replace BK590 := Aside0.mk (blk_drew BK590.out)
    replace BK591 := Aside0.mk (blk_drew BK591.out)
    replace BK592 := Aside0.mk (blk_drew BK592.out)
    replace HB := Aside0.mk (below_drew1 HB.out)
    refine start_ (n := 30) (S := fun w' => w'.cell? ⟨gb590, 0, none⟩ = some (.bool a0_0) ∧ w'.cell? ⟨gb590, 1, none⟩ = some (.string a0_1) ∧ w'.cell? ⟨gb590, 2, none⟩ = some (.string a0_2) ∧ w'.cell? ⟨gb591, 0, none⟩ = some (.bool a1_0) ∧ w'.cell? ⟨gb591, 1, none⟩ = some (.string a1_1) ∧ w'.cell? ⟨gb591, 2, none⟩ = some (.string a1_2)) (ds := []) #[false, false, false, false, false, false, false, false, false, false, false, false, false, false, false, false, false, false, false, false, false, false, false, false, false, false, false, false, false, false] (by kernel_rfl) rfl rfl ⟨(blk_cell BK590.out 0).trans rfl, (blk_cell BK590.out 1).trans rfl, (blk_cell BK590.out 2).trans rfl, (blk_cell BK591.out 0).trans rfl, (blk_cell BK591.out 1).trans rfl, (blk_cell BK591.out 2).trans rfl⟩ (fun hHeld => ?_); refine with_tabW decimal_Mul.tab4 decimal_Mul.bits4 (fun HT_ HW_ => ?_)
    generalize w13.drew = w21 at BK590 BK591 BK592 HB hHeld ⊢
    refine pr_ 0 (some 14) ?_
    refine pr_ 2 (some 16) ?_
    refine pr_ 5 (some 19) ?_
    refine pr_ 7 (some 21) ?_
    refine pr_ 11 (some 25) ?_
    refine pr_ 13 (some 27) ?_
    refine pr_ 18 (some 32) ?_
    refine pr_ 21 (some 35) ?_
    refine tk_ 1 (some 15) hHeld ?_
    refine tk_ 3 (some 17) hHeld ?_
    refine pr_ 4 (some 18) ?_
    refine tk_ 6 (some 20) hHeld ?_
    refine tk_ 8 (some 22) hHeld ?_
    refine pr_ 9 (some 23) ?_
    refine tk_ 12 (some 26) hHeld ?_
    refine tk_ 14 (some 28) hHeld ?_
    refine pr_ 15 (some 29) ?_
    refine tk_ 19 (some 33) hHeld ?_
    refine pr_ 20 (some 34) ?_
    refine tk_ 22 (some 36) hHeld ?_
    refine pr_ 23 (some 37) ?_
    refine pr_ 24 (some 38) ?_
    refine one_ (i := 10) (N := some 24) #[true, true, true, true, true, true, true, true, true, true, true, true, true, true, true, true, false, false, true, true, true, true, true, true, true, false, false, false, false, false] rfl rfl (one_of HT_.out (by kernel_rfl)) (by decide) (fun K hK => ?_)
    refine goes_ Tryd.func73 (by kernel_rfl) rfl #[.string (a0_1 ++ a0_2)] (by rfl) rfl rfl ar_ ?_
    with_reducible refine (decimal_of.calls k (a0_1 ++ a0_2) t594 _ A16.out).mono ?_
    rintro e w22 ⟨v595, rfl, ho0, hb⟩
    refine ⟨_, rfl, ?_⟩
    have HO596 := Aside0.mk (Kd.R_lower ho0 (below_size hb_))
    replace BK590 := BK590.bl hb
    replace BK591 := BK591.bl hb
    replace BK592 := BK592.bl hb
    replace HB := Aside0.mk (below_step hb_ hb)
    (try clear hb)
    (try clear hb2)
    (try clear hk)
    (try clear hi)
    (try clear ho0)
    refine hK.out _ _ ⟨(blk_cell BK590.out 0).trans rfl, (blk_cell BK590.out 1).trans rfl, (blk_cell BK590.out 2).trans rfl, (blk_cell BK591.out 0).trans rfl, (blk_cell BK591.out 1).trans rfl, (blk_cell BK591.out 2).trans rfl⟩ (fun hHeld => ?_)
    clear hK K
    refine norm_ (a' := ?_) ?_ ?_
    rotate_left
    ·show Act.put _ (some 24) _ = _
     simp only [Act.put, List.setIfInBounds_toArray, List.set_cons_zero, List.set_cons_succ, i64_w, i32_w]
     rfl
    refine one_ (i := 16) (N := some 30) #[true, true, true, true, true, true, true, true, true, true, true, true, true, true, true, true, true, false, true, true, true, true, true, true, true, false, false, false, false, false] rfl rfl (one_of HT_.out (by kernel_rfl)) (by decide) (fun K hK => ?_)
    refine goes_ Tryd.func73 (by kernel_rfl) rfl #[.string (a1_1 ++ a1_2)] (by rfl) rfl rfl ar_ ?_
    with_reducible refine (decimal_of.calls k (a1_1 ++ a1_2) t597 _ A18.out).mono ?_
    rintro e w23 ⟨v598, rfl, ho0, hb⟩
    refine ⟨_, rfl, ?_⟩
    have HO599 := Aside0.mk (Kd.R_lower (Kd.R_new' ho0 (Kd.R_lt (by (with_reducible repeat (first | apply Kd.R_alloc | apply Kd.R_drewN | apply Kd.R_drew)); exact HO596.out))) (below_size hb_))
    replace HO596 := Aside0.mk (Kd.R_elder' (by (with_reducible repeat (first | apply Kd.R_alloc | apply Kd.R_drewN | apply Kd.R_drew)); exact HO596.out) (Kd.R_base ho0) hb)
    replace BK590 := BK590.bl hb
    replace BK591 := BK591.bl hb
    replace BK592 := BK592.bl hb
    replace HB := Aside0.mk (below_step hb_ hb)
    (try clear hb)
    (try clear hb2)
    (try clear hk)
    (try clear hi)
    (try clear ho0)
    obtain ⟨Ao24, co24, eo24⟩ := Kd.R_slice HO596.out
    (first | subst eo24 | (injection eo24 with f1_ f2_ f3_; have f4_ := f1_.symm; have f5_ := f3_.symm; clear f1_ f2_ f3_; subst f4_; subst f5_))
    obtain ⟨Ao25, co25, eo25⟩ := Kd.R_slice HO599.out
    (first | subst eo25 | (injection eo25 with f1_ f2_ f3_; have f4_ := f1_.symm; have f5_ := f3_.symm; clear f1_ f2_ f3_; subst f4_; subst f5_))
    refine hK.out _ _ ⟨(blk_cell BK590.out 0).trans rfl, (blk_cell BK590.out 1).trans rfl, (blk_cell BK590.out 2).trans rfl, (blk_cell BK591.out 0).trans rfl, (blk_cell BK591.out 1).trans rfl, (blk_cell BK591.out 2).trans rfl⟩ (fun hHeld => ?_)
    clear hK K
    refine norm_ (a' := ?_) ?_ ?_
    rotate_left
    ·show Act.put _ (some 30) _ = _
     simp only [Act.put, List.setIfInBounds_toArray, List.set_cons_zero, List.set_cons_succ, i64_w, i32_w]
     rfl
    refine one_ (i := 17) (N := some 31) #[true, true, true, true, true, true, true, true, true, true, true, true, true, true, true, true, true, true, true, true, true, true, true, true, true, false, false, false, false, false] rfl rfl (one_of HT_.out (by kernel_rfl)) (by decide) (fun K hK => ?_)
    refine goes_ Tryd.func74 (by kernel_rfl) rfl #[.slice Ao24 t594.length co24, .slice Ao25 t597.length co25] (by rfl) rfl rfl ar_ ?_
    with_reducible refine (decimal_digits_times.calls k _ _ t594 _ _ t597 t600 _ ?side1 ?side2 ?side3 ?side4 A19.out).mono ?_
    (case side1 => repeat (first | exact (Kd.R_reads' HO596.out).2.2 | (with_reducible refine Kd.C_alloc ?_ _) | (with_reducible refine Kd.C_drewN ?_ _) | (with_reducible refine Kd.C_drew ?_)))
    (case side2 => exact (Kd.R_reads' HO596.out).2.1)
    (case side3 => repeat (first | exact (Kd.R_reads' HO599.out).2.2 | (with_reducible refine Kd.C_alloc ?_ _) | (with_reducible refine Kd.C_drewN ?_ _) | (with_reducible refine Kd.C_drew ?_)))
    (case side4 => exact (Kd.R_reads' HO599.out).2.1)
    rintro e w26 ⟨v601, rfl, ho0, hb⟩
    refine ⟨_, rfl, ?_⟩
    have HO602 := Aside0.mk (Kd.V_lower (Kd.V_mono (ok' := fun k_ => some k_ ≠ (.slice Ao24 t594.length co24 : Value).ownBlock ∧ some k_ ≠ (.slice Ao25 t597.length co25 : Value).ownBlock ∧ k_ ≠ gb590 ∧ k_ ≠ gb591 ∧ k_ ≠ gb592) ho0 (fun k_ hk_ => ⟨(Kd.fresh' (Kd.R_lt (by (with_reducible repeat (first | apply Kd.R_alloc | apply Kd.R_drewN | apply Kd.R_drew)); exact HO596.out)) k_ hk_), (Kd.fresh' (Kd.R_lt (by (with_reducible repeat (first | apply Kd.R_alloc | apply Kd.R_drewN | apply Kd.R_drew)); exact HO599.out)) k_ hk_), (Kd.freshB (g := gb590) (o := .cells #[.bool a0_0, .string a0_1, .string a0_2] 23 (0, 0)) BK590.out k_ hk_), (Kd.freshB (g := gb591) (o := .cells #[.bool a1_0, .string a1_1, .string a1_2] 23 (0, 0)) BK591.out k_ hk_), (Kd.freshB (g := gb592) (o := .cells #[.bool false, .string (⟨#[]⟩ : ByteArray), .string (⟨#[]⟩ : ByteArray)] 23 (0, 0)) BK592.out k_ hk_)⟩)) (below_size hb_))
    replace HO596 := Aside0.mk (Kd.R_below (by (with_reducible repeat (first | apply Kd.R_alloc | apply Kd.R_drewN | apply Kd.R_drew)); exact HO596.out) hb)
    replace HO599 := Aside0.mk (Kd.R_below (by (with_reducible repeat (first | apply Kd.R_alloc | apply Kd.R_drewN | apply Kd.R_drew)); exact HO599.out) hb)
    replace BK590 := BK590.bl hb
    replace BK591 := BK591.bl hb
    replace BK592 := BK592.bl hb
    replace HB := Aside0.mk (below_step hb_ hb)
    (try clear hb)
    (try clear hb2)
    (try clear hk)
    (try clear hi)
    (try clear ho0)
    obtain ⟨Ao27, co27, eo27⟩ := Kd.V_slice HO602.out
    (first | subst eo27 | (injection eo27 with f1_ f2_ f3_; have f4_ := f1_.symm; have f5_ := f3_.symm; clear f1_ f2_ f3_; subst f4_; subst f5_))
    refine hK.out _ _ ⟨(blk_cell BK590.out 0).trans rfl, (blk_cell BK590.out 1).trans rfl, (blk_cell BK590.out 2).trans rfl, (blk_cell BK591.out 0).trans rfl, (blk_cell BK591.out 1).trans rfl, (blk_cell BK591.out 2).trans rfl⟩ (fun hHeld => ?_)
    clear hK K
    refine norm_ (a' := ?_) ?_ ?_
    rotate_left
    ·show Act.put _ (some 31) _ = _
     simp only [Act.put, List.setIfInBounds_toArray, List.set_cons_zero, List.set_cons_succ, i64_w, i32_w]
     rfl
    refine one_ (i := 25) (N := some 39) #[true, true, true, true, true, true, true, true, true, true, true, true, true, true, true, true, true, true, true, true, true, true, true, true, true, true, false, false, false, false] rfl rfl (one_of HT_.out (by kernel_rfl)) (by decide) (fun K hK => ?_)
    refine goes_ Tryd.func62 (by kernel_rfl) rfl #[.bool (a0_0 != a1_0), .slice Ao27 t600.length co27, .int .i64 (wrap64 ((a0_2.size : Int) + (a1_2.size : Int)))] (by rfl) rfl rfl ar_ ?_
    with_reducible refine (decimal_made.calls k (a0_0 != a1_0) _ _ t600 (wrap64 ((a0_2.size : Int) + (a1_2.size : Int))) t603 t604 t605 t606 _ ?side1 ?side2 A20.out).mono ?_
    (case side1 => repeat (first | exact (Kd.V_reads' HO602.out).2.2 | (with_reducible refine Kd.C_alloc ?_ _) | (with_reducible refine Kd.C_drewN ?_ _) | (with_reducible refine Kd.C_drew ?_)))
    (case side2 => exact (Kd.V_reads' HO602.out).2.1)
    rintro e w28 ⟨rfl, hb⟩
    refine ⟨_, rfl, ?_⟩
    replace HO596 := Aside0.mk (Kd.R_below (by (with_reducible repeat (first | apply Kd.R_alloc | apply Kd.R_drewN | apply Kd.R_drew)); exact HO596.out) hb)
    replace HO599 := Aside0.mk (Kd.R_below (by (with_reducible repeat (first | apply Kd.R_alloc | apply Kd.R_drewN | apply Kd.R_drew)); exact HO599.out) hb)
    replace HO602 := Aside0.mk (Kd.V_below (by (with_reducible repeat (first | apply Kd.V_alloc | apply Kd.V_drewN | apply Kd.V_drew)); exact HO602.out) hb)
    replace BK590 := BK590.bl hb
    replace BK591 := BK591.bl hb
    replace BK592 := BK592.bl hb
    replace HB := Aside0.mk (below_step hb_ hb)
    (try clear hb)
    (try clear hb2)
    (try clear hk)
    (try clear hi)
    refine hK.out _ _ ⟨(blk_cell BK590.out 0).trans rfl, (blk_cell BK590.out 1).trans rfl, (blk_cell BK590.out 2).trans rfl, (blk_cell BK591.out 0).trans rfl, (blk_cell BK591.out 1).trans rfl, (blk_cell BK591.out 2).trans rfl⟩ (fun hHeld => ?_)
    clear hK K
    refine norm_ (a' := ?_) ?_ ?_
    rotate_left
    ·show Act.put _ (some 39) _ = _
     simp only [Act.put, List.setIfInBounds_toArray, List.set_cons_zero, List.set_cons_succ, i64_w, i32_w]
     rfl
    refine pr_ 26 (some 40) ?_
    refine pr_ 27 (some 41) ?_
    refine one_ (i := 28) (N := none) #[true, true, true, true, true, true, true, true, true, true, true, true, true, true, true, true, true, true, true, true, true, true, true, true, true, true, true, true, true, false] rfl rfl (one_of HT_.out (by kernel_rfl)) (by decide) (fun K hK => ?_)
    have hs29 : w28.cell? ⟨gb592, 0, none⟩ = some (.bool false) := (blk_cell BK592.out 0).trans rfl
    have hfs29 := blk_frozen BK592.out 0
    have hns29_0 := NB590_592.out
    have hns29_1 := NB591_592.out
    have hms29_0 := NB592_590.out
    have hms29_1 := NB592_591.out
    have hs30 : w28.cell? ⟨gb592, 1, none⟩ = some (.string (⟨#[]⟩ : ByteArray)) := (blk_cell BK592.out 1).trans rfl
    have hfs30 := blk_frozen BK592.out 1
    have hns30_0 := NB590_592.out
    have hns30_1 := NB591_592.out
    have hms30_0 := NB592_590.out
    have hms30_1 := NB592_591.out
    have hs31 : w28.cell? ⟨gb592, 2, none⟩ = some (.string (⟨#[]⟩ : ByteArray)) := (blk_cell BK592.out 2).trans rfl
    have hfs31 := blk_frozen BK592.out 2
    have hns31_0 := NB590_592.out
    have hns31_1 := NB591_592.out
    have hms31_0 := NB592_590.out
    have hms31_1 := NB592_591.out
    refine skip_ (w1 := ?_) (by rfl) rfl ?_ ?_
    rotate_left
    ·go_simp
     rfl
    refine hK.out _ _ ⟨((cell_far (p := ⟨gb592, _, none⟩) NB590_592.out _).trans (((cell_far (p := ⟨gb592, _, none⟩) NB590_592.out _).trans (((cell_far (p := ⟨gb592, _, none⟩) NB590_592.out _).trans (hHeld.1)))))), ((cell_far (p := ⟨gb592, _, none⟩) NB590_592.out _).trans (((cell_far (p := ⟨gb592, _, none⟩) NB590_592.out _).trans (((cell_far (p := ⟨gb592, _, none⟩) NB590_592.out _).trans (hHeld.2.1)))))), ((cell_far (p := ⟨gb592, _, none⟩) NB590_592.out _).trans (((cell_far (p := ⟨gb592, _, none⟩) NB590_592.out _).trans (((cell_far (p := ⟨gb592, _, none⟩) NB590_592.out _).trans (hHeld.2.2.1)))))), ((cell_far (p := ⟨gb592, _, none⟩) NB591_592.out _).trans (((cell_far (p := ⟨gb592, _, none⟩) NB591_592.out _).trans (((cell_far (p := ⟨gb592, _, none⟩) NB591_592.out _).trans (hHeld.2.2.2.1)))))), ((cell_far (p := ⟨gb592, _, none⟩) NB591_592.out _).trans (((cell_far (p := ⟨gb592, _, none⟩) NB591_592.out _).trans (((cell_far (p := ⟨gb592, _, none⟩) NB591_592.out _).trans (hHeld.2.2.2.2.1)))))), ((cell_far (p := ⟨gb592, _, none⟩) NB591_592.out _).trans (((cell_far (p := ⟨gb592, _, none⟩) NB591_592.out _).trans (((cell_far (p := ⟨gb592, _, none⟩) NB591_592.out _).trans (hHeld.2.2.2.2.2))))))⟩ (fun hHeld => ?_)
    clear hK K
    refine pr_ 29 (some 5) ?_
    refine done_ (done_of HT_.out (by kernel_rfl)) ?_
    (try clear hms31_1 hms31_0 hns31_1 hns31_0 hfs31 hs31 hms30_1 hms30_0 hns30_1 hns30_0 hfs30 hs30 hms29_1 hms29_0 hns29_1 hns29_0 hfs29 hs29)
    try go_wp2
    refine bodyPost_ret (results_ct rfl _ _ gb592 23 #[.bool t603, .string t604, .string t605] (0, 0) _ rfl (by refine blk_put (cs := #[.bool t603, .string t604, .string (⟨#[]⟩ : ByteArray)]) ?_ 2 _ rfl; refine blk_put (cs := #[.bool t603, .string (⟨#[]⟩ : ByteArray), .string (⟨#[]⟩ : ByteArray)]) ?_ 1 _ rfl; refine blk_put (cs := #[.bool false, .string (⟨#[]⟩ : ByteArray), .string (⟨#[]⟩ : ByteArray)]) ?_ 0 _ rfl; exact BK592.out) Tryd.underlying23 rfl (by kernel_rfl)) rfl ?_
    exact ⟨by first | rfl | (simp [errW_none, errW_some] <;> rfl) | (simp [*, errW_none, errW_some] <;> rfl) | (simp [bne_nil_]; done), by repeat (first | (with_reducible first | exact HB.out | apply below_alloc | apply pw_below_drewN | apply below_drew1 | refine below_set ?_ GE590.out | refine below_set ?_ GE591.out | refine below_set ?_ GE592.out) | exact HB.out)⟩
   ·rw [if_neg c17] at H
    exact absurd H (by simp)
  ·rw [if_neg c15] at H
   exact absurd H (by simp)
 ·rw [if_neg c14] at H
  have c14b0 : (t593 == 0) = false := beq_eq_false_iff_ne.mpr c14
  have c14b1 : (t593 != 0) = true := bne_iff_ne.mpr c14
  (first | rw [c14b0] | (simp only [i64_w, i32_w]; rw [c14b0]) | rw [c14b1] | skip)
  simp only [Option.some.injEq, Prod.mk.injEq] at H
  obtain ⟨rfl, rfl, rfl, rfl⟩ := H
  have hnb32 := NB592_590.out
  have hnc32 := NB590_592.out
  have hnb33 := NB592_591.out
  have hnc33 := NB591_592.out
  obtain ⟨hcz34_0, hcz34_1, hcz34_2, hfz34_0, hfz34_1, hfz34_2⟩ := BK592.c3
  go_wp2
  refine bodyPost_ret (results_ct rfl _ _ gb592 23 #[.bool false, .string (⟨#[]⟩ : ByteArray), .string (⟨#[]⟩ : ByteArray)] (0, 0) _ rfl (by refine blk_put (cs := #[.bool false, .string (⟨#[]⟩ : ByteArray), .string (⟨#[]⟩ : ByteArray)]) ?_ 2 _ rfl; refine blk_put (cs := #[.bool false, .string (⟨#[]⟩ : ByteArray), .string (⟨#[]⟩ : ByteArray)]) ?_ 1 _ rfl; refine blk_put (cs := #[.bool false, .string (⟨#[]⟩ : ByteArray), .string (⟨#[]⟩ : ByteArray)]) ?_ 0 _ rfl; exact BK592.out) Tryd.underlying23 rfl (by kernel_rfl)) rfl ?_
  exact ⟨by first | rfl | (simp [errW_none, errW_some] <;> rfl) | (simp [*, errW_none, errW_some] <;> rfl) | (simp [bne_nil_]; done), by repeat (first | (with_reducible first | exact HB.out | apply below_alloc | apply pw_below_drewN | apply below_drew1 | refine below_set ?_ GE590.out | refine below_set ?_ GE591.out | refine below_set ?_ GE592.out) | exact HB.out)⟩
end Go.Proofs.YtihjcaglhjepdaaDoor.P
namespace Go.Proofs.YtihjcaglhjepdaaDoor.P
open Go.RowKit Go.Proofs.YtihjcaglhjepdaaDoorW.PrintWords Go.Proofs.YtihjcaglhjepdaaDoorW.PrintLast Go.Proofs.YtihjcaglhjepdaaDoorW.PrintMore
attribute [local go_sem] max2_int max_two
set_option linter.unusedVariables false
set_option linter.unusedSimpArgs false
def idiomlaw02_fine.l0 : Nat → List (S23) → Int → Option (Bool)
  | 0, _, _ => none
  | k + 1, x0, x3 => if x3 < (x0.length : Int) then (if 0 ≤ x3 then ((idiomref02_Check.f k ((rd_T23 x0 x3).f0) ((rd_T23 x0 x3).f1) ((rd_T23 x0 x3).f2)).bind fun t664 => (if t664 = 0 then (idiomlaw02_fine.l0 k x0 (wrap64 (x3 + 1))) else (some false))) else (none)) else (some true)
def idiomlaw02_fine.f (k : Nat) (l0 : List (S23)) : Option (Bool) := idiomlaw02_fine.l0 k l0 0
set_option maxHeartbeats 8000000 in
set_option maxRecDepth 100000 in
theorem idiomlaw02_fine.calls (k : Nat) (A0 : Option Addr) (c0 : Nat) (l0 : List (S23)) (r : Bool) (w : World) (hr0 : Kd.C k23 w A0 l0.length l0) (hc0 : l0.length ≤ c0) (h : idiomlaw02_fine.f k l0 = some r) :
    Calls Tryd.prog 37 #[.slice A0 l0.length c0] w fun e w' => e = .returned (.bool r) ∧ Below w.heap.size w w' := by
 have hu23 := Tryd.underlying23
 have HR0 := Aside0.mk hr0
 have HC0 := Aside0.mk hc0
 clear hr0 hc0
 have HB := Aside0.mk (Below.refl w.heap.size w)
 unfold idiomlaw02_fine.f at h
 have H := h
 clear h
 have H' := Aside0.mk H
 clear H
 go_enter Tryd.func37, Tryd.ntmps37
 go_wp2
 go_loopg [3] k (fun kq v3 w' => ∃ (x3_1 : Int), v3 = .int .i64 x3_1 ∧ Aside0 (idiomlaw02_fine.l0 kq l0 x3_1 = some r) ∧ Aside0 (kq ≤ k) ∧ Aside0 (Below w.heap.size w w'))
 case atStart => exact ⟨(0), (by first | rfl | (simp; done) | (simp [*]; done)), H', ⟨Nat.le_refl _⟩, ⟨by repeat (first | (with_reducible first | exact HB.out | apply below_alloc | apply pw_below_drewN | apply below_drew1) | exact HB.out)⟩⟩
 case round =>
  clear H'
  obtain ⟨x3_1, rfl, HA, HK1, HB⟩ := hrel
  cases gk with
  | zero => exact absurd HA.out (by simp [idiomlaw02_fine.l0])
  | succ k1 =>
   have H := HA.out
   clear HA
   simp only [idiomlaw02_fine.l0] at H
   by_cases c2 : x3_1 < (l0.length : Int)
   ·rw [if_pos c2] at H
    have c2b0 : decide (x3_1 < (l0.length : Int)) = true := decide_eq_true c2
    clear c2
    by_cases c3 : 0 ≤ x3_1
    ·rw [if_pos c3] at H
     have c3b0 : decide (0 ≤ x3_1) = true := decide_eq_true c3
     clear c3
     replace H := Option.bind_eq_some_iff.mp H
     obtain ⟨t664, A40, H⟩ := H
     try dsimp only at H
     have A4 := Aside0.mk A40
     clear A40
     have HF5 := Aside0.mk H
     clear H
     have p663 : 0 ≤ (x3_1 : Int) := of_decide_eq_true (by first | (with_reducible assumption) | assumption)
     have q663 : x3_1 < (l0.length : Int) := of_decide_eq_true (by first | (with_reducible assumption) | assumption)
     obtain ⟨ad663, e663, hx663_0, hx663_1, hx663_2⟩ := at_T23 HR0.out x3_1 p663 q663
     cases e663
     replace hx663_0 := (HB.out.cell (World.block_lt_of_cell? w _ hx663_0)).trans hx663_0
     replace hx663_1 := (HB.out.cell (World.block_lt_of_cell? w _ hx663_1)).trans hx663_1
     replace hx663_2 := (HB.out.cell (World.block_lt_of_cell? w _ hx663_2)).trans hx663_2
     replace p663 := eq_true p663
     replace q663 := eq_true q663
     go_upto_if 15 with (first | ((with_reducible refine gate_callee (f := 20) rfl ?_); refine gL_ (some 14) Tryd.func20 #[.agg #[.bool ((rd_T23 l0 x3_1).f0), .string ((rd_T23 l0 x3_1).f1), .string ((rd_T23 l0 x3_1).f2)]] ?_; (with_reducible refine (idiomref02_Check.calls k1 ((rd_T23 l0 x3_1).f0) ((rd_T23 l0 x3_1).f1) ((rd_T23 l0 x3_1).f2) t664 _ A4.out).mono ?_); rintro e w6 ⟨rfl, hb⟩; refine ⟨_, rfl, ?_⟩; replace HB := Aside0.mk (below_step hb_ hb)))
     (try simp only [Act.put, List.setIfInBounds_toArray, List.set_cons_zero, List.set_cons_succ])
     have H := HF5.out
     clear HF5
     by_cases c7 : t664 = 0
     ·rw [if_pos c7] at H
      have c7b0 : (t664 == 0) = true := beq_iff_eq.mpr c7
      have c7b1 : (t664 != 0) = false := bne_eq_false_iff_eq.mpr c7
      clear c7
      (first | rw [c7b0] | (simp only [i64_w, i32_w]; rw [c7b0]) | rw [c7b1] | skip)
      have H' := Aside0.mk H
      clear H
      go_wp2
      go_roundg k1
      case measure => have := HK1.out; omega
      case rel => exact ⟨(wrap64 (x3_1 + 1)), (by first | rfl | (simp; done) | (simp [*]; done)), H', ⟨by have := HK1.out; omega⟩, ⟨by repeat (first | (with_reducible first | exact HB.out | apply below_alloc | apply pw_below_drewN | apply below_drew1) | exact HB.out)⟩⟩
     ·rw [if_neg c7] at H
      have c7b0 : (t664 == 0) = false := beq_eq_false_iff_ne.mpr c7
      have c7b1 : (t664 != 0) = true := bne_iff_ne.mpr c7
      (first | rw [c7b0] | (simp only [i64_w, i32_w]; rw [c7b0]) | rw [c7b1] | skip)
      obtain rfl := Option.some.inj H
      go_wp2
      go_ret
      exact ⟨by first | rfl | (simp [errW_none, errW_some] <;> rfl) | (simp [*, errW_none, errW_some] <;> rfl) | (simp [bne_nil_]; done), by repeat (first | (with_reducible first | exact HB.out | apply below_alloc | apply pw_below_drewN | apply below_drew1) | exact HB.out)⟩
    ·rw [if_neg c3] at H
     exact absurd H (by simp)
   ·rw [if_neg c2] at H
    have c2b0 : decide (x3_1 < (l0.length : Int)) = false := decide_eq_false c2
    clear c2
    obtain rfl := Option.some.inj H
    go_wp2
    go_ret
    exact ⟨by first | rfl | (simp [errW_none, errW_some] <;> rfl) | (simp [*, errW_none, errW_some] <;> rfl) | (simp [bne_nil_]; done), by repeat (first | (with_reducible first | exact HB.out | apply below_alloc | apply pw_below_drewN | apply below_drew1) | exact HB.out)⟩
end Go.Proofs.YtihjcaglhjepdaaDoor.P
namespace Go.Proofs.YtihjcaglhjepdaaDoor.P
open Go.RowKit Go.Proofs.YtihjcaglhjepdaaDoorW.PrintWords Go.Proofs.YtihjcaglhjepdaaDoorW.PrintLast Go.Proofs.YtihjcaglhjepdaaDoorW.PrintMore
attribute [local go_sem] max2_int max_two
set_option linter.unusedVariables false
set_option linter.unusedSimpArgs false
def idiomlaw02_great.f (k : Nat) (a0_0 : Bool) (a0_1 : ByteArray) (a0_2 : ByteArray) (a1_0 : Bool) (a1_1 : ByteArray) (a1_2 : ByteArray) : Option (Bool) := (decimal_Compare.f k a0_0 a0_1 a0_2 a1_0 a1_1 a1_2).bind fun bt667 => (if bt667.2 = 0 then (some (bt667.1 == 0)) else (some false))
set_option maxHeartbeats 8000000 in
set_option maxRecDepth 100000 in
theorem idiomlaw02_great.calls (k : Nat) (a0_0 : Bool) (a0_1 : ByteArray) (a0_2 : ByteArray) (a1_0 : Bool) (a1_1 : ByteArray) (a1_2 : ByteArray) (r : Bool) (w : World) (h : idiomlaw02_great.f k a0_0 a0_1 a0_2 a1_0 a1_1 a1_2 = some r) :
    Calls Tryd.prog 38 #[.agg #[.bool a0_0, .string a0_1, .string a0_2], .agg #[.bool a1_0, .string a1_1, .string a1_2]] w fun e w' => e = .returned (.bool r) ∧ Below w.heap.size w w' := by
 have hu23 := Tryd.underlying23
 have HB := Aside0.mk (Below.refl w.heap.size w)
 unfold idiomlaw02_great.f at h
 have H := h
 clear h
 replace H := Option.bind_eq_some_iff.mp H
 obtain ⟨⟨t667, t668⟩, A30, H⟩ := H
 try dsimp only at H
 have A3 := Aside0.mk A30
 clear A30
 by_cases c4 : t668 = 0
 ·rw [if_pos c4] at H
  have c4b0 : (t668 == 0) = true := beq_iff_eq.mpr c4
  have c4b1 : (t668 != 0) = false := bne_eq_false_iff_eq.mpr c4
  clear c4
  obtain rfl := Option.some.inj H
  go_enter Tryd.func38, Tryd.ntmps38
  go_wp2_with (first | ((with_reducible refine gate_dst (N := 2) rfl ?_); refine bx_ #[.bool a0_0, .string a0_1, .string a0_2] 23 ?_; intro gb665 hg w5 hbox hb; have BK665 := Aside0.mk (hbox); have GW665 := Aside0.mk ((by rw [hg]; exact (below_size hb_) : w.heap.size ≤ gb665)); have GE665 := Aside0.mk ((by rw [hg]; exact (below_size hb_) : w.heap.size ≤ gb665)); replace HB := Aside0.mk (below_step hb_ hb); clear hb hbox hg) | ((with_reducible refine gate_dst (N := 3) rfl ?_); refine bx_ #[.bool a1_0, .string a1_1, .string a1_2] 23 ?_; intro gb666 hg w6 hbox hb; have BK666 := Aside0.mk (hbox); have GW666 := Aside0.mk ((by rw [hg]; exact (below_size hb_) : w.heap.size ≤ gb666)); have GE666 := Aside0.mk ((by rw [hg]; exact (below_size hb_) : w.heap.size ≤ gb666)); have NB665_666 := BK665.nl hg; have NB666_665 := BK665.ng hg; replace BK665 := BK665.bl hb; replace HB := Aside0.mk (below_step hb_ hb); clear hb hbox hg; have hnb7 := NB665_666.out; have hnc7 := NB666_665.out; obtain ⟨hcz8_0, hcz8_1, hcz8_2, hfz8_0, hfz8_1, hfz8_2⟩ := BK665.c3; obtain ⟨hcz9_0, hcz9_1, hcz9_2, hfz9_0, hfz9_1, hfz9_2⟩ := BK666.c3) | ((with_reducible refine gate_callee (f := 29) rfl ?_); refine gL_ (some 10) Tryd.func29 #[.agg #[.bool a0_0, .string a0_1, .string a0_2], .agg #[.bool a1_0, .string a1_1, .string a1_2]] ?_; (with_reducible refine (decimal_Compare.calls k a0_0 a0_1 a0_2 a1_0 a1_1 a1_2 t667 t668 _ A3.out).mono ?_); rintro e w10 ⟨rfl, hb⟩; refine ⟨_, rfl, ?_⟩; replace BK665 := BK665.bl hb; replace BK666 := BK666.bl hb; replace HB := Aside0.mk (below_step hb_ hb)))
  go_ret
  exact ⟨by first | rfl | (simp [errW_none, errW_some] <;> rfl) | (simp [*, errW_none, errW_some] <;> rfl) | (simp [bne_nil_]; done), by repeat (first | (with_reducible first | exact HB.out | apply below_alloc | apply pw_below_drewN | apply below_drew1 | refine below_set ?_ GE665.out | refine below_set ?_ GE666.out) | exact HB.out)⟩
 ·rw [if_neg c4] at H
  have c4b0 : (t668 == 0) = false := beq_eq_false_iff_ne.mpr c4
  have c4b1 : (t668 != 0) = true := bne_iff_ne.mpr c4
  obtain rfl := Option.some.inj H
  go_enter Tryd.func38, Tryd.ntmps38
  go_wp2_with (first | ((with_reducible refine gate_dst (N := 2) rfl ?_); refine bx_ #[.bool a0_0, .string a0_1, .string a0_2] 23 ?_; intro gb665 hg w11 hbox hb; have BK665 := Aside0.mk (hbox); have GW665 := Aside0.mk ((by rw [hg]; exact (below_size hb_) : w.heap.size ≤ gb665)); have GE665 := Aside0.mk ((by rw [hg]; exact (below_size hb_) : w.heap.size ≤ gb665)); replace HB := Aside0.mk (below_step hb_ hb); clear hb hbox hg) | ((with_reducible refine gate_dst (N := 3) rfl ?_); refine bx_ #[.bool a1_0, .string a1_1, .string a1_2] 23 ?_; intro gb666 hg w12 hbox hb; have BK666 := Aside0.mk (hbox); have GW666 := Aside0.mk ((by rw [hg]; exact (below_size hb_) : w.heap.size ≤ gb666)); have GE666 := Aside0.mk ((by rw [hg]; exact (below_size hb_) : w.heap.size ≤ gb666)); have NB665_666 := BK665.nl hg; have NB666_665 := BK665.ng hg; replace BK665 := BK665.bl hb; replace HB := Aside0.mk (below_step hb_ hb); clear hb hbox hg; have hnb13 := NB665_666.out; have hnc13 := NB666_665.out; obtain ⟨hcz14_0, hcz14_1, hcz14_2, hfz14_0, hfz14_1, hfz14_2⟩ := BK665.c3; obtain ⟨hcz15_0, hcz15_1, hcz15_2, hfz15_0, hfz15_1, hfz15_2⟩ := BK666.c3) | ((with_reducible refine gate_callee (f := 29) rfl ?_); refine gL_ (some 10) Tryd.func29 #[.agg #[.bool a0_0, .string a0_1, .string a0_2], .agg #[.bool a1_0, .string a1_1, .string a1_2]] ?_; (with_reducible refine (decimal_Compare.calls k a0_0 a0_1 a0_2 a1_0 a1_1 a1_2 t667 t668 _ A3.out).mono ?_); rintro e w16 ⟨rfl, hb⟩; refine ⟨_, rfl, ?_⟩; replace BK665 := BK665.bl hb; replace BK666 := BK666.bl hb; replace HB := Aside0.mk (below_step hb_ hb)))
  go_ret
  exact ⟨by first | rfl | (simp [errW_none, errW_some] <;> rfl) | (simp [*, errW_none, errW_some] <;> rfl) | (simp [bne_nil_]; done), by repeat (first | (with_reducible first | exact HB.out | apply below_alloc | apply pw_below_drewN | apply below_drew1 | refine below_set ?_ GE665.out | refine below_set ?_ GE666.out) | exact HB.out)⟩
end Go.Proofs.YtihjcaglhjepdaaDoor.P
