/- A part of the proof. Part 3 of 7; its texts were written by programs, some out of the kit's print. -/
import Derived.Test.YtihjcaglhjepdaaDoorZOm1
import Derived.Shelf.LaysM
import Derived.Shelf.Strings.Repeat
import Derived.Test.YtihjcaglhjepdaaDoorProg
import Derived.Shelf.Strconv.Itoa3
import Derived.Lib.ItoaMem
namespace Go.Proofs
open Go.Shelf
def Tryd.lays105_ren : Go.Shelf.Ren := ⟨fun | 105 => 79 | 212 => 105 | 99 => 106 | 165 => 107 | 166 => 108 | 170 => 109 | 169 => 110 | 263 => 124 | 264 => 125 | 206 => 117 | 240 => 126 | 241 => 127 | 276 => 136 | 277 => 137 | n => n, fun | 9 => 9 | 3 => 3 | 4 => 4 | 20 => 20 | 0 => 0 | 46 => 109 | 109 => 110 | 5 => 5 | 72 => 114 | 76 => 118 | 51 => 129 | 146 => 130 | 53 => 132 | 148 => 133 | 70 => 112 | 37 => 68 | 75 => 117 | 127 => 135 | 164 => 139 | 80 => 121 | n => n, fun | n => n⟩
theorem Tryd.lays105 : Go.Proofs.Lays.n105 Tryd.prog Tryd.lays105_ren := {
  mixed := by kernel_rfl
  f99 := Tryd.func106.trans (congrArg some (by kernel_rfl))
  f105 := Tryd.func79.trans (congrArg some (by kernel_rfl))
  f165 := Tryd.func107.trans (congrArg some (by kernel_rfl))
  f166 := Tryd.func108.trans (congrArg some (by kernel_rfl))
  f169 := Tryd.func110.trans (congrArg some (by kernel_rfl))
  f170 := Tryd.func109.trans (congrArg some (by kernel_rfl))
  f206 := Tryd.func117.trans (congrArg some (by kernel_rfl))
  f212 := Tryd.func105.trans (congrArg some (by kernel_rfl))
  f240 := Tryd.func126.trans (congrArg some (by kernel_rfl))
  f241 := Tryd.func127.trans (congrArg some (by kernel_rfl))
  f263 := Tryd.func124.trans (congrArg some (by kernel_rfl))
  f264 := Tryd.func125.trans (congrArg some (by kernel_rfl))
  f276 := Tryd.func136.trans (congrArg some (by kernel_rfl))
  f277 := Tryd.func137.trans (congrArg some (by kernel_rfl))
  t0 := Tryd.underlying0
  a0 := Tryd.isAgg0
  z0 := Tryd.sizeOf0
  v0 := Tryd.zeroValue0
  t3 := Tryd.underlying3
  a3 := Tryd.isAgg3
  z3 := Tryd.sizeOf3
  v3 := Tryd.zeroValue3
  t4 := Tryd.underlying4
  a4 := Tryd.isAgg4
  z4 := Tryd.sizeOf4
  v4 := Tryd.zeroValue4
  t5 := Tryd.underlying5
  a5 := Tryd.isAgg5
  z5 := Tryd.sizeOf5
  v5 := Tryd.zeroValue5
  t9 := Tryd.underlying9
  a9 := Tryd.isAgg9
  z9 := Tryd.sizeOf9
  v9 := Tryd.zeroValue9
  t20 := Tryd.underlying20
  a20 := Tryd.isAgg20
  z20 := Tryd.sizeOf20
  v20 := Tryd.zeroValue20
  t37 := Tryd.underlying68
  a37 := Tryd.isAgg68
  z37 := Tryd.sizeOf68
  v37 := Tryd.zeroValue68
  t46 := Tryd.underlying109
  a46 := Tryd.isAgg109
  z46 := Tryd.sizeOf109
  v46 := Tryd.zeroValue109
  t51 := Tryd.underlying129
  a51 := Tryd.isAgg129
  z51 := Tryd.sizeOf129
  v51 := Tryd.zeroValue129
  t53 := Tryd.underlying132
  a53 := Tryd.isAgg132
  z53 := Tryd.sizeOf132
  v53 := Tryd.zeroValue132
  t70 := Tryd.underlying112
  a70 := Tryd.isAgg112
  z70 := Tryd.sizeOf112
  v70 := Tryd.zeroValue112
  t72 := Tryd.underlying114
  a72 := Tryd.isAgg114
  z72 := Tryd.sizeOf114
  v72 := Tryd.zeroValue114
  t75 := Tryd.underlying117
  a75 := Tryd.isAgg117
  z75 := Tryd.sizeOf117
  v75 := Tryd.zeroValue117
  t76 := Tryd.underlying118
  a76 := Tryd.isAgg118
  z76 := Tryd.sizeOf118
  v76 := Tryd.zeroValue118
  t109 := Tryd.underlying110
  a109 := Tryd.isAgg110
  z109 := Tryd.sizeOf110
  v109 := Tryd.zeroValue110
  t127 := Tryd.underlying135
  a127 := Tryd.isAgg135
  z127 := Tryd.sizeOf135
  v127 := Tryd.zeroValue135
  t146 := Tryd.underlying130
  a146 := Tryd.isAgg130
  z146 := Tryd.sizeOf130
  v146 := Tryd.zeroValue130
  t148 := Tryd.underlying133
  a148 := Tryd.isAgg133
  z148 := Tryd.sizeOf133
  v148 := Tryd.zeroValue133
  t164 := Tryd.underlying139
  a164 := Tryd.isAgg139
  z164 := Tryd.sizeOf139
  v164 := Tryd.zeroValue139 }
theorem Tryd.Builder_Extra_105 : Builder.Extra Tryd.prog Tryd.lays105_ren := {
  sizeBuilder := by kernel_rfl
  liesBuilder := by kernel_rfl
  t5 := Tryd.underlying5
  a5 := Tryd.isAgg5
  z5 := Tryd.sizeOf5
  v5 := Tryd.zeroValue5
  infoByte := by kernel_rfl
  cellsByte := by kernel_rfl
  sizeByte := by kernel_rfl
  neB5 := by decide }
open Go.RowKit Go.Lib in
theorem Tryd.strings_Repeat (s : ByteArray) (c : Nat) (w : World) (hc : c ≤ 9223372036854775807) (hlen : s.size * c ≤ 140737488355328) :
    Calls Tryd.prog 79 #[.string s, .int .i64 c] w fun e w' => e = .returned (.string ⟨(Lib.repeatL s.data.toList c).toArray⟩) ∧ Below w.heap.size w w' := Any.strings_Repeat Tryd.lays105 Tryd.Builder_Extra_105 s c w hc hlen
end Go.Proofs
namespace Go.Proofs.YtihjcaglhjepdaaDoor.P
open Go.RowKit Go.Proofs.YtihjcaglhjepdaaDoorW.PrintWords Go.Proofs.YtihjcaglhjepdaaDoorW.PrintLast Go.Proofs.YtihjcaglhjepdaaDoorW.PrintMore
def strings_Repeat.f (a0 : ByteArray) (a1 : Int) : Option (ByteArray) :=
  if 0 ≤ a1 ∧ a1 ≤ 1048576 ∧ a0.size ≤ 1048576 then some ⟨(Lib.repeatL a0.data.toList a1.toNat).toArray⟩ else none
theorem strings_Repeat.calls (a0 : ByteArray) (a1 : Int) (r : ByteArray) (w : World) (h : strings_Repeat.f a0 a1 = some r) :
    Calls Tryd.prog 79 #[.string a0, .int .i64 a1] w fun e w' => e = .returned (.string r) ∧ Below w.heap.size w w' := by
  unfold strings_Repeat.f at h
  split at h
  · rename_i hc
    obtain ⟨h0, h1, h2⟩ := hc
    obtain rfl := Option.some.inj h
    obtain ⟨n, rfl⟩ := Int.eq_ofNat_of_zero_le h0
    have hl : a0.size * n ≤ 1048576 * 1048576 := Nat.mul_le_mul h2 (by omega)
    exact Tryd.strings_Repeat a0 n w (by omega) (by omega)
  · cases h
end Go.Proofs.YtihjcaglhjepdaaDoor.P
namespace Go.Proofs.YtihjcaglhjepdaaDoor.P
open Go.RowKit Go.Proofs.YtihjcaglhjepdaaDoorW.PrintWords Go.Proofs.YtihjcaglhjepdaaDoorW.PrintLast Go.Proofs.YtihjcaglhjepdaaDoorW.PrintMore
attribute [local go_sem] max2_int max_two
set_option linter.unusedVariables false
set_option linter.unusedSimpArgs false
def idiomref02_If.f (a0 : Bool) (a1 : Int) : Option (Int) := if a0 = true then (some a1) else (some 0)
set_option maxHeartbeats 8000000 in
set_option maxRecDepth 100000 in
theorem idiomref02_If.calls (a0 : Bool) (a1 : Int) (r : Int) (w : World) (h : idiomref02_If.f a0 a1 = some r) :
    Calls Tryd.prog 80 #[.bool a0, .int .i64 a1] w fun e w' => e = .returned (.int .i64 r) ∧ Drawn0 w w' := by
 unfold idiomref02_If.f at h
 have H := h
 clear h
 by_cases c3 : a0 = true
 ·subst c3
  have H1 : (some a1) = some r := by rw [if_pos rfl] at H; exact H
  clear H
  have H := H1
  clear H1
  obtain rfl := Option.some.inj H
  go_enter Tryd.func80, Tryd.ntmps80
  go_wp2
  go_ret
  exact ⟨by first | rfl | (simp; done) | (simp [*]; done), by repeat (first | exact Drawn0.refl _ | apply Drawn0.step)⟩
 ·replace c3 := Bool.eq_false_iff.mpr c3
  subst c3
  have H1 : (some 0) = some r := by rw [if_neg (show ¬ (false = true) by decide)] at H; exact H
  clear H
  have H := H1
  clear H1
  obtain rfl := Option.some.inj H
  go_enter Tryd.func80, Tryd.ntmps80
  go_wp2
  go_ret
  exact ⟨by first | rfl | (simp; done) | (simp [*]; done), by repeat (first | exact Drawn0.refl _ | apply Drawn0.step)⟩
end Go.Proofs.YtihjcaglhjepdaaDoor.P
namespace Go.Proofs.YtihjcaglhjepdaaDoor.P
open Go.RowKit Go.Proofs.YtihjcaglhjepdaaDoorW.PrintWords Go.Proofs.YtihjcaglhjepdaaDoorW.PrintLast Go.Proofs.YtihjcaglhjepdaaDoorW.PrintMore
attribute [local go_sem] max2_int max_two
set_option linter.unusedVariables false
set_option linter.unusedSimpArgs false
mutual
def idiomref02_Pad.j0 : Nat → Int → Int → Bool → ByteArray → ByteArray → Option (Bool × ByteArray × ByteArray × Int)
  | 0, _, _, _, _, _ => none
  | k + 1, x1, x6, x851000, x851001, x851002 => if x6 = 0 then (idiomref02_Pad.l0 k x1 x851000 x851001 x851002) else (some (false, (⟨#[]⟩ : ByteArray), (⟨#[]⟩ : ByteArray), x6))
def idiomref02_Pad.l0 : Nat → Int → Bool → ByteArray → ByteArray → Option (Bool × ByteArray × ByteArray × Int)
  | 0, _, _, _, _ => none
  | k + 1, x1, x851000, x851001, x851002 => if (x851002.size : Int) < x1 then (if x851002.size + 1 ≤ 9223372036854775807 then (idiomref02_Pad.l0 k x1 x851000 x851001 (x851002 ++ (⟨#[48]⟩ : ByteArray))) else (none)) else (if (wrap64 ((x851001.size : Int) + (x851002.size : Int))) > 40 then (some (false, (⟨#[]⟩ : ByteArray), (⟨#[]⟩ : ByteArray), 3)) else (some (x851000, x851001, x851002, 0)))
end
def idiomref02_Pad.f (k : Nat) (a0_0 : Bool) (a0_1 : ByteArray) (a0_2 : ByteArray) (a1 : Int) : Option (Bool × ByteArray × ByteArray × Int) := (idiomref02_Check.f k a0_0 a0_1 a0_2).bind fun t852 => (if a1 < 0 then ((idiomref02_If.f true 1).bind fun t853 => ((idiomref02_First.f k (([t852, t853] : List Int))).bind fun t857 => (idiomref02_Pad.j0 k a1 t857 a0_0 a0_1 a0_2))) else ((idiomref02_If.f (decide (a1 > 40)) 1).bind fun t858 => ((idiomref02_First.f k (([t852, t858] : List Int))).bind fun t862 => (idiomref02_Pad.j0 k a1 t862 a0_0 a0_1 a0_2))))
set_option maxHeartbeats 8000000 in
set_option maxRecDepth 100000 in
theorem idiomref02_Pad.calls (k : Nat) (a0_0 : Bool) (a0_1 : ByteArray) (a0_2 : ByteArray) (a1 : Int) (r1 : Bool) (r2 : ByteArray) (r3 : ByteArray) (r4 : Int) (w : World) (h : idiomref02_Pad.f k a0_0 a0_1 a0_2 a1 = some (r1, r2, r3, r4)) :
    Calls Tryd.prog 43 #[.agg #[.bool a0_0, .string a0_1, .string a0_2], .int .i64 a1] w fun e w' => e = .returned (.tuple #[.agg #[.bool r1, .string r2, .string r3], .int .i64 r4]) ∧ Below w.heap.size w w' := by
 have hu23 := Tryd.underlying23
 have HB := Aside0.mk (Below.refl w.heap.size w)
 unfold idiomref02_Pad.f at h
 have H := h
 clear h
 have HC3 := Aside0.mk H
 clear H
 go_enter Tryd.func43, Tryd.ntmps43
 go_upto_region 1 with (first | ((with_reducible refine gate_dst (N := 2) rfl ?_); refine bx_ #[.bool a0_0, .string a0_1, .string a0_2] 23 ?_; intro gb850 hg w4 hbox hb; have BK850 := Aside0.mk (hbox); have GW850 := Aside0.mk ((by rw [hg]; exact (below_size hb_) : w.heap.size ≤ gb850)); have GE850 := Aside0.mk ((by rw [hg]; exact (below_size hb_) : w.heap.size ≤ gb850)); replace HB := Aside0.mk (below_step hb_ hb); clear hb hbox hg) | ((with_reducible refine gate_dst (N := 4) rfl ?_); refine bx_ #[.bool false, .string (⟨#[]⟩ : ByteArray), .string (⟨#[]⟩ : ByteArray)] 23 ?_; intro gb851 hg w5 hbox hb; have BK851 := Aside0.mk (hbox); have GW851 := Aside0.mk ((by rw [hg]; exact (below_size hb_) : w.heap.size ≤ gb851)); have GE851 := Aside0.mk ((by rw [hg]; exact (below_size hb_) : w.heap.size ≤ gb851)); have NB850_851 := Aside0.mk ((by rw [hg]; exact Nat.ne_of_lt (blk_lt (g := gb850) (o := .cells #[.bool a0_0, .string a0_1, .string a0_2] 23 (0, 0)) (by (with_reducible repeat (first | refine blk_drewN ?_ _ | refine blk_drew ?_ | refine blk_alloc ?_ _)); exact BK850.out)) : gb850 ≠ gb851)); have NB851_850 := Aside0.mk ((by rw [hg]; exact Nat.ne_of_gt (blk_lt (g := gb850) (o := .cells #[.bool a0_0, .string a0_1, .string a0_2] 23 (0, 0)) (by (with_reducible repeat (first | refine blk_drewN ?_ _ | refine blk_drew ?_ | refine blk_alloc ?_ _)); exact BK850.out)) : gb851 ≠ gb850)); replace BK850 := Aside0.mk (blk_below (g := gb850) (o := .cells #[.bool a0_0, .string a0_1, .string a0_2] 23 (0, 0)) (by (with_reducible repeat (first | refine blk_drewN ?_ _ | refine blk_drew ?_ | refine blk_alloc ?_ _)); exact BK850.out) hb); replace HB := Aside0.mk (below_step hb_ hb); clear hb hbox hg))
 (try simp only [Act.put, List.setIfInBounds_toArray, List.set_cons_zero, List.set_cons_succ])
 go_cut [6] (fun v6 wc => ∃ (kq : Nat) (x6_2 : Int), v6 = .int .i64 x6_2 ∧ Aside0 (idiomref02_Pad.j0 kq a1 x6_2 a0_0 a0_1 a0_2 = some (r1, r2, r3, r4)) ∧ Aside0 (kq ≤ k) ∧ Aside0 (wc.heap[gb850]? = some (.cells #[.bool a0_0, .string a0_1, .string a0_2] 23 (0, 0))) ∧ Aside0 (wc.heap[gb851]? = some (.cells #[.bool false, .string (⟨#[]⟩ : ByteArray), .string (⟨#[]⟩ : ByteArray)] 23 (0, 0))) ∧ Aside0 (Below w.heap.size w wc))
 case first =>
  have H := HC3.out
  clear HC3
  replace H := Option.bind_eq_some_iff.mp H
  obtain ⟨t852, A60, H⟩ := H
  try dsimp only at H
  have A6 := Aside0.mk A60
  clear A60
  by_cases c7 : a1 < 0
  ·rw [if_pos c7] at H
   have c7b0 : decide (a1 < 0) = true := decide_eq_true c7
   clear c7
   (first | rw [c7b0] | (simp only [i64_w, i32_w]; rw [c7b0]) | skip)
   replace H := Option.bind_eq_some_iff.mp H
   obtain ⟨t853, A80, H⟩ := H
   try dsimp only at H
   have A8 := Aside0.mk A80
   clear A80
   obtain ⟨y854, hy854⟩ : ∃ y_ : List Int, y_ = (([t852, t853] : List Int)) := ⟨_, rfl⟩
   rw [← hy854] at H
   have Ny854 := Aside0.mk hy854
   clear hy854
   replace H := Option.bind_eq_some_iff.mp H
   obtain ⟨t857, A90, H⟩ := H
   try dsimp only at H
   have A9 := Aside0.mk A90
   clear A90
   have H' := Aside0.mk H
   clear H
   have hnb10 := NB850_851.out
   have hnc10 := NB851_850.out
   obtain ⟨hcz11_0, hcz11_1, hcz11_2, hfz11_0, hfz11_1, hfz11_2⟩ := BK850.c3
   go_wp2_with (first | ((with_reducible refine gate_callee (f := 20) rfl ?_); refine gL_ (some 8) Tryd.func20 #[.agg #[.bool a0_0, .string a0_1, .string a0_2]] ?_; (with_reducible refine (idiomref02_Check.calls k a0_0 a0_1 a0_2 t852 _ A6.out).mono ?_); rintro e w12 ⟨rfl, hb⟩; refine ⟨_, rfl, ?_⟩; replace BK850 := Aside0.mk (blk_below (g := gb850) (o := .cells #[.bool a0_0, .string a0_1, .string a0_2] 23 (0, 0)) (by (with_reducible repeat (first | refine blk_drewN ?_ _ | refine blk_drew ?_ | refine blk_alloc ?_ _)); exact BK850.out) hb); replace BK851 := Aside0.mk (blk_below (g := gb851) (o := .cells #[.bool false, .string (⟨#[]⟩ : ByteArray), .string (⟨#[]⟩ : ByteArray)] 23 (0, 0)) (by (with_reducible repeat (first | refine blk_drewN ?_ _ | refine blk_drew ?_ | refine blk_alloc ?_ _)); exact BK851.out) hb); replace HB := Aside0.mk (below_step hb_ hb)) | ((with_reducible refine gate_callee (f := 80) rfl ?_); refine gL_ (some 15) Tryd.func80 #[.bool true, .int .i64 1] ?_; (with_reducible refine (idiomref02_If.calls true 1 t853 _ A8.out).mono ?_); rintro e w' ⟨rfl, ⟨nd, rfl⟩⟩; refine ⟨_, rfl, ?_⟩) | ((with_reducible refine gate_dst (N := 16) rfl ?_); refine Kd.R_lit (Kd.int .i64) _ 24 ?hg (N := 16) ?hd (xs := ([t852, t853] : List Int)) (inner := [.int .i64 t852, .int .i64 t853]) (ok := fun _ => True) (okp := fun _ => True) ?hr ?hp (fun _ hk => hk) trivial (Below.refl _ _) (Nat.le_refl _) (by simp) ?_; (case hd => rfl); (case hg => rfl); (case hr => first | (go_simp; done) | (go_simp; rfl)); (case hp => exact (Reps.one (show Kd.M (Kd.int .i64) _ _ _ t852 [.int .i64 t852] from rfl) (Reps.one (show Kd.M (Kd.int .i64) _ _ _ t853 [.int .i64 t853] from rfl) (Reps.none _ _)))); intro v855 w13 ho14 hb hg_ hnew_; clear hg_ hnew_; (first | rw [← Ny854.out] at ho14 | (simp only [Int.reduceToNat] at ho14; rw [← Ny854.out] at ho14)); have HO856 := Aside0.mk (Kd.R_lower ho14 (below_size hb_)); replace BK850 := Aside0.mk (blk_below (g := gb850) (o := .cells #[.bool a0_0, .string a0_1, .string a0_2] 23 (0, 0)) (by (with_reducible repeat (first | refine blk_drewN ?_ _ | refine blk_drew ?_ | refine blk_alloc ?_ _)); exact BK850.out) hb); replace BK851 := Aside0.mk (blk_below (g := gb851) (o := .cells #[.bool false, .string (⟨#[]⟩ : ByteArray), .string (⟨#[]⟩ : ByteArray)] 23 (0, 0)) (by (with_reducible repeat (first | refine blk_drewN ?_ _ | refine blk_drew ?_ | refine blk_alloc ?_ _)); exact BK851.out) hb); replace HB := Aside0.mk (below_step hb_ hb); clear hb ho14; obtain ⟨Ao15, co15, eo15⟩ := Kd.R_slice HO856.out; subst eo15) | ((with_reducible refine gate_callee (f := 68) rfl ?_); refine gL_ (some 17) Tryd.func68 #[.slice Ao15 y854.length co15] ?_; (with_reducible refine (idiomref02_First.calls k _ _ y854 t857 _ ?side1 ?side2 A9.out).mono ?_); (case side1 => repeat (first | exact (Kd.R_reads' HO856.out).2.2 | (with_reducible refine Kd.C_alloc ?_ _) | (with_reducible refine Kd.C_drewN ?_ _) | (with_reducible refine Kd.C_drew ?_))); (case side2 => exact (Kd.R_reads' HO856.out).2.1); rintro e w' ⟨rfl, ⟨nd, rfl⟩⟩; refine ⟨_, rfl, ?_⟩))
   go_meet
   case rel => exact ⟨_, (t857), (by first | rfl | (simp; done) | (simp [*]; done)), H', ⟨by first | omega | exact Nat.le_refl _⟩, ⟨by (with_reducible repeat (first | refine blk_drewN ?_ _ | refine blk_drew ?_ | refine blk_alloc ?_ _)); exact BK850.out⟩, ⟨by (with_reducible repeat (first | refine blk_drewN ?_ _ | refine blk_drew ?_ | refine blk_alloc ?_ _)); exact BK851.out⟩, ⟨by repeat (first | (with_reducible first | exact HB.out | apply below_alloc | apply pw_below_drewN | apply below_drew1 | refine below_set ?_ GE850.out | refine below_set ?_ GE851.out) | exact HB.out)⟩⟩
  ·rw [if_neg c7] at H
   have c7b0 : decide (a1 < 0) = false := decide_eq_false c7
   clear c7
   (first | rw [c7b0] | (simp only [i64_w, i32_w]; rw [c7b0]) | skip)
   replace H := Option.bind_eq_some_iff.mp H
   obtain ⟨t858, A160, H⟩ := H
   try dsimp only at H
   have A16 := Aside0.mk A160
   clear A160
   obtain ⟨y859, hy859⟩ : ∃ y_ : List Int, y_ = (([t852, t858] : List Int)) := ⟨_, rfl⟩
   rw [← hy859] at H
   have Ny859 := Aside0.mk hy859
   clear hy859
   replace H := Option.bind_eq_some_iff.mp H
   obtain ⟨t862, A170, H⟩ := H
   try dsimp only at H
   have A17 := Aside0.mk A170
   clear A170
   have H' := Aside0.mk H
   clear H
   have hnb18 := NB850_851.out
   have hnc18 := NB851_850.out
   obtain ⟨hcz19_0, hcz19_1, hcz19_2, hfz19_0, hfz19_1, hfz19_2⟩ := BK850.c3
   go_wp2_with (first | ((with_reducible refine gate_callee (f := 20) rfl ?_); refine gL_ (some 8) Tryd.func20 #[.agg #[.bool a0_0, .string a0_1, .string a0_2]] ?_; (with_reducible refine (idiomref02_Check.calls k a0_0 a0_1 a0_2 t852 _ A6.out).mono ?_); rintro e w20 ⟨rfl, hb⟩; refine ⟨_, rfl, ?_⟩; replace BK850 := Aside0.mk (blk_below (g := gb850) (o := .cells #[.bool a0_0, .string a0_1, .string a0_2] 23 (0, 0)) (by (with_reducible repeat (first | refine blk_drewN ?_ _ | refine blk_drew ?_ | refine blk_alloc ?_ _)); exact BK850.out) hb); replace BK851 := Aside0.mk (blk_below (g := gb851) (o := .cells #[.bool false, .string (⟨#[]⟩ : ByteArray), .string (⟨#[]⟩ : ByteArray)] 23 (0, 0)) (by (with_reducible repeat (first | refine blk_drewN ?_ _ | refine blk_drew ?_ | refine blk_alloc ?_ _)); exact BK851.out) hb); replace HB := Aside0.mk (below_step hb_ hb)) | ((with_reducible refine gate_callee (f := 80) rfl ?_); refine gL_ (some 15) Tryd.func80 #[.bool (decide (a1 > 40)), .int .i64 1] ?_; (with_reducible refine (idiomref02_If.calls (decide (a1 > 40)) 1 t858 _ A16.out).mono ?_); rintro e w' ⟨rfl, ⟨nd, rfl⟩⟩; refine ⟨_, rfl, ?_⟩) | ((with_reducible refine gate_dst (N := 16) rfl ?_); refine Kd.R_lit (Kd.int .i64) _ 24 ?hg (N := 16) ?hd (xs := ([t852, t858] : List Int)) (inner := [.int .i64 t852, .int .i64 t858]) (ok := fun _ => True) (okp := fun _ => True) ?hr ?hp (fun _ hk => hk) trivial (Below.refl _ _) (Nat.le_refl _) (by simp) ?_; (case hd => rfl); (case hg => rfl); (case hr => first | (go_simp; done) | (go_simp; rfl)); (case hp => exact (Reps.one (show Kd.M (Kd.int .i64) _ _ _ t852 [.int .i64 t852] from rfl) (Reps.one (show Kd.M (Kd.int .i64) _ _ _ t858 [.int .i64 t858] from rfl) (Reps.none _ _)))); intro v860 w21 ho22 hb hg_ hnew_; clear hg_ hnew_; (first | rw [← Ny859.out] at ho22 | (simp only [Int.reduceToNat] at ho22; rw [← Ny859.out] at ho22)); have HO861 := Aside0.mk (Kd.R_lower ho22 (below_size hb_)); replace BK850 := Aside0.mk (blk_below (g := gb850) (o := .cells #[.bool a0_0, .string a0_1, .string a0_2] 23 (0, 0)) (by (with_reducible repeat (first | refine blk_drewN ?_ _ | refine blk_drew ?_ | refine blk_alloc ?_ _)); exact BK850.out) hb); replace BK851 := Aside0.mk (blk_below (g := gb851) (o := .cells #[.bool false, .string (⟨#[]⟩ : ByteArray), .string (⟨#[]⟩ : ByteArray)] 23 (0, 0)) (by (with_reducible repeat (first | refine blk_drewN ?_ _ | refine blk_drew ?_ | refine blk_alloc ?_ _)); exact BK851.out) hb); replace HB := Aside0.mk (below_step hb_ hb); clear hb ho22; obtain ⟨Ao23, co23, eo23⟩ := Kd.R_slice HO861.out; subst eo23) | ((with_reducible refine gate_callee (f := 68) rfl ?_); refine gL_ (some 17) Tryd.func68 #[.slice Ao23 y859.length co23] ?_; (with_reducible refine (idiomref02_First.calls k _ _ y859 t862 _ ?side1 ?side2 A17.out).mono ?_); (case side1 => repeat (first | exact (Kd.R_reads' HO861.out).2.2 | (with_reducible refine Kd.C_alloc ?_ _) | (with_reducible refine Kd.C_drewN ?_ _) | (with_reducible refine Kd.C_drew ?_))); (case side2 => exact (Kd.R_reads' HO861.out).2.1); rintro e w' ⟨rfl, ⟨nd, rfl⟩⟩; refine ⟨_, rfl, ?_⟩))
   go_meet
   case rel => exact ⟨_, (t862), (by first | rfl | (simp; done) | (simp [*]; done)), H', ⟨by first | omega | exact Nat.le_refl _⟩, ⟨by (with_reducible repeat (first | refine blk_drewN ?_ _ | refine blk_drew ?_ | refine blk_alloc ?_ _)); exact BK850.out⟩, ⟨by (with_reducible repeat (first | refine blk_drewN ?_ _ | refine blk_drew ?_ | refine blk_alloc ?_ _)); exact BK851.out⟩, ⟨by repeat (first | (with_reducible first | exact HB.out | apply below_alloc | apply pw_below_drewN | apply below_drew1 | refine below_set ?_ GE850.out | refine below_set ?_ GE851.out) | exact HB.out)⟩⟩
 case rest =>
  clear HC3
  obtain ⟨kq, x6_2, rfl, HA, HJ2, BK850, BK851, HB⟩ := hcut
  cases kq with
  | zero => exact absurd HA.out (by simp [idiomref02_Pad.j0])
  | succ kj2 =>
   have H := HA.out
   clear HA
   simp only [idiomref02_Pad.j0] at H
   by_cases c24 : x6_2 = 0
   ·rw [if_pos c24] at H
    have c24b0 : (x6_2 == 0) = true := beq_iff_eq.mpr c24
    have c24b1 : (x6_2 != 0) = false := bne_eq_false_iff_eq.mpr c24
    clear c24
    have H' := Aside0.mk H
    clear H
    go_wp2
    go_loopg [] kj2 (fun kq w' => ∃ (x851002_2 : ByteArray), Aside0 (idiomref02_Pad.l0 kq a1 a0_0 a0_1 x851002_2 = some (r1, r2, r3, r4)) ∧ Aside0 (kq ≤ kj2) ∧ Aside0 (w'.heap[gb850]? = some (.cells #[.bool a0_0, .string a0_1, .string x851002_2] 23 (0, 0))) ∧ Aside0 (w'.heap[gb851]? = some (.cells #[.bool false, .string (⟨#[]⟩ : ByteArray), .string (⟨#[]⟩ : ByteArray)] 23 (0, 0))) ∧ Aside0 (Below w.heap.size w w'))
    case atStart => exact ⟨(a0_2), H', ⟨Nat.le_refl _⟩, ⟨by (with_reducible repeat (first | refine blk_drewN ?_ _ | refine blk_drew ?_ | refine blk_alloc ?_ _)); exact BK850.out⟩, ⟨by (with_reducible repeat (first | refine blk_drewN ?_ _ | refine blk_drew ?_ | refine blk_alloc ?_ _)); exact BK851.out⟩, ⟨by repeat (first | (with_reducible first | exact HB.out | apply below_alloc | apply pw_below_drewN | apply below_drew1 | refine below_set ?_ GE850.out | refine below_set ?_ GE851.out) | exact HB.out)⟩⟩
    case round =>
     clear H'
     (try clear c24); (try clear c24b0); (try clear c24b1)
     obtain ⟨x851002_2, HA, HK2, BK850, BK851, HB⟩ := hrel
     cases gk with
     | zero => exact absurd HA.out (by simp [idiomref02_Pad.l0])
     | succ k2 =>
      have H := HA.out
      clear HA
      simp only [idiomref02_Pad.l0] at H
      by_cases c25 : (x851002_2.size : Int) < a1
      ·rw [if_pos c25] at H
       have c25b0 : decide ((x851002_2.size : Int) < a1) = true := decide_eq_true c25
       clear c25
       by_cases c26 : x851002_2.size + 1 ≤ 9223372036854775807
       ·rw [if_pos c26] at H
        have c26b0 := eq_true c26
        have c26b1 : decide (x851002_2.size + 1 ≤ 9223372036854775807) = true := decide_eq_true c26
        try have c26b2 : (9223372036854775807 < x851002_2.size + 1) = False := eq_false (Nat.not_lt.2 c26)
        have H' := Aside0.mk H
        clear H
        have hnb27 := NB850_851.out
        have hnc27 := NB851_850.out
        obtain ⟨hcz28_0, hcz28_1, hcz28_2, hfz28_0, hfz28_1, hfz28_2⟩ := BK850.c3
        go_wp2
        go_roundg k2
        case measure => have := HJ2.out; have := HK2.out; omega
        case rel => exact ⟨(x851002_2 ++ (⟨#[48]⟩ : ByteArray)), H', ⟨by have := HJ2.out; have := HK2.out; omega⟩, ⟨by (with_reducible repeat (first | refine blk_drewN ?_ _ | refine blk_drew ?_ | refine blk_alloc ?_ _)); refine blk_put (cs := #[.bool a0_0, .string a0_1, .string x851002_2]) ?_ 2 _ rfl; (with_reducible repeat (first | refine blk_drewN ?_ _ | refine blk_drew ?_ | refine blk_alloc ?_ _)); exact BK850.out⟩, ⟨by (with_reducible repeat (first | refine blk_drewN ?_ _ | refine blk_drew ?_ | refine blk_alloc ?_ _)); refine blk_far ?_ NB851_850.out _; (with_reducible repeat (first | refine blk_drewN ?_ _ | refine blk_drew ?_ | refine blk_alloc ?_ _)); exact BK851.out⟩, ⟨by repeat (first | (with_reducible first | exact HB.out | apply below_alloc | apply pw_below_drewN | apply below_drew1 | refine below_set ?_ GE850.out | refine below_set ?_ GE851.out) | exact HB.out)⟩⟩
       ·rw [if_neg c26] at H
        exact absurd H (by simp)
      ·rw [if_neg c25] at H
       have c25b0 : decide ((x851002_2.size : Int) < a1) = false := decide_eq_false c25
       clear c25
       by_cases c29 : (wrap64 ((a0_1.size : Int) + (x851002_2.size : Int))) > 40
       ·rw [if_pos c29] at H
        have c29b0 : decide (40 < (wrap64 ((a0_1.size : Int) + (x851002_2.size : Int)))) = true := decide_eq_true c29
        clear c29
        simp only [Option.some.injEq, Prod.mk.injEq] at H
        obtain ⟨rfl, rfl, rfl, rfl⟩ := H
        have hnb30 := NB850_851.out
        have hnc30 := NB851_850.out
        obtain ⟨hcz31_0, hcz31_1, hcz31_2, hfz31_0, hfz31_1, hfz31_2⟩ := BK850.c3
        obtain ⟨hcz32_0, hcz32_1, hcz32_2, hfz32_0, hfz32_1, hfz32_2⟩ := BK851.c3
        go_wp2
        refine bodyPost_ret (results_ct rfl _ _ gb851 23 #[.bool false, .string (⟨#[]⟩ : ByteArray), .string (⟨#[]⟩ : ByteArray)] (0, 0) _ rfl (by (with_reducible repeat (first | refine blk_drewN ?_ _ | refine blk_drew ?_ | refine blk_alloc ?_ _)); refine blk_put (cs := #[.bool false, .string (⟨#[]⟩ : ByteArray), .string (⟨#[]⟩ : ByteArray)]) ?_ 2 _ rfl; (with_reducible repeat (first | refine blk_drewN ?_ _ | refine blk_drew ?_ | refine blk_alloc ?_ _)); refine blk_put (cs := #[.bool false, .string (⟨#[]⟩ : ByteArray), .string (⟨#[]⟩ : ByteArray)]) ?_ 1 _ rfl; (with_reducible repeat (first | refine blk_drewN ?_ _ | refine blk_drew ?_ | refine blk_alloc ?_ _)); refine blk_put (cs := #[.bool false, .string (⟨#[]⟩ : ByteArray), .string (⟨#[]⟩ : ByteArray)]) ?_ 0 _ rfl; (with_reducible repeat (first | refine blk_drewN ?_ _ | refine blk_drew ?_ | refine blk_alloc ?_ _)); exact BK851.out) Tryd.underlying23 rfl (by kernel_rfl)) rfl ?_
        exact ⟨by first | rfl | (simp [errW_none, errW_some] <;> rfl) | (simp [*, errW_none, errW_some] <;> rfl) | (simp [bne_nil_]; done), by repeat (first | (with_reducible first | exact HB.out | apply below_alloc | apply pw_below_drewN | apply below_drew1 | refine below_set ?_ GE850.out | refine below_set ?_ GE851.out) | exact HB.out)⟩
       ·rw [if_neg c29] at H
        have c29b0 : decide (40 < (wrap64 ((a0_1.size : Int) + (x851002_2.size : Int)))) = false := decide_eq_false c29
        clear c29
        simp only [Option.some.injEq, Prod.mk.injEq] at H
        obtain ⟨rfl, rfl, rfl, rfl⟩ := H
        have hnb33 := NB850_851.out
        have hnc33 := NB851_850.out
        obtain ⟨hcz34_0, hcz34_1, hcz34_2, hfz34_0, hfz34_1, hfz34_2⟩ := BK850.c3
        obtain ⟨hcz35_0, hcz35_1, hcz35_2, hfz35_0, hfz35_1, hfz35_2⟩ := BK851.c3
        go_wp2
        refine bodyPost_ret (results_ct rfl _ _ gb851 23 #[.bool a0_0, .string a0_1, .string x851002_2] (0, 0) _ rfl (by (with_reducible repeat (first | refine blk_drewN ?_ _ | refine blk_drew ?_ | refine blk_alloc ?_ _)); refine blk_put (cs := #[.bool a0_0, .string a0_1, .string (⟨#[]⟩ : ByteArray)]) ?_ 2 _ rfl; (with_reducible repeat (first | refine blk_drewN ?_ _ | refine blk_drew ?_ | refine blk_alloc ?_ _)); refine blk_put (cs := #[.bool a0_0, .string (⟨#[]⟩ : ByteArray), .string (⟨#[]⟩ : ByteArray)]) ?_ 1 _ rfl; (with_reducible repeat (first | refine blk_drewN ?_ _ | refine blk_drew ?_ | refine blk_alloc ?_ _)); refine blk_put (cs := #[.bool false, .string (⟨#[]⟩ : ByteArray), .string (⟨#[]⟩ : ByteArray)]) ?_ 0 _ rfl; (with_reducible repeat (first | refine blk_drewN ?_ _ | refine blk_drew ?_ | refine blk_alloc ?_ _)); exact BK851.out) Tryd.underlying23 rfl (by kernel_rfl)) rfl ?_
        exact ⟨by first | rfl | (simp [errW_none, errW_some] <;> rfl) | (simp [*, errW_none, errW_some] <;> rfl) | (simp [bne_nil_]; done), by repeat (first | (with_reducible first | exact HB.out | apply below_alloc | apply pw_below_drewN | apply below_drew1 | refine below_set ?_ GE850.out | refine below_set ?_ GE851.out) | exact HB.out)⟩
   ·rw [if_neg c24] at H
    have c24b0 : (x6_2 == 0) = false := beq_eq_false_iff_ne.mpr c24
    have c24b1 : (x6_2 != 0) = true := bne_iff_ne.mpr c24
    simp only [Option.some.injEq, Prod.mk.injEq] at H
    obtain ⟨rfl, rfl, rfl, rfl⟩ := H
    have hnb36 := NB851_850.out
    have hnc36 := NB850_851.out
    obtain ⟨hcz37_0, hcz37_1, hcz37_2, hfz37_0, hfz37_1, hfz37_2⟩ := BK851.c3
    go_wp2
    refine bodyPost_ret (results_ct rfl _ _ gb851 23 #[.bool false, .string (⟨#[]⟩ : ByteArray), .string (⟨#[]⟩ : ByteArray)] (0, 0) _ rfl (by (with_reducible repeat (first | refine blk_drewN ?_ _ | refine blk_drew ?_ | refine blk_alloc ?_ _)); refine blk_put (cs := #[.bool false, .string (⟨#[]⟩ : ByteArray), .string (⟨#[]⟩ : ByteArray)]) ?_ 2 _ rfl; (with_reducible repeat (first | refine blk_drewN ?_ _ | refine blk_drew ?_ | refine blk_alloc ?_ _)); refine blk_put (cs := #[.bool false, .string (⟨#[]⟩ : ByteArray), .string (⟨#[]⟩ : ByteArray)]) ?_ 1 _ rfl; (with_reducible repeat (first | refine blk_drewN ?_ _ | refine blk_drew ?_ | refine blk_alloc ?_ _)); refine blk_put (cs := #[.bool false, .string (⟨#[]⟩ : ByteArray), .string (⟨#[]⟩ : ByteArray)]) ?_ 0 _ rfl; (with_reducible repeat (first | refine blk_drewN ?_ _ | refine blk_drew ?_ | refine blk_alloc ?_ _)); exact BK851.out) Tryd.underlying23 rfl (by kernel_rfl)) rfl ?_
    exact ⟨by first | rfl | (simp [errW_none, errW_some] <;> rfl) | (simp [*, errW_none, errW_some] <;> rfl) | (simp [bne_nil_]; done), by repeat (first | (with_reducible first | exact HB.out | apply below_alloc | apply pw_below_drewN | apply below_drew1 | refine below_set ?_ GE850.out | refine below_set ?_ GE851.out) | exact HB.out)⟩
end Go.Proofs.YtihjcaglhjepdaaDoor.P
namespace Go.Proofs.YtihjcaglhjepdaaDoor.P
open Go.RowKit Go.Proofs.YtihjcaglhjepdaaDoorW.PrintWords Go.Proofs.YtihjcaglhjepdaaDoorW.PrintLast Go.Proofs.YtihjcaglhjepdaaDoorW.PrintMore
attribute [local go_sem] max2_int max_two
set_option linter.unusedVariables false
set_option linter.unusedSimpArgs false
def idiomref02_Shift.j0 : Nat → Int → Int → Bool → ByteArray → ByteArray → Option (Bool × ByteArray × ByteArray × Int)
  | 0, _, _, _, _, _ => none
  | k + 1, x1, x6, x864000, x864001, x864002 => if x6 = 0 then (if x1 > (x864002.size : Int) then ((idiomref02_Num.f k x864000 x864001 x864002).bind fun t876 => ((idiomref02_Zeros.f k (wrap64 (x1 - (x864002.size : Int)))).bind fun t877 => (if t876.size + t877.size ≤ 9223372036854775807 then ((idiomref02_Make.f k x864000 (t876 ++ t877) 0).bind fun bt878 => (some (bt878.1, bt878.2.1, bt878.2.2.1, bt878.2.2.2))) else (none)))) else ((idiomref02_Num.f k x864000 x864001 x864002).bind fun t882 => ((idiomref02_Make.f k x864000 t882 (wrap64 ((x864002.size : Int) - x1))).bind fun bt883 => (some (bt883.1, bt883.2.1, bt883.2.2.1, bt883.2.2.2))))) else (some (false, (⟨#[]⟩ : ByteArray), (⟨#[]⟩ : ByteArray), x6))
def idiomref02_Shift.f (k : Nat) (a0_0 : Bool) (a0_1 : ByteArray) (a0_2 : ByteArray) (a1 : Int) : Option (Bool × ByteArray × ByteArray × Int) := (idiomref02_Check.f k a0_0 a0_1 a0_2).bind fun t865 => (if a1 < (-40) then ((idiomref02_If.f true 1).bind fun t866 => ((idiomref02_First.f k (([t865, t866] : List Int))).bind fun t870 => (idiomref02_Shift.j0 k a1 t870 a0_0 a0_1 a0_2))) else ((idiomref02_If.f (decide (a1 > 40)) 1).bind fun t871 => ((idiomref02_First.f k (([t865, t871] : List Int))).bind fun t875 => (idiomref02_Shift.j0 k a1 t875 a0_0 a0_1 a0_2))))
def idiomref02_Shift.T5 : Bool × List (List Nat × List Nat) := (true, [([], []), ([0], [0]), ([], []), ([2], [2]), ([], []), ([], []), ([5], [5]), ([6], [6]), ([4, 7], [4, 7]), ([8, 3], [8]), ([3, 9], [3, 9]), ([1, 10, 9], [1, 10]), ([11], [11]), ([11], [11]), ([12, 11, 0, 1, 2, 3, 4, 5, 6, 7, 8, 9, 10, 11, 12, 13], [12]), ([13, 14, 0, 1, 2, 3, 4, 5, 6, 7, 8, 9, 10, 11, 12, 13, 14], [13])])
def idiomref02_Shift.B5 : List Nat := [0, 1, 0, 4, 0, 0, 32, 96, 240, 508, 1020, 2047, 4095, 4095, 16383, 32767]
theorem idiomref02_Shift.tab5 : rtab .any (opsOf Tryd.f44 5) = idiomref02_Shift.T5 := by kernel_rfl
theorem idiomref02_Shift.bits5 : waitsOk idiomref02_Shift.T5.2 idiomref02_Shift.B5 = true := by kernel_rfl
def idiomref02_Shift.T6 : Bool × List (List Nat × List Nat) := (true, [([], []), ([0], [0]), ([], []), ([2], [2]), ([], []), ([4], [4]), ([5], [5]), ([], []), ([6, 7], [6, 7]), ([1, 3, 8, 3], [1, 3, 8]), ([9], [9]), ([9], [9]), ([10, 9, 0, 1, 2, 3, 4, 5, 6, 7, 8, 9, 10, 11], [10]), ([11, 12, 0, 1, 2, 3, 4, 5, 6, 7, 8, 9, 10, 11, 12], [11])])
def idiomref02_Shift.B6 : List Nat := [0, 1, 0, 4, 0, 16, 48, 0, 240, 511, 1023, 1023, 4095, 8191]
theorem idiomref02_Shift.tab6 : rtab .any (opsOf Tryd.f44 6) = idiomref02_Shift.T6 := by kernel_rfl
theorem idiomref02_Shift.bits6 : waitsOk idiomref02_Shift.T6.2 idiomref02_Shift.B6 = true := by kernel_rfl
set_option maxHeartbeats 8000000 in
set_option maxRecDepth 100000 in
theorem idiomref02_Shift.calls (k : Nat) (a0_0 : Bool) (a0_1 : ByteArray) (a0_2 : ByteArray) (a1 : Int) (r1 : Bool) (r2 : ByteArray) (r3 : ByteArray) (r4 : Int) (w : World) (h : idiomref02_Shift.f k a0_0 a0_1 a0_2 a1 = some (r1, r2, r3, r4)) :
    Calls Tryd.prog 44 #[.agg #[.bool a0_0, .string a0_1, .string a0_2], .int .i64 a1] w fun e w' => e = .returned (.tuple #[.agg #[.bool r1, .string r2, .string r3], .int .i64 r4]) ∧ Below w.heap.size w w' := by
 have hu23 := Tryd.underlying23
 have HB := Aside0.mk (Below.refl w.heap.size w)
 unfold idiomref02_Shift.f at h
 have H := h
 clear h
 have HC3 := Aside0.mk H
 clear H
 go_enter Tryd.func44, Tryd.ntmps44
 go_upto_region 1 with (first | ((with_reducible refine gate_dst (N := 2) rfl ?_); refine bx_ #[.bool a0_0, .string a0_1, .string a0_2] 23 ?_; intro gb863 hg w4 hbox hb; have BK863 := Aside0.mk (hbox); have GW863 := Aside0.mk ((by rw [hg]; exact (below_size hb_) : w.heap.size ≤ gb863)); have GE863 := Aside0.mk ((by rw [hg]; exact (below_size hb_) : w.heap.size ≤ gb863)); replace HB := Aside0.mk (below_step hb_ hb); clear hb hbox hg) | ((with_reducible refine gate_dst (N := 4) rfl ?_); refine bx_ #[.bool false, .string (⟨#[]⟩ : ByteArray), .string (⟨#[]⟩ : ByteArray)] 23 ?_; intro gb864 hg w5 hbox hb; have BK864 := Aside0.mk (hbox); have GW864 := Aside0.mk ((by rw [hg]; exact (below_size hb_) : w.heap.size ≤ gb864)); have GE864 := Aside0.mk ((by rw [hg]; exact (below_size hb_) : w.heap.size ≤ gb864)); have NB863_864 := Aside0.mk ((by rw [hg]; exact Nat.ne_of_lt (blk_lt (g := gb863) (o := .cells #[.bool a0_0, .string a0_1, .string a0_2] 23 (0, 0)) (by (with_reducible repeat (first | refine blk_drewN ?_ _ | refine blk_drew ?_ | refine blk_alloc ?_ _)); exact BK863.out)) : gb863 ≠ gb864)); have NB864_863 := Aside0.mk ((by rw [hg]; exact Nat.ne_of_gt (blk_lt (g := gb863) (o := .cells #[.bool a0_0, .string a0_1, .string a0_2] 23 (0, 0)) (by (with_reducible repeat (first | refine blk_drewN ?_ _ | refine blk_drew ?_ | refine blk_alloc ?_ _)); exact BK863.out)) : gb864 ≠ gb863)); replace BK863 := Aside0.mk (blk_below (g := gb863) (o := .cells #[.bool a0_0, .string a0_1, .string a0_2] 23 (0, 0)) (by (with_reducible repeat (first | refine blk_drewN ?_ _ | refine blk_drew ?_ | refine blk_alloc ?_ _)); exact BK863.out) hb); replace HB := Aside0.mk (below_step hb_ hb); clear hb hbox hg))
 (try simp only [Act.put, List.setIfInBounds_toArray, List.set_cons_zero, List.set_cons_succ])
 go_cut [6] (fun v6 wc => ∃ (kq : Nat) (x6_2 : Int), v6 = .int .i64 x6_2 ∧ Aside0 (idiomref02_Shift.j0 kq a1 x6_2 a0_0 a0_1 a0_2 = some (r1, r2, r3, r4)) ∧ Aside0 (kq ≤ k) ∧ Aside0 (wc.heap[gb863]? = some (.cells #[.bool a0_0, .string a0_1, .string a0_2] 23 (0, 0))) ∧ Aside0 (wc.heap[gb864]? = some (.cells #[.bool false, .string (⟨#[]⟩ : ByteArray), .string (⟨#[]⟩ : ByteArray)] 23 (0, 0))) ∧ Aside0 (Below w.heap.size w wc))
 case first =>
  have H := HC3.out
  clear HC3
  replace H := Option.bind_eq_some_iff.mp H
  obtain ⟨t865, A60, H⟩ := H
  try dsimp only at H
  have A6 := Aside0.mk A60
  clear A60
  by_cases c7 : a1 < (-40)
  ·rw [if_pos c7] at H
   have c7b0 : decide (a1 < (-40)) = true := decide_eq_true c7
   clear c7
   (first | rw [c7b0] | (simp only [i64_w, i32_w]; rw [c7b0]) | skip)
   replace H := Option.bind_eq_some_iff.mp H
   obtain ⟨t866, A80, H⟩ := H
   try dsimp only at H
   have A8 := Aside0.mk A80
   clear A80
   obtain ⟨y867, hy867⟩ : ∃ y_ : List Int, y_ = (([t865, t866] : List Int)) := ⟨_, rfl⟩
   rw [← hy867] at H
   have Ny867 := Aside0.mk hy867
   clear hy867
   replace H := Option.bind_eq_some_iff.mp H
   obtain ⟨t870, A90, H⟩ := H
   try dsimp only at H
   have A9 := Aside0.mk A90
   clear A90
   have H' := Aside0.mk H
   clear H
   have hnb10 := NB863_864.out
   have hnc10 := NB864_863.out
   obtain ⟨hcz11_0, hcz11_1, hcz11_2, hfz11_0, hfz11_1, hfz11_2⟩ := BK863.c3
   go_wp2_with (first | ((with_reducible refine gate_callee (f := 20) rfl ?_); refine gL_ (some 8) Tryd.func20 #[.agg #[.bool a0_0, .string a0_1, .string a0_2]] ?_; (with_reducible refine (idiomref02_Check.calls k a0_0 a0_1 a0_2 t865 _ A6.out).mono ?_); rintro e w12 ⟨rfl, hb⟩; refine ⟨_, rfl, ?_⟩; replace BK863 := Aside0.mk (blk_below (g := gb863) (o := .cells #[.bool a0_0, .string a0_1, .string a0_2] 23 (0, 0)) (by (with_reducible repeat (first | refine blk_drewN ?_ _ | refine blk_drew ?_ | refine blk_alloc ?_ _)); exact BK863.out) hb); replace BK864 := Aside0.mk (blk_below (g := gb864) (o := .cells #[.bool false, .string (⟨#[]⟩ : ByteArray), .string (⟨#[]⟩ : ByteArray)] 23 (0, 0)) (by (with_reducible repeat (first | refine blk_drewN ?_ _ | refine blk_drew ?_ | refine blk_alloc ?_ _)); exact BK864.out) hb); replace HB := Aside0.mk (below_step hb_ hb)) | ((with_reducible refine gate_callee (f := 80) rfl ?_); refine gL_ (some 15) Tryd.func80 #[.bool true, .int .i64 1] ?_; (with_reducible refine (idiomref02_If.calls true 1 t866 _ A8.out).mono ?_); rintro e w' ⟨rfl, ⟨nd, rfl⟩⟩; refine ⟨_, rfl, ?_⟩) | ((with_reducible refine gate_dst (N := 16) rfl ?_); refine Kd.R_lit (Kd.int .i64) _ 24 ?hg (N := 16) ?hd (xs := ([t865, t866] : List Int)) (inner := [.int .i64 t865, .int .i64 t866]) (ok := fun _ => True) (okp := fun _ => True) ?hr ?hp (fun _ hk => hk) trivial (Below.refl _ _) (Nat.le_refl _) (by simp) ?_; (case hd => rfl); (case hg => rfl); (case hr => first | (go_simp; done) | (go_simp; rfl)); (case hp => exact (Reps.one (show Kd.M (Kd.int .i64) _ _ _ t865 [.int .i64 t865] from rfl) (Reps.one (show Kd.M (Kd.int .i64) _ _ _ t866 [.int .i64 t866] from rfl) (Reps.none _ _)))); intro v868 w13 ho14 hb hg_ hnew_; clear hg_ hnew_; (first | rw [← Ny867.out] at ho14 | (simp only [Int.reduceToNat] at ho14; rw [← Ny867.out] at ho14)); have HO869 := Aside0.mk (Kd.R_lower ho14 (below_size hb_)); replace BK863 := Aside0.mk (blk_below (g := gb863) (o := .cells #[.bool a0_0, .string a0_1, .string a0_2] 23 (0, 0)) (by (with_reducible repeat (first | refine blk_drewN ?_ _ | refine blk_drew ?_ | refine blk_alloc ?_ _)); exact BK863.out) hb); replace BK864 := Aside0.mk (blk_below (g := gb864) (o := .cells #[.bool false, .string (⟨#[]⟩ : ByteArray), .string (⟨#[]⟩ : ByteArray)] 23 (0, 0)) (by (with_reducible repeat (first | refine blk_drewN ?_ _ | refine blk_drew ?_ | refine blk_alloc ?_ _)); exact BK864.out) hb); replace HB := Aside0.mk (below_step hb_ hb); clear hb ho14; obtain ⟨Ao15, co15, eo15⟩ := Kd.R_slice HO869.out; subst eo15) | ((with_reducible refine gate_callee (f := 68) rfl ?_); refine gL_ (some 17) Tryd.func68 #[.slice Ao15 y867.length co15] ?_; (with_reducible refine (idiomref02_First.calls k _ _ y867 t870 _ ?side1 ?side2 A9.out).mono ?_); (case side1 => repeat (first | exact (Kd.R_reads' HO869.out).2.2 | (with_reducible refine Kd.C_alloc ?_ _) | (with_reducible refine Kd.C_drewN ?_ _) | (with_reducible refine Kd.C_drew ?_))); (case side2 => exact (Kd.R_reads' HO869.out).2.1); rintro e w' ⟨rfl, ⟨nd, rfl⟩⟩; refine ⟨_, rfl, ?_⟩))
   go_meet
   case rel => exact ⟨_, (t870), (by first | rfl | (simp; done) | (simp [*]; done)), H', ⟨by first | omega | exact Nat.le_refl _⟩, ⟨by (with_reducible repeat (first | refine blk_drewN ?_ _ | refine blk_drew ?_ | refine blk_alloc ?_ _)); exact BK863.out⟩, ⟨by (with_reducible repeat (first | refine blk_drewN ?_ _ | refine blk_drew ?_ | refine blk_alloc ?_ _)); exact BK864.out⟩, ⟨by repeat (first | (with_reducible first | exact HB.out | apply below_alloc | apply pw_below_drewN | apply below_drew1 | refine below_set ?_ GE863.out | refine below_set ?_ GE864.out) | exact HB.out)⟩⟩
  ·rw [if_neg c7] at H
   have c7b0 : decide (a1 < (-40)) = false := decide_eq_false c7
   clear c7
   (first | rw [c7b0] | (simp only [i64_w, i32_w]; rw [c7b0]) | skip)
   replace H := Option.bind_eq_some_iff.mp H
   obtain ⟨t871, A160, H⟩ := H
   try dsimp only at H
   have A16 := Aside0.mk A160
   clear A160
   obtain ⟨y872, hy872⟩ : ∃ y_ : List Int, y_ = (([t865, t871] : List Int)) := ⟨_, rfl⟩
   rw [← hy872] at H
   have Ny872 := Aside0.mk hy872
   clear hy872
   replace H := Option.bind_eq_some_iff.mp H
   obtain ⟨t875, A170, H⟩ := H
   try dsimp only at H
   have A17 := Aside0.mk A170
   clear A170
   have H' := Aside0.mk H
   clear H
   have hnb18 := NB863_864.out
   have hnc18 := NB864_863.out
   obtain ⟨hcz19_0, hcz19_1, hcz19_2, hfz19_0, hfz19_1, hfz19_2⟩ := BK863.c3
   go_wp2_with (first | ((with_reducible refine gate_callee (f := 20) rfl ?_); refine gL_ (some 8) Tryd.func20 #[.agg #[.bool a0_0, .string a0_1, .string a0_2]] ?_; (with_reducible refine (idiomref02_Check.calls k a0_0 a0_1 a0_2 t865 _ A6.out).mono ?_); rintro e w20 ⟨rfl, hb⟩; refine ⟨_, rfl, ?_⟩; replace BK863 := Aside0.mk (blk_below (g := gb863) (o := .cells #[.bool a0_0, .string a0_1, .string a0_2] 23 (0, 0)) (by (with_reducible repeat (first | refine blk_drewN ?_ _ | refine blk_drew ?_ | refine blk_alloc ?_ _)); exact BK863.out) hb); replace BK864 := Aside0.mk (blk_below (g := gb864) (o := .cells #[.bool false, .string (⟨#[]⟩ : ByteArray), .string (⟨#[]⟩ : ByteArray)] 23 (0, 0)) (by (with_reducible repeat (first | refine blk_drewN ?_ _ | refine blk_drew ?_ | refine blk_alloc ?_ _)); exact BK864.out) hb); replace HB := Aside0.mk (below_step hb_ hb)) | ((with_reducible refine gate_callee (f := 80) rfl ?_); refine gL_ (some 15) Tryd.func80 #[.bool (decide (a1 > 40)), .int .i64 1] ?_; (with_reducible refine (idiomref02_If.calls (decide (a1 > 40)) 1 t871 _ A16.out).mono ?_); rintro e w' ⟨rfl, ⟨nd, rfl⟩⟩; refine ⟨_, rfl, ?_⟩) | ((with_reducible refine gate_dst (N := 16) rfl ?_); refine Kd.R_lit (Kd.int .i64) _ 24 ?hg (N := 16) ?hd (xs := ([t865, t871] : List Int)) (inner := [.int .i64 t865, .int .i64 t871]) (ok := fun _ => True) (okp := fun _ => True) ?hr ?hp (fun _ hk => hk) trivial (Below.refl _ _) (Nat.le_refl _) (by simp) ?_; (case hd => rfl); (case hg => rfl); (case hr => first | (go_simp; done) | (go_simp; rfl)); (case hp => exact (Reps.one (show Kd.M (Kd.int .i64) _ _ _ t865 [.int .i64 t865] from rfl) (Reps.one (show Kd.M (Kd.int .i64) _ _ _ t871 [.int .i64 t871] from rfl) (Reps.none _ _)))); intro v873 w21 ho22 hb hg_ hnew_; clear hg_ hnew_; (first | rw [← Ny872.out] at ho22 | (simp only [Int.reduceToNat] at ho22; rw [← Ny872.out] at ho22)); have HO874 := Aside0.mk (Kd.R_lower ho22 (below_size hb_)); replace BK863 := Aside0.mk (blk_below (g := gb863) (o := .cells #[.bool a0_0, .string a0_1, .string a0_2] 23 (0, 0)) (by (with_reducible repeat (first | refine blk_drewN ?_ _ | refine blk_drew ?_ | refine blk_alloc ?_ _)); exact BK863.out) hb); replace BK864 := Aside0.mk (blk_below (g := gb864) (o := .cells #[.bool false, .string (⟨#[]⟩ : ByteArray), .string (⟨#[]⟩ : ByteArray)] 23 (0, 0)) (by (with_reducible repeat (first | refine blk_drewN ?_ _ | refine blk_drew ?_ | refine blk_alloc ?_ _)); exact BK864.out) hb); replace HB := Aside0.mk (below_step hb_ hb); clear hb ho22; obtain ⟨Ao23, co23, eo23⟩ := Kd.R_slice HO874.out; subst eo23) | ((with_reducible refine gate_callee (f := 68) rfl ?_); refine gL_ (some 17) Tryd.func68 #[.slice Ao23 y872.length co23] ?_; (with_reducible refine (idiomref02_First.calls k _ _ y872 t875 _ ?side1 ?side2 A17.out).mono ?_); (case side1 => repeat (first | exact (Kd.R_reads' HO874.out).2.2 | (with_reducible refine Kd.C_alloc ?_ _) | (with_reducible refine Kd.C_drewN ?_ _) | (with_reducible refine Kd.C_drew ?_))); (case side2 => exact (Kd.R_reads' HO874.out).2.1); rintro e w' ⟨rfl, ⟨nd, rfl⟩⟩; refine ⟨_, rfl, ?_⟩))
   go_meet
   case rel => exact ⟨_, (t875), (by first | rfl | (simp; done) | (simp [*]; done)), H', ⟨by first | omega | exact Nat.le_refl _⟩, ⟨by (with_reducible repeat (first | refine blk_drewN ?_ _ | refine blk_drew ?_ | refine blk_alloc ?_ _)); exact BK863.out⟩, ⟨by (with_reducible repeat (first | refine blk_drewN ?_ _ | refine blk_drew ?_ | refine blk_alloc ?_ _)); exact BK864.out⟩, ⟨by repeat (first | (with_reducible first | exact HB.out | apply below_alloc | apply pw_below_drewN | apply below_drew1 | refine below_set ?_ GE863.out | refine below_set ?_ GE864.out) | exact HB.out)⟩⟩
 case rest =>
  clear HC3
  obtain ⟨kq, x6_2, rfl, HA, HJ2, BK863, BK864, HB⟩ := hcut
  cases kq with
  | zero => exact absurd HA.out (by simp [idiomref02_Shift.j0])
  | succ kj2 =>
   have H := HA.out
   clear HA
   simp only [idiomref02_Shift.j0] at H
   by_cases c24 : x6_2 = 0
   ·rw [if_pos c24] at H
    have c24b0 : (x6_2 == 0) = true := beq_iff_eq.mpr c24
    have c24b1 : (x6_2 != 0) = false := bne_eq_false_iff_eq.mpr c24
    clear c24
    by_cases c25 : a1 > (a0_2.size : Int)
    ·rw [if_pos c25] at H
     have c25b0 : decide ((a0_2.size : Int) < a1) = true := decide_eq_true c25
     clear c25
     replace H := Option.bind_eq_some_iff.mp H
     obtain ⟨t876, A260, H⟩ := H
     try dsimp only at H
     have A26 := Aside0.mk A260
     clear A260
     replace H := Option.bind_eq_some_iff.mp H
     obtain ⟨t877, A270, H⟩ := H
     try dsimp only at H
     have A27 := Aside0.mk A270
     clear A270
     by_cases c28 : t876.size + t877.size ≤ 9223372036854775807
     ·rw [if_pos c28] at H
      have c28b0 := eq_true c28
      have c28b1 : decide (t876.size + t877.size ≤ 9223372036854775807) = true := decide_eq_true c28
      try have c28b2 : (9223372036854775807 < t876.size + t877.size) = False := eq_false (Nat.not_lt.2 c28)
      replace H := Option.bind_eq_some_iff.mp H
      obtain ⟨⟨t878, t879, t880, t881⟩, A290, H⟩ := H
      try dsimp only at H
      have A29 := Aside0.mk A290
      clear A290
      simp only [Option.some.injEq, Prod.mk.injEq] at H
      obtain ⟨rfl, rfl, rfl, rfl⟩ := H
      have hnb30 := NB863_864.out
      have hnc30 := NB864_863.out
      obtain ⟨hcz31_0, hcz31_1, hcz31_2, hfz31_0, hfz31_1, hfz31_2⟩ := BK863.c3
      try go_wp2
      replace BK863 := Aside0.mk (blk_drew BK863.out)
      replace BK864 := Aside0.mk (blk_drew BK864.out)
      replace HB := Aside0.mk (below_drew1 HB.out)
      refine start_ (n := 16) (S := fun w' => w'.cell? ⟨gb863, 0, none⟩ = some (.bool a0_0) ∧ w'.cell? ⟨gb863, 1, none⟩ = some (.string a0_1) ∧ w'.cell? ⟨gb863, 2, none⟩ = some (.string a0_2)) (ds := []) #[false, false, false, false, false, false, false, false, false, false, false, false, false, false, false, false] (by kernel_rfl) rfl rfl ⟨(blk_cell BK863.out 0).trans rfl, (blk_cell BK863.out 1).trans rfl, (blk_cell BK863.out 2).trans rfl⟩ (fun hHeld => ?_); refine with_tabW idiomref02_Shift.tab5 idiomref02_Shift.bits5 (fun HT_ HW_ => ?_)
      generalize wc.drew = w32 at BK863 BK864 HB hHeld ⊢
      refine pr_ 0 (some 27) ?_
      refine pr_ 4 (some 31) ?_
      refine pr_ 5 (some 32) ?_
      refine tk_ 1 (some 28) hHeld ?_
      refine tk_ 2 (some 29) hHeld ?_
      refine tk_ 6 (some 33) hHeld ?_
      refine pr_ 7 (some 34) ?_
      refine pr_ 8 (some 35) ?_
      refine one_ (i := 3) (N := some 30) #[true, true, true, true, true, true, true, true, true, false, false, false, false, false, false, false] rfl rfl (one_of HT_.out (by kernel_rfl)) (by decide) (fun K hK => ?_)
      refine goes_ Tryd.func76 (by kernel_rfl) rfl #[.agg #[.bool a0_0, .string a0_1, .string a0_2]] (by rfl) rfl rfl ar_ ?_
      with_reducible refine (idiomref02_Num.calls kj2 a0_0 a0_1 a0_2 t876 _ A26.out).mono ?_
      rintro e w33 ⟨rfl, hb⟩
      refine ⟨_, rfl, ?_⟩
      replace BK863 := Aside0.mk (blk_below (g := gb863) (o := .cells #[.bool a0_0, .string a0_1, .string a0_2] 23 (0, 0)) (by (with_reducible repeat (first | refine blk_drewN ?_ _ | refine blk_drew ?_ | refine blk_alloc ?_ _)); exact BK863.out) hb)
      replace BK864 := Aside0.mk (blk_below (g := gb864) (o := .cells #[.bool false, .string (⟨#[]⟩ : ByteArray), .string (⟨#[]⟩ : ByteArray)] 23 (0, 0)) (by (with_reducible repeat (first | refine blk_drewN ?_ _ | refine blk_drew ?_ | refine blk_alloc ?_ _)); exact BK864.out) hb)
      replace HB := Aside0.mk (below_step hb_ hb)
      (try clear hb)
      (try clear hb2)
      (try clear hk)
      (try clear hi)
      refine hK.out _ _ ⟨(blk_cell BK863.out 0).trans rfl, (blk_cell BK863.out 1).trans rfl, (blk_cell BK863.out 2).trans rfl⟩ (fun hHeld => ?_)
      clear hK K
      refine norm_ (a' := ?_) ?_ ?_
      rotate_left
      ·show Act.put _ (some 30) _ = _
       simp only [Act.put, List.setIfInBounds_toArray, List.set_cons_zero, List.set_cons_succ, i64_w, i32_w]
       rfl
      refine one_ (i := 9) (N := some 36) #[true, true, true, true, true, true, true, true, true, true, false, false, false, false, false, false] rfl rfl (one_of HT_.out (by kernel_rfl)) (by decide) (fun K hK => ?_)
      refine goes_ Tryd.func81 (by kernel_rfl) rfl #[.int .i64 (wrap64 (a1 - (a0_2.size : Int)))] (by rfl) rfl rfl ar_ ?_
      with_reducible refine (idiomref02_Zeros.calls kj2 (wrap64 (a1 - (a0_2.size : Int))) t877 _ A27.out).mono ?_
      rintro e w34 ⟨rfl, hb⟩
      refine ⟨_, rfl, ?_⟩
      replace BK863 := Aside0.mk (blk_below (g := gb863) (o := .cells #[.bool a0_0, .string a0_1, .string a0_2] 23 (0, 0)) (by (with_reducible repeat (first | refine blk_drewN ?_ _ | refine blk_drew ?_ | refine blk_alloc ?_ _)); exact BK863.out) hb)
      replace BK864 := Aside0.mk (blk_below (g := gb864) (o := .cells #[.bool false, .string (⟨#[]⟩ : ByteArray), .string (⟨#[]⟩ : ByteArray)] 23 (0, 0)) (by (with_reducible repeat (first | refine blk_drewN ?_ _ | refine blk_drew ?_ | refine blk_alloc ?_ _)); exact BK864.out) hb)
      replace HB := Aside0.mk (below_step hb_ hb)
      (try clear hb)
      (try clear hb2)
      (try clear hk)
      (try clear hi)
      refine hK.out _ _ ⟨(blk_cell BK863.out 0).trans rfl, (blk_cell BK863.out 1).trans rfl, (blk_cell BK863.out 2).trans rfl⟩ (fun hHeld => ?_)
      clear hK K
      refine norm_ (a' := ?_) ?_ ?_
      rotate_left
      ·show Act.put _ (some 36) _ = _
       simp only [Act.put, List.setIfInBounds_toArray, List.set_cons_zero, List.set_cons_succ, i64_w, i32_w]
       rfl
      refine pr_ 10 (some 37) ?_
      refine one_ (i := 11) (N := some 38) #[true, true, true, true, true, true, true, true, true, true, true, true, false, false, false, false] rfl rfl (one_of HT_.out (by kernel_rfl)) (by decide) (fun K hK => ?_)
      refine goes_ Tryd.func64 (by kernel_rfl) rfl #[.bool a0_0, .string (t876 ++ t877), .int .i64 0] (by rfl) rfl rfl ar_ ?_
      with_reducible refine (idiomref02_Make.calls kj2 a0_0 (t876 ++ t877) 0 t878 t879 t880 t881 _ A29.out).mono ?_
      rintro e w35 ⟨rfl, hb⟩
      refine ⟨_, rfl, ?_⟩
      replace BK863 := Aside0.mk (blk_below (g := gb863) (o := .cells #[.bool a0_0, .string a0_1, .string a0_2] 23 (0, 0)) (by (with_reducible repeat (first | refine blk_drewN ?_ _ | refine blk_drew ?_ | refine blk_alloc ?_ _)); exact BK863.out) hb)
      replace BK864 := Aside0.mk (blk_below (g := gb864) (o := .cells #[.bool false, .string (⟨#[]⟩ : ByteArray), .string (⟨#[]⟩ : ByteArray)] 23 (0, 0)) (by (with_reducible repeat (first | refine blk_drewN ?_ _ | refine blk_drew ?_ | refine blk_alloc ?_ _)); exact BK864.out) hb)
      replace HB := Aside0.mk (below_step hb_ hb)
      (try clear hb)
      (try clear hb2)
      (try clear hk)
      (try clear hi)
      refine hK.out _ _ ⟨(blk_cell BK863.out 0).trans rfl, (blk_cell BK863.out 1).trans rfl, (blk_cell BK863.out 2).trans rfl⟩ (fun hHeld => ?_)
      clear hK K
      refine norm_ (a' := ?_) ?_ ?_
      rotate_left
      ·show Act.put _ (some 38) _ = _
       simp only [Act.put, List.setIfInBounds_toArray, List.set_cons_zero, List.set_cons_succ, i64_w, i32_w]
       rfl
      refine pr_ 12 (some 39) ?_
      refine pr_ 13 (some 40) ?_
      refine one_ (i := 14) (N := none) #[true, true, true, true, true, true, true, true, true, true, true, true, true, true, true, false] rfl rfl (one_of HT_.out (by kernel_rfl)) (by decide) (fun K hK => ?_)
      have hs36 : w35.cell? ⟨gb864, 0, none⟩ = some (.bool false) := (blk_cell BK864.out 0).trans rfl
      have hfs36 := blk_frozen BK864.out 0
      have hns36_0 := NB863_864.out
      have hms36_0 := NB864_863.out
      have hs37 : w35.cell? ⟨gb864, 1, none⟩ = some (.string (⟨#[]⟩ : ByteArray)) := (blk_cell BK864.out 1).trans rfl
      have hfs37 := blk_frozen BK864.out 1
      have hns37_0 := NB863_864.out
      have hms37_0 := NB864_863.out
      have hs38 : w35.cell? ⟨gb864, 2, none⟩ = some (.string (⟨#[]⟩ : ByteArray)) := (blk_cell BK864.out 2).trans rfl
      have hfs38 := blk_frozen BK864.out 2
      have hns38_0 := NB863_864.out
      have hms38_0 := NB864_863.out
      refine skip_ (w1 := ?_) (by rfl) rfl ?_ ?_
      rotate_left
      ·go_simp
       rfl
      refine hK.out _ _ ⟨((cell_far (p := ⟨gb864, _, none⟩) NB863_864.out _).trans (((cell_far (p := ⟨gb864, _, none⟩) NB863_864.out _).trans (((cell_far (p := ⟨gb864, _, none⟩) NB863_864.out _).trans (hHeld.1)))))), ((cell_far (p := ⟨gb864, _, none⟩) NB863_864.out _).trans (((cell_far (p := ⟨gb864, _, none⟩) NB863_864.out _).trans (((cell_far (p := ⟨gb864, _, none⟩) NB863_864.out _).trans (hHeld.2.1)))))), ((cell_far (p := ⟨gb864, _, none⟩) NB863_864.out _).trans (((cell_far (p := ⟨gb864, _, none⟩) NB863_864.out _).trans (((cell_far (p := ⟨gb864, _, none⟩) NB863_864.out _).trans (hHeld.2.2))))))⟩ (fun hHeld => ?_)
      clear hK K
      refine pr_ 15 (some 5) ?_
      refine done_ (done_of HT_.out (by kernel_rfl)) ?_
      (try clear hms38_0 hns38_0 hfs38 hs38 hms37_0 hns37_0 hfs37 hs37 hms36_0 hns36_0 hfs36 hs36)
      have n0_ : Aside0 ((((w35.setCell ⟨gb864, 0, none⟩ (.bool t878)).setCell ⟨gb864, 1, none⟩ (.string t879)).setCell ⟨gb864, 2, none⟩ (.string t880)).heap[gb863]? = some (.cells #[.bool a0_0, .string a0_1, .string a0_2] 23 (0, 0))) := ⟨by (with_reducible repeat (first | refine blk_drewN ?_ _ | refine blk_drew ?_ | refine blk_alloc ?_ _)); refine blk_far ?_ NB863_864.out _; (with_reducible repeat (first | refine blk_drewN ?_ _ | refine blk_drew ?_ | refine blk_alloc ?_ _)); refine blk_far ?_ NB863_864.out _; (with_reducible repeat (first | refine blk_drewN ?_ _ | refine blk_drew ?_ | refine blk_alloc ?_ _)); refine blk_far ?_ NB863_864.out _; (with_reducible repeat (first | refine blk_drewN ?_ _ | refine blk_drew ?_ | refine blk_alloc ?_ _)); exact BK863.out⟩
      have n1_ : Aside0 ((((w35.setCell ⟨gb864, 0, none⟩ (.bool t878)).setCell ⟨gb864, 1, none⟩ (.string t879)).setCell ⟨gb864, 2, none⟩ (.string t880)).heap[gb864]? = some (.cells #[.bool t878, .string t879, .string t880] 23 (0, 0))) := ⟨by (with_reducible repeat (first | refine blk_drewN ?_ _ | refine blk_drew ?_ | refine blk_alloc ?_ _)); refine blk_put (cs := #[.bool t878, .string t879, .string (⟨#[]⟩ : ByteArray)]) ?_ 2 _ rfl; (with_reducible repeat (first | refine blk_drewN ?_ _ | refine blk_drew ?_ | refine blk_alloc ?_ _)); refine blk_put (cs := #[.bool t878, .string (⟨#[]⟩ : ByteArray), .string (⟨#[]⟩ : ByteArray)]) ?_ 1 _ rfl; (with_reducible repeat (first | refine blk_drewN ?_ _ | refine blk_drew ?_ | refine blk_alloc ?_ _)); refine blk_put (cs := #[.bool false, .string (⟨#[]⟩ : ByteArray), .string (⟨#[]⟩ : ByteArray)]) ?_ 0 _ rfl; (with_reducible repeat (first | refine blk_drewN ?_ _ | refine blk_drew ?_ | refine blk_alloc ?_ _)); exact BK864.out⟩
      have n2_ : Aside0 (Below w.heap.size w (((w35.setCell ⟨gb864, 0, none⟩ (.bool t878)).setCell ⟨gb864, 1, none⟩ (.string t879)).setCell ⟨gb864, 2, none⟩ (.string t880))) := ⟨by repeat (first | (with_reducible first | exact HB.out | apply below_alloc | apply pw_below_drewN | apply below_drew1 | refine below_set ?_ GE863.out | refine below_set ?_ GE864.out) | exact HB.out)⟩
      (try clear BK863)
      (try clear BK864)
      (try clear HB)
      generalize (((w35.setCell ⟨gb864, 0, none⟩ (.bool t878)).setCell ⟨gb864, 1, none⟩ (.string t879)).setCell ⟨gb864, 2, none⟩ (.string t880)) = w39 at n0_ n1_ n2_ ⊢
      have BK863 := n0_
      have BK864 := n1_
      have HB := n2_
      clear n0_ n1_ n2_
      try go_wp2
      refine bodyPost_ret (results_ct rfl _ _ gb864 23 #[.bool t878, .string t879, .string t880] (0, 0) _ rfl (by (with_reducible repeat (first | refine blk_drewN ?_ _ | refine blk_drew ?_ | refine blk_alloc ?_ _)); exact BK864.out) Tryd.underlying23 rfl (by kernel_rfl)) rfl ?_
      exact ⟨by first | rfl | (simp [errW_none, errW_some] <;> rfl) | (simp [*, errW_none, errW_some] <;> rfl) | (simp [bne_nil_]; done), by repeat (first | (with_reducible first | exact HB.out | apply below_alloc | apply pw_below_drewN | apply below_drew1 | refine below_set ?_ GE863.out | refine below_set ?_ GE864.out) | exact HB.out)⟩
     ·rw [if_neg c28] at H
      exact absurd H (by simp)
    ·rw [if_neg c25] at H
     have c25b0 : decide ((a0_2.size : Int) < a1) = false := decide_eq_false c25
     clear c25
     replace H := Option.bind_eq_some_iff.mp H
     obtain ⟨t882, A400, H⟩ := H
     try dsimp only at H
     have A40 := Aside0.mk A400
     clear A400
     replace H := Option.bind_eq_some_iff.mp H
     obtain ⟨⟨t883, t884, t885, t886⟩, A410, H⟩ := H
     try dsimp only at H
     have A41 := Aside0.mk A410
     clear A410
     simp only [Option.some.injEq, Prod.mk.injEq] at H
     obtain ⟨rfl, rfl, rfl, rfl⟩ := H
     have hnb42 := NB863_864.out
     have hnc42 := NB864_863.out
     obtain ⟨hcz43_0, hcz43_1, hcz43_2, hfz43_0, hfz43_1, hfz43_2⟩ := BK863.c3
     try go_wp2
     replace BK863 := Aside0.mk (blk_drew BK863.out)
     replace BK864 := Aside0.mk (blk_drew BK864.out)
     replace HB := Aside0.mk (below_drew1 HB.out)
     refine start_ (n := 14) (S := fun w' => w'.cell? ⟨gb863, 0, none⟩ = some (.bool a0_0) ∧ w'.cell? ⟨gb863, 1, none⟩ = some (.string a0_1) ∧ w'.cell? ⟨gb863, 2, none⟩ = some (.string a0_2)) (ds := []) #[false, false, false, false, false, false, false, false, false, false, false, false, false, false] (by kernel_rfl) rfl rfl ⟨(blk_cell BK863.out 0).trans rfl, (blk_cell BK863.out 1).trans rfl, (blk_cell BK863.out 2).trans rfl⟩ (fun hHeld => ?_); refine with_tabW idiomref02_Shift.tab6 idiomref02_Shift.bits6 (fun HT_ HW_ => ?_)
     generalize wc.drew = w44 at BK863 BK864 HB hHeld ⊢
     refine pr_ 0 (some 41) ?_
     refine pr_ 4 (some 45) ?_
     refine pr_ 7 (some 48) ?_
     refine tk_ 1 (some 42) hHeld ?_
     refine tk_ 2 (some 43) hHeld ?_
     refine tk_ 5 (some 46) hHeld ?_
     refine pr_ 6 (some 47) ?_
     refine pr_ 8 (some 49) ?_
     refine one_ (i := 3) (N := some 44) #[true, true, true, true, true, true, true, true, true, false, false, false, false, false] rfl rfl (one_of HT_.out (by kernel_rfl)) (by decide) (fun K hK => ?_)
     refine goes_ Tryd.func76 (by kernel_rfl) rfl #[.agg #[.bool a0_0, .string a0_1, .string a0_2]] (by rfl) rfl rfl ar_ ?_
     with_reducible refine (idiomref02_Num.calls kj2 a0_0 a0_1 a0_2 t882 _ A40.out).mono ?_
     rintro e w45 ⟨rfl, hb⟩
     refine ⟨_, rfl, ?_⟩
     replace BK863 := Aside0.mk (blk_below (g := gb863) (o := .cells #[.bool a0_0, .string a0_1, .string a0_2] 23 (0, 0)) (by (with_reducible repeat (first | refine blk_drewN ?_ _ | refine blk_drew ?_ | refine blk_alloc ?_ _)); exact BK863.out) hb)
     replace BK864 := Aside0.mk (blk_below (g := gb864) (o := .cells #[.bool false, .string (⟨#[]⟩ : ByteArray), .string (⟨#[]⟩ : ByteArray)] 23 (0, 0)) (by (with_reducible repeat (first | refine blk_drewN ?_ _ | refine blk_drew ?_ | refine blk_alloc ?_ _)); exact BK864.out) hb)
     replace HB := Aside0.mk (below_step hb_ hb)
     (try clear hb)
     (try clear hb2)
     (try clear hk)
     (try clear hi)
     refine hK.out _ _ ⟨(blk_cell BK863.out 0).trans rfl, (blk_cell BK863.out 1).trans rfl, (blk_cell BK863.out 2).trans rfl⟩ (fun hHeld => ?_)
     clear hK K
     refine norm_ (a' := ?_) ?_ ?_
     rotate_left
     ·show Act.put _ (some 44) _ = _
      simp only [Act.put, List.setIfInBounds_toArray, List.set_cons_zero, List.set_cons_succ, i64_w, i32_w]
      rfl
     refine one_ (i := 9) (N := some 50) #[true, true, true, true, true, true, true, true, true, true, false, false, false, false] rfl rfl (one_of HT_.out (by kernel_rfl)) (by decide) (fun K hK => ?_)
     refine goes_ Tryd.func64 (by kernel_rfl) rfl #[.bool a0_0, .string t882, .int .i64 (wrap64 ((a0_2.size : Int) - a1))] (by rfl) rfl rfl ar_ ?_
     with_reducible refine (idiomref02_Make.calls kj2 a0_0 t882 (wrap64 ((a0_2.size : Int) - a1)) t883 t884 t885 t886 _ A41.out).mono ?_
     rintro e w46 ⟨rfl, hb⟩
     refine ⟨_, rfl, ?_⟩
     replace BK863 := Aside0.mk (blk_below (g := gb863) (o := .cells #[.bool a0_0, .string a0_1, .string a0_2] 23 (0, 0)) (by (with_reducible repeat (first | refine blk_drewN ?_ _ | refine blk_drew ?_ | refine blk_alloc ?_ _)); exact BK863.out) hb)
     replace BK864 := Aside0.mk (blk_below (g := gb864) (o := .cells #[.bool false, .string (⟨#[]⟩ : ByteArray), .string (⟨#[]⟩ : ByteArray)] 23 (0, 0)) (by (with_reducible repeat (first | refine blk_drewN ?_ _ | refine blk_drew ?_ | refine blk_alloc ?_ _)); exact BK864.out) hb)
     replace HB := Aside0.mk (below_step hb_ hb)
     (try clear hb)
     (try clear hb2)
     (try clear hk)
     (try clear hi)
     refine hK.out _ _ ⟨(blk_cell BK863.out 0).trans rfl, (blk_cell BK863.out 1).trans rfl, (blk_cell BK863.out 2).trans rfl⟩ (fun hHeld => ?_)
     clear hK K
     refine norm_ (a' := ?_) ?_ ?_
     rotate_left
     ·show Act.put _ (some 50) _ = _
      simp only [Act.put, List.setIfInBounds_toArray, List.set_cons_zero, List.set_cons_succ, i64_w, i32_w]
      rfl
     refine pr_ 10 (some 51) ?_
     refine pr_ 11 (some 52) ?_
     refine one_ (i := 12) (N := none) #[true, true, true, true, true, true, true, true, true, true, true, true, true, false] rfl rfl (one_of HT_.out (by kernel_rfl)) (by decide) (fun K hK => ?_)
     have hs47 : w46.cell? ⟨gb864, 0, none⟩ = some (.bool false) := (blk_cell BK864.out 0).trans rfl
     have hfs47 := blk_frozen BK864.out 0
     have hns47_0 := NB863_864.out
     have hms47_0 := NB864_863.out
     have hs48 : w46.cell? ⟨gb864, 1, none⟩ = some (.string (⟨#[]⟩ : ByteArray)) := (blk_cell BK864.out 1).trans rfl
     have hfs48 := blk_frozen BK864.out 1
     have hns48_0 := NB863_864.out
     have hms48_0 := NB864_863.out
     have hs49 : w46.cell? ⟨gb864, 2, none⟩ = some (.string (⟨#[]⟩ : ByteArray)) := (blk_cell BK864.out 2).trans rfl
     have hfs49 := blk_frozen BK864.out 2
     have hns49_0 := NB863_864.out
     have hms49_0 := NB864_863.out
     refine skip_ (w1 := ?_) (by rfl) rfl ?_ ?_
     rotate_left
     ·go_simp
      rfl
     refine hK.out _ _ ⟨((cell_far (p := ⟨gb864, _, none⟩) NB863_864.out _).trans (((cell_far (p := ⟨gb864, _, none⟩) NB863_864.out _).trans (((cell_far (p := ⟨gb864, _, none⟩) NB863_864.out _).trans (hHeld.1)))))), ((cell_far (p := ⟨gb864, _, none⟩) NB863_864.out _).trans (((cell_far (p := ⟨gb864, _, none⟩) NB863_864.out _).trans (((cell_far (p := ⟨gb864, _, none⟩) NB863_864.out _).trans (hHeld.2.1)))))), ((cell_far (p := ⟨gb864, _, none⟩) NB863_864.out _).trans (((cell_far (p := ⟨gb864, _, none⟩) NB863_864.out _).trans (((cell_far (p := ⟨gb864, _, none⟩) NB863_864.out _).trans (hHeld.2.2))))))⟩ (fun hHeld => ?_)
     clear hK K
     refine pr_ 13 (some 5) ?_
     refine done_ (done_of HT_.out (by kernel_rfl)) ?_
     (try clear hms49_0 hns49_0 hfs49 hs49 hms48_0 hns48_0 hfs48 hs48 hms47_0 hns47_0 hfs47 hs47)
     have n0_ : Aside0 ((((w46.setCell ⟨gb864, 0, none⟩ (.bool t883)).setCell ⟨gb864, 1, none⟩ (.string t884)).setCell ⟨gb864, 2, none⟩ (.string t885)).heap[gb863]? = some (.cells #[.bool a0_0, .string a0_1, .string a0_2] 23 (0, 0))) := ⟨by (with_reducible repeat (first | refine blk_drewN ?_ _ | refine blk_drew ?_ | refine blk_alloc ?_ _)); refine blk_far ?_ NB863_864.out _; (with_reducible repeat (first | refine blk_drewN ?_ _ | refine blk_drew ?_ | refine blk_alloc ?_ _)); refine blk_far ?_ NB863_864.out _; (with_reducible repeat (first | refine blk_drewN ?_ _ | refine blk_drew ?_ | refine blk_alloc ?_ _)); refine blk_far ?_ NB863_864.out _; (with_reducible repeat (first | refine blk_drewN ?_ _ | refine blk_drew ?_ | refine blk_alloc ?_ _)); exact BK863.out⟩
     have n1_ : Aside0 ((((w46.setCell ⟨gb864, 0, none⟩ (.bool t883)).setCell ⟨gb864, 1, none⟩ (.string t884)).setCell ⟨gb864, 2, none⟩ (.string t885)).heap[gb864]? = some (.cells #[.bool t883, .string t884, .string t885] 23 (0, 0))) := ⟨by (with_reducible repeat (first | refine blk_drewN ?_ _ | refine blk_drew ?_ | refine blk_alloc ?_ _)); refine blk_put (cs := #[.bool t883, .string t884, .string (⟨#[]⟩ : ByteArray)]) ?_ 2 _ rfl; (with_reducible repeat (first | refine blk_drewN ?_ _ | refine blk_drew ?_ | refine blk_alloc ?_ _)); refine blk_put (cs := #[.bool t883, .string (⟨#[]⟩ : ByteArray), .string (⟨#[]⟩ : ByteArray)]) ?_ 1 _ rfl; (with_reducible repeat (first | refine blk_drewN ?_ _ | refine blk_drew ?_ | refine blk_alloc ?_ _)); refine blk_put (cs := #[.bool false, .string (⟨#[]⟩ : ByteArray), .string (⟨#[]⟩ : ByteArray)]) ?_ 0 _ rfl; (with_reducible repeat (first | refine blk_drewN ?_ _ | refine blk_drew ?_ | refine blk_alloc ?_ _)); exact BK864.out⟩
     have n2_ : Aside0 (Below w.heap.size w (((w46.setCell ⟨gb864, 0, none⟩ (.bool t883)).setCell ⟨gb864, 1, none⟩ (.string t884)).setCell ⟨gb864, 2, none⟩ (.string t885))) := ⟨by repeat (first | (with_reducible first | exact HB.out | apply below_alloc | apply pw_below_drewN | apply below_drew1 | refine below_set ?_ GE863.out | refine below_set ?_ GE864.out) | exact HB.out)⟩
     (try clear BK863)
     (try clear BK864)
     (try clear HB)
     generalize (((w46.setCell ⟨gb864, 0, none⟩ (.bool t883)).setCell ⟨gb864, 1, none⟩ (.string t884)).setCell ⟨gb864, 2, none⟩ (.string t885)) = w50 at n0_ n1_ n2_ ⊢
     have BK863 := n0_
     have BK864 := n1_
     have HB := n2_
     clear n0_ n1_ n2_
     try go_wp2
     refine bodyPost_ret (results_ct rfl _ _ gb864 23 #[.bool t883, .string t884, .string t885] (0, 0) _ rfl (by (with_reducible repeat (first | refine blk_drewN ?_ _ | refine blk_drew ?_ | refine blk_alloc ?_ _)); exact BK864.out) Tryd.underlying23 rfl (by kernel_rfl)) rfl ?_
     exact ⟨by first | rfl | (simp [errW_none, errW_some] <;> rfl) | (simp [*, errW_none, errW_some] <;> rfl) | (simp [bne_nil_]; done), by repeat (first | (with_reducible first | exact HB.out | apply below_alloc | apply pw_below_drewN | apply below_drew1 | refine below_set ?_ GE863.out | refine below_set ?_ GE864.out) | exact HB.out)⟩
   ·rw [if_neg c24] at H
    have c24b0 : (x6_2 == 0) = false := beq_eq_false_iff_ne.mpr c24
    have c24b1 : (x6_2 != 0) = true := bne_iff_ne.mpr c24
    simp only [Option.some.injEq, Prod.mk.injEq] at H
    obtain ⟨rfl, rfl, rfl, rfl⟩ := H
    have hnb51 := NB864_863.out
    have hnc51 := NB863_864.out
    obtain ⟨hcz52_0, hcz52_1, hcz52_2, hfz52_0, hfz52_1, hfz52_2⟩ := BK864.c3
    go_wp2
    refine bodyPost_ret (results_ct rfl _ _ gb864 23 #[.bool false, .string (⟨#[]⟩ : ByteArray), .string (⟨#[]⟩ : ByteArray)] (0, 0) _ rfl (by (with_reducible repeat (first | refine blk_drewN ?_ _ | refine blk_drew ?_ | refine blk_alloc ?_ _)); refine blk_put (cs := #[.bool false, .string (⟨#[]⟩ : ByteArray), .string (⟨#[]⟩ : ByteArray)]) ?_ 2 _ rfl; (with_reducible repeat (first | refine blk_drewN ?_ _ | refine blk_drew ?_ | refine blk_alloc ?_ _)); refine blk_put (cs := #[.bool false, .string (⟨#[]⟩ : ByteArray), .string (⟨#[]⟩ : ByteArray)]) ?_ 1 _ rfl; (with_reducible repeat (first | refine blk_drewN ?_ _ | refine blk_drew ?_ | refine blk_alloc ?_ _)); refine blk_put (cs := #[.bool false, .string (⟨#[]⟩ : ByteArray), .string (⟨#[]⟩ : ByteArray)]) ?_ 0 _ rfl; (with_reducible repeat (first | refine blk_drewN ?_ _ | refine blk_drew ?_ | refine blk_alloc ?_ _)); exact BK864.out) Tryd.underlying23 rfl (by kernel_rfl)) rfl ?_
    exact ⟨by first | rfl | (simp [errW_none, errW_some] <;> rfl) | (simp [*, errW_none, errW_some] <;> rfl) | (simp [bne_nil_]; done), by repeat (first | (with_reducible first | exact HB.out | apply below_alloc | apply pw_below_drewN | apply below_drew1 | refine below_set ?_ GE863.out | refine below_set ?_ GE864.out) | exact HB.out)⟩
end Go.Proofs.YtihjcaglhjepdaaDoor.P
namespace Go.Proofs
open Go.Shelf
def Tryd.laysM171_ren : Go.Shelf.Ren := ⟨fun | 171 => 128 | 243 => 138 | 246 => 144 | 283 => 145 | 284 => 146 | 285 => 147 | 286 => 148 | 129 => 150 | 317 => 149 | 318 => 151 | 319 => 152 | 320 => 153 | 337 => 154 | 338 => 155 | n => n, fun | 3 => 3 | 9 => 9 | 2 => 2 | 4 => 4 | 171 => 149 | 0 => 0 | 53 => 132 | 37 => 68 | 5 => 5 | 173 => 152 | 212 => 155 | 51 => 129 | 20 => 20 | 213 => 156 | 46 => 109 | 232 => 160 | 233 => 161 | n => n, fun | 17 => 3 | 18 => 4 | 19 => 5 | n => n⟩
theorem Tryd.laysM171 : Go.Proofs.LaysM.n171 Tryd.prog Tryd.laysM171_ren := {
  mixed := by kernel_rfl
  f129 := Tryd.func150.trans (congrArg some (by kernel_rfl))
  f171 := Tryd.func128.trans (congrArg some (by kernel_rfl))
  f243 := Tryd.func138.trans (congrArg some (by kernel_rfl))
  f246 := Tryd.func144.trans (congrArg some (by kernel_rfl))
  f283 := Tryd.func145.trans (congrArg some (by kernel_rfl))
  f284 := Tryd.func146.trans (congrArg some (by kernel_rfl))
  f285 := Tryd.func147.trans (congrArg some (by kernel_rfl))
  f286 := Tryd.func148.trans (congrArg some (by kernel_rfl))
  f317 := Tryd.func149.trans (congrArg some (by kernel_rfl))
  f318 := Tryd.func151.trans (congrArg some (by kernel_rfl))
  f319 := Tryd.func152.trans (congrArg some (by kernel_rfl))
  f320 := Tryd.func153.trans (congrArg some (by kernel_rfl))
  f337 := Tryd.func154.trans (congrArg some (by kernel_rfl))
  f338 := Tryd.func155.trans (congrArg some (by kernel_rfl))
  t0 := Tryd.underlying0
  a0 := Tryd.isAgg0
  z0 := Tryd.sizeOf0
  v0 := Tryd.zeroValue0
  t2 := Tryd.underlying2
  a2 := Tryd.isAgg2
  z2 := Tryd.sizeOf2
  v2 := Tryd.zeroValue2
  t3 := Tryd.underlying3
  a3 := Tryd.isAgg3
  z3 := Tryd.sizeOf3
  v3 := Tryd.zeroValue3
  t4 := Tryd.underlying4
  a4 := Tryd.isAgg4
  z4 := Tryd.sizeOf4
  v4 := Tryd.zeroValue4
  t5 := Tryd.underlying5
  a5 := Tryd.isAgg5
  z5 := Tryd.sizeOf5
  v5 := Tryd.zeroValue5
  t9 := Tryd.underlying9
  a9 := Tryd.isAgg9
  z9 := Tryd.sizeOf9
  v9 := Tryd.zeroValue9
  t20 := Tryd.underlying20
  a20 := Tryd.isAgg20
  z20 := Tryd.sizeOf20
  v20 := Tryd.zeroValue20
  t37 := Tryd.underlying68
  a37 := Tryd.isAgg68
  z37 := Tryd.sizeOf68
  v37 := Tryd.zeroValue68
  t46 := Tryd.underlying109
  a46 := Tryd.isAgg109
  z46 := Tryd.sizeOf109
  v46 := Tryd.zeroValue109
  t51 := Tryd.underlying129
  a51 := Tryd.isAgg129
  z51 := Tryd.sizeOf129
  v51 := Tryd.zeroValue129
  t53 := Tryd.underlying132
  a53 := Tryd.isAgg132
  z53 := Tryd.sizeOf132
  v53 := Tryd.zeroValue132
  t171 := Tryd.underlying149
  a171 := Tryd.isAgg149
  z171 := Tryd.sizeOf149
  v171 := Tryd.zeroValue149
  t173 := Tryd.underlying152
  a173 := Tryd.isAgg152
  z173 := Tryd.sizeOf152
  v173 := Tryd.zeroValue152
  t212 := Tryd.underlying155
  a212 := Tryd.isAgg155
  z212 := Tryd.sizeOf155
  v212 := Tryd.zeroValue155
  t213 := Tryd.underlying156
  a213 := Tryd.isAgg156
  z213 := Tryd.sizeOf156
  t232 := Tryd.underlying160
  a232 := Tryd.isAgg160
  z232 := Tryd.sizeOf160
  v232 := Tryd.zeroValue160
  t233 := Tryd.underlying161
  a233 := Tryd.isAgg161
  z233 := Tryd.sizeOf161
  v233 := Tryd.zeroValue161
  g17 := by kernel_rfl
  g18 := by kernel_rfl
  g19 := by kernel_rfl
  i0 := by kernel_rfl
  i2 := by kernel_rfl
  i3 := by kernel_rfl
  i4 := by kernel_rfl
  i5 := by kernel_rfl
  i9 := by kernel_rfl
  i20 := by kernel_rfl
  i37 := by kernel_rfl
  i46 := by kernel_rfl
  i51 := by kernel_rfl
  i53 := by kernel_rfl
  i171 := by kernel_rfl
  i173 := by kernel_rfl
  i212 := by kernel_rfl
  i232 := by kernel_rfl
  i233 := by kernel_rfl
  m17 := by kernel_rfl
  m18 := by kernel_rfl
  m19 := by kernel_rfl }
open Go.RowKit Go.Sort Go.Lib in
theorem Tryd.strconv_Itoa (n : Int) (h0 : -9223372036854775808 ≤ n) (h1 : n ≤ 9223372036854775807) (w : World) (htab : Lib.TabIs Tryd.prog w "internal/strconv.uint64pow10" .u64 Lib.pow10Tab) :
    Calls Tryd.prog 128 #[.int .i64 n] w fun e w' => e = .returned (.string ⟨(Lib.itoa n).toArray⟩) ∧ ∃ k os, w' = grow (w.drewN k) os := Any.strconv_Itoa Tryd.laysM171 n h0 h1 w htab
end Go.Proofs
namespace Go.Proofs.YtihjcaglhjepdaaDoor.P
open Go.RowKit Go.Proofs.YtihjcaglhjepdaaDoorW.PrintWords Go.Proofs.YtihjcaglhjepdaaDoorW.PrintLast Go.Proofs.YtihjcaglhjepdaaDoorW.PrintMore
def TB (w : World) : Prop := Lib.TabIs Tryd.prog w "internal/strconv.uint64pow10" .u64 Lib.pow10Tab
theorem TB.below {w w' : World} (h : TB w) (hb : Below w.heap.size w w') : TB w' := by
  unfold TB Lib.TabIs World.var? at *
  cases hg : (Tryd.prog).globalNamed "internal/strconv.uint64pow10" with
  | none => simp [hg] at h
  | some g =>
    simp only [hg, Option.bind_some] at h ⊢
    have hlt : g < w.heap.size := by
      rcases Nat.lt_or_ge g w.heap.size with h' | h'
      · exact h'
      · rw [Array.getElem?_eq_none h'] at h; simp at h
    rw [hb.block g hlt]
    exact h
def strconv_Itoa.f (a0 : Int) : Option ByteArray :=
  if -9223372036854775808 ≤ a0 ∧ a0 ≤ 9223372036854775807 then some ⟨(Lib.itoa a0).toArray⟩ else none
theorem strconv_Itoa.calls (a0 : Int) (r : ByteArray) (w : World) (ht : TB w) (h : strconv_Itoa.f a0 = some r) :
    Calls Tryd.prog 128 #[.int .i64 a0] w fun e w' => e = .returned (.string r) ∧ Below w.heap.size w w' := by
  unfold strconv_Itoa.f at h
  split at h
  · rename_i hc
    obtain ⟨h0, h1⟩ := hc
    obtain rfl := Option.some.inj h
    refine (Tryd.strconv_Itoa a0 h0 h1 w ht).mono ?_
    rintro e w' ⟨rfl, k, os, rfl⟩
    refine ⟨rfl, (pw_below_drewN (Below.refl _ w) k).trans ⟨rfl, rfl, rfl, by simp [Sort.grow], fun g hg => ?_⟩⟩
    have hg' : g < (w.drewN k).heap.size := hg
    show ((w.drewN k).heap ++ os)[g]? = _
    rw [Array.getElem?_append_left hg']
  · cases h
end Go.Proofs.YtihjcaglhjepdaaDoor.P
namespace Go.Proofs.YtihjcaglhjepdaaDoor.P
open Go.RowKit Go.Proofs.YtihjcaglhjepdaaDoorW.PrintWords Go.Proofs.YtihjcaglhjepdaaDoorW.PrintLast Go.Proofs.YtihjcaglhjepdaaDoorW.PrintMore
attribute [local go_sem] max2_int max_two
set_option linter.unusedVariables false
set_option linter.unusedSimpArgs false
theorem eqA45 (d : Nat) (w : World) (x0 y0 : Bool) (x1 y1 : ByteArray) (x2 y2 : ByteArray) (x3 y3 : ByteArray) (x4 y4 : Int) (x5 y5 : Int) (x6 y6 : ByteArray) (x7 y7 : ByteArray) (x8 y8 : Int) :
    (Op.equalIn (d + 3) 45 (.agg #[.bool x0, .string x1, .string x2, .string x3, .int .i64 x4, .int .i64 x5, .string x6, .string x7, .int .i64 x8]) (.agg #[.bool y0, .string y1, .string y2, .string y3, .int .i64 y4, .int .i64 y5, .string y6, .string y7, .int .i64 y8])).run Tryd.prog w = .ok ((x0 == y0 && (x1.toList == y1.toList && (x2.toList == y2.toList))) && (x3.toList == y3.toList && (x4 == y4 && (x5 == y5 && (x6.toList == y6.toList && (x7.toList == y7.toList && (x8 == y8))))))) w := by
  refine eqA_of Tryd.underlying45 (by kernel_rfl) ?_
  refine eqf_cons (by rfl) (by go_simp) (by go_simp) (eqA23 (d + 0) w _ _ _ _ _ _) ?_
  refine eqf_cons (by rfl) (by go_simp; rfl) (by go_simp; rfl) (by go_simp) ?_
  refine eqf_cons (by rfl) (by go_simp; rfl) (by go_simp; rfl) (by go_simp) ?_
  refine eqf_cons (by rfl) (by go_simp; rfl) (by go_simp; rfl) (by go_simp) ?_
  refine eqf_cons (by rfl) (by go_simp; rfl) (by go_simp; rfl) (by go_simp) ?_
  refine eqf_cons (by rfl) (by go_simp; rfl) (by go_simp; rfl) (by go_simp) ?_
  exact eqf_last (by rfl) (by go_simp; rfl) (by go_simp; rfl) (by go_simp)
end Go.Proofs.YtihjcaglhjepdaaDoor.P
namespace Go.Proofs.YtihjcaglhjepdaaDoor.P
open Go.RowKit Go.Proofs.YtihjcaglhjepdaaDoorW.PrintWords Go.Proofs.YtihjcaglhjepdaaDoorW.PrintLast Go.Proofs.YtihjcaglhjepdaaDoorW.PrintMore
attribute [local go_sem] max2_int max_two
set_option linter.unusedVariables false
set_option linter.unusedSimpArgs false
def operand_whole.f (k : Nat) (a0 : ByteArray) : Option (ByteArray) := (strings_TrimLeft.f k a0 (⟨#[48]⟩ : ByteArray)).bind fun t918 => (if t918.toList = ([] : List UInt8) then (some (⟨#[48]⟩ : ByteArray)) else (some t918))
theorem operand_whole.mono : ∀ a0 k, LeO (operand_whole.f k a0) (operand_whole.f (k + 1) a0) := by
 intro a0 k
 unfold operand_whole.f
 repeat' first
   | (with_reducible exact strings_TrimLeft.mono _ _ _)
   | (with_reducible exact LeO.refl _)
   | (with_reducible exact LeO.none _)
   | (with_reducible refine LeO.ite ?_ ?_)
   | (with_reducible refine LeO.bind ?_ (fun _ => ?_))
   | exact strings_TrimLeft.mono _ _ _
   | exact LeO.none _
   | refine LeO.ite ?_ ?_
   | refine LeO.bind ?_ (fun _ => ?_)
set_option maxHeartbeats 8000000 in
set_option maxRecDepth 100000 in
theorem operand_whole.calls (k : Nat) (a0 : ByteArray) (r : ByteArray) (w : World) (h : operand_whole.f k a0 = some r) :
    Calls Tryd.prog 82 #[.string a0] w fun e w' => e = .returned (.string r) ∧ Below w.heap.size w w' := by
 have HB := Aside0.mk (Below.refl w.heap.size w)
 unfold operand_whole.f at h
 have H := h
 clear h
 replace H := Option.bind_eq_some_iff.mp H
 obtain ⟨t918, A20, H⟩ := H
 try dsimp only at H
 have A2 := Aside0.mk A20
 clear A20
 have HF3 := Aside0.mk H
 clear H
 go_enter Tryd.func82, Tryd.ntmps82
 go_upto_if 6 with (first | ((with_reducible refine gate_callee (f := 99) rfl ?_); refine gL_ (some 4) Tryd.func99 #[.string a0, .string (⟨#[48]⟩ : ByteArray)] ?_; (with_reducible refine (strings_TrimLeft.calls k a0 (⟨#[48]⟩ : ByteArray) t918 _ A2.out).mono ?_); rintro e w4 ⟨rfl, hb⟩; refine ⟨_, rfl, ?_⟩; replace HB := Aside0.mk (below_step hb_ hb)))
 (try simp only [Act.put, List.setIfInBounds_toArray, List.set_cons_zero, List.set_cons_succ])
 have H := HF3.out
 clear HF3
 by_cases c5 : t918.toList = ([] : List UInt8)
 ·rw [if_pos c5] at H
  have c5b0 : (t918.toList == ([] : List UInt8)) = true := beq_iff_eq.mpr c5
  have c5b1 : (t918.toList != ([] : List UInt8)) = false := bne_eq_false_iff_eq.mpr c5
  clear c5
  (first | rw [c5b0] | (simp only [i64_w, i32_w]; rw [c5b0]) | rw [c5b1] | rw [(by rw [← c5b0]; cases t918.toList <;> rfl : t918.toList.isEmpty = true)] | skip)
  obtain rfl := Option.some.inj H
  go_wp2
  go_ret
  exact ⟨by first | rfl | (simp [errW_none, errW_some] <;> rfl) | (simp [*, errW_none, errW_some] <;> rfl) | (simp [bne_nil_]; done), by repeat (first | (with_reducible first | exact HB.out | apply below_alloc | apply pw_below_drewN | apply below_drew1) | exact HB.out)⟩
 ·rw [if_neg c5] at H
  have c5b0 : (t918.toList == ([] : List UInt8)) = false := beq_eq_false_iff_ne.mpr c5
  have c5b1 : (t918.toList != ([] : List UInt8)) = true := bne_iff_ne.mpr c5
  (first | rw [c5b0] | (simp only [i64_w, i32_w]; rw [c5b0]) | rw [c5b1] | rw [(by rw [← c5b0]; cases t918.toList <;> rfl : t918.toList.isEmpty = false)] | skip)
  obtain rfl := Option.some.inj H
  go_wp2
  go_ret
  exact ⟨by first | rfl | (simp [errW_none, errW_some] <;> rfl) | (simp [*, errW_none, errW_some] <;> rfl) | (simp [bne_nil_]; done), by repeat (first | (with_reducible first | exact HB.out | apply below_alloc | apply pw_below_drewN | apply below_drew1) | exact HB.out)⟩
end Go.Proofs.YtihjcaglhjepdaaDoor.P
namespace Go.Proofs.YtihjcaglhjepdaaDoor.P
open Go.RowKit Go.Proofs.YtihjcaglhjepdaaDoorW.PrintWords Go.Proofs.YtihjcaglhjepdaaDoorW.PrintLast Go.Proofs.YtihjcaglhjepdaaDoorW.PrintMore
attribute [local go_sem] max2_int max_two
set_option linter.unusedVariables false
set_option linter.unusedSimpArgs false
def operand_Of.j0 : Nat → Int → Bool → Bool → ByteArray → ByteArray → Option (Bool × ByteArray × ByteArray × ByteArray × Int × Int × ByteArray × ByteArray × Int × Int)
  | 0, _, _, _, _, _ => none
  | k + 1, x1, x21, x920000, x920001, x920002 => if x21 = true then (some (false, (⟨#[]⟩ : ByteArray), (⟨#[]⟩ : ByteArray), (⟨#[]⟩ : ByteArray), 0, 0, (⟨#[]⟩ : ByteArray), (⟨#[]⟩ : ByteArray), 0, 1)) else ((decimal_Shift.f k x920000 x920001 x920002 x1).bind fun bt922 => (if bt922.2.2.2 = 0 then ((decimal_Trim.f k false bt922.2.1 bt922.2.2.1).bind fun bt927 => (if bt927.2.2.2 = 0 then ((operand_whole.f k bt922.2.2.1).bind fun t932 => ((operand_whole.f k bt927.2.2.1).bind fun t933 => (some (bt927.1, bt927.2.1, bt927.2.2.1, bt922.2.1, (bt922.2.2.1.size : Int), (bt927.2.2.1.size : Int), t932, t933, x1, 0)))) else (some (false, (⟨#[]⟩ : ByteArray), (⟨#[]⟩ : ByteArray), (⟨#[]⟩ : ByteArray), 0, 0, (⟨#[]⟩ : ByteArray), (⟨#[]⟩ : ByteArray), 0, bt927.2.2.2)))) else (some (false, (⟨#[]⟩ : ByteArray), (⟨#[]⟩ : ByteArray), (⟨#[]⟩ : ByteArray), 0, 0, (⟨#[]⟩ : ByteArray), (⟨#[]⟩ : ByteArray), 0, bt922.2.2.2))))
def operand_Of.f (k : Nat) (a0_0 : Bool) (a0_1 : ByteArray) (a0_2 : ByteArray) (a1 : Int) : Option (Bool × ByteArray × ByteArray × ByteArray × Int × Int × ByteArray × ByteArray × Int × Int) := (decimal_Check.f k a0_0 a0_1 a0_2).bind fun t921 => (if t921 = 0 then (if a1 < 0 then (operand_Of.j0 k a1 true a0_0 a0_1 a0_2) else (operand_Of.j0 k a1 (decide (a1 > 40)) a0_0 a0_1 a0_2)) else (some (false, (⟨#[]⟩ : ByteArray), (⟨#[]⟩ : ByteArray), (⟨#[]⟩ : ByteArray), 0, 0, (⟨#[]⟩ : ByteArray), (⟨#[]⟩ : ByteArray), 0, t921)))
theorem operand_Of.mono_l : ∀ k, (∀ y0 y1 y2 y3 y4, LeO (operand_Of.j0 k y0 y1 y2 y3 y4) (operand_Of.j0 (k + 1) y0 y1 y2 y3 y4))
  | 0 => fun _ _ _ _ _ r h => by simp [operand_Of.j0] at h
  | k + 1 => by
    have ih0 := operand_Of.mono_l k
    · intro y0 y1 y2 y3 y4
      unfold operand_Of.j0
      repeat' first
      | (with_reducible exact ih0 _ _ _ _ _)
      | (with_reducible exact decimal_Check.mono _ _ _ _)
      | (with_reducible exact decimal_Shift.mono _ _ _ _ _)
      | (with_reducible exact decimal_Trim.mono _ _ _ _)
      | (with_reducible exact operand_whole.mono _ _)
      | (with_reducible exact LeO.refl _)
      | (with_reducible exact LeO.none _)
      | (with_reducible refine LeO.ite ?_ ?_)
      | (with_reducible refine LeO.bind ?_ (fun _ => ?_))
      | exact ih0 _ _ _ _ _
      | exact decimal_Check.mono _ _ _ _
      | exact decimal_Shift.mono _ _ _ _ _
      | exact decimal_Trim.mono _ _ _ _
      | exact operand_whole.mono _ _
      | exact LeO.none _
      | refine LeO.ite ?_ ?_
      | refine LeO.bind ?_ (fun _ => ?_)
theorem operand_Of.mono : ∀ a0 a1 a2 a3 k, LeO (operand_Of.f k a0 a1 a2 a3) (operand_Of.f (k + 1) a0 a1 a2 a3) := by
 intro a0 a1 a2 a3 k
 have ih0 := operand_Of.mono_l k
 unfold operand_Of.f
 repeat' first
   | (with_reducible exact ih0 _ _ _ _ _)
   | (with_reducible exact decimal_Check.mono _ _ _ _)
   | (with_reducible exact decimal_Shift.mono _ _ _ _ _)
   | (with_reducible exact decimal_Trim.mono _ _ _ _)
   | (with_reducible exact operand_whole.mono _ _)
   | (with_reducible exact LeO.refl _)
   | (with_reducible exact LeO.none _)
   | (with_reducible refine LeO.ite ?_ ?_)
   | (with_reducible refine LeO.bind ?_ (fun _ => ?_))
   | exact ih0 _ _ _ _ _
   | exact decimal_Check.mono _ _ _ _
   | exact decimal_Shift.mono _ _ _ _ _
   | exact decimal_Trim.mono _ _ _ _
   | exact operand_whole.mono _ _
   | exact LeO.none _
   | refine LeO.ite ?_ ?_
   | refine LeO.bind ?_ (fun _ => ?_)
def operand_Of.T13 : Bool × List (List Nat × List Nat) := (true, [([], []), ([], []), ([1], [1]), ([], []), ([3], [3]), ([4], [4]), ([], []), ([6], [6]), ([7], [7]), ([], []), ([9], [9]), ([10], [10]), ([], []), ([12], [12]), ([13, 11], [13]), ([], []), ([0, 2, 5, 8, 11, 14, 15], [0, 2, 5, 8, 11, 14, 15]), ([16, 14, 0, 1, 2, 3, 4, 5, 6, 7, 8, 9, 10, 11, 12, 13, 14, 15, 16], [16]), ([17, 0, 1, 2, 3, 4, 5, 6, 7, 8, 9, 10, 11, 12, 13, 14, 15, 16, 17], [])])
def operand_Of.B13 : List Nat := [0, 0, 2, 0, 8, 24, 0, 64, 192, 0, 512, 1536, 0, 4096, 15872, 0, 65535, 131071, 262143]
theorem operand_Of.tab13 : rtab .any (opsOf Tryd.f45 13) = operand_Of.T13 := by kernel_rfl
theorem operand_Of.bits13 : waitsOk operand_Of.T13.2 operand_Of.B13 = true := by kernel_rfl
set_option maxHeartbeats 8000000 in
set_option maxRecDepth 100000 in
theorem operand_Of.calls (k : Nat) (a0_0 : Bool) (a0_1 : ByteArray) (a0_2 : ByteArray) (a1 : Int) (r1 : Bool) (r2 : ByteArray) (r3 : ByteArray) (r4 : ByteArray) (r5 : Int) (r6 : Int) (r7 : ByteArray) (r8 : ByteArray) (r9 : Int) (r10 : Int) (w : World) (h : operand_Of.f k a0_0 a0_1 a0_2 a1 = some (r1, r2, r3, r4, r5, r6, r7, r8, r9, r10)) :
    Calls Tryd.prog 45 #[.agg #[.bool a0_0, .string a0_1, .string a0_2], .int .i64 a1] w fun e w' => e = .returned (.tuple #[.agg #[.bool r1, .string r2, .string r3, .string r4, .int .i64 r5, .int .i64 r6, .string r7, .string r8, .int .i64 r9], .int .i64 r10]) ∧ Below w.heap.size w w' := by
 have hu23 := Tryd.underlying23
 have hu45 := Tryd.underlying45
 have HB := Aside0.mk (Below.refl w.heap.size w)
 unfold operand_Of.f at h
 have H := h
 clear h
 replace H := Option.bind_eq_some_iff.mp H
 obtain ⟨t921, A30, H⟩ := H
 try dsimp only at H
 have A3 := Aside0.mk A30
 clear A30
 have HF4 := Aside0.mk H
 clear H
 go_enter Tryd.func45, Tryd.ntmps45
 go_upto_if 13 with (first | ((with_reducible refine gate_dst (N := 2) rfl ?_); refine bx_ #[.bool a0_0, .string a0_1, .string a0_2] 23 ?_; intro gb919 hg w5 hbox hb; have BK919 := Aside0.mk (hbox); have GW919 := Aside0.mk ((by rw [hg]; exact (below_size hb_) : w.heap.size ≤ gb919)); have GE919 := Aside0.mk ((by rw [hg]; exact (below_size hb_) : w.heap.size ≤ gb919)); replace HB := Aside0.mk (below_step hb_ hb); clear hb hbox hg) | ((with_reducible refine gate_dst (N := 4) rfl ?_); refine bx_ #[.bool false, .string (⟨#[]⟩ : ByteArray), .string (⟨#[]⟩ : ByteArray), .string (⟨#[]⟩ : ByteArray), .int .i64 0, .int .i64 0, .string (⟨#[]⟩ : ByteArray), .string (⟨#[]⟩ : ByteArray), .int .i64 0] 45 ?_; intro gb920 hg w6 hbox hb; have BK920 := Aside0.mk (hbox); have GW920 := Aside0.mk ((by rw [hg]; exact (below_size hb_) : w.heap.size ≤ gb920)); have GE920 := Aside0.mk ((by rw [hg]; exact (below_size hb_) : w.heap.size ≤ gb920)); have NB919_920 := BK919.nl hg; have NB920_919 := BK919.ng hg; replace BK919 := BK919.bl hb; replace HB := Aside0.mk (below_step hb_ hb); clear hb hbox hg; have hnb7 := NB919_920.out; have hnc7 := NB920_919.out; obtain ⟨hcz8_0, hcz8_1, hcz8_2, hfz8_0, hfz8_1, hfz8_2⟩ := BK919.c3) | ((with_reducible refine gate_callee (f := 19) rfl ?_); refine gL_ (some 11) Tryd.func19 #[.agg #[.bool a0_0, .string a0_1, .string a0_2]] ?_; (with_reducible refine (decimal_Check.calls k a0_0 a0_1 a0_2 t921 _ A3.out).mono ?_); rintro e w9 ⟨rfl, hb⟩; refine ⟨_, rfl, ?_⟩; replace BK919 := BK919.bl hb; replace BK920 := BK920.bl hb; replace HB := Aside0.mk (below_step hb_ hb)))
 (try simp only [Act.put, List.setIfInBounds_toArray, List.set_cons_zero, List.set_cons_succ])
 have H := HF4.out
 clear HF4
 by_cases c10 : t921 = 0
 ·rw [if_pos c10] at H
  have c10b0 : (t921 == 0) = true := beq_iff_eq.mpr c10
  have c10b1 : (t921 != 0) = false := bne_eq_false_iff_eq.mpr c10
  clear c10
  (first | rw [c10b0] | (simp only [i64_w, i32_w]; rw [c10b0]) | rw [c10b1] | skip)
  have HC11 := Aside0.mk H
  clear H
  go_upto_region 4 with (fail)
  go_cut [21] (fun v21 wc => ∃ (kq : Nat) (x21_10 : Bool), v21 = .bool x21_10 ∧ Aside0 (operand_Of.j0 kq a1 x21_10 a0_0 a0_1 a0_2 = some (r1, r2, r3, r4, r5, r6, r7, r8, r9, r10)) ∧ Aside0 (kq ≤ k) ∧ Aside0 (wc.heap[gb919]? = some (.cells #[.bool a0_0, .string a0_1, .string a0_2] 23 (0, 0))) ∧ Aside0 (wc.heap[gb920]? = some (.cells #[.bool false, .string (⟨#[]⟩ : ByteArray), .string (⟨#[]⟩ : ByteArray), .string (⟨#[]⟩ : ByteArray), .int .i64 0, .int .i64 0, .string (⟨#[]⟩ : ByteArray), .string (⟨#[]⟩ : ByteArray), .int .i64 0] 45 (0, 0))) ∧ Aside0 (Below w.heap.size w wc))
  case first =>
   have H := HC11.out
   clear HC11
   by_cases c12 : a1 < 0
   ·rw [if_pos c12] at H
    have c12b0 : decide (a1 < 0) = true := decide_eq_true c12
    clear c12
    (first | rw [c12b0] | (simp only [i64_w, i32_w]; rw [c12b0]) | skip)
    have H' := Aside0.mk H
    clear H
    go_wp2
    go_meet
    case rel => exact ⟨_, (true), (by first | rfl | (simp; done) | (simp [*]; done)), H', ⟨by first | omega | exact Nat.le_refl _⟩, ⟨by exact BK919.out⟩, ⟨by exact BK920.out⟩, ⟨by repeat (first | (with_reducible first | exact HB.out | apply below_alloc | apply pw_below_drewN | apply below_drew1 | refine below_set ?_ GE919.out | refine below_set ?_ GE920.out) | exact HB.out)⟩⟩
   ·rw [if_neg c12] at H
    have c12b0 : decide (a1 < 0) = false := decide_eq_false c12
    clear c12
    (first | rw [c12b0] | (simp only [i64_w, i32_w]; rw [c12b0]) | skip)
    have H' := Aside0.mk H
    clear H
    go_wp2
    go_meet
    case rel => exact ⟨_, (decide (a1 > 40)), (by first | rfl | (simp; done) | (simp [*]; done)), H', ⟨by first | omega | exact Nat.le_refl _⟩, ⟨by exact BK919.out⟩, ⟨by exact BK920.out⟩, ⟨by repeat (first | (with_reducible first | exact HB.out | apply below_alloc | apply pw_below_drewN | apply below_drew1 | refine below_set ?_ GE919.out | refine below_set ?_ GE920.out) | exact HB.out)⟩⟩
  case rest =>
   clear HC11
   (try clear c10); (try clear c10b0); (try clear c10b1); (try clear hcz8_0); (try clear hcz8_1); (try clear hcz8_2); (try clear hfz8_0); (try clear hfz8_1); (try clear hfz8_2)
   obtain ⟨kq, x21_10, rfl, HA, HJ10, BK919, BK920, HB⟩ := hcut
   cases kq with
   | zero => exact absurd HA.out (by simp [operand_Of.j0])
   | succ kj10 =>
    have H := HA.out
    clear HA
    simp only [operand_Of.j0] at H
    by_cases c13 : x21_10 = true
    ·subst c13
     have H1 : (some (false, (⟨#[]⟩ : ByteArray), (⟨#[]⟩ : ByteArray), (⟨#[]⟩ : ByteArray), 0, 0, (⟨#[]⟩ : ByteArray), (⟨#[]⟩ : ByteArray), 0, 1)) = some (r1, r2, r3, r4, r5, r6, r7, r8, r9, r10) := by rw [if_pos rfl] at H; exact H
     clear H
     have H := H1
     clear H1
     simp only [Option.some.injEq, Prod.mk.injEq] at H
     obtain ⟨rfl, rfl, rfl, rfl, rfl, rfl, rfl, rfl, rfl, rfl⟩ := H
     have hnb14 := NB920_919.out
     have hnc14 := NB919_920.out
     have hcz15_0 : wc.cell? ⟨gb920, 0, none⟩ = some (.bool false) := (blk_cell BK920.out 0).trans rfl
     have hcz15_1 : wc.cell? ⟨gb920, 1, none⟩ = some (.string (⟨#[]⟩ : ByteArray)) := (blk_cell BK920.out 1).trans rfl
     have hcz15_2 : wc.cell? ⟨gb920, 2, none⟩ = some (.string (⟨#[]⟩ : ByteArray)) := (blk_cell BK920.out 2).trans rfl
     have hcz15_3 : wc.cell? ⟨gb920, 3, none⟩ = some (.string (⟨#[]⟩ : ByteArray)) := (blk_cell BK920.out 3).trans rfl
     have hcz15_4 : wc.cell? ⟨gb920, 4, none⟩ = some (.int .i64 0) := (blk_cell BK920.out 4).trans rfl
     have hcz15_5 : wc.cell? ⟨gb920, 5, none⟩ = some (.int .i64 0) := (blk_cell BK920.out 5).trans rfl
     have hcz15_6 : wc.cell? ⟨gb920, 6, none⟩ = some (.string (⟨#[]⟩ : ByteArray)) := (blk_cell BK920.out 6).trans rfl
     have hcz15_7 : wc.cell? ⟨gb920, 7, none⟩ = some (.string (⟨#[]⟩ : ByteArray)) := (blk_cell BK920.out 7).trans rfl
     have hcz15_8 : wc.cell? ⟨gb920, 8, none⟩ = some (.int .i64 0) := (blk_cell BK920.out 8).trans rfl
     have hfz15_0 := blk_frozen BK920.out 0
     have hfz15_1 := blk_frozen BK920.out 1
     have hfz15_2 := blk_frozen BK920.out 2
     have hfz15_3 := blk_frozen BK920.out 3
     have hfz15_4 := blk_frozen BK920.out 4
     have hfz15_5 := blk_frozen BK920.out 5
     have hfz15_6 := blk_frozen BK920.out 6
     have hfz15_7 := blk_frozen BK920.out 7
     have hfz15_8 := blk_frozen BK920.out 8
     go_wp2
     refine bodyPost_ret (results_ct rfl _ _ gb920 45 #[.bool false, .string (⟨#[]⟩ : ByteArray), .string (⟨#[]⟩ : ByteArray), .string (⟨#[]⟩ : ByteArray), .int .i64 0, .int .i64 0, .string (⟨#[]⟩ : ByteArray), .string (⟨#[]⟩ : ByteArray), .int .i64 0] (0, 0) _ rfl (by refine blk_put (cs := #[.bool false, .string (⟨#[]⟩ : ByteArray), .string (⟨#[]⟩ : ByteArray), .string (⟨#[]⟩ : ByteArray), .int .i64 0, .int .i64 0, .string (⟨#[]⟩ : ByteArray), .string (⟨#[]⟩ : ByteArray), .int .i64 0]) ?_ 8 _ rfl; refine blk_put (cs := #[.bool false, .string (⟨#[]⟩ : ByteArray), .string (⟨#[]⟩ : ByteArray), .string (⟨#[]⟩ : ByteArray), .int .i64 0, .int .i64 0, .string (⟨#[]⟩ : ByteArray), .string (⟨#[]⟩ : ByteArray), .int .i64 0]) ?_ 7 _ rfl; refine blk_put (cs := #[.bool false, .string (⟨#[]⟩ : ByteArray), .string (⟨#[]⟩ : ByteArray), .string (⟨#[]⟩ : ByteArray), .int .i64 0, .int .i64 0, .string (⟨#[]⟩ : ByteArray), .string (⟨#[]⟩ : ByteArray), .int .i64 0]) ?_ 6 _ rfl; refine blk_put (cs := #[.bool false, .string (⟨#[]⟩ : ByteArray), .string (⟨#[]⟩ : ByteArray), .string (⟨#[]⟩ : ByteArray), .int .i64 0, .int .i64 0, .string (⟨#[]⟩ : ByteArray), .string (⟨#[]⟩ : ByteArray), .int .i64 0]) ?_ 5 _ rfl; refine blk_put (cs := #[.bool false, .string (⟨#[]⟩ : ByteArray), .string (⟨#[]⟩ : ByteArray), .string (⟨#[]⟩ : ByteArray), .int .i64 0, .int .i64 0, .string (⟨#[]⟩ : ByteArray), .string (⟨#[]⟩ : ByteArray), .int .i64 0]) ?_ 4 _ rfl; refine blk_put (cs := #[.bool false, .string (⟨#[]⟩ : ByteArray), .string (⟨#[]⟩ : ByteArray), .string (⟨#[]⟩ : ByteArray), .int .i64 0, .int .i64 0, .string (⟨#[]⟩ : ByteArray), .string (⟨#[]⟩ : ByteArray), .int .i64 0]) ?_ 3 _ rfl; refine blk_put (cs := #[.bool false, .string (⟨#[]⟩ : ByteArray), .string (⟨#[]⟩ : ByteArray), .string (⟨#[]⟩ : ByteArray), .int .i64 0, .int .i64 0, .string (⟨#[]⟩ : ByteArray), .string (⟨#[]⟩ : ByteArray), .int .i64 0]) ?_ 2 _ rfl; refine blk_put (cs := #[.bool false, .string (⟨#[]⟩ : ByteArray), .string (⟨#[]⟩ : ByteArray), .string (⟨#[]⟩ : ByteArray), .int .i64 0, .int .i64 0, .string (⟨#[]⟩ : ByteArray), .string (⟨#[]⟩ : ByteArray), .int .i64 0]) ?_ 1 _ rfl; refine blk_put (cs := #[.bool false, .string (⟨#[]⟩ : ByteArray), .string (⟨#[]⟩ : ByteArray), .string (⟨#[]⟩ : ByteArray), .int .i64 0, .int .i64 0, .string (⟨#[]⟩ : ByteArray), .string (⟨#[]⟩ : ByteArray), .int .i64 0]) ?_ 0 _ rfl; exact BK920.out) Tryd.underlying45 rfl (by kernel_rfl)) rfl ?_
     exact ⟨by first | rfl | (simp [errW_none, errW_some] <;> rfl) | (simp [*, errW_none, errW_some] <;> rfl) | (simp [bne_nil_]; done), by repeat (first | (with_reducible first | exact HB.out | apply below_alloc | apply pw_below_drewN | apply below_drew1 | refine below_set ?_ GE919.out | refine below_set ?_ GE920.out) | exact HB.out)⟩
    ·replace c13 := Bool.eq_false_iff.mpr c13
     subst c13
     have H1 : ((decimal_Shift.f kj10 a0_0 a0_1 a0_2 a1).bind fun bt922 => (if bt922.2.2.2 = 0 then ((decimal_Trim.f kj10 false bt922.2.1 bt922.2.2.1).bind fun bt927 => (if bt927.2.2.2 = 0 then ((operand_whole.f kj10 bt922.2.2.1).bind fun t932 => ((operand_whole.f kj10 bt927.2.2.1).bind fun t933 => (some (bt927.1, bt927.2.1, bt927.2.2.1, bt922.2.1, (bt922.2.2.1.size : Int), (bt927.2.2.1.size : Int), t932, t933, a1, 0)))) else (some (false, (⟨#[]⟩ : ByteArray), (⟨#[]⟩ : ByteArray), (⟨#[]⟩ : ByteArray), 0, 0, (⟨#[]⟩ : ByteArray), (⟨#[]⟩ : ByteArray), 0, bt927.2.2.2)))) else (some (false, (⟨#[]⟩ : ByteArray), (⟨#[]⟩ : ByteArray), (⟨#[]⟩ : ByteArray), 0, 0, (⟨#[]⟩ : ByteArray), (⟨#[]⟩ : ByteArray), 0, bt922.2.2.2)))) = some (r1, r2, r3, r4, r5, r6, r7, r8, r9, r10) := by rw [if_neg (show ¬ (false = true) by decide)] at H; exact H
     clear H
     have H := H1
     clear H1
     replace H := Option.bind_eq_some_iff.mp H
     obtain ⟨⟨t922, t923, t924, t925⟩, A160, H⟩ := H
     try dsimp only at H
     have A16 := Aside0.mk A160
     clear A160
     have HF17 := Aside0.mk H
     clear H
     have hnb18 := NB919_920.out
     have hnc18 := NB920_919.out
     obtain ⟨hcz19_0, hcz19_1, hcz19_2, hfz19_0, hfz19_1, hfz19_2⟩ := BK919.c3
     go_upto_if 30 with (first | ((with_reducible refine gate_callee (f := 39) rfl ?_); refine gL_ (some 26) Tryd.func39 #[.agg #[.bool a0_0, .string a0_1, .string a0_2], .int .i64 a1] ?_; (with_reducible refine (decimal_Shift.calls kj10 a0_0 a0_1 a0_2 a1 t922 t923 t924 t925 _ A16.out).mono ?_); rintro e w20 ⟨rfl, hb⟩; refine ⟨_, rfl, ?_⟩; replace BK919 := BK919.bl hb; replace BK920 := BK920.bl hb; replace HB := Aside0.mk (below_step hb_ hb)) | ((with_reducible refine gate_dst (N := 7) rfl ?_); refine bx_ #[.bool false, .string (⟨#[]⟩ : ByteArray), .string (⟨#[]⟩ : ByteArray)] 23 ?_; intro gb926 hg w21 hbox hb; have BK926 := Aside0.mk (hbox); have GW926 := Aside0.mk ((by rw [hg]; exact (below_size hb_) : w.heap.size ≤ gb926)); have GE926 := Aside0.mk ((by rw [hg]; exact (below_size hb_) : w.heap.size ≤ gb926)); have NB919_926 := BK919.nl hg; have NB926_919 := BK919.ng hg; have NB920_926 := BK920.nl hg; have NB926_920 := BK920.ng hg; replace BK919 := BK919.bl hb; replace BK920 := BK920.bl hb; replace HB := Aside0.mk (below_step hb_ hb); clear hb hbox hg; have hnb22 := NB926_919.out; have hnc22 := NB919_926.out; have hnb23 := NB926_920.out; have hnc23 := NB920_926.out; obtain ⟨hcz24_0, hcz24_1, hcz24_2, hfz24_0, hfz24_1, hfz24_2⟩ := BK926.c3))
     (try simp only [Act.put, List.setIfInBounds_toArray, List.set_cons_zero, List.set_cons_succ])
     have H := HF17.out
     clear HF17
     by_cases c25 : t925 = 0
     ·rw [if_pos c25] at H
      have c25b0 : (t925 == 0) = true := beq_iff_eq.mpr c25
      have c25b1 : (t925 != 0) = false := bne_eq_false_iff_eq.mpr c25
      clear c25
      (first | rw [c25b0] | (simp only [i64_w, i32_w]; rw [c25b0]) | rw [c25b1] | skip)
      replace H := Option.bind_eq_some_iff.mp H
      obtain ⟨⟨t927, t928, t929, t930⟩, A260, H⟩ := H
      try dsimp only at H
      have A26 := Aside0.mk A260
      clear A260
      have HF27 := Aside0.mk H
      clear H
      have hnb28 := NB926_919.out
      have hnc28 := NB919_926.out
      have hnb29 := NB926_920.out
      have hnc29 := NB920_926.out
      obtain ⟨hcz30_0, hcz30_1, hcz30_2, hfz30_0, hfz30_1, hfz30_2⟩ := BK926.c3
      go_upto_if 40 with (first | ((with_reducible refine gate_callee (f := 40) rfl ?_); refine gL_ (some 36) Tryd.func40 #[.agg #[.bool false, .string t923, .string t924]] ?_; (with_reducible refine (decimal_Trim.calls kj10 false t923 t924 t927 t928 t929 t930 _ A26.out).mono ?_); rintro e w31 ⟨rfl, hb⟩; refine ⟨_, rfl, ?_⟩; replace BK919 := Aside0.mk (blk_below (g := gb919) (o := .cells #[.bool a0_0, .string a0_1, .string a0_2] 23 (0, 0)) (by refine blk_far ?_ NB919_926.out _; refine blk_far ?_ NB919_926.out _; refine blk_far ?_ NB919_926.out _; refine blk_far ?_ NB919_926.out _; exact BK919.out) hb); replace BK920 := Aside0.mk (blk_below (g := gb920) (o := .cells #[.bool false, .string (⟨#[]⟩ : ByteArray), .string (⟨#[]⟩ : ByteArray), .string (⟨#[]⟩ : ByteArray), .int .i64 0, .int .i64 0, .string (⟨#[]⟩ : ByteArray), .string (⟨#[]⟩ : ByteArray), .int .i64 0] 45 (0, 0)) (by refine blk_far ?_ NB920_926.out _; refine blk_far ?_ NB920_926.out _; refine blk_far ?_ NB920_926.out _; refine blk_far ?_ NB920_926.out _; exact BK920.out) hb); replace BK926 := Aside0.mk (blk_below (g := gb926) (o := .cells #[.bool false, .string t923, .string t924] 23 (0, 0)) (by refine blk_put (cs := #[.bool t922, .string t923, .string t924]) ?_ 0 _ rfl; refine blk_put (cs := #[.bool t922, .string t923, .string (⟨#[]⟩ : ByteArray)]) ?_ 2 _ rfl; refine blk_put (cs := #[.bool t922, .string (⟨#[]⟩ : ByteArray), .string (⟨#[]⟩ : ByteArray)]) ?_ 1 _ rfl; refine blk_put (cs := #[.bool false, .string (⟨#[]⟩ : ByteArray), .string (⟨#[]⟩ : ByteArray)]) ?_ 0 _ rfl; exact BK926.out) hb); replace HB := Aside0.mk (below_step hb_ hb)) | ((with_reducible refine gate_dst (N := 9) rfl ?_); refine bx_ #[.bool false, .string (⟨#[]⟩ : ByteArray), .string (⟨#[]⟩ : ByteArray)] 23 ?_; intro gb931 hg w32 hbox hb; have BK931 := Aside0.mk (hbox); have GW931 := Aside0.mk ((by rw [hg]; exact (below_size hb_) : w.heap.size ≤ gb931)); have GE931 := Aside0.mk ((by rw [hg]; exact (below_size hb_) : w.heap.size ≤ gb931)); have NB919_931 := BK919.nl hg; have NB931_919 := BK919.ng hg; have NB920_931 := BK920.nl hg; have NB931_920 := BK920.ng hg; have NB926_931 := BK926.nl hg; have NB931_926 := BK926.ng hg; replace BK919 := BK919.bl hb; replace BK920 := BK920.bl hb; replace BK926 := BK926.bl hb; replace HB := Aside0.mk (below_step hb_ hb); clear hb hbox hg; have hnb33 := NB931_919.out; have hnc33 := NB919_931.out; have hnb34 := NB931_920.out; have hnc34 := NB920_931.out; have hnb35 := NB931_926.out; have hnc35 := NB926_931.out; obtain ⟨hcz36_0, hcz36_1, hcz36_2, hfz36_0, hfz36_1, hfz36_2⟩ := BK931.c3))
      (try simp only [Act.put, List.setIfInBounds_toArray, List.set_cons_zero, List.set_cons_succ])
      have H := HF27.out
      clear HF27
      by_cases c37 : t930 = 0
      ·rw [if_pos c37] at H
       have c37b0 : (t930 == 0) = true := beq_iff_eq.mpr c37
       have c37b1 : (t930 != 0) = false := bne_eq_false_iff_eq.mpr c37
       clear c37
       (first | rw [c37b0] | (simp only [i64_w, i32_w]; rw [c37b0]) | rw [c37b1] | skip)
       replace H := Option.bind_eq_some_iff.mp H
       obtain ⟨t932, A380, H⟩ := H
       try dsimp only at H
       have A38 := Aside0.mk A380
       clear A380
       replace H := Option.bind_eq_some_iff.mp H
       obtain ⟨t933, A390, H⟩ := H
       try dsimp only at H
       have A39 := Aside0.mk A390
       clear A390
       simp only [Option.some.injEq, Prod.mk.injEq] at H
       obtain ⟨rfl, rfl, rfl, rfl, rfl, rfl, rfl, rfl, rfl, rfl⟩ := H
       try go_wp2
       have n0_ : Aside0 ((((w32.setCell ⟨gb931, 0, none⟩ (.bool t927)).setCell ⟨gb931, 1, none⟩ (.string t928)).setCell ⟨gb931, 2, none⟩ (.string t929)).heap[gb919]? = some (.cells #[.bool a0_0, .string a0_1, .string a0_2] 23 (0, 0))) := ⟨by refine blk_far ?_ NB919_931.out _; refine blk_far ?_ NB919_931.out _; refine blk_far ?_ NB919_931.out _; exact BK919.out⟩
       have n1_ : Aside0 ((((w32.setCell ⟨gb931, 0, none⟩ (.bool t927)).setCell ⟨gb931, 1, none⟩ (.string t928)).setCell ⟨gb931, 2, none⟩ (.string t929)).heap[gb920]? = some (.cells #[.bool false, .string (⟨#[]⟩ : ByteArray), .string (⟨#[]⟩ : ByteArray), .string (⟨#[]⟩ : ByteArray), .int .i64 0, .int .i64 0, .string (⟨#[]⟩ : ByteArray), .string (⟨#[]⟩ : ByteArray), .int .i64 0] 45 (0, 0))) := ⟨by refine blk_far ?_ NB920_931.out _; refine blk_far ?_ NB920_931.out _; refine blk_far ?_ NB920_931.out _; exact BK920.out⟩
       have n2_ : Aside0 ((((w32.setCell ⟨gb931, 0, none⟩ (.bool t927)).setCell ⟨gb931, 1, none⟩ (.string t928)).setCell ⟨gb931, 2, none⟩ (.string t929)).heap[gb926]? = some (.cells #[.bool false, .string t923, .string t924] 23 (0, 0))) := ⟨by refine blk_far ?_ NB926_931.out _; refine blk_far ?_ NB926_931.out _; refine blk_far ?_ NB926_931.out _; exact BK926.out⟩
       have n3_ : Aside0 ((((w32.setCell ⟨gb931, 0, none⟩ (.bool t927)).setCell ⟨gb931, 1, none⟩ (.string t928)).setCell ⟨gb931, 2, none⟩ (.string t929)).heap[gb931]? = some (.cells #[.bool t927, .string t928, .string t929] 23 (0, 0))) := ⟨by refine blk_put (cs := #[.bool t927, .string t928, .string (⟨#[]⟩ : ByteArray)]) ?_ 2 _ rfl; refine blk_put (cs := #[.bool t927, .string (⟨#[]⟩ : ByteArray), .string (⟨#[]⟩ : ByteArray)]) ?_ 1 _ rfl; refine blk_put (cs := #[.bool false, .string (⟨#[]⟩ : ByteArray), .string (⟨#[]⟩ : ByteArray)]) ?_ 0 _ rfl; exact BK931.out⟩
       have n4_ : Aside0 (Below w.heap.size w (((w32.setCell ⟨gb931, 0, none⟩ (.bool t927)).setCell ⟨gb931, 1, none⟩ (.string t928)).setCell ⟨gb931, 2, none⟩ (.string t929))) := ⟨by repeat (first | (with_reducible first | exact HB.out | apply below_alloc | apply pw_below_drewN | apply below_drew1 | refine below_set ?_ GE919.out | refine below_set ?_ GE920.out | refine below_set ?_ GE926.out | refine below_set ?_ GE931.out) | exact HB.out)⟩
       (try clear BK919)
       (try clear BK920)
       (try clear BK926)
       (try clear BK931)
       (try clear HB)
       generalize (((w32.setCell ⟨gb931, 0, none⟩ (.bool t927)).setCell ⟨gb931, 1, none⟩ (.string t928)).setCell ⟨gb931, 2, none⟩ (.string t929)) = w40 at n0_ n1_ n2_ n3_ n4_ ⊢
       have BK919 := n0_
       have BK920 := n1_
       have BK926 := n2_
       have BK931 := n3_
       have HB := n4_
       clear n0_ n1_ n2_ n3_ n4_
       replace BK919 := Aside0.mk (blk_drew BK919.out)
       replace BK920 := Aside0.mk (blk_drew BK920.out)
       replace BK926 := Aside0.mk (blk_drew BK926.out)
       replace BK931 := Aside0.mk (blk_drew BK931.out)
       replace HB := Aside0.mk (below_drew1 HB.out)
       refine start_ (n := 19) (S := fun w' => w'.cell? ⟨gb931, 0, none⟩ = some (.bool t927) ∧ w'.cell? ⟨gb931, 1, none⟩ = some (.string t928) ∧ w'.cell? ⟨gb931, 2, none⟩ = some (.string t929) ∧ w'.cell? ⟨gb926, 0, none⟩ = some (.bool false) ∧ w'.cell? ⟨gb926, 1, none⟩ = some (.string t923) ∧ w'.cell? ⟨gb926, 2, none⟩ = some (.string t924)) (ds := []) #[false, false, false, false, false, false, false, false, false, false, false, false, false, false, false, false, false, false, false] (by kernel_rfl) rfl rfl ⟨(blk_cell BK931.out 0).trans rfl, (blk_cell BK931.out 1).trans rfl, (blk_cell BK931.out 2).trans rfl, (blk_cell BK926.out 0).trans rfl, (blk_cell BK926.out 1).trans rfl, (blk_cell BK926.out 2).trans rfl⟩ (fun hHeld => ?_); refine with_tabW operand_Of.tab13 operand_Of.bits13 (fun HT_ HW_ => ?_)
       generalize w40.drew = w41 at BK919 BK920 BK926 BK931 HB hHeld ⊢
       refine pr_ 1 (some 44) ?_
       refine pr_ 3 (some 46) ?_
       refine pr_ 6 (some 49) ?_
       refine pr_ 9 (some 52) ?_
       refine pr_ 12 (some 55) ?_
       refine pr_ 15 (some 58) ?_
       refine tk_ 0 (some 43) hHeld ?_
       refine tk_ 2 (some 45) hHeld ?_
       refine tk_ 4 (some 47) hHeld ?_
       refine pr_ 5 (some 48) ?_
       refine tk_ 7 (some 50) hHeld ?_
       refine pr_ 8 (some 51) ?_
       refine tk_ 10 (some 53) hHeld ?_
       refine tk_ 13 (some 56) hHeld ?_
       refine one_ (i := 11) (N := some 54) #[true, true, true, true, true, true, true, true, true, true, true, true, true, true, false, true, false, false, false] rfl rfl (one_of HT_.out (by kernel_rfl)) (by decide) (fun K hK => ?_)
       refine goes_ Tryd.func82 (by kernel_rfl) rfl #[.string t924] (by rfl) rfl rfl ar_ ?_
       with_reducible refine (operand_whole.calls kj10 t924 t932 _ A38.out).mono ?_
       rintro e w42 ⟨rfl, hb⟩
       refine ⟨_, rfl, ?_⟩
       replace BK919 := BK919.bl hb
       replace BK920 := BK920.bl hb
       replace BK926 := BK926.bl hb
       replace BK931 := BK931.bl hb
       replace HB := Aside0.mk (below_step hb_ hb)
       (try clear hb)
       (try clear hb2)
       (try clear hk)
       (try clear hi)
       refine hK.out _ _ ⟨(blk_cell BK931.out 0).trans rfl, (blk_cell BK931.out 1).trans rfl, (blk_cell BK931.out 2).trans rfl, (blk_cell BK926.out 0).trans rfl, (blk_cell BK926.out 1).trans rfl, (blk_cell BK926.out 2).trans rfl⟩ (fun hHeld => ?_)
       clear hK K
       refine norm_ (a' := ?_) ?_ ?_
       rotate_left
       ·show Act.put _ (some 54) _ = _
        simp only [Act.put, List.setIfInBounds_toArray, List.set_cons_zero, List.set_cons_succ, i64_w, i32_w]
        rfl
       refine one_ (i := 14) (N := some 57) #[true, true, true, true, true, true, true, true, true, true, true, true, true, true, true, true, false, false, false] rfl rfl (one_of HT_.out (by kernel_rfl)) (by decide) (fun K hK => ?_)
       refine goes_ Tryd.func82 (by kernel_rfl) rfl #[.string t929] (by rfl) rfl rfl ar_ ?_
       with_reducible refine (operand_whole.calls kj10 t929 t933 _ A39.out).mono ?_
       rintro e w43 ⟨rfl, hb⟩
       refine ⟨_, rfl, ?_⟩
       replace BK919 := BK919.bl hb
       replace BK920 := BK920.bl hb
       replace BK926 := BK926.bl hb
       replace BK931 := BK931.bl hb
       replace HB := Aside0.mk (below_step hb_ hb)
       (try clear hb)
       (try clear hb2)
       (try clear hk)
       (try clear hi)
       refine hK.out _ _ ⟨(blk_cell BK931.out 0).trans rfl, (blk_cell BK931.out 1).trans rfl, (blk_cell BK931.out 2).trans rfl, (blk_cell BK926.out 0).trans rfl, (blk_cell BK926.out 1).trans rfl, (blk_cell BK926.out 2).trans rfl⟩ (fun hHeld => ?_)
       clear hK K
       refine norm_ (a' := ?_) ?_ ?_
       rotate_left
       ·show Act.put _ (some 57) _ = _
        simp only [Act.put, List.setIfInBounds_toArray, List.set_cons_zero, List.set_cons_succ, i64_w, i32_w]
        rfl
       refine pr_ 16 (some 59) ?_
       refine one_ (i := 17) (N := none) #[true, true, true, true, true, true, true, true, true, true, true, true, true, true, true, true, true, true, false] rfl rfl (one_of HT_.out (by kernel_rfl)) (by decide) (fun K hK => ?_)
       have hs44 : w43.cell? ⟨gb920, 0, none⟩ = some (.bool false) := (blk_cell BK920.out 0).trans rfl
       have hfs44 := blk_frozen BK920.out 0
       have hns44_0 := NB919_920.out
       have hns44_2 := NB926_920.out
       have hns44_3 := NB931_920.out
       have hms44_0 := NB920_919.out
       have hms44_2 := NB920_926.out
       have hms44_3 := NB920_931.out
       have hs45 : w43.cell? ⟨gb920, 1, none⟩ = some (.string (⟨#[]⟩ : ByteArray)) := (blk_cell BK920.out 1).trans rfl
       have hfs45 := blk_frozen BK920.out 1
       have hns45_0 := NB919_920.out
       have hns45_2 := NB926_920.out
       have hns45_3 := NB931_920.out
       have hms45_0 := NB920_919.out
       have hms45_2 := NB920_926.out
       have hms45_3 := NB920_931.out
       have hs46 : w43.cell? ⟨gb920, 2, none⟩ = some (.string (⟨#[]⟩ : ByteArray)) := (blk_cell BK920.out 2).trans rfl
       have hfs46 := blk_frozen BK920.out 2
       have hns46_0 := NB919_920.out
       have hns46_2 := NB926_920.out
       have hns46_3 := NB931_920.out
       have hms46_0 := NB920_919.out
       have hms46_2 := NB920_926.out
       have hms46_3 := NB920_931.out
       have hs47 : w43.cell? ⟨gb920, 3, none⟩ = some (.string (⟨#[]⟩ : ByteArray)) := (blk_cell BK920.out 3).trans rfl
       have hfs47 := blk_frozen BK920.out 3
       have hns47_0 := NB919_920.out
       have hns47_2 := NB926_920.out
       have hns47_3 := NB931_920.out
       have hms47_0 := NB920_919.out
       have hms47_2 := NB920_926.out
       have hms47_3 := NB920_931.out
       have hs48 : w43.cell? ⟨gb920, 4, none⟩ = some (.int .i64 0) := (blk_cell BK920.out 4).trans rfl
       have hfs48 := blk_frozen BK920.out 4
       have hns48_0 := NB919_920.out
       have hns48_2 := NB926_920.out
       have hns48_3 := NB931_920.out
       have hms48_0 := NB920_919.out
       have hms48_2 := NB920_926.out
       have hms48_3 := NB920_931.out
       have hs49 : w43.cell? ⟨gb920, 5, none⟩ = some (.int .i64 0) := (blk_cell BK920.out 5).trans rfl
       have hfs49 := blk_frozen BK920.out 5
       have hns49_0 := NB919_920.out
       have hns49_2 := NB926_920.out
       have hns49_3 := NB931_920.out
       have hms49_0 := NB920_919.out
       have hms49_2 := NB920_926.out
       have hms49_3 := NB920_931.out
       have hs50 : w43.cell? ⟨gb920, 6, none⟩ = some (.string (⟨#[]⟩ : ByteArray)) := (blk_cell BK920.out 6).trans rfl
       have hfs50 := blk_frozen BK920.out 6
       have hns50_0 := NB919_920.out
       have hns50_2 := NB926_920.out
       have hns50_3 := NB931_920.out
       have hms50_0 := NB920_919.out
       have hms50_2 := NB920_926.out
       have hms50_3 := NB920_931.out
       have hs51 : w43.cell? ⟨gb920, 7, none⟩ = some (.string (⟨#[]⟩ : ByteArray)) := (blk_cell BK920.out 7).trans rfl
       have hfs51 := blk_frozen BK920.out 7
       have hns51_0 := NB919_920.out
       have hns51_2 := NB926_920.out
       have hns51_3 := NB931_920.out
       have hms51_0 := NB920_919.out
       have hms51_2 := NB920_926.out
       have hms51_3 := NB920_931.out
       have hs52 : w43.cell? ⟨gb920, 8, none⟩ = some (.int .i64 0) := (blk_cell BK920.out 8).trans rfl
       have hfs52 := blk_frozen BK920.out 8
       have hns52_0 := NB919_920.out
       have hns52_2 := NB926_920.out
       have hns52_3 := NB931_920.out
       have hms52_0 := NB920_919.out
       have hms52_2 := NB920_926.out
       have hms52_3 := NB920_931.out
       refine skip_ (w1 := ?_) (by rfl) rfl ?_ ?_
       rotate_left
       ·go_simp
        rfl
       refine hK.out _ _ ⟨((cell_far (p := ⟨gb920, _, none⟩) NB931_920.out _).trans (((cell_far (p := ⟨gb920, _, none⟩) NB931_920.out _).trans (((cell_far (p := ⟨gb920, _, none⟩) NB931_920.out _).trans (((cell_far (p := ⟨gb920, _, none⟩) NB931_920.out _).trans (((cell_far (p := ⟨gb920, _, none⟩) NB931_920.out _).trans (((cell_far (p := ⟨gb920, _, none⟩) NB931_920.out _).trans (((cell_far (p := ⟨gb920, _, none⟩) NB931_920.out _).trans (((cell_far (p := ⟨gb920, _, none⟩) NB931_920.out _).trans (((cell_far (p := ⟨gb920, _, none⟩) NB931_920.out _).trans (hHeld.1)))))))))))))))))), ((cell_far (p := ⟨gb920, _, none⟩) NB931_920.out _).trans (((cell_far (p := ⟨gb920, _, none⟩) NB931_920.out _).trans (((cell_far (p := ⟨gb920, _, none⟩) NB931_920.out _).trans (((cell_far (p := ⟨gb920, _, none⟩) NB931_920.out _).trans (((cell_far (p := ⟨gb920, _, none⟩) NB931_920.out _).trans (((cell_far (p := ⟨gb920, _, none⟩) NB931_920.out _).trans (((cell_far (p := ⟨gb920, _, none⟩) NB931_920.out _).trans (((cell_far (p := ⟨gb920, _, none⟩) NB931_920.out _).trans (((cell_far (p := ⟨gb920, _, none⟩) NB931_920.out _).trans (hHeld.2.1)))))))))))))))))), ((cell_far (p := ⟨gb920, _, none⟩) NB931_920.out _).trans (((cell_far (p := ⟨gb920, _, none⟩) NB931_920.out _).trans (((cell_far (p := ⟨gb920, _, none⟩) NB931_920.out _).trans (((cell_far (p := ⟨gb920, _, none⟩) NB931_920.out _).trans (((cell_far (p := ⟨gb920, _, none⟩) NB931_920.out _).trans (((cell_far (p := ⟨gb920, _, none⟩) NB931_920.out _).trans (((cell_far (p := ⟨gb920, _, none⟩) NB931_920.out _).trans (((cell_far (p := ⟨gb920, _, none⟩) NB931_920.out _).trans (((cell_far (p := ⟨gb920, _, none⟩) NB931_920.out _).trans (hHeld.2.2.1)))))))))))))))))), ((cell_far (p := ⟨gb920, _, none⟩) NB926_920.out _).trans (((cell_far (p := ⟨gb920, _, none⟩) NB926_920.out _).trans (((cell_far (p := ⟨gb920, _, none⟩) NB926_920.out _).trans (((cell_far (p := ⟨gb920, _, none⟩) NB926_920.out _).trans (((cell_far (p := ⟨gb920, _, none⟩) NB926_920.out _).trans (((cell_far (p := ⟨gb920, _, none⟩) NB926_920.out _).trans (((cell_far (p := ⟨gb920, _, none⟩) NB926_920.out _).trans (((cell_far (p := ⟨gb920, _, none⟩) NB926_920.out _).trans (((cell_far (p := ⟨gb920, _, none⟩) NB926_920.out _).trans (hHeld.2.2.2.1)))))))))))))))))), ((cell_far (p := ⟨gb920, _, none⟩) NB926_920.out _).trans (((cell_far (p := ⟨gb920, _, none⟩) NB926_920.out _).trans (((cell_far (p := ⟨gb920, _, none⟩) NB926_920.out _).trans (((cell_far (p := ⟨gb920, _, none⟩) NB926_920.out _).trans (((cell_far (p := ⟨gb920, _, none⟩) NB926_920.out _).trans (((cell_far (p := ⟨gb920, _, none⟩) NB926_920.out _).trans (((cell_far (p := ⟨gb920, _, none⟩) NB926_920.out _).trans (((cell_far (p := ⟨gb920, _, none⟩) NB926_920.out _).trans (((cell_far (p := ⟨gb920, _, none⟩) NB926_920.out _).trans (hHeld.2.2.2.2.1)))))))))))))))))), ((cell_far (p := ⟨gb920, _, none⟩) NB926_920.out _).trans (((cell_far (p := ⟨gb920, _, none⟩) NB926_920.out _).trans (((cell_far (p := ⟨gb920, _, none⟩) NB926_920.out _).trans (((cell_far (p := ⟨gb920, _, none⟩) NB926_920.out _).trans (((cell_far (p := ⟨gb920, _, none⟩) NB926_920.out _).trans (((cell_far (p := ⟨gb920, _, none⟩) NB926_920.out _).trans (((cell_far (p := ⟨gb920, _, none⟩) NB926_920.out _).trans (((cell_far (p := ⟨gb920, _, none⟩) NB926_920.out _).trans (((cell_far (p := ⟨gb920, _, none⟩) NB926_920.out _).trans (hHeld.2.2.2.2.2))))))))))))))))))⟩ (fun hHeld => ?_)
       clear hK K
       refine pr_ 18 (some 5) ?_
       refine done_ (done_of HT_.out (by kernel_rfl)) ?_
       (try clear hms52_3 hms52_2 hms52_0 hns52_3 hns52_2 hns52_0 hfs52 hs52 hms51_3 hms51_2 hms51_0 hns51_3 hns51_2 hns51_0 hfs51 hs51 hms50_3 hms50_2 hms50_0 hns50_3 hns50_2 hns50_0 hfs50 hs50 hms49_3 hms49_2 hms49_0 hns49_3 hns49_2 hns49_0 hfs49 hs49 hms48_3 hms48_2 hms48_0 hns48_3 hns48_2 hns48_0 hfs48 hs48 hms47_3 hms47_2 hms47_0 hns47_3 hns47_2 hns47_0 hfs47 hs47 hms46_3 hms46_2 hms46_0 hns46_3 hns46_2 hns46_0 hfs46 hs46 hms45_3 hms45_2 hms45_0 hns45_3 hns45_2 hns45_0 hfs45 hs45 hms44_3 hms44_2 hms44_0 hns44_3 hns44_2 hns44_0 hfs44 hs44)
       try go_wp2
       refine bodyPost_ret (results_ct rfl _ _ gb920 45 #[.bool t927, .string t928, .string t929, .string t923, .int .i64 (t924.size : Int), .int .i64 (t929.size : Int), .string t932, .string t933, .int .i64 a1] (0, 0) _ rfl (by refine blk_put (cs := #[.bool t927, .string t928, .string t929, .string t923, .int .i64 (t924.size : Int), .int .i64 (t929.size : Int), .string t932, .string t933, .int .i64 0]) ?_ 8 _ rfl; refine blk_put (cs := #[.bool t927, .string t928, .string t929, .string t923, .int .i64 (t924.size : Int), .int .i64 (t929.size : Int), .string t932, .string (⟨#[]⟩ : ByteArray), .int .i64 0]) ?_ 7 _ rfl; refine blk_put (cs := #[.bool t927, .string t928, .string t929, .string t923, .int .i64 (t924.size : Int), .int .i64 (t929.size : Int), .string (⟨#[]⟩ : ByteArray), .string (⟨#[]⟩ : ByteArray), .int .i64 0]) ?_ 6 _ rfl; refine blk_put (cs := #[.bool t927, .string t928, .string t929, .string t923, .int .i64 (t924.size : Int), .int .i64 0, .string (⟨#[]⟩ : ByteArray), .string (⟨#[]⟩ : ByteArray), .int .i64 0]) ?_ 5 _ rfl; refine blk_put (cs := #[.bool t927, .string t928, .string t929, .string t923, .int .i64 0, .int .i64 0, .string (⟨#[]⟩ : ByteArray), .string (⟨#[]⟩ : ByteArray), .int .i64 0]) ?_ 4 _ rfl; refine blk_put (cs := #[.bool t927, .string t928, .string t929, .string (⟨#[]⟩ : ByteArray), .int .i64 0, .int .i64 0, .string (⟨#[]⟩ : ByteArray), .string (⟨#[]⟩ : ByteArray), .int .i64 0]) ?_ 3 _ rfl; refine blk_put (cs := #[.bool t927, .string t928, .string (⟨#[]⟩ : ByteArray), .string (⟨#[]⟩ : ByteArray), .int .i64 0, .int .i64 0, .string (⟨#[]⟩ : ByteArray), .string (⟨#[]⟩ : ByteArray), .int .i64 0]) ?_ 2 _ rfl; refine blk_put (cs := #[.bool t927, .string (⟨#[]⟩ : ByteArray), .string (⟨#[]⟩ : ByteArray), .string (⟨#[]⟩ : ByteArray), .int .i64 0, .int .i64 0, .string (⟨#[]⟩ : ByteArray), .string (⟨#[]⟩ : ByteArray), .int .i64 0]) ?_ 1 _ rfl; refine blk_put (cs := #[.bool false, .string (⟨#[]⟩ : ByteArray), .string (⟨#[]⟩ : ByteArray), .string (⟨#[]⟩ : ByteArray), .int .i64 0, .int .i64 0, .string (⟨#[]⟩ : ByteArray), .string (⟨#[]⟩ : ByteArray), .int .i64 0]) ?_ 0 _ rfl; exact BK920.out) Tryd.underlying45 rfl (by kernel_rfl)) rfl ?_
       exact ⟨by first | rfl | (simp [errW_none, errW_some] <;> rfl) | (simp [*, errW_none, errW_some] <;> rfl) | (simp [bne_nil_]; done), by repeat (first | (with_reducible first | exact HB.out | apply below_alloc | apply pw_below_drewN | apply below_drew1 | refine below_set ?_ GE919.out | refine below_set ?_ GE920.out | refine below_set ?_ GE926.out | refine below_set ?_ GE931.out) | exact HB.out)⟩
      ·rw [if_neg c37] at H
       have c37b0 : (t930 == 0) = false := beq_eq_false_iff_ne.mpr c37
       have c37b1 : (t930 != 0) = true := bne_iff_ne.mpr c37
       (first | rw [c37b0] | (simp only [i64_w, i32_w]; rw [c37b0]) | rw [c37b1] | skip)
       simp only [Option.some.injEq, Prod.mk.injEq] at H
       obtain ⟨rfl, rfl, rfl, rfl, rfl, rfl, rfl, rfl, rfl, rfl⟩ := H
       have hnb53 := NB920_919.out
       have hnc53 := NB919_920.out
       have hnb54 := NB920_926.out
       have hnc54 := NB926_920.out
       have hnb55 := NB920_931.out
       have hnc55 := NB931_920.out
       have hcz56_0 : w32.cell? ⟨gb920, 0, none⟩ = some (.bool false) := (blk_cell BK920.out 0).trans rfl
       have hcz56_1 : w32.cell? ⟨gb920, 1, none⟩ = some (.string (⟨#[]⟩ : ByteArray)) := (blk_cell BK920.out 1).trans rfl
       have hcz56_2 : w32.cell? ⟨gb920, 2, none⟩ = some (.string (⟨#[]⟩ : ByteArray)) := (blk_cell BK920.out 2).trans rfl
       have hcz56_3 : w32.cell? ⟨gb920, 3, none⟩ = some (.string (⟨#[]⟩ : ByteArray)) := (blk_cell BK920.out 3).trans rfl
       have hcz56_4 : w32.cell? ⟨gb920, 4, none⟩ = some (.int .i64 0) := (blk_cell BK920.out 4).trans rfl
       have hcz56_5 : w32.cell? ⟨gb920, 5, none⟩ = some (.int .i64 0) := (blk_cell BK920.out 5).trans rfl
       have hcz56_6 : w32.cell? ⟨gb920, 6, none⟩ = some (.string (⟨#[]⟩ : ByteArray)) := (blk_cell BK920.out 6).trans rfl
       have hcz56_7 : w32.cell? ⟨gb920, 7, none⟩ = some (.string (⟨#[]⟩ : ByteArray)) := (blk_cell BK920.out 7).trans rfl
       have hcz56_8 : w32.cell? ⟨gb920, 8, none⟩ = some (.int .i64 0) := (blk_cell BK920.out 8).trans rfl
       have hfz56_0 := blk_frozen BK920.out 0
       have hfz56_1 := blk_frozen BK920.out 1
       have hfz56_2 := blk_frozen BK920.out 2
       have hfz56_3 := blk_frozen BK920.out 3
       have hfz56_4 := blk_frozen BK920.out 4
       have hfz56_5 := blk_frozen BK920.out 5
       have hfz56_6 := blk_frozen BK920.out 6
       have hfz56_7 := blk_frozen BK920.out 7
       have hfz56_8 := blk_frozen BK920.out 8
       go_wp2
       refine bodyPost_ret (results_ct rfl _ _ gb920 45 #[.bool false, .string (⟨#[]⟩ : ByteArray), .string (⟨#[]⟩ : ByteArray), .string (⟨#[]⟩ : ByteArray), .int .i64 0, .int .i64 0, .string (⟨#[]⟩ : ByteArray), .string (⟨#[]⟩ : ByteArray), .int .i64 0] (0, 0) _ rfl (by refine blk_put (cs := #[.bool false, .string (⟨#[]⟩ : ByteArray), .string (⟨#[]⟩ : ByteArray), .string (⟨#[]⟩ : ByteArray), .int .i64 0, .int .i64 0, .string (⟨#[]⟩ : ByteArray), .string (⟨#[]⟩ : ByteArray), .int .i64 0]) ?_ 8 _ rfl; refine blk_put (cs := #[.bool false, .string (⟨#[]⟩ : ByteArray), .string (⟨#[]⟩ : ByteArray), .string (⟨#[]⟩ : ByteArray), .int .i64 0, .int .i64 0, .string (⟨#[]⟩ : ByteArray), .string (⟨#[]⟩ : ByteArray), .int .i64 0]) ?_ 7 _ rfl; refine blk_put (cs := #[.bool false, .string (⟨#[]⟩ : ByteArray), .string (⟨#[]⟩ : ByteArray), .string (⟨#[]⟩ : ByteArray), .int .i64 0, .int .i64 0, .string (⟨#[]⟩ : ByteArray), .string (⟨#[]⟩ : ByteArray), .int .i64 0]) ?_ 6 _ rfl; refine blk_put (cs := #[.bool false, .string (⟨#[]⟩ : ByteArray), .string (⟨#[]⟩ : ByteArray), .string (⟨#[]⟩ : ByteArray), .int .i64 0, .int .i64 0, .string (⟨#[]⟩ : ByteArray), .string (⟨#[]⟩ : ByteArray), .int .i64 0]) ?_ 5 _ rfl; refine blk_put (cs := #[.bool false, .string (⟨#[]⟩ : ByteArray), .string (⟨#[]⟩ : ByteArray), .string (⟨#[]⟩ : ByteArray), .int .i64 0, .int .i64 0, .string (⟨#[]⟩ : ByteArray), .string (⟨#[]⟩ : ByteArray), .int .i64 0]) ?_ 4 _ rfl; refine blk_put (cs := #[.bool false, .string (⟨#[]⟩ : ByteArray), .string (⟨#[]⟩ : ByteArray), .string (⟨#[]⟩ : ByteArray), .int .i64 0, .int .i64 0, .string (⟨#[]⟩ : ByteArray), .string (⟨#[]⟩ : ByteArray), .int .i64 0]) ?_ 3 _ rfl; refine blk_put (cs := #[.bool false, .string (⟨#[]⟩ : ByteArray), .string (⟨#[]⟩ : ByteArray), .string (⟨#[]⟩ : ByteArray), .int .i64 0, .int .i64 0, .string (⟨#[]⟩ : ByteArray), .string (⟨#[]⟩ : ByteArray), .int .i64 0]) ?_ 2 _ rfl; refine blk_put (cs := #[.bool false, .string (⟨#[]⟩ : ByteArray), .string (⟨#[]⟩ : ByteArray), .string (⟨#[]⟩ : ByteArray), .int .i64 0, .int .i64 0, .string (⟨#[]⟩ : ByteArray), .string (⟨#[]⟩ : ByteArray), .int .i64 0]) ?_ 1 _ rfl; refine blk_put (cs := #[.bool false, .string (⟨#[]⟩ : ByteArray), .string (⟨#[]⟩ : ByteArray), .string (⟨#[]⟩ : ByteArray), .int .i64 0, .int .i64 0, .string (⟨#[]⟩ : ByteArray), .string (⟨#[]⟩ : ByteArray), .int .i64 0]) ?_ 0 _ rfl; refine blk_far ?_ NB920_931.out _; refine blk_far ?_ NB920_931.out _; refine blk_far ?_ NB920_931.out _; exact BK920.out) Tryd.underlying45 rfl (by kernel_rfl)) rfl ?_
       exact ⟨by first | rfl | (simp [errW_none, errW_some] <;> rfl) | (simp [*, errW_none, errW_some] <;> rfl) | (simp [bne_nil_]; done), by repeat (first | (with_reducible first | exact HB.out | apply below_alloc | apply pw_below_drewN | apply below_drew1 | refine below_set ?_ GE919.out | refine below_set ?_ GE920.out | refine below_set ?_ GE926.out | refine below_set ?_ GE931.out) | exact HB.out)⟩
     ·rw [if_neg c25] at H
      have c25b0 : (t925 == 0) = false := beq_eq_false_iff_ne.mpr c25
      have c25b1 : (t925 != 0) = true := bne_iff_ne.mpr c25
      (first | rw [c25b0] | (simp only [i64_w, i32_w]; rw [c25b0]) | rw [c25b1] | skip)
      simp only [Option.some.injEq, Prod.mk.injEq] at H
      obtain ⟨rfl, rfl, rfl, rfl, rfl, rfl, rfl, rfl, rfl, rfl⟩ := H
      have hnb57 := NB920_919.out
      have hnc57 := NB919_920.out
      have hnb58 := NB920_926.out
      have hnc58 := NB926_920.out
      have hcz59_0 : w21.cell? ⟨gb920, 0, none⟩ = some (.bool false) := (blk_cell BK920.out 0).trans rfl
      have hcz59_1 : w21.cell? ⟨gb920, 1, none⟩ = some (.string (⟨#[]⟩ : ByteArray)) := (blk_cell BK920.out 1).trans rfl
      have hcz59_2 : w21.cell? ⟨gb920, 2, none⟩ = some (.string (⟨#[]⟩ : ByteArray)) := (blk_cell BK920.out 2).trans rfl
      have hcz59_3 : w21.cell? ⟨gb920, 3, none⟩ = some (.string (⟨#[]⟩ : ByteArray)) := (blk_cell BK920.out 3).trans rfl
      have hcz59_4 : w21.cell? ⟨gb920, 4, none⟩ = some (.int .i64 0) := (blk_cell BK920.out 4).trans rfl
      have hcz59_5 : w21.cell? ⟨gb920, 5, none⟩ = some (.int .i64 0) := (blk_cell BK920.out 5).trans rfl
      have hcz59_6 : w21.cell? ⟨gb920, 6, none⟩ = some (.string (⟨#[]⟩ : ByteArray)) := (blk_cell BK920.out 6).trans rfl
      have hcz59_7 : w21.cell? ⟨gb920, 7, none⟩ = some (.string (⟨#[]⟩ : ByteArray)) := (blk_cell BK920.out 7).trans rfl
      have hcz59_8 : w21.cell? ⟨gb920, 8, none⟩ = some (.int .i64 0) := (blk_cell BK920.out 8).trans rfl
      have hfz59_0 := blk_frozen BK920.out 0
      have hfz59_1 := blk_frozen BK920.out 1
      have hfz59_2 := blk_frozen BK920.out 2
      have hfz59_3 := blk_frozen BK920.out 3
      have hfz59_4 := blk_frozen BK920.out 4
      have hfz59_5 := blk_frozen BK920.out 5
      have hfz59_6 := blk_frozen BK920.out 6
      have hfz59_7 := blk_frozen BK920.out 7
      have hfz59_8 := blk_frozen BK920.out 8
      go_wp2
      refine bodyPost_ret (results_ct rfl _ _ gb920 45 #[.bool false, .string (⟨#[]⟩ : ByteArray), .string (⟨#[]⟩ : ByteArray), .string (⟨#[]⟩ : ByteArray), .int .i64 0, .int .i64 0, .string (⟨#[]⟩ : ByteArray), .string (⟨#[]⟩ : ByteArray), .int .i64 0] (0, 0) _ rfl (by refine blk_put (cs := #[.bool false, .string (⟨#[]⟩ : ByteArray), .string (⟨#[]⟩ : ByteArray), .string (⟨#[]⟩ : ByteArray), .int .i64 0, .int .i64 0, .string (⟨#[]⟩ : ByteArray), .string (⟨#[]⟩ : ByteArray), .int .i64 0]) ?_ 8 _ rfl; refine blk_put (cs := #[.bool false, .string (⟨#[]⟩ : ByteArray), .string (⟨#[]⟩ : ByteArray), .string (⟨#[]⟩ : ByteArray), .int .i64 0, .int .i64 0, .string (⟨#[]⟩ : ByteArray), .string (⟨#[]⟩ : ByteArray), .int .i64 0]) ?_ 7 _ rfl; refine blk_put (cs := #[.bool false, .string (⟨#[]⟩ : ByteArray), .string (⟨#[]⟩ : ByteArray), .string (⟨#[]⟩ : ByteArray), .int .i64 0, .int .i64 0, .string (⟨#[]⟩ : ByteArray), .string (⟨#[]⟩ : ByteArray), .int .i64 0]) ?_ 6 _ rfl; refine blk_put (cs := #[.bool false, .string (⟨#[]⟩ : ByteArray), .string (⟨#[]⟩ : ByteArray), .string (⟨#[]⟩ : ByteArray), .int .i64 0, .int .i64 0, .string (⟨#[]⟩ : ByteArray), .string (⟨#[]⟩ : ByteArray), .int .i64 0]) ?_ 5 _ rfl; refine blk_put (cs := #[.bool false, .string (⟨#[]⟩ : ByteArray), .string (⟨#[]⟩ : ByteArray), .string (⟨#[]⟩ : ByteArray), .int .i64 0, .int .i64 0, .string (⟨#[]⟩ : ByteArray), .string (⟨#[]⟩ : ByteArray), .int .i64 0]) ?_ 4 _ rfl; refine blk_put (cs := #[.bool false, .string (⟨#[]⟩ : ByteArray), .string (⟨#[]⟩ : ByteArray), .string (⟨#[]⟩ : ByteArray), .int .i64 0, .int .i64 0, .string (⟨#[]⟩ : ByteArray), .string (⟨#[]⟩ : ByteArray), .int .i64 0]) ?_ 3 _ rfl; refine blk_put (cs := #[.bool false, .string (⟨#[]⟩ : ByteArray), .string (⟨#[]⟩ : ByteArray), .string (⟨#[]⟩ : ByteArray), .int .i64 0, .int .i64 0, .string (⟨#[]⟩ : ByteArray), .string (⟨#[]⟩ : ByteArray), .int .i64 0]) ?_ 2 _ rfl; refine blk_put (cs := #[.bool false, .string (⟨#[]⟩ : ByteArray), .string (⟨#[]⟩ : ByteArray), .string (⟨#[]⟩ : ByteArray), .int .i64 0, .int .i64 0, .string (⟨#[]⟩ : ByteArray), .string (⟨#[]⟩ : ByteArray), .int .i64 0]) ?_ 1 _ rfl; refine blk_put (cs := #[.bool false, .string (⟨#[]⟩ : ByteArray), .string (⟨#[]⟩ : ByteArray), .string (⟨#[]⟩ : ByteArray), .int .i64 0, .int .i64 0, .string (⟨#[]⟩ : ByteArray), .string (⟨#[]⟩ : ByteArray), .int .i64 0]) ?_ 0 _ rfl; refine blk_far ?_ NB920_926.out _; refine blk_far ?_ NB920_926.out _; refine blk_far ?_ NB920_926.out _; exact BK920.out) Tryd.underlying45 rfl (by kernel_rfl)) rfl ?_
      exact ⟨by first | rfl | (simp [errW_none, errW_some] <;> rfl) | (simp [*, errW_none, errW_some] <;> rfl) | (simp [bne_nil_]; done), by repeat (first | (with_reducible first | exact HB.out | apply below_alloc | apply pw_below_drewN | apply below_drew1 | refine below_set ?_ GE919.out | refine below_set ?_ GE920.out | refine below_set ?_ GE926.out) | exact HB.out)⟩
 ·rw [if_neg c10] at H
  have c10b0 : (t921 == 0) = false := beq_eq_false_iff_ne.mpr c10
  have c10b1 : (t921 != 0) = true := bne_iff_ne.mpr c10
  (first | rw [c10b0] | (simp only [i64_w, i32_w]; rw [c10b0]) | rw [c10b1] | skip)
  simp only [Option.some.injEq, Prod.mk.injEq] at H
  obtain ⟨rfl, rfl, rfl, rfl, rfl, rfl, rfl, rfl, rfl, rfl⟩ := H
  have hnb60 := NB920_919.out
  have hnc60 := NB919_920.out
  have hcz61_0 : w9.cell? ⟨gb920, 0, none⟩ = some (.bool false) := (blk_cell BK920.out 0).trans rfl
  have hcz61_1 : w9.cell? ⟨gb920, 1, none⟩ = some (.string (⟨#[]⟩ : ByteArray)) := (blk_cell BK920.out 1).trans rfl
  have hcz61_2 : w9.cell? ⟨gb920, 2, none⟩ = some (.string (⟨#[]⟩ : ByteArray)) := (blk_cell BK920.out 2).trans rfl
  have hcz61_3 : w9.cell? ⟨gb920, 3, none⟩ = some (.string (⟨#[]⟩ : ByteArray)) := (blk_cell BK920.out 3).trans rfl
  have hcz61_4 : w9.cell? ⟨gb920, 4, none⟩ = some (.int .i64 0) := (blk_cell BK920.out 4).trans rfl
  have hcz61_5 : w9.cell? ⟨gb920, 5, none⟩ = some (.int .i64 0) := (blk_cell BK920.out 5).trans rfl
  have hcz61_6 : w9.cell? ⟨gb920, 6, none⟩ = some (.string (⟨#[]⟩ : ByteArray)) := (blk_cell BK920.out 6).trans rfl
  have hcz61_7 : w9.cell? ⟨gb920, 7, none⟩ = some (.string (⟨#[]⟩ : ByteArray)) := (blk_cell BK920.out 7).trans rfl
  have hcz61_8 : w9.cell? ⟨gb920, 8, none⟩ = some (.int .i64 0) := (blk_cell BK920.out 8).trans rfl
  have hfz61_0 := blk_frozen BK920.out 0
  have hfz61_1 := blk_frozen BK920.out 1
  have hfz61_2 := blk_frozen BK920.out 2
  have hfz61_3 := blk_frozen BK920.out 3
  have hfz61_4 := blk_frozen BK920.out 4
  have hfz61_5 := blk_frozen BK920.out 5
  have hfz61_6 := blk_frozen BK920.out 6
  have hfz61_7 := blk_frozen BK920.out 7
  have hfz61_8 := blk_frozen BK920.out 8
  go_wp2
  refine bodyPost_ret (results_ct rfl _ _ gb920 45 #[.bool false, .string (⟨#[]⟩ : ByteArray), .string (⟨#[]⟩ : ByteArray), .string (⟨#[]⟩ : ByteArray), .int .i64 0, .int .i64 0, .string (⟨#[]⟩ : ByteArray), .string (⟨#[]⟩ : ByteArray), .int .i64 0] (0, 0) _ rfl (by refine blk_put (cs := #[.bool false, .string (⟨#[]⟩ : ByteArray), .string (⟨#[]⟩ : ByteArray), .string (⟨#[]⟩ : ByteArray), .int .i64 0, .int .i64 0, .string (⟨#[]⟩ : ByteArray), .string (⟨#[]⟩ : ByteArray), .int .i64 0]) ?_ 8 _ rfl; refine blk_put (cs := #[.bool false, .string (⟨#[]⟩ : ByteArray), .string (⟨#[]⟩ : ByteArray), .string (⟨#[]⟩ : ByteArray), .int .i64 0, .int .i64 0, .string (⟨#[]⟩ : ByteArray), .string (⟨#[]⟩ : ByteArray), .int .i64 0]) ?_ 7 _ rfl; refine blk_put (cs := #[.bool false, .string (⟨#[]⟩ : ByteArray), .string (⟨#[]⟩ : ByteArray), .string (⟨#[]⟩ : ByteArray), .int .i64 0, .int .i64 0, .string (⟨#[]⟩ : ByteArray), .string (⟨#[]⟩ : ByteArray), .int .i64 0]) ?_ 6 _ rfl; refine blk_put (cs := #[.bool false, .string (⟨#[]⟩ : ByteArray), .string (⟨#[]⟩ : ByteArray), .string (⟨#[]⟩ : ByteArray), .int .i64 0, .int .i64 0, .string (⟨#[]⟩ : ByteArray), .string (⟨#[]⟩ : ByteArray), .int .i64 0]) ?_ 5 _ rfl; refine blk_put (cs := #[.bool false, .string (⟨#[]⟩ : ByteArray), .string (⟨#[]⟩ : ByteArray), .string (⟨#[]⟩ : ByteArray), .int .i64 0, .int .i64 0, .string (⟨#[]⟩ : ByteArray), .string (⟨#[]⟩ : ByteArray), .int .i64 0]) ?_ 4 _ rfl; refine blk_put (cs := #[.bool false, .string (⟨#[]⟩ : ByteArray), .string (⟨#[]⟩ : ByteArray), .string (⟨#[]⟩ : ByteArray), .int .i64 0, .int .i64 0, .string (⟨#[]⟩ : ByteArray), .string (⟨#[]⟩ : ByteArray), .int .i64 0]) ?_ 3 _ rfl; refine blk_put (cs := #[.bool false, .string (⟨#[]⟩ : ByteArray), .string (⟨#[]⟩ : ByteArray), .string (⟨#[]⟩ : ByteArray), .int .i64 0, .int .i64 0, .string (⟨#[]⟩ : ByteArray), .string (⟨#[]⟩ : ByteArray), .int .i64 0]) ?_ 2 _ rfl; refine blk_put (cs := #[.bool false, .string (⟨#[]⟩ : ByteArray), .string (⟨#[]⟩ : ByteArray), .string (⟨#[]⟩ : ByteArray), .int .i64 0, .int .i64 0, .string (⟨#[]⟩ : ByteArray), .string (⟨#[]⟩ : ByteArray), .int .i64 0]) ?_ 1 _ rfl; refine blk_put (cs := #[.bool false, .string (⟨#[]⟩ : ByteArray), .string (⟨#[]⟩ : ByteArray), .string (⟨#[]⟩ : ByteArray), .int .i64 0, .int .i64 0, .string (⟨#[]⟩ : ByteArray), .string (⟨#[]⟩ : ByteArray), .int .i64 0]) ?_ 0 _ rfl; exact BK920.out) Tryd.underlying45 rfl (by kernel_rfl)) rfl ?_
  exact ⟨by first | rfl | (simp [errW_none, errW_some] <;> rfl) | (simp [*, errW_none, errW_some] <;> rfl) | (simp [bne_nil_]; done), by repeat (first | (with_reducible first | exact HB.out | apply below_alloc | apply pw_below_drewN | apply below_drew1 | refine below_set ?_ GE919.out | refine below_set ?_ GE920.out) | exact HB.out)⟩
end Go.Proofs.YtihjcaglhjepdaaDoor.P
namespace Go.Proofs.YtihjcaglhjepdaaDoor.P
open Go.RowKit Go.Proofs.YtihjcaglhjepdaaDoorW.PrintWords Go.Proofs.YtihjcaglhjepdaaDoorW.PrintLast Go.Proofs.YtihjcaglhjepdaaDoorW.PrintMore
attribute [local go_sem] max2_int max_two
set_option linter.unusedVariables false
set_option linter.unusedSimpArgs false
def idiomref04_Number.l0 : Nat → ByteArray → Option (ByteArray)
  | 0, _ => none
  | k + 1, x0 => if (x0.size : Int) > 0 then (if 0 < (x0.size : Int) then (if (bt x0 0) = 48 then (if 1 ≤ (x0.size : Int) then (idiomref04_Number.l0 k (x0.extract 1 x0.size)) else (none)) else (if x0.toList = ([] : List UInt8) then (some (⟨#[48]⟩ : ByteArray)) else (some x0))) else (none)) else (if x0.toList = ([] : List UInt8) then (some (⟨#[48]⟩ : ByteArray)) else (some x0))
def idiomref04_Number.f (k : Nat) (a0 : ByteArray) : Option (ByteArray) := idiomref04_Number.l0 k a0
set_option maxHeartbeats 8000000 in
set_option maxRecDepth 100000 in
theorem idiomref04_Number.calls (k : Nat) (a0 : ByteArray) (r : ByteArray) (w : World) (h : idiomref04_Number.f k a0 = some r) :
    Calls Tryd.prog 111 #[.string a0] w fun e w' => e = .returned (.string r) ∧ Drawn0 w w' := by
 unfold idiomref04_Number.f at h
 have H := h
 clear h
 have H' := Aside0.mk H
 clear H
 go_enter Tryd.func111, Tryd.ntmps111
 go_wp2
 go_loopg [0] k (fun kq v0 w' => ∃ (x0_1 : ByteArray), v0 = .string x0_1 ∧ Aside0 (idiomref04_Number.l0 kq x0_1 = some r) ∧ Aside0 (kq ≤ k) ∧ Drawn0 w w')
 case atStart => exact ⟨(a0), (by first | rfl | (simp; done) | (simp [*]; done)), H', ⟨Nat.le_refl _⟩, by repeat (first | exact Drawn0.refl _ | apply Drawn0.step)⟩
 case round =>
  clear H'
  obtain ⟨x0_1, rfl, HA, HK1, ⟨m1, rfl⟩⟩ := hrel
  cases gk with
  | zero => exact absurd HA.out (by simp [idiomref04_Number.l0])
  | succ k1 =>
   have H := HA.out
   clear HA
   simp only [idiomref04_Number.l0] at H
   by_cases c2 : (x0_1.size : Int) > 0
   ·rw [if_pos c2] at H
    have c2b0 : decide (0 < (x0_1.size : Int)) = true := decide_eq_true c2
    have c2b1 : decide (0 < x0_1.size) = true := decide_eq_true (by omega)
    clear c2
    by_cases c3 : 0 < (x0_1.size : Int)
    ·rw [if_pos c3] at H
     have c3b0 : decide (0 < (x0_1.size : Int)) = true := decide_eq_true c3
     have c3b1 : decide (0 < x0_1.size) = true := decide_eq_true (by omega)
     clear c3
     by_cases c5 : (bt x0_1 0) = 48
     ·rw [if_pos c5] at H
      have c5b0 : ((bt x0_1 0) == 48) = true := beq_iff_eq.mpr c5
      have c5b1 : ((bt x0_1 0) != 48) = false := bne_eq_false_iff_eq.mpr c5
      clear c5
      by_cases c6 : 1 ≤ (x0_1.size : Int)
      ·rw [if_pos c6] at H
       have c6b0 := eq_true c6
       have c6b1 : decide (1 ≤ (x0_1.size : Int)) = true := decide_eq_true c6
       clear c6
       have H' := Aside0.mk H
       clear H
       have p4 : 0 ≤ (0 : Int) := (by omega)
       have q4 : 0 < x0_1.size := (by have : (0 : Int) < (x0_1.size : Int) := of_decide_eq_true (by first | (with_reducible assumption) | assumption); omega)
       have hx4 : ∀ h : 0 < x0_1.size, ((x0_1[0]'h).toNat : Int) = bt x0_1 0 := bt_at x0_1 0
       clear p4
       have qi4 : (0 < (x0_1.size : Int)) = True := eq_true (of_decide_eq_true (by first | (with_reducible assumption) | assumption))
       replace q4 := eq_true q4
       go_wp2
       go_roundg k1
       case measure => have := HK1.out; omega
       case rel => exact ⟨(x0_1.extract 1 x0_1.size), (by first | rfl | (simp; done) | (simp [*]; done)), H', ⟨by have := HK1.out; omega⟩, by repeat (first | exact Drawn0.refl _ | apply Drawn0.step)⟩
      ·rw [if_neg c6] at H
       exact absurd H (by simp)
     ·rw [if_neg c5] at H
      have c5b0 : ((bt x0_1 0) == 48) = false := beq_eq_false_iff_ne.mpr c5
      have c5b1 : ((bt x0_1 0) != 48) = true := bne_iff_ne.mpr c5
      by_cases c7 : x0_1.toList = ([] : List UInt8)
      ·rw [if_pos c7] at H
       have c7b0 : (x0_1.toList == ([] : List UInt8)) = true := beq_iff_eq.mpr c7
       have c7b1 : (x0_1.toList != ([] : List UInt8)) = false := bne_eq_false_iff_eq.mpr c7
       clear c7
       obtain rfl := Option.some.inj H
       have p4 : 0 ≤ (0 : Int) := (by omega)
       have q4 : 0 < x0_1.size := (by have : (0 : Int) < (x0_1.size : Int) := of_decide_eq_true (by first | (with_reducible assumption) | assumption); omega)
       have hx4 : ∀ h : 0 < x0_1.size, ((x0_1[0]'h).toNat : Int) = bt x0_1 0 := bt_at x0_1 0
       clear p4
       have qi4 : (0 < (x0_1.size : Int)) = True := eq_true (of_decide_eq_true (by first | (with_reducible assumption) | assumption))
       replace q4 := eq_true q4
       go_wp2
       go_ret
       exact ⟨by first | rfl | (simp; done) | (simp [*]; done), by repeat (first | exact Drawn0.refl _ | apply Drawn0.step)⟩
      ·rw [if_neg c7] at H
       have c7b0 : (x0_1.toList == ([] : List UInt8)) = false := beq_eq_false_iff_ne.mpr c7
       have c7b1 : (x0_1.toList != ([] : List UInt8)) = true := bne_iff_ne.mpr c7
       obtain rfl := Option.some.inj H
       have p4 : 0 ≤ (0 : Int) := (by omega)
       have q4 : 0 < x0_1.size := (by have : (0 : Int) < (x0_1.size : Int) := of_decide_eq_true (by first | (with_reducible assumption) | assumption); omega)
       have hx4 : ∀ h : 0 < x0_1.size, ((x0_1[0]'h).toNat : Int) = bt x0_1 0 := bt_at x0_1 0
       clear p4
       have qi4 : (0 < (x0_1.size : Int)) = True := eq_true (of_decide_eq_true (by first | (with_reducible assumption) | assumption))
       replace q4 := eq_true q4
       go_wp2
       go_ret
       exact ⟨by first | rfl | (simp; done) | (simp [*]; done), by repeat (first | exact Drawn0.refl _ | apply Drawn0.step)⟩
    ·rw [if_neg c3] at H
     exact absurd H (by simp)
   ·rw [if_neg c2] at H
    have c2b0 : decide (0 < (x0_1.size : Int)) = false := decide_eq_false c2
    have c2b1 : decide (0 < x0_1.size) = false := decide_eq_false (by omega)
    clear c2
    by_cases c8 : x0_1.toList = ([] : List UInt8)
    ·rw [if_pos c8] at H
     have c8b0 : (x0_1.toList == ([] : List UInt8)) = true := beq_iff_eq.mpr c8
     have c8b1 : (x0_1.toList != ([] : List UInt8)) = false := bne_eq_false_iff_eq.mpr c8
     clear c8
     obtain rfl := Option.some.inj H
     go_wp2
     go_ret
     exact ⟨by first | rfl | (simp; done) | (simp [*]; done), by repeat (first | exact Drawn0.refl _ | apply Drawn0.step)⟩
    ·rw [if_neg c8] at H
     have c8b0 : (x0_1.toList == ([] : List UInt8)) = false := beq_eq_false_iff_ne.mpr c8
     have c8b1 : (x0_1.toList != ([] : List UInt8)) = true := bne_iff_ne.mpr c8
     obtain rfl := Option.some.inj H
     go_wp2
     go_ret
     exact ⟨by first | rfl | (simp; done) | (simp [*]; done), by repeat (first | exact Drawn0.refl _ | apply Drawn0.step)⟩
end Go.Proofs.YtihjcaglhjepdaaDoor.P
namespace Go.Proofs.YtihjcaglhjepdaaDoor.P
open Go.RowKit Go.Proofs.YtihjcaglhjepdaaDoorW.PrintWords Go.Proofs.YtihjcaglhjepdaaDoorW.PrintLast Go.Proofs.YtihjcaglhjepdaaDoorW.PrintMore
attribute [local go_sem] max2_int max_two
set_option linter.unusedVariables false
set_option linter.unusedSimpArgs false
def idiomref04_shown.f (k : Nat) (a0_0 : Bool) (a0_1 : ByteArray) (a0_2 : ByteArray) (a1 : Int) : Option (Bool × ByteArray × ByteArray × ByteArray × Int × Int × ByteArray × ByteArray × Int) := (idiomref02_Trim.f k a0_0 a0_1 a0_2).bind fun bt936 => ((idiomref04_Number.f k a0_2).bind fun t941 => ((idiomref04_Number.f k bt936.2.2.1).bind fun t942 => (some (bt936.1, bt936.2.1, bt936.2.2.1, a0_1, (a0_2.size : Int), (bt936.2.2.1.size : Int), t941, t942, a1))))
def idiomref04_shown.T2 : Bool × List (List Nat × List Nat) := (true, [([], []), ([], []), ([1], [1]), ([], []), ([3], [3]), ([4], [4]), ([], []), ([6], [6]), ([7, 5], [7]), ([], []), ([9], [9]), ([10], [10]), ([], []), ([12], [12]), ([13], [13]), ([], []), ([0, 2, 5, 8, 11, 14, 15], [0, 2, 5, 8, 11, 14, 15]), ([16, 8, 0, 1, 2, 3, 4, 5, 6, 7, 8, 9, 10, 11, 12, 13, 14, 15, 16], [16])])
def idiomref04_shown.B2 : List Nat := [0, 0, 2, 0, 8, 24, 0, 64, 248, 0, 512, 1536, 0, 4096, 12288, 0, 65535, 131071]
theorem idiomref04_shown.tab2 : rtab .any (opsOf Tryd.f83 2) = idiomref04_shown.T2 := by kernel_rfl
theorem idiomref04_shown.bits2 : waitsOk idiomref04_shown.T2.2 idiomref04_shown.B2 = true := by kernel_rfl
set_option maxHeartbeats 8000000 in
set_option maxRecDepth 100000 in
theorem idiomref04_shown.calls (k : Nat) (a0_0 : Bool) (a0_1 : ByteArray) (a0_2 : ByteArray) (a1 : Int) (r1 : Bool) (r2 : ByteArray) (r3 : ByteArray) (r4 : ByteArray) (r5 : Int) (r6 : Int) (r7 : ByteArray) (r8 : ByteArray) (r9 : Int) (w : World) (h : idiomref04_shown.f k a0_0 a0_1 a0_2 a1 = some (r1, r2, r3, r4, r5, r6, r7, r8, r9)) :
    Calls Tryd.prog 83 #[.agg #[.bool a0_0, .string a0_1, .string a0_2], .int .i64 a1] w fun e w' => e = .returned (.agg #[.bool r1, .string r2, .string r3, .string r4, .int .i64 r5, .int .i64 r6, .string r7, .string r8, .int .i64 r9]) ∧ Below w.heap.size w w' := by
 have hu23 := Tryd.underlying23
 have hu45 := Tryd.underlying45
 have HB := Aside0.mk (Below.refl w.heap.size w)
 unfold idiomref04_shown.f at h
 have H := h
 clear h
 replace H := Option.bind_eq_some_iff.mp H
 obtain ⟨⟨t936, t937, t938, t939⟩, A30, H⟩ := H
 try dsimp only at H
 have A3 := Aside0.mk A30
 clear A30
 replace H := Option.bind_eq_some_iff.mp H
 obtain ⟨t941, A40, H⟩ := H
 try dsimp only at H
 have A4 := Aside0.mk A40
 clear A40
 replace H := Option.bind_eq_some_iff.mp H
 obtain ⟨t942, A50, H⟩ := H
 try dsimp only at H
 have A5 := Aside0.mk A50
 clear A50
 simp only [Option.some.injEq, Prod.mk.injEq] at H
 obtain ⟨rfl, rfl, rfl, rfl, rfl, rfl, rfl, rfl, rfl⟩ := H
 go_enter Tryd.func83, Tryd.ntmps83
 try go_wp2_with (first | ((with_reducible refine gate_dst (N := 2) rfl ?_); refine bx_ #[.bool a0_0, .string a0_1, .string a0_2] 23 ?_; intro gb934 hg w6 hbox hb; have BK934 := Aside0.mk (hbox); have GW934 := Aside0.mk ((by rw [hg]; exact (below_size hb_) : w.heap.size ≤ gb934)); have GE934 := Aside0.mk ((by rw [hg]; exact (below_size hb_) : w.heap.size ≤ gb934)); replace HB := Aside0.mk (below_step hb_ hb); clear hb hbox hg) | ((with_reducible refine gate_dst (N := 4) rfl ?_); refine bx_ #[.bool false, .string (⟨#[]⟩ : ByteArray), .string (⟨#[]⟩ : ByteArray), .string (⟨#[]⟩ : ByteArray), .int .i64 0, .int .i64 0, .string (⟨#[]⟩ : ByteArray), .string (⟨#[]⟩ : ByteArray), .int .i64 0] 45 ?_; intro gb935 hg w7 hbox hb; have BK935 := Aside0.mk (hbox); have GW935 := Aside0.mk ((by rw [hg]; exact (below_size hb_) : w.heap.size ≤ gb935)); have GE935 := Aside0.mk ((by rw [hg]; exact (below_size hb_) : w.heap.size ≤ gb935)); have NB934_935 := BK934.nl hg; have NB935_934 := BK934.ng hg; replace BK934 := BK934.bl hb; replace HB := Aside0.mk (below_step hb_ hb); clear hb hbox hg; have hnb8 := NB934_935.out; have hnc8 := NB935_934.out; obtain ⟨hcz9_0, hcz9_1, hcz9_2, hfz9_0, hfz9_1, hfz9_2⟩ := BK934.c3) | ((with_reducible refine gate_callee (f := 41) rfl ?_); refine gL_ (some 9) Tryd.func41 #[.agg #[.bool a0_0, .string a0_1, .string a0_2]] ?_; (with_reducible refine (idiomref02_Trim.calls k a0_0 a0_1 a0_2 t936 t937 t938 t939 _ A3.out).mono ?_); rintro e w10 ⟨rfl, hb⟩; refine ⟨_, rfl, ?_⟩; replace BK934 := BK934.bl hb; replace BK935 := BK935.bl hb; replace HB := Aside0.mk (below_step hb_ hb)) | ((with_reducible refine gate_dst (N := 5) rfl ?_); refine bx_ #[.bool false, .string (⟨#[]⟩ : ByteArray), .string (⟨#[]⟩ : ByteArray)] 23 ?_; intro gb940 hg w11 hbox hb; have BK940 := Aside0.mk (hbox); have GW940 := Aside0.mk ((by rw [hg]; exact (below_size hb_) : w.heap.size ≤ gb940)); have GE940 := Aside0.mk ((by rw [hg]; exact (below_size hb_) : w.heap.size ≤ gb940)); have NB934_940 := BK934.nl hg; have NB940_934 := BK934.ng hg; have NB935_940 := BK935.nl hg; have NB940_935 := BK935.ng hg; replace BK934 := BK934.bl hb; replace BK935 := BK935.bl hb; replace HB := Aside0.mk (below_step hb_ hb); clear hb hbox hg; have hnb12 := NB940_934.out; have hnc12 := NB934_940.out; have hnb13 := NB940_935.out; have hnc13 := NB935_940.out; obtain ⟨hcz14_0, hcz14_1, hcz14_2, hfz14_0, hfz14_1, hfz14_2⟩ := BK940.c3))
 have n0_ : Aside0 ((((w11.setCell ⟨gb940, 0, none⟩ (.bool t936)).setCell ⟨gb940, 1, none⟩ (.string t937)).setCell ⟨gb940, 2, none⟩ (.string t938)).heap[gb934]? = some (.cells #[.bool a0_0, .string a0_1, .string a0_2] 23 (0, 0))) := ⟨by refine blk_far ?_ NB934_940.out _; refine blk_far ?_ NB934_940.out _; refine blk_far ?_ NB934_940.out _; exact BK934.out⟩
 have n1_ : Aside0 ((((w11.setCell ⟨gb940, 0, none⟩ (.bool t936)).setCell ⟨gb940, 1, none⟩ (.string t937)).setCell ⟨gb940, 2, none⟩ (.string t938)).heap[gb935]? = some (.cells #[.bool false, .string (⟨#[]⟩ : ByteArray), .string (⟨#[]⟩ : ByteArray), .string (⟨#[]⟩ : ByteArray), .int .i64 0, .int .i64 0, .string (⟨#[]⟩ : ByteArray), .string (⟨#[]⟩ : ByteArray), .int .i64 0] 45 (0, 0))) := ⟨by refine blk_far ?_ NB935_940.out _; refine blk_far ?_ NB935_940.out _; refine blk_far ?_ NB935_940.out _; exact BK935.out⟩
 have n2_ : Aside0 ((((w11.setCell ⟨gb940, 0, none⟩ (.bool t936)).setCell ⟨gb940, 1, none⟩ (.string t937)).setCell ⟨gb940, 2, none⟩ (.string t938)).heap[gb940]? = some (.cells #[.bool t936, .string t937, .string t938] 23 (0, 0))) := ⟨by refine blk_put (cs := #[.bool t936, .string t937, .string (⟨#[]⟩ : ByteArray)]) ?_ 2 _ rfl; refine blk_put (cs := #[.bool t936, .string (⟨#[]⟩ : ByteArray), .string (⟨#[]⟩ : ByteArray)]) ?_ 1 _ rfl; refine blk_put (cs := #[.bool false, .string (⟨#[]⟩ : ByteArray), .string (⟨#[]⟩ : ByteArray)]) ?_ 0 _ rfl; exact BK940.out⟩
 have n3_ : Aside0 (Below w.heap.size w (((w11.setCell ⟨gb940, 0, none⟩ (.bool t936)).setCell ⟨gb940, 1, none⟩ (.string t937)).setCell ⟨gb940, 2, none⟩ (.string t938))) := ⟨by repeat (first | (with_reducible first | exact HB.out | apply below_alloc | apply pw_below_drewN | apply below_drew1 | refine below_set ?_ GE934.out | refine below_set ?_ GE935.out | refine below_set ?_ GE940.out) | exact HB.out)⟩
 (try clear BK934)
 (try clear BK935)
 (try clear BK940)
 (try clear HB)
 generalize (((w11.setCell ⟨gb940, 0, none⟩ (.bool t936)).setCell ⟨gb940, 1, none⟩ (.string t937)).setCell ⟨gb940, 2, none⟩ (.string t938)) = w15 at n0_ n1_ n2_ n3_ ⊢
 have BK934 := n0_
 have BK935 := n1_
 have BK940 := n2_
 have HB := n3_
 clear n0_ n1_ n2_ n3_
 replace BK934 := Aside0.mk (blk_drew BK934.out)
 replace BK935 := Aside0.mk (blk_drew BK935.out)
 replace BK940 := Aside0.mk (blk_drew BK940.out)
 replace HB := Aside0.mk (below_drew1 HB.out)
 refine start_ (n := 18) (S := fun w' => w'.cell? ⟨gb940, 0, none⟩ = some (.bool t936) ∧ w'.cell? ⟨gb940, 1, none⟩ = some (.string t937) ∧ w'.cell? ⟨gb940, 2, none⟩ = some (.string t938) ∧ w'.cell? ⟨gb934, 0, none⟩ = some (.bool a0_0) ∧ w'.cell? ⟨gb934, 1, none⟩ = some (.string a0_1) ∧ w'.cell? ⟨gb934, 2, none⟩ = some (.string a0_2)) (ds := []) #[false, false, false, false, false, false, false, false, false, false, false, false, false, false, false, false, false, false] (by kernel_rfl) rfl rfl ⟨(blk_cell BK940.out 0).trans rfl, (blk_cell BK940.out 1).trans rfl, (blk_cell BK940.out 2).trans rfl, (blk_cell BK934.out 0).trans rfl, (blk_cell BK934.out 1).trans rfl, (blk_cell BK934.out 2).trans rfl⟩ (fun hHeld => ?_); refine with_tabW idiomref04_shown.tab2 idiomref04_shown.bits2 (fun HT_ HW_ => ?_)
 generalize w15.drew = w16 at BK934 BK935 BK940 HB hHeld ⊢
 refine pr_ 1 (some 13) ?_
 refine pr_ 3 (some 15) ?_
 refine pr_ 6 (some 18) ?_
 refine pr_ 9 (some 21) ?_
 refine pr_ 12 (some 24) ?_
 refine pr_ 15 (some 27) ?_
 refine tk_ 0 (some 12) hHeld ?_
 refine tk_ 2 (some 14) hHeld ?_
 refine tk_ 4 (some 16) hHeld ?_
 refine tk_ 7 (some 19) hHeld ?_
 refine tk_ 10 (some 22) hHeld ?_
 refine pr_ 11 (some 23) ?_
 refine tk_ 13 (some 25) hHeld ?_
 refine pr_ 14 (some 26) ?_
 refine one_ (i := 5) (N := some 17) #[true, true, true, true, true, true, true, true, false, true, true, true, true, true, true, true, false, false] rfl rfl (one_of HT_.out (by kernel_rfl)) (by decide) (fun K hK => ?_)
 refine goes_ Tryd.func111 (by kernel_rfl) rfl #[.string a0_2] (by rfl) rfl rfl ar_ ?_
 with_reducible refine (idiomref04_Number.calls k a0_2 t941 _ A4.out).mono ?_
 rintro e w' ⟨rfl, ⟨nd, rfl⟩⟩
 refine ⟨_, rfl, ?_⟩
 refine hK.out _ _ ⟨(blk_cell BK940.out 0).trans rfl, (blk_cell BK940.out 1).trans rfl, (blk_cell BK940.out 2).trans rfl, (blk_cell BK934.out 0).trans rfl, (blk_cell BK934.out 1).trans rfl, (blk_cell BK934.out 2).trans rfl⟩ (fun hHeld => ?_)
 clear hK K
 refine norm_ (a' := ?_) ?_ ?_
 rotate_left
 ·show Act.put _ (some 17) _ = _
  simp only [Act.put, List.setIfInBounds_toArray, List.set_cons_zero, List.set_cons_succ, i64_w, i32_w]
  rfl
 refine one_ (i := 8) (N := some 20) #[true, true, true, true, true, true, true, true, true, true, true, true, true, true, true, true, false, false] rfl rfl (one_of HT_.out (by kernel_rfl)) (by decide) (fun K hK => ?_)
 refine goes_ Tryd.func111 (by kernel_rfl) rfl #[.string t938] (by rfl) rfl rfl ar_ ?_
 with_reducible refine (idiomref04_Number.calls k t938 t942 _ A5.out).mono ?_
 rintro e w' ⟨rfl, ⟨nd, rfl⟩⟩
 refine ⟨_, rfl, ?_⟩
 refine hK.out _ _ ⟨(blk_cell BK940.out 0).trans rfl, (blk_cell BK940.out 1).trans rfl, (blk_cell BK940.out 2).trans rfl, (blk_cell BK934.out 0).trans rfl, (blk_cell BK934.out 1).trans rfl, (blk_cell BK934.out 2).trans rfl⟩ (fun hHeld => ?_)
 clear hK K
 refine norm_ (a' := ?_) ?_ ?_
 rotate_left
 ·show Act.put _ (some 20) _ = _
  simp only [Act.put, List.setIfInBounds_toArray, List.set_cons_zero, List.set_cons_succ, i64_w, i32_w]
  rfl
 refine pr_ 16 (some 28) ?_
 refine one_ (i := 17) (N := none) #[true, true, true, true, true, true, true, true, true, true, true, true, true, true, true, true, true, true] rfl rfl (one_of HT_.out (by kernel_rfl)) (by decide) (fun K hK => ?_)
 have hs17 : w16.cell? ⟨gb935, 0, none⟩ = some (.bool false) := (blk_cell BK935.out 0).trans rfl
 have hfs17 := blk_frozen BK935.out 0
 have hns17_0 := NB934_935.out
 have hns17_2 := NB940_935.out
 have hms17_0 := NB935_934.out
 have hms17_2 := NB935_940.out
 have hs18 : w16.cell? ⟨gb935, 1, none⟩ = some (.string (⟨#[]⟩ : ByteArray)) := (blk_cell BK935.out 1).trans rfl
 have hfs18 := blk_frozen BK935.out 1
 have hns18_0 := NB934_935.out
 have hns18_2 := NB940_935.out
 have hms18_0 := NB935_934.out
 have hms18_2 := NB935_940.out
 have hs19 : w16.cell? ⟨gb935, 2, none⟩ = some (.string (⟨#[]⟩ : ByteArray)) := (blk_cell BK935.out 2).trans rfl
 have hfs19 := blk_frozen BK935.out 2
 have hns19_0 := NB934_935.out
 have hns19_2 := NB940_935.out
 have hms19_0 := NB935_934.out
 have hms19_2 := NB935_940.out
 have hs20 : w16.cell? ⟨gb935, 3, none⟩ = some (.string (⟨#[]⟩ : ByteArray)) := (blk_cell BK935.out 3).trans rfl
 have hfs20 := blk_frozen BK935.out 3
 have hns20_0 := NB934_935.out
 have hns20_2 := NB940_935.out
 have hms20_0 := NB935_934.out
 have hms20_2 := NB935_940.out
 have hs21 : w16.cell? ⟨gb935, 4, none⟩ = some (.int .i64 0) := (blk_cell BK935.out 4).trans rfl
 have hfs21 := blk_frozen BK935.out 4
 have hns21_0 := NB934_935.out
 have hns21_2 := NB940_935.out
 have hms21_0 := NB935_934.out
 have hms21_2 := NB935_940.out
 have hs22 : w16.cell? ⟨gb935, 5, none⟩ = some (.int .i64 0) := (blk_cell BK935.out 5).trans rfl
 have hfs22 := blk_frozen BK935.out 5
 have hns22_0 := NB934_935.out
 have hns22_2 := NB940_935.out
 have hms22_0 := NB935_934.out
 have hms22_2 := NB935_940.out
 have hs23 : w16.cell? ⟨gb935, 6, none⟩ = some (.string (⟨#[]⟩ : ByteArray)) := (blk_cell BK935.out 6).trans rfl
 have hfs23 := blk_frozen BK935.out 6
 have hns23_0 := NB934_935.out
 have hns23_2 := NB940_935.out
 have hms23_0 := NB935_934.out
 have hms23_2 := NB935_940.out
 have hs24 : w16.cell? ⟨gb935, 7, none⟩ = some (.string (⟨#[]⟩ : ByteArray)) := (blk_cell BK935.out 7).trans rfl
 have hfs24 := blk_frozen BK935.out 7
 have hns24_0 := NB934_935.out
 have hns24_2 := NB940_935.out
 have hms24_0 := NB935_934.out
 have hms24_2 := NB935_940.out
 have hs25 : w16.cell? ⟨gb935, 8, none⟩ = some (.int .i64 0) := (blk_cell BK935.out 8).trans rfl
 have hfs25 := blk_frozen BK935.out 8
 have hns25_0 := NB934_935.out
 have hns25_2 := NB940_935.out
 have hms25_0 := NB935_934.out
 have hms25_2 := NB935_940.out
 refine skip_ (w1 := ?_) (by rfl) rfl ?_ ?_
 rotate_left
 ·go_simp
  rfl
 refine hK.out _ _ ⟨((cell_far (p := ⟨gb935, _, none⟩) NB940_935.out _).trans (((cell_far (p := ⟨gb935, _, none⟩) NB940_935.out _).trans (((cell_far (p := ⟨gb935, _, none⟩) NB940_935.out _).trans (((cell_far (p := ⟨gb935, _, none⟩) NB940_935.out _).trans (((cell_far (p := ⟨gb935, _, none⟩) NB940_935.out _).trans (((cell_far (p := ⟨gb935, _, none⟩) NB940_935.out _).trans (((cell_far (p := ⟨gb935, _, none⟩) NB940_935.out _).trans (((cell_far (p := ⟨gb935, _, none⟩) NB940_935.out _).trans (((cell_far (p := ⟨gb935, _, none⟩) NB940_935.out _).trans (hHeld.1)))))))))))))))))), ((cell_far (p := ⟨gb935, _, none⟩) NB940_935.out _).trans (((cell_far (p := ⟨gb935, _, none⟩) NB940_935.out _).trans (((cell_far (p := ⟨gb935, _, none⟩) NB940_935.out _).trans (((cell_far (p := ⟨gb935, _, none⟩) NB940_935.out _).trans (((cell_far (p := ⟨gb935, _, none⟩) NB940_935.out _).trans (((cell_far (p := ⟨gb935, _, none⟩) NB940_935.out _).trans (((cell_far (p := ⟨gb935, _, none⟩) NB940_935.out _).trans (((cell_far (p := ⟨gb935, _, none⟩) NB940_935.out _).trans (((cell_far (p := ⟨gb935, _, none⟩) NB940_935.out _).trans (hHeld.2.1)))))))))))))))))), ((cell_far (p := ⟨gb935, _, none⟩) NB940_935.out _).trans (((cell_far (p := ⟨gb935, _, none⟩) NB940_935.out _).trans (((cell_far (p := ⟨gb935, _, none⟩) NB940_935.out _).trans (((cell_far (p := ⟨gb935, _, none⟩) NB940_935.out _).trans (((cell_far (p := ⟨gb935, _, none⟩) NB940_935.out _).trans (((cell_far (p := ⟨gb935, _, none⟩) NB940_935.out _).trans (((cell_far (p := ⟨gb935, _, none⟩) NB940_935.out _).trans (((cell_far (p := ⟨gb935, _, none⟩) NB940_935.out _).trans (((cell_far (p := ⟨gb935, _, none⟩) NB940_935.out _).trans (hHeld.2.2.1)))))))))))))))))), ((cell_far (p := ⟨gb935, _, none⟩) NB934_935.out _).trans (((cell_far (p := ⟨gb935, _, none⟩) NB934_935.out _).trans (((cell_far (p := ⟨gb935, _, none⟩) NB934_935.out _).trans (((cell_far (p := ⟨gb935, _, none⟩) NB934_935.out _).trans (((cell_far (p := ⟨gb935, _, none⟩) NB934_935.out _).trans (((cell_far (p := ⟨gb935, _, none⟩) NB934_935.out _).trans (((cell_far (p := ⟨gb935, _, none⟩) NB934_935.out _).trans (((cell_far (p := ⟨gb935, _, none⟩) NB934_935.out _).trans (((cell_far (p := ⟨gb935, _, none⟩) NB934_935.out _).trans (hHeld.2.2.2.1)))))))))))))))))), ((cell_far (p := ⟨gb935, _, none⟩) NB934_935.out _).trans (((cell_far (p := ⟨gb935, _, none⟩) NB934_935.out _).trans (((cell_far (p := ⟨gb935, _, none⟩) NB934_935.out _).trans (((cell_far (p := ⟨gb935, _, none⟩) NB934_935.out _).trans (((cell_far (p := ⟨gb935, _, none⟩) NB934_935.out _).trans (((cell_far (p := ⟨gb935, _, none⟩) NB934_935.out _).trans (((cell_far (p := ⟨gb935, _, none⟩) NB934_935.out _).trans (((cell_far (p := ⟨gb935, _, none⟩) NB934_935.out _).trans (((cell_far (p := ⟨gb935, _, none⟩) NB934_935.out _).trans (hHeld.2.2.2.2.1)))))))))))))))))), ((cell_far (p := ⟨gb935, _, none⟩) NB934_935.out _).trans (((cell_far (p := ⟨gb935, _, none⟩) NB934_935.out _).trans (((cell_far (p := ⟨gb935, _, none⟩) NB934_935.out _).trans (((cell_far (p := ⟨gb935, _, none⟩) NB934_935.out _).trans (((cell_far (p := ⟨gb935, _, none⟩) NB934_935.out _).trans (((cell_far (p := ⟨gb935, _, none⟩) NB934_935.out _).trans (((cell_far (p := ⟨gb935, _, none⟩) NB934_935.out _).trans (((cell_far (p := ⟨gb935, _, none⟩) NB934_935.out _).trans (((cell_far (p := ⟨gb935, _, none⟩) NB934_935.out _).trans (hHeld.2.2.2.2.2))))))))))))))))))⟩ (fun hHeld => ?_)
 clear hK K
 refine done_ (done_of HT_.out (by kernel_rfl)) ?_
 (try clear hms25_2 hms25_0 hns25_2 hns25_0 hfs25 hs25 hms24_2 hms24_0 hns24_2 hns24_0 hfs24 hs24 hms23_2 hms23_0 hns23_2 hns23_0 hfs23 hs23 hms22_2 hms22_0 hns22_2 hns22_0 hfs22 hs22 hms21_2 hms21_0 hns21_2 hns21_0 hfs21 hs21 hms20_2 hms20_0 hns20_2 hns20_0 hfs20 hs20 hms19_2 hms19_0 hns19_2 hns19_0 hfs19 hs19 hms18_2 hms18_0 hns18_2 hns18_0 hfs18 hs18 hms17_2 hms17_0 hns17_2 hns17_0 hfs17 hs17)
 try go_wp2
 refine bodyPost_ret (results_cell_row rfl _ _ gb935 45 #[.bool t936, .string t937, .string t938, .string a0_1, .int .i64 (a0_2.size : Int), .int .i64 (t938.size : Int), .string t941, .string t942, .int .i64 a1] (0, 0) _ rfl (by refine blk_put (cs := #[.bool t936, .string t937, .string t938, .string a0_1, .int .i64 (a0_2.size : Int), .int .i64 (t938.size : Int), .string t941, .string t942, .int .i64 0]) ?_ 8 _ rfl; refine blk_put (cs := #[.bool t936, .string t937, .string t938, .string a0_1, .int .i64 (a0_2.size : Int), .int .i64 (t938.size : Int), .string t941, .string (⟨#[]⟩ : ByteArray), .int .i64 0]) ?_ 7 _ rfl; refine blk_put (cs := #[.bool t936, .string t937, .string t938, .string a0_1, .int .i64 (a0_2.size : Int), .int .i64 (t938.size : Int), .string (⟨#[]⟩ : ByteArray), .string (⟨#[]⟩ : ByteArray), .int .i64 0]) ?_ 6 _ rfl; refine blk_put (cs := #[.bool t936, .string t937, .string t938, .string a0_1, .int .i64 (a0_2.size : Int), .int .i64 0, .string (⟨#[]⟩ : ByteArray), .string (⟨#[]⟩ : ByteArray), .int .i64 0]) ?_ 5 _ rfl; refine blk_put (cs := #[.bool t936, .string t937, .string t938, .string a0_1, .int .i64 0, .int .i64 0, .string (⟨#[]⟩ : ByteArray), .string (⟨#[]⟩ : ByteArray), .int .i64 0]) ?_ 4 _ rfl; refine blk_put (cs := #[.bool t936, .string t937, .string t938, .string (⟨#[]⟩ : ByteArray), .int .i64 0, .int .i64 0, .string (⟨#[]⟩ : ByteArray), .string (⟨#[]⟩ : ByteArray), .int .i64 0]) ?_ 3 _ rfl; refine blk_put (cs := #[.bool t936, .string t937, .string (⟨#[]⟩ : ByteArray), .string (⟨#[]⟩ : ByteArray), .int .i64 0, .int .i64 0, .string (⟨#[]⟩ : ByteArray), .string (⟨#[]⟩ : ByteArray), .int .i64 0]) ?_ 2 _ rfl; refine blk_put (cs := #[.bool t936, .string (⟨#[]⟩ : ByteArray), .string (⟨#[]⟩ : ByteArray), .string (⟨#[]⟩ : ByteArray), .int .i64 0, .int .i64 0, .string (⟨#[]⟩ : ByteArray), .string (⟨#[]⟩ : ByteArray), .int .i64 0]) ?_ 1 _ rfl; refine blk_put (cs := #[.bool false, .string (⟨#[]⟩ : ByteArray), .string (⟨#[]⟩ : ByteArray), .string (⟨#[]⟩ : ByteArray), .int .i64 0, .int .i64 0, .string (⟨#[]⟩ : ByteArray), .string (⟨#[]⟩ : ByteArray), .int .i64 0]) ?_ 0 _ rfl; exact BK935.out) Tryd.underlying45 rfl (by kernel_rfl)) rfl ?_
 exact ⟨by first | rfl | (simp [errW_none, errW_some] <;> rfl) | (simp [*, errW_none, errW_some] <;> rfl) | (simp [bne_nil_]; done), by repeat (first | (with_reducible first | exact HB.out | apply below_alloc | apply pw_below_drewN | apply below_drew1 | refine below_set ?_ GE934.out | refine below_set ?_ GE935.out | refine below_set ?_ GE940.out) | exact HB.out)⟩
end Go.Proofs.YtihjcaglhjepdaaDoor.P
namespace Go.Proofs.YtihjcaglhjepdaaDoor.P
open Go.RowKit Go.Proofs.YtihjcaglhjepdaaDoorW.PrintWords Go.Proofs.YtihjcaglhjepdaaDoorW.PrintLast Go.Proofs.YtihjcaglhjepdaaDoorW.PrintMore
attribute [local go_sem] max2_int max_two
set_option linter.unusedVariables false
set_option linter.unusedSimpArgs false
def idiomref04_Of.j0 : Nat → Int → Int → Bool → ByteArray → ByteArray → Option (Bool × ByteArray × ByteArray × ByteArray × Int × Int × ByteArray × ByteArray × Int × Int)
  | 0, _, _, _, _, _ => none
  | k + 1, x1, x6, x944000, x944001, x944002 => if x6 = 0 then ((idiomref02_Shift.f k x944000 x944001 x944002 x1).bind fun bt956 => (if bt956.2.2.2 = 0 then ((idiomref04_shown.f k false bt956.2.1 bt956.2.2.1 x1).bind fun bt961 => (some (bt961.1, bt961.2.1, bt961.2.2.1, bt961.2.2.2.1, bt961.2.2.2.2.1, bt961.2.2.2.2.2.1, bt961.2.2.2.2.2.2.1, bt961.2.2.2.2.2.2.2.1, bt961.2.2.2.2.2.2.2.2, 0))) else (some (false, (⟨#[]⟩ : ByteArray), (⟨#[]⟩ : ByteArray), (⟨#[]⟩ : ByteArray), 0, 0, (⟨#[]⟩ : ByteArray), (⟨#[]⟩ : ByteArray), 0, bt956.2.2.2)))) else (some (false, (⟨#[]⟩ : ByteArray), (⟨#[]⟩ : ByteArray), (⟨#[]⟩ : ByteArray), 0, 0, (⟨#[]⟩ : ByteArray), (⟨#[]⟩ : ByteArray), 0, x6))
def idiomref04_Of.f (k : Nat) (a0_0 : Bool) (a0_1 : ByteArray) (a0_2 : ByteArray) (a1 : Int) : Option (Bool × ByteArray × ByteArray × ByteArray × Int × Int × ByteArray × ByteArray × Int × Int) := (idiomref02_Check.f k a0_0 a0_1 a0_2).bind fun t945 => (if a1 < 0 then ((idiomref02_If.f true 1).bind fun t946 => ((idiomref02_First.f k (([t945, t946] : List Int))).bind fun t950 => (idiomref04_Of.j0 k a1 t950 a0_0 a0_1 a0_2))) else ((idiomref02_If.f (decide (a1 > 40)) 1).bind fun t951 => ((idiomref02_First.f k (([t945, t951] : List Int))).bind fun t955 => (idiomref04_Of.j0 k a1 t955 a0_0 a0_1 a0_2))))
set_option maxHeartbeats 8000000 in
set_option maxRecDepth 100000 in
theorem idiomref04_Of.calls (k : Nat) (a0_0 : Bool) (a0_1 : ByteArray) (a0_2 : ByteArray) (a1 : Int) (r1 : Bool) (r2 : ByteArray) (r3 : ByteArray) (r4 : ByteArray) (r5 : Int) (r6 : Int) (r7 : ByteArray) (r8 : ByteArray) (r9 : Int) (r10 : Int) (w : World) (h : idiomref04_Of.f k a0_0 a0_1 a0_2 a1 = some (r1, r2, r3, r4, r5, r6, r7, r8, r9, r10)) :
    Calls Tryd.prog 46 #[.agg #[.bool a0_0, .string a0_1, .string a0_2], .int .i64 a1] w fun e w' => e = .returned (.tuple #[.agg #[.bool r1, .string r2, .string r3, .string r4, .int .i64 r5, .int .i64 r6, .string r7, .string r8, .int .i64 r9], .int .i64 r10]) ∧ Below w.heap.size w w' := by
 have hu23 := Tryd.underlying23
 have hu45 := Tryd.underlying45
 have HB := Aside0.mk (Below.refl w.heap.size w)
 unfold idiomref04_Of.f at h
 have H := h
 clear h
 have HC3 := Aside0.mk H
 clear H
 go_enter Tryd.func46, Tryd.ntmps46
 go_upto_region 1 with (first | ((with_reducible refine gate_dst (N := 2) rfl ?_); refine bx_ #[.bool a0_0, .string a0_1, .string a0_2] 23 ?_; intro gb943 hg w4 hbox hb; have BK943 := Aside0.mk (hbox); have GW943 := Aside0.mk ((by rw [hg]; exact (below_size hb_) : w.heap.size ≤ gb943)); have GE943 := Aside0.mk ((by rw [hg]; exact (below_size hb_) : w.heap.size ≤ gb943)); replace HB := Aside0.mk (below_step hb_ hb); clear hb hbox hg) | ((with_reducible refine gate_dst (N := 4) rfl ?_); refine bx_ #[.bool false, .string (⟨#[]⟩ : ByteArray), .string (⟨#[]⟩ : ByteArray), .string (⟨#[]⟩ : ByteArray), .int .i64 0, .int .i64 0, .string (⟨#[]⟩ : ByteArray), .string (⟨#[]⟩ : ByteArray), .int .i64 0] 45 ?_; intro gb944 hg w5 hbox hb; have BK944 := Aside0.mk (hbox); have GW944 := Aside0.mk ((by rw [hg]; exact (below_size hb_) : w.heap.size ≤ gb944)); have GE944 := Aside0.mk ((by rw [hg]; exact (below_size hb_) : w.heap.size ≤ gb944)); have NB943_944 := Aside0.mk ((by rw [hg]; exact Nat.ne_of_lt (blk_lt (g := gb943) (o := .cells #[.bool a0_0, .string a0_1, .string a0_2] 23 (0, 0)) (by (with_reducible repeat (first | refine blk_drewN ?_ _ | refine blk_drew ?_ | refine blk_alloc ?_ _)); exact BK943.out)) : gb943 ≠ gb944)); have NB944_943 := Aside0.mk ((by rw [hg]; exact Nat.ne_of_gt (blk_lt (g := gb943) (o := .cells #[.bool a0_0, .string a0_1, .string a0_2] 23 (0, 0)) (by (with_reducible repeat (first | refine blk_drewN ?_ _ | refine blk_drew ?_ | refine blk_alloc ?_ _)); exact BK943.out)) : gb944 ≠ gb943)); replace BK943 := Aside0.mk (blk_below (g := gb943) (o := .cells #[.bool a0_0, .string a0_1, .string a0_2] 23 (0, 0)) (by (with_reducible repeat (first | refine blk_drewN ?_ _ | refine blk_drew ?_ | refine blk_alloc ?_ _)); exact BK943.out) hb); replace HB := Aside0.mk (below_step hb_ hb); clear hb hbox hg))
 (try simp only [Act.put, List.setIfInBounds_toArray, List.set_cons_zero, List.set_cons_succ])
 go_cut [6] (fun v6 wc => ∃ (kq : Nat) (x6_2 : Int), v6 = .int .i64 x6_2 ∧ Aside0 (idiomref04_Of.j0 kq a1 x6_2 a0_0 a0_1 a0_2 = some (r1, r2, r3, r4, r5, r6, r7, r8, r9, r10)) ∧ Aside0 (kq ≤ k) ∧ Aside0 (wc.heap[gb943]? = some (.cells #[.bool a0_0, .string a0_1, .string a0_2] 23 (0, 0))) ∧ Aside0 (wc.heap[gb944]? = some (.cells #[.bool false, .string (⟨#[]⟩ : ByteArray), .string (⟨#[]⟩ : ByteArray), .string (⟨#[]⟩ : ByteArray), .int .i64 0, .int .i64 0, .string (⟨#[]⟩ : ByteArray), .string (⟨#[]⟩ : ByteArray), .int .i64 0] 45 (0, 0))) ∧ Aside0 (Below w.heap.size w wc))
 case first =>
  have H := HC3.out
  clear HC3
  replace H := Option.bind_eq_some_iff.mp H
  obtain ⟨t945, A60, H⟩ := H
  try dsimp only at H
  have A6 := Aside0.mk A60
  clear A60
  by_cases c7 : a1 < 0
  ·rw [if_pos c7] at H
   have c7b0 : decide (a1 < 0) = true := decide_eq_true c7
   clear c7
   (first | rw [c7b0] | (simp only [i64_w, i32_w]; rw [c7b0]) | skip)
   replace H := Option.bind_eq_some_iff.mp H
   obtain ⟨t946, A80, H⟩ := H
   try dsimp only at H
   have A8 := Aside0.mk A80
   clear A80
   obtain ⟨y947, hy947⟩ : ∃ y_ : List Int, y_ = (([t945, t946] : List Int)) := ⟨_, rfl⟩
   rw [← hy947] at H
   have Ny947 := Aside0.mk hy947
   clear hy947
   replace H := Option.bind_eq_some_iff.mp H
   obtain ⟨t950, A90, H⟩ := H
   try dsimp only at H
   have A9 := Aside0.mk A90
   clear A90
   have H' := Aside0.mk H
   clear H
   have hnb10 := NB943_944.out
   have hnc10 := NB944_943.out
   obtain ⟨hcz11_0, hcz11_1, hcz11_2, hfz11_0, hfz11_1, hfz11_2⟩ := BK943.c3
   go_wp2_with (first | ((with_reducible refine gate_callee (f := 20) rfl ?_); refine gL_ (some 10) Tryd.func20 #[.agg #[.bool a0_0, .string a0_1, .string a0_2]] ?_; (with_reducible refine (idiomref02_Check.calls k a0_0 a0_1 a0_2 t945 _ A6.out).mono ?_); rintro e w12 ⟨rfl, hb⟩; refine ⟨_, rfl, ?_⟩; replace BK943 := Aside0.mk (blk_below (g := gb943) (o := .cells #[.bool a0_0, .string a0_1, .string a0_2] 23 (0, 0)) (by (with_reducible repeat (first | refine blk_drewN ?_ _ | refine blk_drew ?_ | refine blk_alloc ?_ _)); exact BK943.out) hb); replace BK944 := Aside0.mk (blk_below (g := gb944) (o := .cells #[.bool false, .string (⟨#[]⟩ : ByteArray), .string (⟨#[]⟩ : ByteArray), .string (⟨#[]⟩ : ByteArray), .int .i64 0, .int .i64 0, .string (⟨#[]⟩ : ByteArray), .string (⟨#[]⟩ : ByteArray), .int .i64 0] 45 (0, 0)) (by (with_reducible repeat (first | refine blk_drewN ?_ _ | refine blk_drew ?_ | refine blk_alloc ?_ _)); exact BK944.out) hb); replace HB := Aside0.mk (below_step hb_ hb)) | ((with_reducible refine gate_callee (f := 80) rfl ?_); refine gL_ (some 17) Tryd.func80 #[.bool true, .int .i64 1] ?_; (with_reducible refine (idiomref02_If.calls true 1 t946 _ A8.out).mono ?_); rintro e w' ⟨rfl, ⟨nd, rfl⟩⟩; refine ⟨_, rfl, ?_⟩) | ((with_reducible refine gate_dst (N := 18) rfl ?_); refine Kd.R_lit (Kd.int .i64) _ 24 ?hg (N := 18) ?hd (xs := ([t945, t946] : List Int)) (inner := [.int .i64 t945, .int .i64 t946]) (ok := fun _ => True) (okp := fun _ => True) ?hr ?hp (fun _ hk => hk) trivial (Below.refl _ _) (Nat.le_refl _) (by simp) ?_; (case hd => rfl); (case hg => rfl); (case hr => first | (go_simp; done) | (go_simp; rfl)); (case hp => exact (Reps.one (show Kd.M (Kd.int .i64) _ _ _ t945 [.int .i64 t945] from rfl) (Reps.one (show Kd.M (Kd.int .i64) _ _ _ t946 [.int .i64 t946] from rfl) (Reps.none _ _)))); intro v948 w13 ho14 hb hg_ hnew_; clear hg_ hnew_; (first | rw [← Ny947.out] at ho14 | (simp only [Int.reduceToNat] at ho14; rw [← Ny947.out] at ho14)); have HO949 := Aside0.mk (Kd.R_lower ho14 (below_size hb_)); replace BK943 := Aside0.mk (blk_below (g := gb943) (o := .cells #[.bool a0_0, .string a0_1, .string a0_2] 23 (0, 0)) (by (with_reducible repeat (first | refine blk_drewN ?_ _ | refine blk_drew ?_ | refine blk_alloc ?_ _)); exact BK943.out) hb); replace BK944 := Aside0.mk (blk_below (g := gb944) (o := .cells #[.bool false, .string (⟨#[]⟩ : ByteArray), .string (⟨#[]⟩ : ByteArray), .string (⟨#[]⟩ : ByteArray), .int .i64 0, .int .i64 0, .string (⟨#[]⟩ : ByteArray), .string (⟨#[]⟩ : ByteArray), .int .i64 0] 45 (0, 0)) (by (with_reducible repeat (first | refine blk_drewN ?_ _ | refine blk_drew ?_ | refine blk_alloc ?_ _)); exact BK944.out) hb); replace HB := Aside0.mk (below_step hb_ hb); clear hb ho14; obtain ⟨Ao15, co15, eo15⟩ := Kd.R_slice HO949.out; subst eo15) | ((with_reducible refine gate_callee (f := 68) rfl ?_); refine gL_ (some 19) Tryd.func68 #[.slice Ao15 y947.length co15] ?_; (with_reducible refine (idiomref02_First.calls k _ _ y947 t950 _ ?side1 ?side2 A9.out).mono ?_); (case side1 => repeat (first | exact (Kd.R_reads' HO949.out).2.2 | (with_reducible refine Kd.C_alloc ?_ _) | (with_reducible refine Kd.C_drewN ?_ _) | (with_reducible refine Kd.C_drew ?_))); (case side2 => exact (Kd.R_reads' HO949.out).2.1); rintro e w' ⟨rfl, ⟨nd, rfl⟩⟩; refine ⟨_, rfl, ?_⟩))
   go_meet
   case rel => exact ⟨_, (t950), (by first | rfl | (simp; done) | (simp [*]; done)), H', ⟨by first | omega | exact Nat.le_refl _⟩, ⟨by (with_reducible repeat (first | refine blk_drewN ?_ _ | refine blk_drew ?_ | refine blk_alloc ?_ _)); exact BK943.out⟩, ⟨by (with_reducible repeat (first | refine blk_drewN ?_ _ | refine blk_drew ?_ | refine blk_alloc ?_ _)); exact BK944.out⟩, ⟨by repeat (first | (with_reducible first | exact HB.out | apply below_alloc | apply pw_below_drewN | apply below_drew1 | refine below_set ?_ GE943.out | refine below_set ?_ GE944.out) | exact HB.out)⟩⟩
  ·rw [if_neg c7] at H
   have c7b0 : decide (a1 < 0) = false := decide_eq_false c7
   clear c7
   (first | rw [c7b0] | (simp only [i64_w, i32_w]; rw [c7b0]) | skip)
   replace H := Option.bind_eq_some_iff.mp H
   obtain ⟨t951, A160, H⟩ := H
   try dsimp only at H
   have A16 := Aside0.mk A160
   clear A160
   obtain ⟨y952, hy952⟩ : ∃ y_ : List Int, y_ = (([t945, t951] : List Int)) := ⟨_, rfl⟩
   rw [← hy952] at H
   have Ny952 := Aside0.mk hy952
   clear hy952
   replace H := Option.bind_eq_some_iff.mp H
   obtain ⟨t955, A170, H⟩ := H
   try dsimp only at H
   have A17 := Aside0.mk A170
   clear A170
   have H' := Aside0.mk H
   clear H
   have hnb18 := NB943_944.out
   have hnc18 := NB944_943.out
   obtain ⟨hcz19_0, hcz19_1, hcz19_2, hfz19_0, hfz19_1, hfz19_2⟩ := BK943.c3
   go_wp2_with (first | ((with_reducible refine gate_callee (f := 20) rfl ?_); refine gL_ (some 10) Tryd.func20 #[.agg #[.bool a0_0, .string a0_1, .string a0_2]] ?_; (with_reducible refine (idiomref02_Check.calls k a0_0 a0_1 a0_2 t945 _ A6.out).mono ?_); rintro e w20 ⟨rfl, hb⟩; refine ⟨_, rfl, ?_⟩; replace BK943 := Aside0.mk (blk_below (g := gb943) (o := .cells #[.bool a0_0, .string a0_1, .string a0_2] 23 (0, 0)) (by (with_reducible repeat (first | refine blk_drewN ?_ _ | refine blk_drew ?_ | refine blk_alloc ?_ _)); exact BK943.out) hb); replace BK944 := Aside0.mk (blk_below (g := gb944) (o := .cells #[.bool false, .string (⟨#[]⟩ : ByteArray), .string (⟨#[]⟩ : ByteArray), .string (⟨#[]⟩ : ByteArray), .int .i64 0, .int .i64 0, .string (⟨#[]⟩ : ByteArray), .string (⟨#[]⟩ : ByteArray), .int .i64 0] 45 (0, 0)) (by (with_reducible repeat (first | refine blk_drewN ?_ _ | refine blk_drew ?_ | refine blk_alloc ?_ _)); exact BK944.out) hb); replace HB := Aside0.mk (below_step hb_ hb)) | ((with_reducible refine gate_callee (f := 80) rfl ?_); refine gL_ (some 17) Tryd.func80 #[.bool (decide (a1 > 40)), .int .i64 1] ?_; (with_reducible refine (idiomref02_If.calls (decide (a1 > 40)) 1 t951 _ A16.out).mono ?_); rintro e w' ⟨rfl, ⟨nd, rfl⟩⟩; refine ⟨_, rfl, ?_⟩) | ((with_reducible refine gate_dst (N := 18) rfl ?_); refine Kd.R_lit (Kd.int .i64) _ 24 ?hg (N := 18) ?hd (xs := ([t945, t951] : List Int)) (inner := [.int .i64 t945, .int .i64 t951]) (ok := fun _ => True) (okp := fun _ => True) ?hr ?hp (fun _ hk => hk) trivial (Below.refl _ _) (Nat.le_refl _) (by simp) ?_; (case hd => rfl); (case hg => rfl); (case hr => first | (go_simp; done) | (go_simp; rfl)); (case hp => exact (Reps.one (show Kd.M (Kd.int .i64) _ _ _ t945 [.int .i64 t945] from rfl) (Reps.one (show Kd.M (Kd.int .i64) _ _ _ t951 [.int .i64 t951] from rfl) (Reps.none _ _)))); intro v953 w21 ho22 hb hg_ hnew_; clear hg_ hnew_; (first | rw [← Ny952.out] at ho22 | (simp only [Int.reduceToNat] at ho22; rw [← Ny952.out] at ho22)); have HO954 := Aside0.mk (Kd.R_lower ho22 (below_size hb_)); replace BK943 := Aside0.mk (blk_below (g := gb943) (o := .cells #[.bool a0_0, .string a0_1, .string a0_2] 23 (0, 0)) (by (with_reducible repeat (first | refine blk_drewN ?_ _ | refine blk_drew ?_ | refine blk_alloc ?_ _)); exact BK943.out) hb); replace BK944 := Aside0.mk (blk_below (g := gb944) (o := .cells #[.bool false, .string (⟨#[]⟩ : ByteArray), .string (⟨#[]⟩ : ByteArray), .string (⟨#[]⟩ : ByteArray), .int .i64 0, .int .i64 0, .string (⟨#[]⟩ : ByteArray), .string (⟨#[]⟩ : ByteArray), .int .i64 0] 45 (0, 0)) (by (with_reducible repeat (first | refine blk_drewN ?_ _ | refine blk_drew ?_ | refine blk_alloc ?_ _)); exact BK944.out) hb); replace HB := Aside0.mk (below_step hb_ hb); clear hb ho22; obtain ⟨Ao23, co23, eo23⟩ := Kd.R_slice HO954.out; subst eo23) | ((with_reducible refine gate_callee (f := 68) rfl ?_); refine gL_ (some 19) Tryd.func68 #[.slice Ao23 y952.length co23] ?_; (with_reducible refine (idiomref02_First.calls k _ _ y952 t955 _ ?side1 ?side2 A17.out).mono ?_); (case side1 => repeat (first | exact (Kd.R_reads' HO954.out).2.2 | (with_reducible refine Kd.C_alloc ?_ _) | (with_reducible refine Kd.C_drewN ?_ _) | (with_reducible refine Kd.C_drew ?_))); (case side2 => exact (Kd.R_reads' HO954.out).2.1); rintro e w' ⟨rfl, ⟨nd, rfl⟩⟩; refine ⟨_, rfl, ?_⟩))
   go_meet
   case rel => exact ⟨_, (t955), (by first | rfl | (simp; done) | (simp [*]; done)), H', ⟨by first | omega | exact Nat.le_refl _⟩, ⟨by (with_reducible repeat (first | refine blk_drewN ?_ _ | refine blk_drew ?_ | refine blk_alloc ?_ _)); exact BK943.out⟩, ⟨by (with_reducible repeat (first | refine blk_drewN ?_ _ | refine blk_drew ?_ | refine blk_alloc ?_ _)); exact BK944.out⟩, ⟨by repeat (first | (with_reducible first | exact HB.out | apply below_alloc | apply pw_below_drewN | apply below_drew1 | refine below_set ?_ GE943.out | refine below_set ?_ GE944.out) | exact HB.out)⟩⟩
 case rest =>
  clear HC3
  obtain ⟨kq, x6_2, rfl, HA, HJ2, BK943, BK944, HB⟩ := hcut
  cases kq with
  | zero => exact absurd HA.out (by simp [idiomref04_Of.j0])
  | succ kj2 =>
   have H := HA.out
   clear HA
   simp only [idiomref04_Of.j0] at H
   by_cases c24 : x6_2 = 0
   ·rw [if_pos c24] at H
    have c24b0 : (x6_2 == 0) = true := beq_iff_eq.mpr c24
    have c24b1 : (x6_2 != 0) = false := bne_eq_false_iff_eq.mpr c24
    clear c24
    replace H := Option.bind_eq_some_iff.mp H
    obtain ⟨⟨t956, t957, t958, t959⟩, A250, H⟩ := H
    try dsimp only at H
    have A25 := Aside0.mk A250
    clear A250
    have HF26 := Aside0.mk H
    clear H
    have hnb27 := NB943_944.out
    have hnc27 := NB944_943.out
    obtain ⟨hcz28_0, hcz28_1, hcz28_2, hfz28_0, hfz28_1, hfz28_2⟩ := BK943.c3
    go_upto_if 31 with (first | ((with_reducible refine gate_callee (f := 44) rfl ?_); refine gL_ (some 27) Tryd.func44 #[.agg #[.bool a0_0, .string a0_1, .string a0_2], .int .i64 a1] ?_; (with_reducible refine (idiomref02_Shift.calls kj2 a0_0 a0_1 a0_2 a1 t956 t957 t958 t959 _ A25.out).mono ?_); rintro e w29 ⟨rfl, hb⟩; refine ⟨_, rfl, ?_⟩; replace BK943 := Aside0.mk (blk_below (g := gb943) (o := .cells #[.bool a0_0, .string a0_1, .string a0_2] 23 (0, 0)) (by (with_reducible repeat (first | refine blk_drewN ?_ _ | refine blk_drew ?_ | refine blk_alloc ?_ _)); exact BK943.out) hb); replace BK944 := Aside0.mk (blk_below (g := gb944) (o := .cells #[.bool false, .string (⟨#[]⟩ : ByteArray), .string (⟨#[]⟩ : ByteArray), .string (⟨#[]⟩ : ByteArray), .int .i64 0, .int .i64 0, .string (⟨#[]⟩ : ByteArray), .string (⟨#[]⟩ : ByteArray), .int .i64 0] 45 (0, 0)) (by (with_reducible repeat (first | refine blk_drewN ?_ _ | refine blk_drew ?_ | refine blk_alloc ?_ _)); exact BK944.out) hb); replace HB := Aside0.mk (below_step hb_ hb)) | ((with_reducible refine gate_dst (N := 7) rfl ?_); refine bx_ #[.bool false, .string (⟨#[]⟩ : ByteArray), .string (⟨#[]⟩ : ByteArray)] 23 ?_; intro gb960 hg w30 hbox hb; have BK960 := Aside0.mk (hbox); have GW960 := Aside0.mk ((by rw [hg]; exact (below_size hb_) : w.heap.size ≤ gb960)); have GE960 := Aside0.mk ((by rw [hg]; exact (below_size hb_) : w.heap.size ≤ gb960)); have NB943_960 := Aside0.mk ((by rw [hg]; exact Nat.ne_of_lt (blk_lt (g := gb943) (o := .cells #[.bool a0_0, .string a0_1, .string a0_2] 23 (0, 0)) (by (with_reducible repeat (first | refine blk_drewN ?_ _ | refine blk_drew ?_ | refine blk_alloc ?_ _)); exact BK943.out)) : gb943 ≠ gb960)); have NB960_943 := Aside0.mk ((by rw [hg]; exact Nat.ne_of_gt (blk_lt (g := gb943) (o := .cells #[.bool a0_0, .string a0_1, .string a0_2] 23 (0, 0)) (by (with_reducible repeat (first | refine blk_drewN ?_ _ | refine blk_drew ?_ | refine blk_alloc ?_ _)); exact BK943.out)) : gb960 ≠ gb943)); have NB944_960 := Aside0.mk ((by rw [hg]; exact Nat.ne_of_lt (blk_lt (g := gb944) (o := .cells #[.bool false, .string (⟨#[]⟩ : ByteArray), .string (⟨#[]⟩ : ByteArray), .string (⟨#[]⟩ : ByteArray), .int .i64 0, .int .i64 0, .string (⟨#[]⟩ : ByteArray), .string (⟨#[]⟩ : ByteArray), .int .i64 0] 45 (0, 0)) (by (with_reducible repeat (first | refine blk_drewN ?_ _ | refine blk_drew ?_ | refine blk_alloc ?_ _)); exact BK944.out)) : gb944 ≠ gb960)); have NB960_944 := Aside0.mk ((by rw [hg]; exact Nat.ne_of_gt (blk_lt (g := gb944) (o := .cells #[.bool false, .string (⟨#[]⟩ : ByteArray), .string (⟨#[]⟩ : ByteArray), .string (⟨#[]⟩ : ByteArray), .int .i64 0, .int .i64 0, .string (⟨#[]⟩ : ByteArray), .string (⟨#[]⟩ : ByteArray), .int .i64 0] 45 (0, 0)) (by (with_reducible repeat (first | refine blk_drewN ?_ _ | refine blk_drew ?_ | refine blk_alloc ?_ _)); exact BK944.out)) : gb960 ≠ gb944)); replace BK943 := Aside0.mk (blk_below (g := gb943) (o := .cells #[.bool a0_0, .string a0_1, .string a0_2] 23 (0, 0)) (by (with_reducible repeat (first | refine blk_drewN ?_ _ | refine blk_drew ?_ | refine blk_alloc ?_ _)); exact BK943.out) hb); replace BK944 := Aside0.mk (blk_below (g := gb944) (o := .cells #[.bool false, .string (⟨#[]⟩ : ByteArray), .string (⟨#[]⟩ : ByteArray), .string (⟨#[]⟩ : ByteArray), .int .i64 0, .int .i64 0, .string (⟨#[]⟩ : ByteArray), .string (⟨#[]⟩ : ByteArray), .int .i64 0] 45 (0, 0)) (by (with_reducible repeat (first | refine blk_drewN ?_ _ | refine blk_drew ?_ | refine blk_alloc ?_ _)); exact BK944.out) hb); replace HB := Aside0.mk (below_step hb_ hb); clear hb hbox hg; have hnb31 := NB960_943.out; have hnc31 := NB943_960.out; have hnb32 := NB960_944.out; have hnc32 := NB944_960.out; obtain ⟨hcz33_0, hcz33_1, hcz33_2, hfz33_0, hfz33_1, hfz33_2⟩ := BK960.c3))
    (try simp only [Act.put, List.setIfInBounds_toArray, List.set_cons_zero, List.set_cons_succ])
    have H := HF26.out
    clear HF26
    by_cases c34 : t959 = 0
    ·rw [if_pos c34] at H
     have c34b0 : (t959 == 0) = true := beq_iff_eq.mpr c34
     have c34b1 : (t959 != 0) = false := bne_eq_false_iff_eq.mpr c34
     clear c34
     (first | rw [c34b0] | (simp only [i64_w, i32_w]; rw [c34b0]) | rw [c34b1] | skip)
     replace H := Option.bind_eq_some_iff.mp H
     obtain ⟨⟨t961, t962, t963, t964, t965, t966, t967, t968, t969⟩, A350, H⟩ := H
     try dsimp only at H
     have A35 := Aside0.mk A350
     clear A350
     simp only [Option.some.injEq, Prod.mk.injEq] at H
     obtain ⟨rfl, rfl, rfl, rfl, rfl, rfl, rfl, rfl, rfl, rfl⟩ := H
     have hnb36 := NB960_943.out
     have hnc36 := NB943_960.out
     have hnb37 := NB960_944.out
     have hnc37 := NB944_960.out
     obtain ⟨hcz38_0, hcz38_1, hcz38_2, hfz38_0, hfz38_1, hfz38_2⟩ := BK960.c3
     go_wp2_with (first | ((with_reducible refine gate_callee (f := 83) rfl ?_); refine gL_ (some 37) Tryd.func83 #[.agg #[.bool false, .string t957, .string t958], .int .i64 a1] ?_; (with_reducible refine (idiomref04_shown.calls kj2 false t957 t958 a1 t961 t962 t963 t964 t965 t966 t967 t968 t969 _ A35.out).mono ?_); rintro e w39 ⟨rfl, hb⟩; refine ⟨_, rfl, ?_⟩; replace BK943 := Aside0.mk (blk_below (g := gb943) (o := .cells #[.bool a0_0, .string a0_1, .string a0_2] 23 (0, 0)) (by (with_reducible repeat (first | refine blk_drewN ?_ _ | refine blk_drew ?_ | refine blk_alloc ?_ _)); refine blk_far ?_ NB943_960.out _; (with_reducible repeat (first | refine blk_drewN ?_ _ | refine blk_drew ?_ | refine blk_alloc ?_ _)); refine blk_far ?_ NB943_960.out _; (with_reducible repeat (first | refine blk_drewN ?_ _ | refine blk_drew ?_ | refine blk_alloc ?_ _)); refine blk_far ?_ NB943_960.out _; (with_reducible repeat (first | refine blk_drewN ?_ _ | refine blk_drew ?_ | refine blk_alloc ?_ _)); refine blk_far ?_ NB943_960.out _; (with_reducible repeat (first | refine blk_drewN ?_ _ | refine blk_drew ?_ | refine blk_alloc ?_ _)); exact BK943.out) hb); replace BK944 := Aside0.mk (blk_below (g := gb944) (o := .cells #[.bool false, .string (⟨#[]⟩ : ByteArray), .string (⟨#[]⟩ : ByteArray), .string (⟨#[]⟩ : ByteArray), .int .i64 0, .int .i64 0, .string (⟨#[]⟩ : ByteArray), .string (⟨#[]⟩ : ByteArray), .int .i64 0] 45 (0, 0)) (by (with_reducible repeat (first | refine blk_drewN ?_ _ | refine blk_drew ?_ | refine blk_alloc ?_ _)); refine blk_far ?_ NB944_960.out _; (with_reducible repeat (first | refine blk_drewN ?_ _ | refine blk_drew ?_ | refine blk_alloc ?_ _)); refine blk_far ?_ NB944_960.out _; (with_reducible repeat (first | refine blk_drewN ?_ _ | refine blk_drew ?_ | refine blk_alloc ?_ _)); refine blk_far ?_ NB944_960.out _; (with_reducible repeat (first | refine blk_drewN ?_ _ | refine blk_drew ?_ | refine blk_alloc ?_ _)); refine blk_far ?_ NB944_960.out _; (with_reducible repeat (first | refine blk_drewN ?_ _ | refine blk_drew ?_ | refine blk_alloc ?_ _)); exact BK944.out) hb); replace BK960 := Aside0.mk (blk_below (g := gb960) (o := .cells #[.bool false, .string t957, .string t958] 23 (0, 0)) (by (with_reducible repeat (first | refine blk_drewN ?_ _ | refine blk_drew ?_ | refine blk_alloc ?_ _)); refine blk_put (cs := #[.bool t956, .string t957, .string t958]) ?_ 0 _ rfl; (with_reducible repeat (first | refine blk_drewN ?_ _ | refine blk_drew ?_ | refine blk_alloc ?_ _)); refine blk_put (cs := #[.bool t956, .string t957, .string (⟨#[]⟩ : ByteArray)]) ?_ 2 _ rfl; (with_reducible repeat (first | refine blk_drewN ?_ _ | refine blk_drew ?_ | refine blk_alloc ?_ _)); refine blk_put (cs := #[.bool t956, .string (⟨#[]⟩ : ByteArray), .string (⟨#[]⟩ : ByteArray)]) ?_ 1 _ rfl; (with_reducible repeat (first | refine blk_drewN ?_ _ | refine blk_drew ?_ | refine blk_alloc ?_ _)); refine blk_put (cs := #[.bool false, .string (⟨#[]⟩ : ByteArray), .string (⟨#[]⟩ : ByteArray)]) ?_ 0 _ rfl; (with_reducible repeat (first | refine blk_drewN ?_ _ | refine blk_drew ?_ | refine blk_alloc ?_ _)); exact BK960.out) hb); replace HB := Aside0.mk (below_step hb_ hb); have hnb40 := NB944_943.out; have hnc40 := NB943_944.out; have hcz41_0 : w39.cell? ⟨gb944, 0, none⟩ = some (.bool false) := (blk_cell BK944.out 0).trans rfl; have hcz41_1 : w39.cell? ⟨gb944, 1, none⟩ = some (.string (⟨#[]⟩ : ByteArray)) := (blk_cell BK944.out 1).trans rfl; have hcz41_2 : w39.cell? ⟨gb944, 2, none⟩ = some (.string (⟨#[]⟩ : ByteArray)) := (blk_cell BK944.out 2).trans rfl; have hcz41_3 : w39.cell? ⟨gb944, 3, none⟩ = some (.string (⟨#[]⟩ : ByteArray)) := (blk_cell BK944.out 3).trans rfl; have hcz41_4 : w39.cell? ⟨gb944, 4, none⟩ = some (.int .i64 0) := (blk_cell BK944.out 4).trans rfl; have hcz41_5 : w39.cell? ⟨gb944, 5, none⟩ = some (.int .i64 0) := (blk_cell BK944.out 5).trans rfl; have hcz41_6 : w39.cell? ⟨gb944, 6, none⟩ = some (.string (⟨#[]⟩ : ByteArray)) := (blk_cell BK944.out 6).trans rfl; have hcz41_7 : w39.cell? ⟨gb944, 7, none⟩ = some (.string (⟨#[]⟩ : ByteArray)) := (blk_cell BK944.out 7).trans rfl; have hcz41_8 : w39.cell? ⟨gb944, 8, none⟩ = some (.int .i64 0) := (blk_cell BK944.out 8).trans rfl; have hfz41_0 := blk_frozen BK944.out 0; have hfz41_1 := blk_frozen BK944.out 1; have hfz41_2 := blk_frozen BK944.out 2; have hfz41_3 := blk_frozen BK944.out 3; have hfz41_4 := blk_frozen BK944.out 4; have hfz41_5 := blk_frozen BK944.out 5; have hfz41_6 := blk_frozen BK944.out 6; have hfz41_7 := blk_frozen BK944.out 7; have hfz41_8 := blk_frozen BK944.out 8))
     refine bodyPost_ret (results_ct rfl _ _ gb944 45 #[.bool t961, .string t962, .string t963, .string t964, .int .i64 t965, .int .i64 t966, .string t967, .string t968, .int .i64 t969] (0, 0) _ rfl (by (with_reducible repeat (first | refine blk_drewN ?_ _ | refine blk_drew ?_ | refine blk_alloc ?_ _)); refine blk_put (cs := #[.bool t961, .string t962, .string t963, .string t964, .int .i64 t965, .int .i64 t966, .string t967, .string t968, .int .i64 0]) ?_ 8 _ rfl; (with_reducible repeat (first | refine blk_drewN ?_ _ | refine blk_drew ?_ | refine blk_alloc ?_ _)); refine blk_put (cs := #[.bool t961, .string t962, .string t963, .string t964, .int .i64 t965, .int .i64 t966, .string t967, .string (⟨#[]⟩ : ByteArray), .int .i64 0]) ?_ 7 _ rfl; (with_reducible repeat (first | refine blk_drewN ?_ _ | refine blk_drew ?_ | refine blk_alloc ?_ _)); refine blk_put (cs := #[.bool t961, .string t962, .string t963, .string t964, .int .i64 t965, .int .i64 t966, .string (⟨#[]⟩ : ByteArray), .string (⟨#[]⟩ : ByteArray), .int .i64 0]) ?_ 6 _ rfl; (with_reducible repeat (first | refine blk_drewN ?_ _ | refine blk_drew ?_ | refine blk_alloc ?_ _)); refine blk_put (cs := #[.bool t961, .string t962, .string t963, .string t964, .int .i64 t965, .int .i64 0, .string (⟨#[]⟩ : ByteArray), .string (⟨#[]⟩ : ByteArray), .int .i64 0]) ?_ 5 _ rfl; (with_reducible repeat (first | refine blk_drewN ?_ _ | refine blk_drew ?_ | refine blk_alloc ?_ _)); refine blk_put (cs := #[.bool t961, .string t962, .string t963, .string t964, .int .i64 0, .int .i64 0, .string (⟨#[]⟩ : ByteArray), .string (⟨#[]⟩ : ByteArray), .int .i64 0]) ?_ 4 _ rfl; (with_reducible repeat (first | refine blk_drewN ?_ _ | refine blk_drew ?_ | refine blk_alloc ?_ _)); refine blk_put (cs := #[.bool t961, .string t962, .string t963, .string (⟨#[]⟩ : ByteArray), .int .i64 0, .int .i64 0, .string (⟨#[]⟩ : ByteArray), .string (⟨#[]⟩ : ByteArray), .int .i64 0]) ?_ 3 _ rfl; (with_reducible repeat (first | refine blk_drewN ?_ _ | refine blk_drew ?_ | refine blk_alloc ?_ _)); refine blk_put (cs := #[.bool t961, .string t962, .string (⟨#[]⟩ : ByteArray), .string (⟨#[]⟩ : ByteArray), .int .i64 0, .int .i64 0, .string (⟨#[]⟩ : ByteArray), .string (⟨#[]⟩ : ByteArray), .int .i64 0]) ?_ 2 _ rfl; (with_reducible repeat (first | refine blk_drewN ?_ _ | refine blk_drew ?_ | refine blk_alloc ?_ _)); refine blk_put (cs := #[.bool t961, .string (⟨#[]⟩ : ByteArray), .string (⟨#[]⟩ : ByteArray), .string (⟨#[]⟩ : ByteArray), .int .i64 0, .int .i64 0, .string (⟨#[]⟩ : ByteArray), .string (⟨#[]⟩ : ByteArray), .int .i64 0]) ?_ 1 _ rfl; (with_reducible repeat (first | refine blk_drewN ?_ _ | refine blk_drew ?_ | refine blk_alloc ?_ _)); refine blk_put (cs := #[.bool false, .string (⟨#[]⟩ : ByteArray), .string (⟨#[]⟩ : ByteArray), .string (⟨#[]⟩ : ByteArray), .int .i64 0, .int .i64 0, .string (⟨#[]⟩ : ByteArray), .string (⟨#[]⟩ : ByteArray), .int .i64 0]) ?_ 0 _ rfl; (with_reducible repeat (first | refine blk_drewN ?_ _ | refine blk_drew ?_ | refine blk_alloc ?_ _)); exact BK944.out) Tryd.underlying45 rfl (by kernel_rfl)) rfl ?_
     exact ⟨by first | rfl | (simp [errW_none, errW_some] <;> rfl) | (simp [*, errW_none, errW_some] <;> rfl) | (simp [bne_nil_]; done), by repeat (first | (with_reducible first | exact HB.out | apply below_alloc | apply pw_below_drewN | apply below_drew1 | refine below_set ?_ GE943.out | refine below_set ?_ GE944.out | refine below_set ?_ GE960.out) | exact HB.out)⟩
    ·rw [if_neg c34] at H
     have c34b0 : (t959 == 0) = false := beq_eq_false_iff_ne.mpr c34
     have c34b1 : (t959 != 0) = true := bne_iff_ne.mpr c34
     (first | rw [c34b0] | (simp only [i64_w, i32_w]; rw [c34b0]) | rw [c34b1] | skip)
     simp only [Option.some.injEq, Prod.mk.injEq] at H
     obtain ⟨rfl, rfl, rfl, rfl, rfl, rfl, rfl, rfl, rfl, rfl⟩ := H
     have hnb42 := NB944_943.out
     have hnc42 := NB943_944.out
     have hnb43 := NB944_960.out
     have hnc43 := NB960_944.out
     have hcz44_0 : w30.cell? ⟨gb944, 0, none⟩ = some (.bool false) := (blk_cell BK944.out 0).trans rfl
     have hcz44_1 : w30.cell? ⟨gb944, 1, none⟩ = some (.string (⟨#[]⟩ : ByteArray)) := (blk_cell BK944.out 1).trans rfl
     have hcz44_2 : w30.cell? ⟨gb944, 2, none⟩ = some (.string (⟨#[]⟩ : ByteArray)) := (blk_cell BK944.out 2).trans rfl
     have hcz44_3 : w30.cell? ⟨gb944, 3, none⟩ = some (.string (⟨#[]⟩ : ByteArray)) := (blk_cell BK944.out 3).trans rfl
     have hcz44_4 : w30.cell? ⟨gb944, 4, none⟩ = some (.int .i64 0) := (blk_cell BK944.out 4).trans rfl
     have hcz44_5 : w30.cell? ⟨gb944, 5, none⟩ = some (.int .i64 0) := (blk_cell BK944.out 5).trans rfl
     have hcz44_6 : w30.cell? ⟨gb944, 6, none⟩ = some (.string (⟨#[]⟩ : ByteArray)) := (blk_cell BK944.out 6).trans rfl
     have hcz44_7 : w30.cell? ⟨gb944, 7, none⟩ = some (.string (⟨#[]⟩ : ByteArray)) := (blk_cell BK944.out 7).trans rfl
     have hcz44_8 : w30.cell? ⟨gb944, 8, none⟩ = some (.int .i64 0) := (blk_cell BK944.out 8).trans rfl
     have hfz44_0 := blk_frozen BK944.out 0
     have hfz44_1 := blk_frozen BK944.out 1
     have hfz44_2 := blk_frozen BK944.out 2
     have hfz44_3 := blk_frozen BK944.out 3
     have hfz44_4 := blk_frozen BK944.out 4
     have hfz44_5 := blk_frozen BK944.out 5
     have hfz44_6 := blk_frozen BK944.out 6
     have hfz44_7 := blk_frozen BK944.out 7
     have hfz44_8 := blk_frozen BK944.out 8
     go_wp2
     refine bodyPost_ret (results_ct rfl _ _ gb944 45 #[.bool false, .string (⟨#[]⟩ : ByteArray), .string (⟨#[]⟩ : ByteArray), .string (⟨#[]⟩ : ByteArray), .int .i64 0, .int .i64 0, .string (⟨#[]⟩ : ByteArray), .string (⟨#[]⟩ : ByteArray), .int .i64 0] (0, 0) _ rfl (by (with_reducible repeat (first | refine blk_drewN ?_ _ | refine blk_drew ?_ | refine blk_alloc ?_ _)); refine blk_put (cs := #[.bool false, .string (⟨#[]⟩ : ByteArray), .string (⟨#[]⟩ : ByteArray), .string (⟨#[]⟩ : ByteArray), .int .i64 0, .int .i64 0, .string (⟨#[]⟩ : ByteArray), .string (⟨#[]⟩ : ByteArray), .int .i64 0]) ?_ 8 _ rfl; (with_reducible repeat (first | refine blk_drewN ?_ _ | refine blk_drew ?_ | refine blk_alloc ?_ _)); refine blk_put (cs := #[.bool false, .string (⟨#[]⟩ : ByteArray), .string (⟨#[]⟩ : ByteArray), .string (⟨#[]⟩ : ByteArray), .int .i64 0, .int .i64 0, .string (⟨#[]⟩ : ByteArray), .string (⟨#[]⟩ : ByteArray), .int .i64 0]) ?_ 7 _ rfl; (with_reducible repeat (first | refine blk_drewN ?_ _ | refine blk_drew ?_ | refine blk_alloc ?_ _)); refine blk_put (cs := #[.bool false, .string (⟨#[]⟩ : ByteArray), .string (⟨#[]⟩ : ByteArray), .string (⟨#[]⟩ : ByteArray), .int .i64 0, .int .i64 0, .string (⟨#[]⟩ : ByteArray), .string (⟨#[]⟩ : ByteArray), .int .i64 0]) ?_ 6 _ rfl; (with_reducible repeat (first | refine blk_drewN ?_ _ | refine blk_drew ?_ | refine blk_alloc ?_ _)); refine blk_put (cs := #[.bool false, .string (⟨#[]⟩ : ByteArray), .string (⟨#[]⟩ : ByteArray), .string (⟨#[]⟩ : ByteArray), .int .i64 0, .int .i64 0, .string (⟨#[]⟩ : ByteArray), .string (⟨#[]⟩ : ByteArray), .int .i64 0]) ?_ 5 _ rfl; (with_reducible repeat (first | refine blk_drewN ?_ _ | refine blk_drew ?_ | refine blk_alloc ?_ _)); refine blk_put (cs := #[.bool false, .string (⟨#[]⟩ : ByteArray), .string (⟨#[]⟩ : ByteArray), .string (⟨#[]⟩ : ByteArray), .int .i64 0, .int .i64 0, .string (⟨#[]⟩ : ByteArray), .string (⟨#[]⟩ : ByteArray), .int .i64 0]) ?_ 4 _ rfl; (with_reducible repeat (first | refine blk_drewN ?_ _ | refine blk_drew ?_ | refine blk_alloc ?_ _)); refine blk_put (cs := #[.bool false, .string (⟨#[]⟩ : ByteArray), .string (⟨#[]⟩ : ByteArray), .string (⟨#[]⟩ : ByteArray), .int .i64 0, .int .i64 0, .string (⟨#[]⟩ : ByteArray), .string (⟨#[]⟩ : ByteArray), .int .i64 0]) ?_ 3 _ rfl; (with_reducible repeat (first | refine blk_drewN ?_ _ | refine blk_drew ?_ | refine blk_alloc ?_ _)); refine blk_put (cs := #[.bool false, .string (⟨#[]⟩ : ByteArray), .string (⟨#[]⟩ : ByteArray), .string (⟨#[]⟩ : ByteArray), .int .i64 0, .int .i64 0, .string (⟨#[]⟩ : ByteArray), .string (⟨#[]⟩ : ByteArray), .int .i64 0]) ?_ 2 _ rfl; (with_reducible repeat (first | refine blk_drewN ?_ _ | refine blk_drew ?_ | refine blk_alloc ?_ _)); refine blk_put (cs := #[.bool false, .string (⟨#[]⟩ : ByteArray), .string (⟨#[]⟩ : ByteArray), .string (⟨#[]⟩ : ByteArray), .int .i64 0, .int .i64 0, .string (⟨#[]⟩ : ByteArray), .string (⟨#[]⟩ : ByteArray), .int .i64 0]) ?_ 1 _ rfl; (with_reducible repeat (first | refine blk_drewN ?_ _ | refine blk_drew ?_ | refine blk_alloc ?_ _)); refine blk_put (cs := #[.bool false, .string (⟨#[]⟩ : ByteArray), .string (⟨#[]⟩ : ByteArray), .string (⟨#[]⟩ : ByteArray), .int .i64 0, .int .i64 0, .string (⟨#[]⟩ : ByteArray), .string (⟨#[]⟩ : ByteArray), .int .i64 0]) ?_ 0 _ rfl; (with_reducible repeat (first | refine blk_drewN ?_ _ | refine blk_drew ?_ | refine blk_alloc ?_ _)); refine blk_far ?_ NB944_960.out _; (with_reducible repeat (first | refine blk_drewN ?_ _ | refine blk_drew ?_ | refine blk_alloc ?_ _)); refine blk_far ?_ NB944_960.out _; (with_reducible repeat (first | refine blk_drewN ?_ _ | refine blk_drew ?_ | refine blk_alloc ?_ _)); refine blk_far ?_ NB944_960.out _; (with_reducible repeat (first | refine blk_drewN ?_ _ | refine blk_drew ?_ | refine blk_alloc ?_ _)); exact BK944.out) Tryd.underlying45 rfl (by kernel_rfl)) rfl ?_
     exact ⟨by first | rfl | (simp [errW_none, errW_some] <;> rfl) | (simp [*, errW_none, errW_some] <;> rfl) | (simp [bne_nil_]; done), by repeat (first | (with_reducible first | exact HB.out | apply below_alloc | apply pw_below_drewN | apply below_drew1 | refine below_set ?_ GE943.out | refine below_set ?_ GE944.out | refine below_set ?_ GE960.out) | exact HB.out)⟩
   ·rw [if_neg c24] at H
    have c24b0 : (x6_2 == 0) = false := beq_eq_false_iff_ne.mpr c24
    have c24b1 : (x6_2 != 0) = true := bne_iff_ne.mpr c24
    simp only [Option.some.injEq, Prod.mk.injEq] at H
    obtain ⟨rfl, rfl, rfl, rfl, rfl, rfl, rfl, rfl, rfl, rfl⟩ := H
    have hnb45 := NB944_943.out
    have hnc45 := NB943_944.out
    have hcz46_0 : wc.cell? ⟨gb944, 0, none⟩ = some (.bool false) := (blk_cell BK944.out 0).trans rfl
    have hcz46_1 : wc.cell? ⟨gb944, 1, none⟩ = some (.string (⟨#[]⟩ : ByteArray)) := (blk_cell BK944.out 1).trans rfl
    have hcz46_2 : wc.cell? ⟨gb944, 2, none⟩ = some (.string (⟨#[]⟩ : ByteArray)) := (blk_cell BK944.out 2).trans rfl
    have hcz46_3 : wc.cell? ⟨gb944, 3, none⟩ = some (.string (⟨#[]⟩ : ByteArray)) := (blk_cell BK944.out 3).trans rfl
    have hcz46_4 : wc.cell? ⟨gb944, 4, none⟩ = some (.int .i64 0) := (blk_cell BK944.out 4).trans rfl
    have hcz46_5 : wc.cell? ⟨gb944, 5, none⟩ = some (.int .i64 0) := (blk_cell BK944.out 5).trans rfl
    have hcz46_6 : wc.cell? ⟨gb944, 6, none⟩ = some (.string (⟨#[]⟩ : ByteArray)) := (blk_cell BK944.out 6).trans rfl
    have hcz46_7 : wc.cell? ⟨gb944, 7, none⟩ = some (.string (⟨#[]⟩ : ByteArray)) := (blk_cell BK944.out 7).trans rfl
    have hcz46_8 : wc.cell? ⟨gb944, 8, none⟩ = some (.int .i64 0) := (blk_cell BK944.out 8).trans rfl
    have hfz46_0 := blk_frozen BK944.out 0
    have hfz46_1 := blk_frozen BK944.out 1
    have hfz46_2 := blk_frozen BK944.out 2
    have hfz46_3 := blk_frozen BK944.out 3
    have hfz46_4 := blk_frozen BK944.out 4
    have hfz46_5 := blk_frozen BK944.out 5
    have hfz46_6 := blk_frozen BK944.out 6
    have hfz46_7 := blk_frozen BK944.out 7
    have hfz46_8 := blk_frozen BK944.out 8
    go_wp2
    refine bodyPost_ret (results_ct rfl _ _ gb944 45 #[.bool false, .string (⟨#[]⟩ : ByteArray), .string (⟨#[]⟩ : ByteArray), .string (⟨#[]⟩ : ByteArray), .int .i64 0, .int .i64 0, .string (⟨#[]⟩ : ByteArray), .string (⟨#[]⟩ : ByteArray), .int .i64 0] (0, 0) _ rfl (by (with_reducible repeat (first | refine blk_drewN ?_ _ | refine blk_drew ?_ | refine blk_alloc ?_ _)); refine blk_put (cs := #[.bool false, .string (⟨#[]⟩ : ByteArray), .string (⟨#[]⟩ : ByteArray), .string (⟨#[]⟩ : ByteArray), .int .i64 0, .int .i64 0, .string (⟨#[]⟩ : ByteArray), .string (⟨#[]⟩ : ByteArray), .int .i64 0]) ?_ 8 _ rfl; (with_reducible repeat (first | refine blk_drewN ?_ _ | refine blk_drew ?_ | refine blk_alloc ?_ _)); refine blk_put (cs := #[.bool false, .string (⟨#[]⟩ : ByteArray), .string (⟨#[]⟩ : ByteArray), .string (⟨#[]⟩ : ByteArray), .int .i64 0, .int .i64 0, .string (⟨#[]⟩ : ByteArray), .string (⟨#[]⟩ : ByteArray), .int .i64 0]) ?_ 7 _ rfl; (with_reducible repeat (first | refine blk_drewN ?_ _ | refine blk_drew ?_ | refine blk_alloc ?_ _)); refine blk_put (cs := #[.bool false, .string (⟨#[]⟩ : ByteArray), .string (⟨#[]⟩ : ByteArray), .string (⟨#[]⟩ : ByteArray), .int .i64 0, .int .i64 0, .string (⟨#[]⟩ : ByteArray), .string (⟨#[]⟩ : ByteArray), .int .i64 0]) ?_ 6 _ rfl; (with_reducible repeat (first | refine blk_drewN ?_ _ | refine blk_drew ?_ | refine blk_alloc ?_ _)); refine blk_put (cs := #[.bool false, .string (⟨#[]⟩ : ByteArray), .string (⟨#[]⟩ : ByteArray), .string (⟨#[]⟩ : ByteArray), .int .i64 0, .int .i64 0, .string (⟨#[]⟩ : ByteArray), .string (⟨#[]⟩ : ByteArray), .int .i64 0]) ?_ 5 _ rfl; (with_reducible repeat (first | refine blk_drewN ?_ _ | refine blk_drew ?_ | refine blk_alloc ?_ _)); refine blk_put (cs := #[.bool false, .string (⟨#[]⟩ : ByteArray), .string (⟨#[]⟩ : ByteArray), .string (⟨#[]⟩ : ByteArray), .int .i64 0, .int .i64 0, .string (⟨#[]⟩ : ByteArray), .string (⟨#[]⟩ : ByteArray), .int .i64 0]) ?_ 4 _ rfl; (with_reducible repeat (first | refine blk_drewN ?_ _ | refine blk_drew ?_ | refine blk_alloc ?_ _)); refine blk_put (cs := #[.bool false, .string (⟨#[]⟩ : ByteArray), .string (⟨#[]⟩ : ByteArray), .string (⟨#[]⟩ : ByteArray), .int .i64 0, .int .i64 0, .string (⟨#[]⟩ : ByteArray), .string (⟨#[]⟩ : ByteArray), .int .i64 0]) ?_ 3 _ rfl; (with_reducible repeat (first | refine blk_drewN ?_ _ | refine blk_drew ?_ | refine blk_alloc ?_ _)); refine blk_put (cs := #[.bool false, .string (⟨#[]⟩ : ByteArray), .string (⟨#[]⟩ : ByteArray), .string (⟨#[]⟩ : ByteArray), .int .i64 0, .int .i64 0, .string (⟨#[]⟩ : ByteArray), .string (⟨#[]⟩ : ByteArray), .int .i64 0]) ?_ 2 _ rfl; (with_reducible repeat (first | refine blk_drewN ?_ _ | refine blk_drew ?_ | refine blk_alloc ?_ _)); refine blk_put (cs := #[.bool false, .string (⟨#[]⟩ : ByteArray), .string (⟨#[]⟩ : ByteArray), .string (⟨#[]⟩ : ByteArray), .int .i64 0, .int .i64 0, .string (⟨#[]⟩ : ByteArray), .string (⟨#[]⟩ : ByteArray), .int .i64 0]) ?_ 1 _ rfl; (with_reducible repeat (first | refine blk_drewN ?_ _ | refine blk_drew ?_ | refine blk_alloc ?_ _)); refine blk_put (cs := #[.bool false, .string (⟨#[]⟩ : ByteArray), .string (⟨#[]⟩ : ByteArray), .string (⟨#[]⟩ : ByteArray), .int .i64 0, .int .i64 0, .string (⟨#[]⟩ : ByteArray), .string (⟨#[]⟩ : ByteArray), .int .i64 0]) ?_ 0 _ rfl; (with_reducible repeat (first | refine blk_drewN ?_ _ | refine blk_drew ?_ | refine blk_alloc ?_ _)); exact BK944.out) Tryd.underlying45 rfl (by kernel_rfl)) rfl ?_
    exact ⟨by first | rfl | (simp [errW_none, errW_some] <;> rfl) | (simp [*, errW_none, errW_some] <;> rfl) | (simp [bne_nil_]; done), by repeat (first | (with_reducible first | exact HB.out | apply below_alloc | apply pw_below_drewN | apply below_drew1 | refine below_set ?_ GE943.out | refine below_set ?_ GE944.out) | exact HB.out)⟩
end Go.Proofs.YtihjcaglhjepdaaDoor.P
namespace Go.Proofs.YtihjcaglhjepdaaDoor.P
open Go.RowKit Go.Proofs.YtihjcaglhjepdaaDoorW.PrintWords Go.Proofs.YtihjcaglhjepdaaDoorW.PrintLast Go.Proofs.YtihjcaglhjepdaaDoorW.PrintMore
attribute [local go_sem] max2_int max_two
set_option linter.unusedVariables false
set_option linter.unusedSimpArgs false
def stringslite_HasSuffix.f (a0 : ByteArray) (a1 : ByteArray) : Option (Bool) := if (a0.size : Int) ≥ (a1.size : Int) then (if 0 ≤ (wrap64 ((a0.size : Int) - (a1.size : Int))) then (if (wrap64 ((a0.size : Int) - (a1.size : Int))) ≤ (a0.size : Int) then (some ((a0.extract ((wrap64 ((a0.size : Int) - (a1.size : Int))) : Int).toNat a0.size).toList == a1.toList)) else (none)) else (none)) else (some false)
set_option maxHeartbeats 8000000 in
set_option maxRecDepth 100000 in
theorem stringslite_HasSuffix.calls (a0 : ByteArray) (a1 : ByteArray) (r : Bool) (w : World) (h : stringslite_HasSuffix.f a0 a1 = some r) :
    Calls Tryd.prog 112 #[.string a0, .string a1] w fun e w' => e = .returned (.bool r) ∧ Drawn0 w w' := by
 unfold stringslite_HasSuffix.f at h
 have H := h
 clear h
 by_cases c3 : (a0.size : Int) ≥ (a1.size : Int)
 ·rw [if_pos c3] at H
  have c3b0 : decide ((a1.size : Int) ≤ (a0.size : Int)) = true := decide_eq_true c3
  have c3b1 : decide (a1.size ≤ a0.size) = true := decide_eq_true (Int.ofNat_le.mp c3)
  clear c3
  obtain ⟨ji4, hji4⟩ : ∃ j_ : Int, (wrap64 ((a0.size : Int) - (a1.size : Int))) = j_ := ⟨_, rfl⟩
  replace H : (if 0 ≤ (ji4) then (if (ji4) ≤ (a0.size : Int) then (some ((a0.extract ((ji4) : Int).toNat a0.size).toList == a1.toList)) else (none)) else (none)) = some r := by first | (rw [hji4] at H; exact H) | (simp only [hji4] at H ⊢; exact H)
  have hji4w : (IntKind.i64.wrap ((a0.size : Int) - (a1.size : Int))) = ji4 := (i64_w _).trans hji4
  by_cases c5 : 0 ≤ (ji4)
  ·rw [if_pos c5] at H
   have c5b0 := eq_true c5
   have c5b1 : decide (0 ≤ (ji4)) = true := decide_eq_true c5
   clear c5
   by_cases c6 : (ji4) ≤ (a0.size : Int)
   ·rw [if_pos c6] at H
    have c6b0 := eq_true c6
    have c6b1 : decide ((ji4) ≤ (a0.size : Int)) = true := decide_eq_true c6
    clear c6
    obtain rfl := Option.some.inj H
    go_enter Tryd.func112, Tryd.ntmps112
    go_wp2
    go_ret
    exact ⟨by first | rfl | (simp; done) | (simp only [← hji4] <;> (first | rfl | simp)) | (simp [*]; done), by repeat (first | exact Drawn0.refl _ | apply Drawn0.step)⟩
   ·rw [if_neg c6] at H
    exact absurd H (by simp)
  ·rw [if_neg c5] at H
   exact absurd H (by simp)
 ·rw [if_neg c3] at H
  have c3b0 : decide ((a1.size : Int) ≤ (a0.size : Int)) = false := decide_eq_false c3
  have c3b1 : decide (a1.size ≤ a0.size) = false := decide_eq_false (fun h => c3 (Int.ofNat_le.mpr h))
  clear c3
  obtain rfl := Option.some.inj H
  go_enter Tryd.func112, Tryd.ntmps112
  go_wp2
  go_ret
  exact ⟨by first | rfl | (simp; done) | (simp [*]; done), by repeat (first | exact Drawn0.refl _ | apply Drawn0.step)⟩
end Go.Proofs.YtihjcaglhjepdaaDoor.P
namespace Go.Proofs.YtihjcaglhjepdaaDoor.P
open Go.RowKit Go.Proofs.YtihjcaglhjepdaaDoorW.PrintWords Go.Proofs.YtihjcaglhjepdaaDoorW.PrintLast Go.Proofs.YtihjcaglhjepdaaDoorW.PrintMore
attribute [local go_sem] max2_int max_two
set_option linter.unusedVariables false
set_option linter.unusedSimpArgs false
def strings_HasSuffix.f (a0 : ByteArray) (a1 : ByteArray) : Option (Bool) := (stringslite_HasSuffix.f a0 a1).bind fun t970 => (some t970)
set_option maxHeartbeats 8000000 in
set_option maxRecDepth 100000 in
theorem strings_HasSuffix.calls (a0 : ByteArray) (a1 : ByteArray) (r : Bool) (w : World) (h : strings_HasSuffix.f a0 a1 = some r) :
    Calls Tryd.prog 84 #[.string a0, .string a1] w fun e w' => e = .returned (.bool r) ∧ Drawn0 w w' := by
 unfold strings_HasSuffix.f at h
 have H := h
 clear h
 replace H := Option.bind_eq_some_iff.mp H
 obtain ⟨t970, A30, H⟩ := H
 try dsimp only at H
 have A3 := Aside0.mk A30
 clear A30
 obtain rfl := Option.some.inj H
 go_enter Tryd.func84, Tryd.ntmps84
 go_wp2_with (first | ((with_reducible refine gate_callee (f := 112) rfl ?_); refine gL_ (some 7) Tryd.func112 #[.string a0, .string a1] ?_; (with_reducible refine (stringslite_HasSuffix.calls a0 a1 t970 _ A3.out).mono ?_); rintro e w' ⟨rfl, ⟨nd, rfl⟩⟩; refine ⟨_, rfl, ?_⟩))
 go_ret
 exact ⟨by first | rfl | (simp; done) | (simp [*]; done), by repeat (first | exact Drawn0.refl _ | apply Drawn0.step)⟩
end Go.Proofs.YtihjcaglhjepdaaDoor.P
