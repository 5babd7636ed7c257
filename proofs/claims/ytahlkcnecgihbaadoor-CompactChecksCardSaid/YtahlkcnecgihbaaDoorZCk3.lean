/- A part of the proof. Part 4 of 6; its texts were written by programs, some out of the kit's print. -/
import Derived.Test.YtahlkcnecgihbaaDoorZCk2
namespace Go.Proofs.YtahlkcnecgihbaaDoor.P
open Go.RowKit Go.Proofs.YtahlkcnecgihbaaDoorW.PrintWords Go.Proofs.YtahlkcnecgihbaaDoorW.PrintLast Go.Proofs.YtahlkcnecgihbaaDoorW.PrintMore
attribute [local go_sem] max2_int max_two
set_option linter.unusedVariables false
set_option linter.unusedSimpArgs false
def strings_trimRightByte.l0 : Nat → ByteArray → Int → Option (ByteArray)
  | 0, _, _ => none
  | k + 1, x0, x1 => if (x0.size : Int) > 0 then (if 0 ≤ (wrap64 ((x0.size : Int) - 1)) then (if (wrap64 ((x0.size : Int) - 1)) < (x0.size : Int) then (if (bt x0 (wrap64 ((x0.size : Int) - 1))) = x1 then (if (wrap64 ((x0.size : Int) - 1)) ≤ (x0.size : Int) then (strings_trimRightByte.l0 k (x0.extract 0 ((wrap64 ((x0.size : Int) - 1)) : Int).toNat) x1) else (none)) else (some x0)) else (none)) else (none)) else (some x0)
def strings_trimRightByte.f (k : Nat) (a0 : ByteArray) (a1 : Int) : Option (ByteArray) := strings_trimRightByte.l0 k a0 a1
theorem strings_trimRightByte.mono_l : ∀ k, (∀ y0 y1, LeO (strings_trimRightByte.l0 k y0 y1) (strings_trimRightByte.l0 (k + 1) y0 y1))
  | 0 => fun _ _ r h => by simp [strings_trimRightByte.l0] at h
  | k + 1 => by
    have ih0 := strings_trimRightByte.mono_l k
    · intro y0 y1
      unfold strings_trimRightByte.l0
      repeat' first
      | (with_reducible exact ih0 _ _)
      | (with_reducible exact LeO.refl _)
      | (with_reducible exact LeO.none _)
      | (with_reducible refine LeO.ite ?_ ?_)
      | (with_reducible refine LeO.bind ?_ (fun _ => ?_))
      | exact ih0 _ _
      | exact LeO.none _
      | refine LeO.ite ?_ ?_
      | refine LeO.bind ?_ (fun _ => ?_)
theorem strings_trimRightByte.mono : ∀ a0 a1 k, LeO (strings_trimRightByte.f k a0 a1) (strings_trimRightByte.f (k + 1) a0 a1) := by
 intro a0 a1 k
 have ih0 := strings_trimRightByte.mono_l k
 unfold strings_trimRightByte.f
 repeat' first
   | (with_reducible exact ih0 _ _)
   | (with_reducible exact LeO.refl _)
   | (with_reducible exact LeO.none _)
   | (with_reducible refine LeO.ite ?_ ?_)
   | (with_reducible refine LeO.bind ?_ (fun _ => ?_))
   | exact ih0 _ _
   | exact LeO.none _
   | refine LeO.ite ?_ ?_
   | refine LeO.bind ?_ (fun _ => ?_)
set_option maxHeartbeats 8000000 in
set_option maxRecDepth 100000 in
theorem strings_trimRightByte.calls (k : Nat) (a0 : ByteArray) (a1 : Int) (r : ByteArray) (w : World) (h : strings_trimRightByte.f k a0 a1 = some r) :
    Calls Tryd.prog 51 #[.string a0, .int .u8 a1] w fun e w' => e = .returned (.string r) ∧ Drawn0 w w' := by
 unfold strings_trimRightByte.f at h
 have H := h
 clear h
 have H' := Aside0.mk H
 clear H
 go_enter Tryd.func51, Tryd.ntmps51
 go_wp2
 go_loopg [0] k (fun kq v0 w' => ∃ (x0_1 : ByteArray), v0 = .string x0_1 ∧ Aside0 (strings_trimRightByte.l0 kq x0_1 a1 = some r) ∧ Aside0 (kq ≤ k) ∧ Drawn0 w w')
 case atStart => exact ⟨(a0), (by first | rfl | (simp; done) | (simp [*]; done)), H', ⟨Nat.le_refl _⟩, by repeat (first | exact Drawn0.refl _ | apply Drawn0.step)⟩
 case round =>
  clear H'
  obtain ⟨x0_1, rfl, HA, HK1, ⟨m1, rfl⟩⟩ := hrel
  cases gk with
  | zero => exact absurd HA.out (by simp [strings_trimRightByte.l0])
  | succ k1 =>
   have H := HA.out
   clear HA
   simp only [strings_trimRightByte.l0] at H
   by_cases c3 : (x0_1.size : Int) > 0
   ·rw [if_pos c3] at H
    have c3b0 : decide (0 < (x0_1.size : Int)) = true := decide_eq_true c3
    have c3b1 : decide (0 < x0_1.size) = true := decide_eq_true (by omega)
    clear c3
    obtain ⟨ji4, hji4⟩ : ∃ j_ : Int, (wrap64 ((x0_1.size : Int) - 1)) = j_ := ⟨_, rfl⟩
    replace H : (if 0 ≤ (ji4) then (if (ji4) < (x0_1.size : Int) then (if (bt x0_1 (ji4)) = a1 then (if (ji4) ≤ (x0_1.size : Int) then (strings_trimRightByte.l0 k1 (x0_1.extract 0 ((ji4) : Int).toNat) a1) else (none)) else (some x0_1)) else (none)) else (none)) = some r := by first | (rw [hji4] at H; exact H) | (simp only [hji4] at H ⊢; exact H)
    have hji4w : (IntKind.i64.wrap ((x0_1.size : Int) - 1)) = ji4 := (i64_w _).trans hji4
    by_cases c5 : 0 ≤ (ji4)
    ·rw [if_pos c5] at H
     have c5b0 : decide (0 ≤ (ji4)) = true := decide_eq_true c5
     clear c5
     by_cases c6 : (ji4) < (x0_1.size : Int)
     ·rw [if_pos c6] at H
      have c6b0 : decide ((ji4) < (x0_1.size : Int)) = true := decide_eq_true c6
      clear c6
      by_cases c8 : (bt x0_1 (ji4)) = a1
      ·rw [if_pos c8] at H
       have c8b0 : ((bt x0_1 (ji4)) == a1) = true := beq_iff_eq.mpr c8
       have c8b1 : ((bt x0_1 (ji4)) != a1) = false := bne_eq_false_iff_eq.mpr c8
       clear c8
       have c9b0 := eq_true (of_decide_eq_true (by first | (with_reducible assumption) | assumption) : 0 ≤ (ji4))
       by_cases c10 : (ji4) ≤ (x0_1.size : Int)
       ·rw [if_pos c10] at H
        have c10b0 := eq_true c10
        have c10b1 : decide ((ji4) ≤ (x0_1.size : Int)) = true := decide_eq_true c10
        clear c10
        have H' := Aside0.mk H
        clear H
        have p7 : 0 ≤ ((ji4) : Int) := of_decide_eq_true (by first | (with_reducible assumption) | assumption)
        have q7 : (ji4) < (x0_1.size : Int) := of_decide_eq_true (by first | (with_reducible assumption) | assumption)
        have hx7 := bt_at x0_1 (ji4)
        replace p7 := eq_true p7
        replace q7 := eq_true q7
        go_wp2
        go_roundg k1
        case measure => have := HK1.out; omega
        case rel => exact ⟨(x0_1.extract 0 ((ji4) : Int).toNat), (by first | rfl | (simp; done) | (simp only [← hji4] <;> (first | rfl | simp)) | (simp [*]; done)), H', ⟨by have := HK1.out; omega⟩, by repeat (first | exact Drawn0.refl _ | apply Drawn0.step)⟩
       ·rw [if_neg c10] at H
        exact absurd H (by simp)
      ·rw [if_neg c8] at H
       have c8b0 : ((bt x0_1 (ji4)) == a1) = false := beq_eq_false_iff_ne.mpr c8
       have c8b1 : ((bt x0_1 (ji4)) != a1) = true := bne_iff_ne.mpr c8
       obtain rfl := Option.some.inj H
       have p7 : 0 ≤ ((ji4) : Int) := of_decide_eq_true (by first | (with_reducible assumption) | assumption)
       have q7 : (ji4) < (x0_1.size : Int) := of_decide_eq_true (by first | (with_reducible assumption) | assumption)
       have hx7 := bt_at x0_1 (ji4)
       replace p7 := eq_true p7
       replace q7 := eq_true q7
       go_wp2
       go_ret
       exact ⟨by first | rfl | (simp; done) | (simp only [← hji4] <;> (first | rfl | simp)) | (simp [*]; done), by repeat (first | exact Drawn0.refl _ | apply Drawn0.step)⟩
     ·rw [if_neg c6] at H
      exact absurd H (by simp)
    ·rw [if_neg c5] at H
     exact absurd H (by simp)
   ·rw [if_neg c3] at H
    have c3b0 : decide (0 < (x0_1.size : Int)) = false := decide_eq_false c3
    have c3b1 : decide (0 < x0_1.size) = false := decide_eq_false (by omega)
    clear c3
    obtain rfl := Option.some.inj H
    go_wp2
    go_ret
    exact ⟨by first | rfl | (simp; done) | (simp [*]; done), by repeat (first | exact Drawn0.refl _ | apply Drawn0.step)⟩
end Go.Proofs.YtahlkcnecgihbaaDoor.P
namespace Go.Proofs.YtahlkcnecgihbaaDoor.P
open Go.RowKit Go.Proofs.YtahlkcnecgihbaaDoorW.PrintWords Go.Proofs.YtahlkcnecgihbaaDoorW.PrintLast Go.Proofs.YtahlkcnecgihbaaDoorW.PrintMore
attribute [local go_sem] max2_int max_two
set_option linter.unusedVariables false
set_option linter.unusedSimpArgs false
mutual
def strings_TrimRight.j0 : Nat → ByteArray → ByteArray → Bool → Option (ByteArray)
  | 0, _, _, _ => none
  | k + 1, x0, x1, x12 => if x12 = true then (some x0) else (if (x1.size : Int) = 1 then (if 0 < (x1.size : Int) then (strings_TrimRight.j1 k x0 x1 (decide ((bt x1 0) < 128))) else (none)) else (strings_TrimRight.j1 k x0 x1 false))
def strings_TrimRight.j1 : Nat → ByteArray → ByteArray → Bool → Option (ByteArray)
  | 0, _, _, _ => none
  | k + 1, x0, x1, x21 => if x21 = true then (if 0 < (x1.size : Int) then ((strings_trimRightByte.f k x0 (bt x1 0)).bind fun t273 => (some t273)) else (none)) else (none)
end
def strings_TrimRight.f (k : Nat) (a0 : ByteArray) (a1 : ByteArray) : Option (ByteArray) := if a0.toList = ([] : List UInt8) then (strings_TrimRight.j0 k a0 a1 true) else (strings_TrimRight.j0 k a0 a1 (a1.toList == ([] : List UInt8)))
theorem strings_TrimRight.mono_l : ∀ k, (∀ y0 y1 y2, LeO (strings_TrimRight.j0 k y0 y1 y2) (strings_TrimRight.j0 (k + 1) y0 y1 y2)) ∧ (∀ y0 y1 y2, LeO (strings_TrimRight.j1 k y0 y1 y2) (strings_TrimRight.j1 (k + 1) y0 y1 y2))
  | 0 => ⟨fun _ _ _ r h => by simp [strings_TrimRight.j0] at h, fun _ _ _ r h => by simp [strings_TrimRight.j1] at h⟩
  | k + 1 => by
    obtain ⟨ih0, ih1⟩ := strings_TrimRight.mono_l k
    refine ⟨?_, ?_⟩
    · intro y0 y1 y2
      unfold strings_TrimRight.j0
      repeat' first
      | (with_reducible exact ih0 _ _ _)
      | (with_reducible exact ih1 _ _ _)
      | (with_reducible exact strings_trimRightByte.mono _ _ _)
      | (with_reducible exact LeO.refl _)
      | (with_reducible exact LeO.none _)
      | (with_reducible refine LeO.ite ?_ ?_)
      | (with_reducible refine LeO.bind ?_ (fun _ => ?_))
      | exact ih0 _ _ _
      | exact ih1 _ _ _
      | exact strings_trimRightByte.mono _ _ _
      | exact LeO.none _
      | refine LeO.ite ?_ ?_
      | refine LeO.bind ?_ (fun _ => ?_)
    · intro y0 y1 y2
      unfold strings_TrimRight.j1
      repeat' first
      | (with_reducible exact ih0 _ _ _)
      | (with_reducible exact ih1 _ _ _)
      | (with_reducible exact strings_trimRightByte.mono _ _ _)
      | (with_reducible exact LeO.refl _)
      | (with_reducible exact LeO.none _)
      | (with_reducible refine LeO.ite ?_ ?_)
      | (with_reducible refine LeO.bind ?_ (fun _ => ?_))
      | exact ih0 _ _ _
      | exact ih1 _ _ _
      | exact strings_trimRightByte.mono _ _ _
      | exact LeO.none _
      | refine LeO.ite ?_ ?_
      | refine LeO.bind ?_ (fun _ => ?_)
theorem strings_TrimRight.mono : ∀ a0 a1 k, LeO (strings_TrimRight.f k a0 a1) (strings_TrimRight.f (k + 1) a0 a1) := by
 intro a0 a1 k
 obtain ⟨ih0, ih1⟩ := strings_TrimRight.mono_l k
 unfold strings_TrimRight.f
 repeat' first
   | (with_reducible exact ih0 _ _ _)
   | (with_reducible exact ih1 _ _ _)
   | (with_reducible exact strings_trimRightByte.mono _ _ _)
   | (with_reducible exact LeO.refl _)
   | (with_reducible exact LeO.none _)
   | (with_reducible refine LeO.ite ?_ ?_)
   | (with_reducible refine LeO.bind ?_ (fun _ => ?_))
   | exact ih0 _ _ _
   | exact ih1 _ _ _
   | exact strings_trimRightByte.mono _ _ _
   | exact LeO.none _
   | refine LeO.ite ?_ ?_
   | refine LeO.bind ?_ (fun _ => ?_)
set_option maxHeartbeats 8000000 in
set_option maxRecDepth 100000 in
theorem strings_TrimRight.calls (k : Nat) (a0 : ByteArray) (a1 : ByteArray) (r : ByteArray) (w : World) (h : strings_TrimRight.f k a0 a1 = some r) :
    Calls Tryd.prog 44 #[.string a0, .string a1] w fun e w' => e = .returned (.string r) ∧ Below w.heap.size w w' := by
 have HB := Aside0.mk (Below.refl w.heap.size w)
 unfold strings_TrimRight.f at h
 have H := h
 clear h
 have HC3 := Aside0.mk H
 clear H
 go_enter Tryd.func44, Tryd.ntmps44
 go_upto_region 1 with (fail)
 go_cut [12] (fun v12 wc => ∃ (kq : Nat) (x12_2 : Bool), v12 = .bool x12_2 ∧ Aside0 (strings_TrimRight.j0 kq a0 a1 x12_2 = some r) ∧ Aside0 (kq ≤ k) ∧ Aside0 (Below w.heap.size w wc))
 case first =>
  have H := HC3.out
  clear HC3
  by_cases c4 : a0.toList = ([] : List UInt8)
  ·rw [if_pos c4] at H
   have c4b0 : (a0.toList == ([] : List UInt8)) = true := beq_iff_eq.mpr c4
   have c4b1 : (a0.toList != ([] : List UInt8)) = false := bne_eq_false_iff_eq.mpr c4
   clear c4
   (first | rw [c4b0] | (simp only [i64_w, i32_w]; rw [c4b0]) | rw [c4b1] | rw [(by rw [← c4b0]; cases a0.toList <;> rfl : a0.toList.isEmpty = true)] | skip)
   have H' := Aside0.mk H
   clear H
   go_wp2
   go_meet
   case rel => exact ⟨_, (true), (by first | rfl | (simp; done) | (simp [*]; done)), H', ⟨by first | exact Nat.le_refl _ | omega⟩, ⟨by repeat (first | (with_reducible first | exact HB.out | apply below_alloc | apply pw_below_drewN | apply below_drew1) | exact HB.out)⟩⟩
  ·rw [if_neg c4] at H
   have c4b0 : (a0.toList == ([] : List UInt8)) = false := beq_eq_false_iff_ne.mpr c4
   have c4b1 : (a0.toList != ([] : List UInt8)) = true := bne_iff_ne.mpr c4
   (first | rw [c4b0] | (simp only [i64_w, i32_w]; rw [c4b0]) | rw [c4b1] | rw [(by rw [← c4b0]; cases a0.toList <;> rfl : a0.toList.isEmpty = false)] | skip)
   have H' := Aside0.mk H
   clear H
   go_wp2
   go_meet
   case rel => exact ⟨_, ((a1.toList == ([] : List UInt8))), (by first | rfl | (simp; done) | (simp [*]; done)), H', ⟨by first | exact Nat.le_refl _ | omega⟩, ⟨by repeat (first | (with_reducible first | exact HB.out | apply below_alloc | apply pw_below_drewN | apply below_drew1) | exact HB.out)⟩⟩
 case rest =>
  clear HC3
  obtain ⟨kq, x12_2, rfl, HA, HJ2, HB⟩ := hcut
  cases kq with
  | zero => exact absurd HA.out (by simp [strings_TrimRight.j0])
  | succ kj2 =>
   have H := HA.out
   clear HA
   simp only [strings_TrimRight.j0] at H
   by_cases c5 : x12_2 = true
   ·subst c5
    have H1 : (some a0) = some r := by rw [if_pos rfl] at H; exact H
    clear H
    have H := H1
    clear H1
    obtain rfl := Option.some.inj H
    go_wp2
    go_ret
    exact ⟨by first | rfl | (simp [errW_none, errW_some] <;> rfl) | (simp [*, errW_none, errW_some] <;> rfl) | (simp [bne_nil_]; done), by repeat (first | (with_reducible first | exact HB.out | apply below_alloc | apply pw_below_drewN | apply below_drew1) | exact HB.out)⟩
   ·replace c5 := Bool.eq_false_iff.mpr c5
    subst c5
    have H1 : (if (a1.size : Int) = 1 then (if 0 < (a1.size : Int) then (strings_TrimRight.j1 kj2 a0 a1 (decide ((bt a1 0) < 128))) else (none)) else (strings_TrimRight.j1 kj2 a0 a1 false)) = some r := by rw [if_neg (show ¬ (false = true) by decide)] at H; exact H
    clear H
    have H := H1
    clear H1
    have HC6 := Aside0.mk H
    clear H
    go_upto_region 3 with (fail)
    go_cut [21] (fun v21 wc => ∃ (kq : Nat) (x21_5 : Bool), v21 = .bool x21_5 ∧ Aside0 (strings_TrimRight.j1 kq a0 a1 x21_5 = some r) ∧ Aside0 (kq ≤ kj2) ∧ Aside0 (Below w.heap.size w wc))
    case first =>
     have H := HC6.out
     clear HC6
     by_cases c7 : (a1.size : Int) = 1
     ·rw [if_pos c7] at H
      have c7b0 : ((a1.size : Int) == 1) = true := beq_iff_eq.mpr c7
      have c7b1 : ((a1.size : Int) != 1) = false := bne_eq_false_iff_eq.mpr c7
      clear c7
      (first | rw [c7b0] | (simp only [i64_w, i32_w]; rw [c7b0]) | rw [c7b1] | skip)
      by_cases c8 : 0 < (a1.size : Int)
      ·rw [if_pos c8] at H
       have c8b0 : decide (0 < (a1.size : Int)) = true := decide_eq_true c8
       have c8b1 : decide (0 < a1.size) = true := decide_eq_true (by omega)
       clear c8
       have H' := Aside0.mk H
       clear H
       have p9 : 0 ≤ (0 : Int) := (by omega)
       have q9 : 0 < a1.size := (by have : (0 : Int) < (a1.size : Int) := of_decide_eq_true (by first | (with_reducible assumption) | assumption); omega)
       have hx9 : ∀ h : 0 < a1.size, ((a1[0]'h).toNat : Int) = bt a1 0 := bt_at a1 0
       clear p9
       have qi9 : (0 < (a1.size : Int)) = True := eq_true (of_decide_eq_true (by first | (with_reducible assumption) | assumption))
       replace q9 := eq_true q9
       go_wp2
       go_meet
       case rel => exact ⟨_, (decide ((bt a1 0) < 128)), (by first | rfl | (simp; done) | (simp [*]; done)), H', ⟨by have := HJ2.out; first | exact Nat.le_refl _ | omega⟩, ⟨by repeat (first | (with_reducible first | exact HB.out | apply below_alloc | apply pw_below_drewN | apply below_drew1) | exact HB.out)⟩⟩
      ·rw [if_neg c8] at H
       exact absurd H (by simp)
     ·rw [if_neg c7] at H
      have c7b0 : ((a1.size : Int) == 1) = false := beq_eq_false_iff_ne.mpr c7
      have c7b1 : ((a1.size : Int) != 1) = true := bne_iff_ne.mpr c7
      (first | rw [c7b0] | (simp only [i64_w, i32_w]; rw [c7b0]) | rw [c7b1] | skip)
      have H' := Aside0.mk H
      clear H
      go_wp2
      go_meet
      case rel => exact ⟨_, (false), (by first | rfl | (simp; done) | (simp [*]; done)), H', ⟨by have := HJ2.out; first | exact Nat.le_refl _ | omega⟩, ⟨by repeat (first | (with_reducible first | exact HB.out | apply below_alloc | apply pw_below_drewN | apply below_drew1) | exact HB.out)⟩⟩
    case rest =>
     clear HC6
     (try clear c5)
     obtain ⟨kq, x21_5, rfl, HA, HJ5, HB⟩ := hcut
     cases kq with
     | zero => exact absurd HA.out (by simp [strings_TrimRight.j1])
     | succ kj5 =>
      have H := HA.out
      clear HA
      simp only [strings_TrimRight.j1] at H
      by_cases c10 : x21_5 = true
      ·subst c10
       have H1 : (if 0 < (a1.size : Int) then ((strings_trimRightByte.f kj5 a0 (bt a1 0)).bind fun t273 => (some t273)) else (none)) = some r := by rw [if_pos rfl] at H; exact H
       clear H
       have H := H1
       clear H1
       by_cases c11 : 0 < (a1.size : Int)
       ·rw [if_pos c11] at H
        have c11b0 : decide (0 < (a1.size : Int)) = true := decide_eq_true c11
        have c11b1 : decide (0 < a1.size) = true := decide_eq_true (by omega)
        clear c11
        replace H := Option.bind_eq_some_iff.mp H
        obtain ⟨t273, A130, H⟩ := H
        try dsimp only at H
        have A13 := Aside0.mk A130
        clear A130
        obtain rfl := Option.some.inj H
        have p12 : 0 ≤ (0 : Int) := (by omega)
        have q12 : 0 < a1.size := (by have : (0 : Int) < (a1.size : Int) := of_decide_eq_true (by first | (with_reducible assumption) | assumption); omega)
        have hx12 : ∀ h : 0 < a1.size, ((a1[0]'h).toNat : Int) = bt a1 0 := bt_at a1 0
        clear p12
        have qi12 : (0 < (a1.size : Int)) = True := eq_true (of_decide_eq_true (by first | (with_reducible assumption) | assumption))
        replace q12 := eq_true q12
        go_wp2_with (first | ((with_reducible refine gate_callee (f := 51) rfl ?_); refine gL_ (some 25) Tryd.func51 #[.string a0, .int .u8 (bt a1 0)] ?_; (with_reducible refine (strings_trimRightByte.calls kj5 a0 (bt a1 0) t273 _ A13.out).mono ?_); rintro e w' ⟨rfl, ⟨nd, rfl⟩⟩; refine ⟨_, rfl, ?_⟩))
        go_ret
        exact ⟨by first | rfl | (simp [errW_none, errW_some] <;> rfl) | (simp [*, errW_none, errW_some] <;> rfl) | (simp [bne_nil_]; done), by repeat (first | (with_reducible first | exact HB.out | apply below_alloc | apply pw_below_drewN | apply below_drew1) | exact HB.out)⟩
       ·rw [if_neg c11] at H
        exact absurd H (by simp)
      ·replace c10 := Bool.eq_false_iff.mpr c10
       subst c10
       have H1 : (none) = some r := by rw [if_neg (show ¬ (false = true) by decide)] at H; exact H
       clear H
       have H := H1
       clear H1
       exact absurd H (by simp)
end Go.Proofs.YtahlkcnecgihbaaDoor.P
namespace Go.Proofs.YtahlkcnecgihbaaDoor.P
open Go.RowKit Go.Proofs.YtahlkcnecgihbaaDoorW.PrintWords Go.Proofs.YtahlkcnecgihbaaDoorW.PrintLast Go.Proofs.YtahlkcnecgihbaaDoorW.PrintMore
attribute [local go_sem] max2_int max_two
set_option linter.unusedVariables false
set_option linter.unusedSimpArgs false
def decimal_Trim.f (k : Nat) (a0_0 : Bool) (a0_1 : ByteArray) (a0_2 : ByteArray) : Option (Bool × ByteArray × ByteArray × Int) := (decimal_Check.f k a0_0 a0_1 a0_2).bind fun t276 => (if t276 = 0 then ((strings_TrimRight.f k a0_2 (⟨#[48]⟩ : ByteArray)).bind fun t277 => (some (a0_0, a0_1, t277, 0))) else (some (false, (⟨#[]⟩ : ByteArray), (⟨#[]⟩ : ByteArray), t276)))
theorem decimal_Trim.mono : ∀ a0 a1 a2 k, LeO (decimal_Trim.f k a0 a1 a2) (decimal_Trim.f (k + 1) a0 a1 a2) := by
 intro a0 a1 a2 k
 unfold decimal_Trim.f
 repeat' first
   | (with_reducible exact decimal_Check.mono _ _ _ _)
   | (with_reducible exact strings_TrimRight.mono _ _ _)
   | (with_reducible exact LeO.refl _)
   | (with_reducible exact LeO.none _)
   | (with_reducible refine LeO.ite ?_ ?_)
   | (with_reducible refine LeO.bind ?_ (fun _ => ?_))
   | exact decimal_Check.mono _ _ _ _
   | exact strings_TrimRight.mono _ _ _
   | exact LeO.none _
   | refine LeO.ite ?_ ?_
   | refine LeO.bind ?_ (fun _ => ?_)
set_option maxHeartbeats 8000000 in
set_option maxRecDepth 100000 in
theorem decimal_Trim.calls (k : Nat) (a0_0 : Bool) (a0_1 : ByteArray) (a0_2 : ByteArray) (r1 : Bool) (r2 : ByteArray) (r3 : ByteArray) (r4 : Int) (w : World) (h : decimal_Trim.f k a0_0 a0_1 a0_2 = some (r1, r2, r3, r4)) :
    Calls Tryd.prog 30 #[.agg #[.bool a0_0, .string a0_1, .string a0_2]] w fun e w' => e = .returned (.tuple #[.agg #[.bool r1, .string r2, .string r3], .int .i64 r4]) ∧ Below w.heap.size w w' := by
 have hu33 := Tryd.underlying33
 have HB := Aside0.mk (Below.refl w.heap.size w)
 unfold decimal_Trim.f at h
 have H := h
 clear h
 replace H := Option.bind_eq_some_iff.mp H
 obtain ⟨t276, A20, H⟩ := H
 try dsimp only at H
 have A2 := Aside0.mk A20
 clear A20
 have HF3 := Aside0.mk H
 clear H
 go_enter Tryd.func30, Tryd.ntmps30
 go_upto_if 8 with (first | ((with_reducible refine gate_dst (N := 1) rfl ?_); refine bx_ #[.bool a0_0, .string a0_1, .string a0_2] 33 ?_; intro gb274 hg w4 hbox hb; have BK274 := Aside0.mk (hbox); have GW274 := Aside0.mk ((by rw [hg]; exact (below_size hb_) : w.heap.size ≤ gb274)); have GE274 := Aside0.mk ((by rw [hg]; exact (below_size hb_) : w.heap.size ≤ gb274)); replace HB := Aside0.mk (below_step hb_ hb); clear hb hbox hg) | ((with_reducible refine gate_dst (N := 2) rfl ?_); refine bx_ #[.bool false, .string (⟨#[]⟩ : ByteArray), .string (⟨#[]⟩ : ByteArray)] 33 ?_; intro gb275 hg w5 hbox hb; have BK275 := Aside0.mk (hbox); have GW275 := Aside0.mk ((by rw [hg]; exact (below_size hb_) : w.heap.size ≤ gb275)); have GE275 := Aside0.mk ((by rw [hg]; exact (below_size hb_) : w.heap.size ≤ gb275)); have NB274_275 := BK274.nl hg; have NB275_274 := BK274.ng hg; replace BK274 := BK274.bl hb; replace HB := Aside0.mk (below_step hb_ hb); clear hb hbox hg; have hnb6 := NB274_275.out; have hnc6 := NB275_274.out; obtain ⟨hcz7_0, hcz7_1, hcz7_2, hfz7_0, hfz7_1, hfz7_2⟩ := BK274.c3) | ((with_reducible refine gate_callee (f := 15) rfl ?_); refine gL_ (some 6) Tryd.func15 #[.agg #[.bool a0_0, .string a0_1, .string a0_2]] ?_; (with_reducible refine (decimal_Check.calls k a0_0 a0_1 a0_2 t276 _ A2.out).mono ?_); rintro e w8 ⟨rfl, hb⟩; refine ⟨_, rfl, ?_⟩; replace BK274 := BK274.bl hb; replace BK275 := BK275.bl hb; replace HB := Aside0.mk (below_step hb_ hb)))
 (try simp only [Act.put, List.setIfInBounds_toArray, List.set_cons_zero, List.set_cons_succ])
 have H := HF3.out
 clear HF3
 by_cases c9 : t276 = 0
 ·rw [if_pos c9] at H
  have c9b0 : (t276 == 0) = true := beq_iff_eq.mpr c9
  have c9b1 : (t276 != 0) = false := bne_eq_false_iff_eq.mpr c9
  clear c9
  (first | rw [c9b0] | (simp only [i64_w, i32_w]; rw [c9b0]) | rw [c9b1] | skip)
  replace H := Option.bind_eq_some_iff.mp H
  obtain ⟨t277, A100, H⟩ := H
  try dsimp only at H
  have A10 := Aside0.mk A100
  clear A100
  simp only [Option.some.injEq, Prod.mk.injEq] at H
  obtain ⟨rfl, rfl, rfl, rfl⟩ := H
  have hnb11 := NB274_275.out
  have hnc11 := NB275_274.out
  obtain ⟨hcz12_0, hcz12_1, hcz12_2, hfz12_0, hfz12_1, hfz12_2⟩ := BK274.c3
  go_wp2_with (first | ((with_reducible refine gate_callee (f := 44) rfl ?_); refine gL_ (some 13) Tryd.func44 #[.string a0_2, .string (⟨#[48]⟩ : ByteArray)] ?_; (with_reducible refine (strings_TrimRight.calls k a0_2 (⟨#[48]⟩ : ByteArray) t277 _ A10.out).mono ?_); rintro e w13 ⟨rfl, hb⟩; refine ⟨_, rfl, ?_⟩; replace BK274 := BK274.bl hb; replace BK275 := BK275.bl hb; replace HB := Aside0.mk (below_step hb_ hb); obtain ⟨hcz14_0, hcz14_1, hcz14_2, hfz14_0, hfz14_1, hfz14_2⟩ := BK274.c3; obtain ⟨hcz15_0, hcz15_1, hcz15_2, hfz15_0, hfz15_1, hfz15_2⟩ := BK275.c3))
  refine bodyPost_ret (results_ct rfl _ _ gb275 33 #[.bool a0_0, .string a0_1, .string t277] (0, 0) _ rfl (by refine blk_put (cs := #[.bool a0_0, .string a0_1, .string (⟨#[]⟩ : ByteArray)]) ?_ 2 _ rfl; refine blk_put (cs := #[.bool a0_0, .string (⟨#[]⟩ : ByteArray), .string (⟨#[]⟩ : ByteArray)]) ?_ 1 _ rfl; refine blk_put (cs := #[.bool false, .string (⟨#[]⟩ : ByteArray), .string (⟨#[]⟩ : ByteArray)]) ?_ 0 _ rfl; refine blk_far ?_ NB275_274.out _; exact BK275.out) Tryd.underlying33 rfl (by kernel_rfl)) rfl ?_
  exact ⟨by first | rfl | (simp [errW_none, errW_some] <;> rfl) | (simp [*, errW_none, errW_some] <;> rfl) | (simp [bne_nil_]; done), by repeat (first | (with_reducible first | exact HB.out | apply below_alloc | apply pw_below_drewN | apply below_drew1 | refine below_set ?_ GE274.out | refine below_set ?_ GE275.out) | exact HB.out)⟩
 ·rw [if_neg c9] at H
  have c9b0 : (t276 == 0) = false := beq_eq_false_iff_ne.mpr c9
  have c9b1 : (t276 != 0) = true := bne_iff_ne.mpr c9
  (first | rw [c9b0] | (simp only [i64_w, i32_w]; rw [c9b0]) | rw [c9b1] | skip)
  simp only [Option.some.injEq, Prod.mk.injEq] at H
  obtain ⟨rfl, rfl, rfl, rfl⟩ := H
  have hnb16 := NB275_274.out
  have hnc16 := NB274_275.out
  obtain ⟨hcz17_0, hcz17_1, hcz17_2, hfz17_0, hfz17_1, hfz17_2⟩ := BK275.c3
  go_wp2
  refine bodyPost_ret (results_ct rfl _ _ gb275 33 #[.bool false, .string (⟨#[]⟩ : ByteArray), .string (⟨#[]⟩ : ByteArray)] (0, 0) _ rfl (by refine blk_put (cs := #[.bool false, .string (⟨#[]⟩ : ByteArray), .string (⟨#[]⟩ : ByteArray)]) ?_ 2 _ rfl; refine blk_put (cs := #[.bool false, .string (⟨#[]⟩ : ByteArray), .string (⟨#[]⟩ : ByteArray)]) ?_ 1 _ rfl; refine blk_put (cs := #[.bool false, .string (⟨#[]⟩ : ByteArray), .string (⟨#[]⟩ : ByteArray)]) ?_ 0 _ rfl; exact BK275.out) Tryd.underlying33 rfl (by kernel_rfl)) rfl ?_
  exact ⟨by first | rfl | (simp [errW_none, errW_some] <;> rfl) | (simp [*, errW_none, errW_some] <;> rfl) | (simp [bne_nil_]; done), by repeat (first | (with_reducible first | exact HB.out | apply below_alloc | apply pw_below_drewN | apply below_drew1 | refine below_set ?_ GE274.out | refine below_set ?_ GE275.out) | exact HB.out)⟩
end Go.Proofs.YtahlkcnecgihbaaDoor.P
namespace Go.Proofs.YtahlkcnecgihbaaDoor.P
open Go.RowKit Go.Proofs.YtahlkcnecgihbaaDoorW.PrintWords Go.Proofs.YtahlkcnecgihbaaDoorW.PrintLast Go.Proofs.YtahlkcnecgihbaaDoorW.PrintMore
attribute [local go_sem] max2_int max_two
set_option linter.unusedVariables false
set_option linter.unusedSimpArgs false
def compact_rounded.f (k : Nat) (a0_0 : Bool) (a0_1 : ByteArray) (a0_2 : ByteArray) (a1 : Int) : Option (Bool × ByteArray × ByteArray × Int) := (compact_size.f a0_0 a0_1 a0_2).bind fun t270 => (if t270 = 0 then (none) else (if t270 = 1 then ((round_Places.f k a0_0 a0_1 a0_2 a1 1).bind fun bt271 => (if bt271.2.2.2 = 0 then ((decimal_Trim.f k bt271.1 bt271.2.1 bt271.2.2.1).bind fun bt275 => (some (bt275.1, bt275.2.1, bt275.2.2.1, bt275.2.2.2))) else (some (false, (⟨#[]⟩ : ByteArray), (⟨#[]⟩ : ByteArray), bt271.2.2.2)))) else ((round_Places.f k a0_0 a0_1 a0_2 a1 0).bind fun bt279 => (if bt279.2.2.2 = 0 then ((decimal_Trim.f k bt279.1 bt279.2.1 bt279.2.2.1).bind fun bt283 => (some (bt283.1, bt283.2.1, bt283.2.2.1, bt283.2.2.2))) else (some (false, (⟨#[]⟩ : ByteArray), (⟨#[]⟩ : ByteArray), bt279.2.2.2))))))
theorem compact_rounded.mono : ∀ a0 a1 a2 a3 k, LeO (compact_rounded.f k a0 a1 a2 a3) (compact_rounded.f (k + 1) a0 a1 a2 a3) := by
 intro a0 a1 a2 a3 k
 unfold compact_rounded.f
 repeat' first
   | (with_reducible exact decimal_Trim.mono _ _ _ _)
   | (with_reducible exact round_Places.mono _ _ _ _ _ _)
   | (with_reducible exact LeO.refl _)
   | (with_reducible exact LeO.none _)
   | (with_reducible refine LeO.ite ?_ ?_)
   | (with_reducible refine LeO.bind ?_ (fun _ => ?_))
   | exact decimal_Trim.mono _ _ _ _
   | exact round_Places.mono _ _ _ _ _ _
   | exact LeO.none _
   | refine LeO.ite ?_ ?_
   | refine LeO.bind ?_ (fun _ => ?_)
set_option maxHeartbeats 8000000 in
set_option maxRecDepth 100000 in
theorem compact_rounded.calls (k : Nat) (a0_0 : Bool) (a0_1 : ByteArray) (a0_2 : ByteArray) (a1 : Int) (r1 : Bool) (r2 : ByteArray) (r3 : ByteArray) (r4 : Int) (w : World) (h : compact_rounded.f k a0_0 a0_1 a0_2 a1 = some (r1, r2, r3, r4)) :
    Calls Tryd.prog 20 #[.agg #[.bool a0_0, .string a0_1, .string a0_2], .int .i64 a1] w fun e w' => e = .returned (.tuple #[.agg #[.bool r1, .string r2, .string r3], .int .i64 r4]) ∧ Below w.heap.size w w' := by
 have hu33 := Tryd.underlying33
 have HB := Aside0.mk (Below.refl w.heap.size w)
 unfold compact_rounded.f at h
 have H := h
 clear h
 replace H := Option.bind_eq_some_iff.mp H
 obtain ⟨t270, A30, H⟩ := H
 try dsimp only at H
 have A3 := Aside0.mk A30
 clear A30
 have HF4 := Aside0.mk H
 clear H
 go_enter Tryd.func20, Tryd.ntmps20
 go_upto_if 15 with (first | ((with_reducible refine gate_dst (N := 2) rfl ?_); refine bx_ #[.bool a0_0, .string a0_1, .string a0_2] 33 ?_; intro gb268 hg w5 hbox hb; have BK268 := Aside0.mk (hbox); have GW268 := Aside0.mk ((by rw [hg]; exact (below_size hb_) : w.heap.size ≤ gb268)); have GE268 := Aside0.mk ((by rw [hg]; exact (below_size hb_) : w.heap.size ≤ gb268)); replace HB := Aside0.mk (below_step hb_ hb); clear hb hbox hg) | ((with_reducible refine gate_dst (N := 4) rfl ?_); refine bx_ #[.bool false, .string (⟨#[]⟩ : ByteArray), .string (⟨#[]⟩ : ByteArray)] 33 ?_; intro gb269 hg w6 hbox hb; have BK269 := Aside0.mk (hbox); have GW269 := Aside0.mk ((by rw [hg]; exact (below_size hb_) : w.heap.size ≤ gb269)); have GE269 := Aside0.mk ((by rw [hg]; exact (below_size hb_) : w.heap.size ≤ gb269)); have NB268_269 := BK268.nl hg; have NB269_268 := BK268.ng hg; replace BK268 := BK268.bl hb; replace HB := Aside0.mk (below_step hb_ hb); clear hb hbox hg; have hnb7 := NB268_269.out; have hnc7 := NB269_268.out; obtain ⟨hcz8_0, hcz8_1, hcz8_2, hfz8_0, hfz8_1, hfz8_2⟩ := BK268.c3) | ((with_reducible refine gate_callee (f := 21) rfl ?_); refine gL_ (some 8) Tryd.func21 #[.agg #[.bool a0_0, .string a0_1, .string a0_2]] ?_; (with_reducible refine (compact_size.calls a0_0 a0_1 a0_2 t270 _ A3.out).mono ?_); rintro e w9 ⟨rfl, hb⟩; refine ⟨_, rfl, ?_⟩; replace BK268 := BK268.bl hb; replace BK269 := BK269.bl hb; replace HB := Aside0.mk (below_step hb_ hb)))
 (try simp only [Act.put, List.setIfInBounds_toArray, List.set_cons_zero, List.set_cons_succ])
 have H := HF4.out
 clear HF4
 by_cases c10 : t270 = 0
 ·rw [if_pos c10] at H
  have c10b0 : (t270 == 0) = true := beq_iff_eq.mpr c10
  have c10b1 : (t270 != 0) = false := bne_eq_false_iff_eq.mpr c10
  clear c10
  (first | rw [c10b0] | (simp only [i64_w, i32_w]; rw [c10b0]) | rw [c10b1] | skip)
  exact absurd H (by simp)
 ·rw [if_neg c10] at H
  have c10b0 : (t270 == 0) = false := beq_eq_false_iff_ne.mpr c10
  have c10b1 : (t270 != 0) = true := bne_iff_ne.mpr c10
  (first | rw [c10b0] | (simp only [i64_w, i32_w]; rw [c10b0]) | rw [c10b1] | skip)
  by_cases c11 : t270 = 1
  ·rw [if_pos c11] at H
   have c11b0 : (t270 == 1) = true := beq_iff_eq.mpr c11
   have c11b1 : (t270 != 1) = false := bne_eq_false_iff_eq.mpr c11
   clear c11
   replace H := Option.bind_eq_some_iff.mp H
   obtain ⟨⟨t271, t272, t273, t274⟩, A120, H⟩ := H
   try dsimp only at H
   have A12 := Aside0.mk A120
   clear A120
   have HF13 := Aside0.mk H
   clear H
   have hnb14 := NB268_269.out
   have hnc14 := NB269_268.out
   obtain ⟨hcz15_0, hcz15_1, hcz15_2, hfz15_0, hfz15_1, hfz15_2⟩ := BK268.c3
   go_upto_if 32 with (first | ((with_reducible refine gate_callee (f := 29) rfl ?_); refine gL_ (some 28) Tryd.func29 #[.agg #[.bool a0_0, .string a0_1, .string a0_2], .int .i64 a1, .int .i64 1] ?_; (with_reducible refine (round_Places.calls k a0_0 a0_1 a0_2 a1 1 t271 t272 t273 t274 _ A12.out).mono ?_); rintro e w16 ⟨rfl, hb⟩; refine ⟨_, rfl, ?_⟩; replace BK268 := BK268.bl hb; replace BK269 := BK269.bl hb; replace HB := Aside0.mk (below_step hb_ hb); obtain ⟨hcz17_0, hcz17_1, hcz17_2, hfz17_0, hfz17_1, hfz17_2⟩ := BK268.c3))
   (try simp only [Act.put, List.setIfInBounds_toArray, List.set_cons_zero, List.set_cons_succ])
   have H := HF13.out
   clear HF13
   by_cases c18 : t274 = 0
   ·rw [if_pos c18] at H
    have c18b0 : (t274 == 0) = true := beq_iff_eq.mpr c18
    have c18b1 : (t274 != 0) = false := bne_eq_false_iff_eq.mpr c18
    clear c18
    (first | rw [c18b0] | (simp only [i64_w, i32_w]; rw [c18b0]) | rw [c18b1] | skip)
    replace H := Option.bind_eq_some_iff.mp H
    obtain ⟨⟨t275, t276, t277, t278⟩, A190, H⟩ := H
    try dsimp only at H
    have A19 := Aside0.mk A190
    clear A190
    simp only [Option.some.injEq, Prod.mk.injEq] at H
    obtain ⟨rfl, rfl, rfl, rfl⟩ := H
    have hnb20 := NB268_269.out
    have hnc20 := NB269_268.out
    obtain ⟨hcz21_0, hcz21_1, hcz21_2, hfz21_0, hfz21_1, hfz21_2⟩ := BK268.c3
    go_wp2_with (first | ((with_reducible refine gate_callee (f := 30) rfl ?_); refine gL_ (some 36) Tryd.func30 #[.agg #[.bool t271, .string t272, .string t273]] ?_; (with_reducible refine (decimal_Trim.calls k t271 t272 t273 t275 t276 t277 t278 _ A19.out).mono ?_); rintro e w22 ⟨rfl, hb⟩; refine ⟨_, rfl, ?_⟩; replace BK268 := Aside0.mk (blk_below (g := gb268) (o := .cells #[.bool t271, .string t272, .string t273] 33 (0, 0)) (by refine blk_put (cs := #[.bool t271, .string t272, .string a0_2]) ?_ 2 _ rfl; refine blk_put (cs := #[.bool t271, .string a0_1, .string a0_2]) ?_ 1 _ rfl; refine blk_put (cs := #[.bool a0_0, .string a0_1, .string a0_2]) ?_ 0 _ rfl; exact BK268.out) hb); replace BK269 := Aside0.mk (blk_below (g := gb269) (o := .cells #[.bool false, .string (⟨#[]⟩ : ByteArray), .string (⟨#[]⟩ : ByteArray)] 33 (0, 0)) (by refine blk_far ?_ NB269_268.out _; refine blk_far ?_ NB269_268.out _; refine blk_far ?_ NB269_268.out _; exact BK269.out) hb); replace HB := Aside0.mk (below_step hb_ hb); obtain ⟨hcz23_0, hcz23_1, hcz23_2, hfz23_0, hfz23_1, hfz23_2⟩ := BK269.c3))
    refine bodyPost_ret (results_ct rfl _ _ gb269 33 #[.bool t275, .string t276, .string t277] (0, 0) _ rfl (by refine blk_put (cs := #[.bool t275, .string t276, .string (⟨#[]⟩ : ByteArray)]) ?_ 2 _ rfl; refine blk_put (cs := #[.bool t275, .string (⟨#[]⟩ : ByteArray), .string (⟨#[]⟩ : ByteArray)]) ?_ 1 _ rfl; refine blk_put (cs := #[.bool false, .string (⟨#[]⟩ : ByteArray), .string (⟨#[]⟩ : ByteArray)]) ?_ 0 _ rfl; exact BK269.out) Tryd.underlying33 rfl (by kernel_rfl)) rfl ?_
    exact ⟨by first | rfl | (simp [errW_none, errW_some] <;> rfl) | (simp [*, errW_none, errW_some] <;> rfl) | (simp [bne_nil_]; done), by repeat (first | (with_reducible first | exact HB.out | apply below_alloc | apply pw_below_drewN | apply below_drew1 | refine below_set ?_ GE268.out | refine below_set ?_ GE269.out) | exact HB.out)⟩
   ·rw [if_neg c18] at H
    have c18b0 : (t274 == 0) = false := beq_eq_false_iff_ne.mpr c18
    have c18b1 : (t274 != 0) = true := bne_iff_ne.mpr c18
    (first | rw [c18b0] | (simp only [i64_w, i32_w]; rw [c18b0]) | rw [c18b1] | skip)
    simp only [Option.some.injEq, Prod.mk.injEq] at H
    obtain ⟨rfl, rfl, rfl, rfl⟩ := H
    have hnb24 := NB269_268.out
    have hnc24 := NB268_269.out
    obtain ⟨hcz25_0, hcz25_1, hcz25_2, hfz25_0, hfz25_1, hfz25_2⟩ := BK269.c3
    go_wp2
    refine bodyPost_ret (results_ct rfl _ _ gb269 33 #[.bool false, .string (⟨#[]⟩ : ByteArray), .string (⟨#[]⟩ : ByteArray)] (0, 0) _ rfl (by refine blk_put (cs := #[.bool false, .string (⟨#[]⟩ : ByteArray), .string (⟨#[]⟩ : ByteArray)]) ?_ 2 _ rfl; refine blk_put (cs := #[.bool false, .string (⟨#[]⟩ : ByteArray), .string (⟨#[]⟩ : ByteArray)]) ?_ 1 _ rfl; refine blk_put (cs := #[.bool false, .string (⟨#[]⟩ : ByteArray), .string (⟨#[]⟩ : ByteArray)]) ?_ 0 _ rfl; refine blk_far ?_ NB269_268.out _; refine blk_far ?_ NB269_268.out _; refine blk_far ?_ NB269_268.out _; exact BK269.out) Tryd.underlying33 rfl (by kernel_rfl)) rfl ?_
    exact ⟨by first | rfl | (simp [errW_none, errW_some] <;> rfl) | (simp [*, errW_none, errW_some] <;> rfl) | (simp [bne_nil_]; done), by repeat (first | (with_reducible first | exact HB.out | apply below_alloc | apply pw_below_drewN | apply below_drew1 | refine below_set ?_ GE268.out | refine below_set ?_ GE269.out) | exact HB.out)⟩
  ·rw [if_neg c11] at H
   have c11b0 : (t270 == 1) = false := beq_eq_false_iff_ne.mpr c11
   have c11b1 : (t270 != 1) = true := bne_iff_ne.mpr c11
   replace H := Option.bind_eq_some_iff.mp H
   obtain ⟨⟨t279, t280, t281, t282⟩, A260, H⟩ := H
   try dsimp only at H
   have A26 := Aside0.mk A260
   clear A260
   have HF27 := Aside0.mk H
   clear H
   have hnb28 := NB268_269.out
   have hnc28 := NB269_268.out
   obtain ⟨hcz29_0, hcz29_1, hcz29_2, hfz29_0, hfz29_1, hfz29_2⟩ := BK268.c3
   go_upto_if 32 with (first | ((with_reducible refine gate_callee (f := 29) rfl ?_); refine gL_ (some 12) Tryd.func29 #[.agg #[.bool a0_0, .string a0_1, .string a0_2], .int .i64 a1, .int .i64 0] ?_; (with_reducible refine (round_Places.calls k a0_0 a0_1 a0_2 a1 0 t279 t280 t281 t282 _ A26.out).mono ?_); rintro e w30 ⟨rfl, hb⟩; refine ⟨_, rfl, ?_⟩; replace BK268 := BK268.bl hb; replace BK269 := BK269.bl hb; replace HB := Aside0.mk (below_step hb_ hb); obtain ⟨hcz31_0, hcz31_1, hcz31_2, hfz31_0, hfz31_1, hfz31_2⟩ := BK268.c3))
   (try simp only [Act.put, List.setIfInBounds_toArray, List.set_cons_zero, List.set_cons_succ])
   have H := HF27.out
   clear HF27
   by_cases c32 : t282 = 0
   ·rw [if_pos c32] at H
    have c32b0 : (t282 == 0) = true := beq_iff_eq.mpr c32
    have c32b1 : (t282 != 0) = false := bne_eq_false_iff_eq.mpr c32
    clear c32
    (first | rw [c32b0] | (simp only [i64_w, i32_w]; rw [c32b0]) | rw [c32b1] | skip)
    replace H := Option.bind_eq_some_iff.mp H
    obtain ⟨⟨t283, t284, t285, t286⟩, A330, H⟩ := H
    try dsimp only at H
    have A33 := Aside0.mk A330
    clear A330
    simp only [Option.some.injEq, Prod.mk.injEq] at H
    obtain ⟨rfl, rfl, rfl, rfl⟩ := H
    have hnb34 := NB268_269.out
    have hnc34 := NB269_268.out
    obtain ⟨hcz35_0, hcz35_1, hcz35_2, hfz35_0, hfz35_1, hfz35_2⟩ := BK268.c3
    go_wp2_with (first | ((with_reducible refine gate_callee (f := 30) rfl ?_); refine gL_ (some 36) Tryd.func30 #[.agg #[.bool t279, .string t280, .string t281]] ?_; (with_reducible refine (decimal_Trim.calls k t279 t280 t281 t283 t284 t285 t286 _ A33.out).mono ?_); rintro e w36 ⟨rfl, hb⟩; refine ⟨_, rfl, ?_⟩; replace BK268 := Aside0.mk (blk_below (g := gb268) (o := .cells #[.bool t279, .string t280, .string t281] 33 (0, 0)) (by refine blk_put (cs := #[.bool t279, .string t280, .string a0_2]) ?_ 2 _ rfl; refine blk_put (cs := #[.bool t279, .string a0_1, .string a0_2]) ?_ 1 _ rfl; refine blk_put (cs := #[.bool a0_0, .string a0_1, .string a0_2]) ?_ 0 _ rfl; exact BK268.out) hb); replace BK269 := Aside0.mk (blk_below (g := gb269) (o := .cells #[.bool false, .string (⟨#[]⟩ : ByteArray), .string (⟨#[]⟩ : ByteArray)] 33 (0, 0)) (by refine blk_far ?_ NB269_268.out _; refine blk_far ?_ NB269_268.out _; refine blk_far ?_ NB269_268.out _; exact BK269.out) hb); replace HB := Aside0.mk (below_step hb_ hb); obtain ⟨hcz37_0, hcz37_1, hcz37_2, hfz37_0, hfz37_1, hfz37_2⟩ := BK269.c3))
    refine bodyPost_ret (results_ct rfl _ _ gb269 33 #[.bool t283, .string t284, .string t285] (0, 0) _ rfl (by refine blk_put (cs := #[.bool t283, .string t284, .string (⟨#[]⟩ : ByteArray)]) ?_ 2 _ rfl; refine blk_put (cs := #[.bool t283, .string (⟨#[]⟩ : ByteArray), .string (⟨#[]⟩ : ByteArray)]) ?_ 1 _ rfl; refine blk_put (cs := #[.bool false, .string (⟨#[]⟩ : ByteArray), .string (⟨#[]⟩ : ByteArray)]) ?_ 0 _ rfl; exact BK269.out) Tryd.underlying33 rfl (by kernel_rfl)) rfl ?_
    exact ⟨by first | rfl | (simp [errW_none, errW_some] <;> rfl) | (simp [*, errW_none, errW_some] <;> rfl) | (simp [bne_nil_]; done), by repeat (first | (with_reducible first | exact HB.out | apply below_alloc | apply pw_below_drewN | apply below_drew1 | refine below_set ?_ GE268.out | refine below_set ?_ GE269.out) | exact HB.out)⟩
   ·rw [if_neg c32] at H
    have c32b0 : (t282 == 0) = false := beq_eq_false_iff_ne.mpr c32
    have c32b1 : (t282 != 0) = true := bne_iff_ne.mpr c32
    (first | rw [c32b0] | (simp only [i64_w, i32_w]; rw [c32b0]) | rw [c32b1] | skip)
    simp only [Option.some.injEq, Prod.mk.injEq] at H
    obtain ⟨rfl, rfl, rfl, rfl⟩ := H
    have hnb38 := NB269_268.out
    have hnc38 := NB268_269.out
    obtain ⟨hcz39_0, hcz39_1, hcz39_2, hfz39_0, hfz39_1, hfz39_2⟩ := BK269.c3
    go_wp2
    refine bodyPost_ret (results_ct rfl _ _ gb269 33 #[.bool false, .string (⟨#[]⟩ : ByteArray), .string (⟨#[]⟩ : ByteArray)] (0, 0) _ rfl (by refine blk_put (cs := #[.bool false, .string (⟨#[]⟩ : ByteArray), .string (⟨#[]⟩ : ByteArray)]) ?_ 2 _ rfl; refine blk_put (cs := #[.bool false, .string (⟨#[]⟩ : ByteArray), .string (⟨#[]⟩ : ByteArray)]) ?_ 1 _ rfl; refine blk_put (cs := #[.bool false, .string (⟨#[]⟩ : ByteArray), .string (⟨#[]⟩ : ByteArray)]) ?_ 0 _ rfl; refine blk_far ?_ NB269_268.out _; refine blk_far ?_ NB269_268.out _; refine blk_far ?_ NB269_268.out _; exact BK269.out) Tryd.underlying33 rfl (by kernel_rfl)) rfl ?_
    exact ⟨by first | rfl | (simp [errW_none, errW_some] <;> rfl) | (simp [*, errW_none, errW_some] <;> rfl) | (simp [bne_nil_]; done), by repeat (first | (with_reducible first | exact HB.out | apply below_alloc | apply pw_below_drewN | apply below_drew1 | refine below_set ?_ GE268.out | refine below_set ?_ GE269.out) | exact HB.out)⟩
end Go.Proofs.YtahlkcnecgihbaaDoor.P
namespace Go.Proofs.YtahlkcnecgihbaaDoor.P
open Go.RowKit Go.Proofs.YtahlkcnecgihbaaDoorW.PrintWords Go.Proofs.YtahlkcnecgihbaaDoorW.PrintLast Go.Proofs.YtahlkcnecgihbaaDoorW.PrintMore
attribute [local go_sem] max2_int max_two
set_option linter.unusedVariables false
set_option linter.unusedSimpArgs false
def compact_shorten.f : Nat → List (S27) → Bool → ByteArray → ByteArray → Int → Option (Bool × ByteArray × ByteArray × Int × Int × Int)
  | 0, _, _, _, _, _ => none
  | k + 1, l0, a1_0, a1_1, a1_2, a2 => (compact_find.f k l0 a1_0 a1_1 a1_2).bind fun t289 => ((compact_shift.f l0 t289).bind fun t290 => ((decimal_Shift.f k a1_0 a1_1 a1_2 (wrap64 (-t290))).bind fun bt291 => (if bt291.2.2.2 = 0 then ((compact_rounded.f k bt291.1 bt291.2.1 bt291.2.2.1 a2).bind fun bt296 => (if bt296.2.2.2 = 0 then ((compact_size.f bt296.1 bt296.2.1 bt296.2.2.1).bind fun t301 => ((compact_size.f bt291.1 bt291.2.1 bt291.2.2.1).bind fun t302 => (if t301 ≤ t302 then (some (bt296.1, bt296.2.1, bt296.2.2.1, t290, t289, 0)) else ((compact_size.f a1_0 a1_1 a1_2).bind fun t303 => (if (wrap64 (t303 + 1)) > 40 then (some (false, (⟨#[]⟩ : ByteArray), (⟨#[]⟩ : ByteArray), 0, 0, 3)) else ((strings_Repeat.f (⟨#[48]⟩ : ByteArray) t303).bind fun t304 => (if 1 + t304.size ≤ 9223372036854775807 then ((compact_shorten.f k l0 a1_0 ((⟨#[49]⟩ : ByteArray) ++ t304) (⟨#[]⟩ : ByteArray) a2).bind fun bt305 => (some (bt305.1, bt305.2.1, bt305.2.2.1, bt305.2.2.2.1, bt305.2.2.2.2.1, bt305.2.2.2.2.2))) else (none)))))))) else (some (false, (⟨#[]⟩ : ByteArray), (⟨#[]⟩ : ByteArray), 0, 0, bt296.2.2.2)))) else (some (false, (⟨#[]⟩ : ByteArray), (⟨#[]⟩ : ByteArray), 0, 0, bt291.2.2.2)))))
theorem compact_shorten.mono_l : ∀ k, (∀ y0 y1 y2 y3 y4, LeO (compact_shorten.f k y0 y1 y2 y3 y4) (compact_shorten.f (k + 1) y0 y1 y2 y3 y4))
  | 0 => fun _ _ _ _ _ r h => by simp [compact_shorten.f] at h
  | k + 1 => by
    have ih0 := compact_shorten.mono_l k
    · intro y0 y1 y2 y3 y4
      unfold compact_shorten.f
      repeat' first
      | (with_reducible exact ih0 _ _ _ _ _)
      | (with_reducible exact compact_find.mono _ _ _ _ _)
      | (with_reducible exact compact_rounded.mono _ _ _ _ _)
      | (with_reducible exact decimal_Shift.mono _ _ _ _ _)
      | (with_reducible exact LeO.refl _)
      | (with_reducible exact LeO.none _)
      | (with_reducible refine LeO.ite ?_ ?_)
      | (with_reducible refine LeO.bind ?_ (fun _ => ?_))
      | exact ih0 _ _ _ _ _
      | exact compact_find.mono _ _ _ _ _
      | exact compact_rounded.mono _ _ _ _ _
      | exact decimal_Shift.mono _ _ _ _ _
      | exact LeO.none _
      | refine LeO.ite ?_ ?_
      | refine LeO.bind ?_ (fun _ => ?_)
theorem compact_shorten.mono : ∀ a0 a1 a2 a3 a4 k, LeO (compact_shorten.f k a0 a1 a2 a3 a4) (compact_shorten.f (k + 1) a0 a1 a2 a3 a4) := by
 intro a0 a1 a2 a3 a4 k
 have ih0 := compact_shorten.mono_l k
 exact ih0 a0 a1 a2 a3 a4
def compact_shorten.T14 : Bool × List (List Nat × List Nat) := (true, [([], []), ([], []), ([1], [1]), ([], []), ([3], [3]), ([4], [4]), ([2, 5], [2, 5]), ([], []), ([0, 6, 7, 4], [0, 6, 7]), ([8], [8]), ([8], [8]), ([8], [8]), ([8], [8]), ([9, 8, 0, 1, 2, 3, 4, 5, 6, 7, 8, 9, 10, 11, 12], [9]), ([10, 13, 0, 1, 2, 3, 4, 5, 6, 7, 8, 9, 10, 11, 12, 13], [10]), ([11, 14, 0, 1, 2, 3, 4, 5, 6, 7, 8, 9, 10, 11, 12, 13, 14], [11]), ([12, 15, 0, 1, 2, 3, 4, 5, 6, 7, 8, 9, 10, 11, 12, 13, 14, 15], [12])])
def compact_shorten.B14 : List Nat := [0, 0, 2, 0, 8, 24, 62, 0, 255, 511, 511, 511, 511, 8191, 16383, 32767, 65535]
theorem compact_shorten.tab14 : rtab .any (opsOf Tryd.f12 14) = compact_shorten.T14 := by kernel_rfl
theorem compact_shorten.bits14 : waitsOk compact_shorten.T14.2 compact_shorten.B14 = true := by kernel_rfl
set_option maxHeartbeats 8000000 in
set_option maxRecDepth 100000 in
theorem compact_shorten.calls (k : Nat) : ∀ (A0 : Option Addr) (c0 : Nat) (l0 : List (S27)) (a1_0 : Bool) (a1_1 : ByteArray) (a1_2 : ByteArray) (a2 : Int) (r1 : Bool) (r2 : ByteArray) (r3 : ByteArray) (r4 : Int) (r5 : Int) (r6 : Int) (w : World) (hr0 : Kd.C k27 w A0 l0.length l0) (hc0 : l0.length ≤ c0) (h : compact_shorten.f k l0 a1_0 a1_1 a1_2 a2 = some (r1, r2, r3, r4, r5, r6)),
    Calls Tryd.prog 12 #[.slice A0 l0.length c0, .agg #[.bool a1_0, .string a1_1, .string a1_2], .int .i64 a2] w fun e w' => e = .returned (.tuple #[.agg #[.bool r1, .string r2, .string r3], .int .i64 r4, .int .i64 r5, .int .i64 r6]) ∧ Below w.heap.size w w' := by
 induction k using Nat.strongRecOn with
 | _ k ih =>
 intro A0 c0 l0 a1_0 a1_1 a1_2 a2 r1 r2 r3 r4 r5 r6 w hr0 hc0 h
 cases k with
 | zero => exact absurd h (by simp [compact_shorten.f])
 | succ k =>
 simp only [compact_shorten.f] at h
 have hu33 := Tryd.underlying33
 have HR0 := Aside0.mk hr0
 have HC0 := Aside0.mk hc0
 clear hr0 hc0
 have HB := Aside0.mk (Below.refl w.heap.size w)
 have H : ((compact_find.f k l0 a1_0 a1_1 a1_2).bind fun t289 => ((compact_shift.f l0 t289).bind fun t290 => ((decimal_Shift.f k a1_0 a1_1 a1_2 (wrap64 (-t290))).bind fun bt291 => (if bt291.2.2.2 = 0 then ((compact_rounded.f k bt291.1 bt291.2.1 bt291.2.2.1 a2).bind fun bt296 => (if bt296.2.2.2 = 0 then ((compact_size.f bt296.1 bt296.2.1 bt296.2.2.1).bind fun t301 => ((compact_size.f bt291.1 bt291.2.1 bt291.2.2.1).bind fun t302 => (if t301 ≤ t302 then (some (bt296.1, bt296.2.1, bt296.2.2.1, t290, t289, 0)) else ((compact_size.f a1_0 a1_1 a1_2).bind fun t303 => (if (wrap64 (t303 + 1)) > 40 then (some (false, (⟨#[]⟩ : ByteArray), (⟨#[]⟩ : ByteArray), 0, 0, 3)) else ((strings_Repeat.f (⟨#[48]⟩ : ByteArray) t303).bind fun t304 => (if 1 + t304.size ≤ 9223372036854775807 then ((compact_shorten.f k l0 a1_0 ((⟨#[49]⟩ : ByteArray) ++ t304) (⟨#[]⟩ : ByteArray) a2).bind fun bt305 => (some (bt305.1, bt305.2.1, bt305.2.2.1, bt305.2.2.2.1, bt305.2.2.2.2.1, bt305.2.2.2.2.2))) else (none)))))))) else (some (false, (⟨#[]⟩ : ByteArray), (⟨#[]⟩ : ByteArray), 0, 0, bt296.2.2.2)))) else (some (false, (⟨#[]⟩ : ByteArray), (⟨#[]⟩ : ByteArray), 0, 0, bt291.2.2.2)))))) = some (r1, r2, r3, r4, r5, r6) := h
 clear h
 replace H := Option.bind_eq_some_iff.mp H
 obtain ⟨t289, A40, H⟩ := H
 try dsimp only at H
 have A4 := Aside0.mk A40
 clear A40
 replace H := Option.bind_eq_some_iff.mp H
 obtain ⟨t290, A50, H⟩ := H
 try dsimp only at H
 have A5 := Aside0.mk A50
 clear A50
 replace H := Option.bind_eq_some_iff.mp H
 obtain ⟨⟨t291, t292, t293, t294⟩, A60, H⟩ := H
 try dsimp only at H
 have A6 := Aside0.mk A60
 clear A60
 have HF7 := Aside0.mk H
 clear H
 go_enter Tryd.func12, Tryd.ntmps12
 go_upto_if 30 with (first | ((with_reducible refine gate_dst (N := 4) rfl ?_); refine bx_ #[.bool a1_0, .string a1_1, .string a1_2] 33 ?_; intro gb287 hg w8 hbox hb; have BK287 := Aside0.mk (hbox); have GW287 := Aside0.mk ((by rw [hg]; exact (below_size hb_) : w.heap.size ≤ gb287)); have GE287 := Aside0.mk ((by rw [hg]; exact (below_size hb_) : w.heap.size ≤ gb287)); replace HB := Aside0.mk (below_step hb_ hb); clear hb hbox hg) | ((with_reducible refine gate_dst (N := 6) rfl ?_); refine bx_ #[.bool false, .string (⟨#[]⟩ : ByteArray), .string (⟨#[]⟩ : ByteArray)] 33 ?_; intro gb288 hg w9 hbox hb; have BK288 := Aside0.mk (hbox); have GW288 := Aside0.mk ((by rw [hg]; exact (below_size hb_) : w.heap.size ≤ gb288)); have GE288 := Aside0.mk ((by rw [hg]; exact (below_size hb_) : w.heap.size ≤ gb288)); have NB287_288 := BK287.nl hg; have NB288_287 := BK287.ng hg; replace BK287 := BK287.bl hb; replace HB := Aside0.mk (below_step hb_ hb); clear hb hbox hg; have hnb10 := NB287_288.out; have hnc10 := NB288_287.out; obtain ⟨hcz11_0, hcz11_1, hcz11_2, hfz11_0, hfz11_1, hfz11_2⟩ := BK287.c3) | ((with_reducible refine gate_callee (f := 17) rfl ?_); refine gL_ (some 18) Tryd.func17 #[.slice A0 l0.length c0, .agg #[.bool a1_0, .string a1_1, .string a1_2]] ?_; (with_reducible refine (compact_find.calls k _ _ l0 a1_0 a1_1 a1_2 t289 _ ?side1 ?side2 A4.out).mono ?_); (case side1 => repeat (first | exact (Kd.C_below HR0.out HB.out) | (with_reducible refine Kd.C_alloc ?_ _) | (with_reducible refine Kd.C_drewN ?_ _) | (with_reducible refine Kd.C_drew ?_))); (case side2 => exact HC0.out); rintro e w12 ⟨rfl, hb⟩; refine ⟨_, rfl, ?_⟩; replace BK287 := BK287.bl hb; replace BK288 := BK288.bl hb; replace HB := Aside0.mk (below_step hb_ hb)) | ((with_reducible refine gate_callee (f := 18) rfl ?_); refine gL_ (some 21) Tryd.func18 #[.slice A0 l0.length c0, .int .i64 t289] ?_; (with_reducible refine (compact_shift.calls _ _ l0 t289 t290 _ ?side1 ?side2 A5.out).mono ?_); (case side1 => repeat (first | exact (Kd.C_below HR0.out HB.out) | (with_reducible refine Kd.C_alloc ?_ _) | (with_reducible refine Kd.C_drewN ?_ _) | (with_reducible refine Kd.C_drew ?_))); (case side2 => exact HC0.out); rintro e w' ⟨rfl, ⟨nd, rfl⟩⟩; refine ⟨_, rfl, ?_⟩; (try (rw [drewN_self w12]; generalize hq_ : World.drewN w12 _ = w12; have n0_ : Aside0 (w12.heap[gb287]? = some (.cells #[.bool a1_0, .string a1_1, .string a1_2] 33 (0, 0))) := ⟨by rw [← hq_]; exact BK287.out⟩; have n1_ : Aside0 (w12.heap[gb288]? = some (.cells #[.bool false, .string (⟨#[]⟩ : ByteArray), .string (⟨#[]⟩ : ByteArray)] 33 (0, 0))) := ⟨by rw [← hq_]; exact BK288.out⟩; have n2_ : Aside0 (Below w.heap.size w w12) := ⟨by rw [← hq_]; exact hb_⟩; clear BK287 BK288 HB hq_; have BK287 := n0_; have BK288 := n1_; have HB := n2_; clear n0_ n1_ n2_)); obtain ⟨hcz13_0, hcz13_1, hcz13_2, hfz13_0, hfz13_1, hfz13_2⟩ := BK287.c3) | ((with_reducible refine gate_callee (f := 19) rfl ?_); refine gL_ (some 26) Tryd.func19 #[.agg #[.bool a1_0, .string a1_1, .string a1_2], .int .i64 (wrap64 (-t290))] ?_; (with_reducible refine (decimal_Shift.calls k a1_0 a1_1 a1_2 (wrap64 (-t290)) t291 t292 t293 t294 _ A6.out).mono ?_); rintro e w14 ⟨rfl, hb⟩; refine ⟨_, rfl, ?_⟩; replace BK287 := BK287.bl hb; replace BK288 := BK288.bl hb; replace HB := Aside0.mk (below_step hb_ hb)) | ((with_reducible refine gate_dst (N := 12) rfl ?_); refine bx_ #[.bool false, .string (⟨#[]⟩ : ByteArray), .string (⟨#[]⟩ : ByteArray)] 33 ?_; intro gb295 hg w15 hbox hb; have BK295 := Aside0.mk (hbox); have GW295 := Aside0.mk ((by rw [hg]; exact (below_size hb_) : w.heap.size ≤ gb295)); have GE295 := Aside0.mk ((by rw [hg]; exact (below_size hb_) : w.heap.size ≤ gb295)); have NB287_295 := BK287.nl hg; have NB295_287 := BK287.ng hg; have NB288_295 := BK288.nl hg; have NB295_288 := BK288.ng hg; replace BK287 := BK287.bl hb; replace BK288 := BK288.bl hb; replace HB := Aside0.mk (below_step hb_ hb); clear hb hbox hg; have hnb16 := NB295_287.out; have hnc16 := NB287_295.out; have hnb17 := NB295_288.out; have hnc17 := NB288_295.out; obtain ⟨hcz18_0, hcz18_1, hcz18_2, hfz18_0, hfz18_1, hfz18_2⟩ := BK295.c3))
 (try simp only [Act.put, List.setIfInBounds_toArray, List.set_cons_zero, List.set_cons_succ])
 have H := HF7.out
 clear HF7
 by_cases c19 : t294 = 0
 ·rw [if_pos c19] at H
  have c19b0 : (t294 == 0) = true := beq_iff_eq.mpr c19
  have c19b1 : (t294 != 0) = false := bne_eq_false_iff_eq.mpr c19
  clear c19
  (first | rw [c19b0] | (simp only [i64_w, i32_w]; rw [c19b0]) | rw [c19b1] | skip)
  replace H := Option.bind_eq_some_iff.mp H
  obtain ⟨⟨t296, t297, t298, t299⟩, A200, H⟩ := H
  try dsimp only at H
  have A20 := Aside0.mk A200
  clear A200
  have HF21 := Aside0.mk H
  clear H
  have hnb22 := NB295_287.out
  have hnc22 := NB287_295.out
  have hnb23 := NB295_288.out
  have hnc23 := NB288_295.out
  obtain ⟨hcz24_0, hcz24_1, hcz24_2, hfz24_0, hfz24_1, hfz24_2⟩ := BK295.c3
  go_upto_if 40 with (first | ((with_reducible refine gate_callee (f := 20) rfl ?_); refine gL_ (some 36) Tryd.func20 #[.agg #[.bool t291, .string t292, .string t293], .int .i64 a2] ?_; (with_reducible refine (compact_rounded.calls k t291 t292 t293 a2 t296 t297 t298 t299 _ A20.out).mono ?_); rintro e w25 ⟨rfl, hb⟩; refine ⟨_, rfl, ?_⟩; replace BK287 := Aside0.mk (blk_below (g := gb287) (o := .cells #[.bool a1_0, .string a1_1, .string a1_2] 33 (0, 0)) (by refine blk_far ?_ NB287_295.out _; refine blk_far ?_ NB287_295.out _; refine blk_far ?_ NB287_295.out _; exact BK287.out) hb); replace BK288 := Aside0.mk (blk_below (g := gb288) (o := .cells #[.bool false, .string (⟨#[]⟩ : ByteArray), .string (⟨#[]⟩ : ByteArray)] 33 (0, 0)) (by refine blk_far ?_ NB288_295.out _; refine blk_far ?_ NB288_295.out _; refine blk_far ?_ NB288_295.out _; exact BK288.out) hb); replace BK295 := Aside0.mk (blk_below (g := gb295) (o := .cells #[.bool t291, .string t292, .string t293] 33 (0, 0)) (by refine blk_put (cs := #[.bool t291, .string t292, .string (⟨#[]⟩ : ByteArray)]) ?_ 2 _ rfl; refine blk_put (cs := #[.bool t291, .string (⟨#[]⟩ : ByteArray), .string (⟨#[]⟩ : ByteArray)]) ?_ 1 _ rfl; refine blk_put (cs := #[.bool false, .string (⟨#[]⟩ : ByteArray), .string (⟨#[]⟩ : ByteArray)]) ?_ 0 _ rfl; exact BK295.out) hb); replace HB := Aside0.mk (below_step hb_ hb)) | ((with_reducible refine gate_dst (N := 14) rfl ?_); refine bx_ #[.bool false, .string (⟨#[]⟩ : ByteArray), .string (⟨#[]⟩ : ByteArray)] 33 ?_; intro gb300 hg w26 hbox hb; have BK300 := Aside0.mk (hbox); have GW300 := Aside0.mk ((by rw [hg]; exact (below_size hb_) : w.heap.size ≤ gb300)); have GE300 := Aside0.mk ((by rw [hg]; exact (below_size hb_) : w.heap.size ≤ gb300)); have NB287_300 := BK287.nl hg; have NB300_287 := BK287.ng hg; have NB288_300 := BK288.nl hg; have NB300_288 := BK288.ng hg; have NB295_300 := BK295.nl hg; have NB300_295 := BK295.ng hg; replace BK287 := BK287.bl hb; replace BK288 := BK288.bl hb; replace BK295 := BK295.bl hb; replace HB := Aside0.mk (below_step hb_ hb); clear hb hbox hg; have hnb27 := NB300_287.out; have hnc27 := NB287_300.out; have hnb28 := NB300_288.out; have hnc28 := NB288_300.out; have hnb29 := NB300_295.out; have hnc29 := NB295_300.out; obtain ⟨hcz30_0, hcz30_1, hcz30_2, hfz30_0, hfz30_1, hfz30_2⟩ := BK300.c3))
  (try simp only [Act.put, List.setIfInBounds_toArray, List.set_cons_zero, List.set_cons_succ])
  have H := HF21.out
  clear HF21
  by_cases c31 : t299 = 0
  ·rw [if_pos c31] at H
   have c31b0 : (t299 == 0) = true := beq_iff_eq.mpr c31
   have c31b1 : (t299 != 0) = false := bne_eq_false_iff_eq.mpr c31
   clear c31
   (first | rw [c31b0] | (simp only [i64_w, i32_w]; rw [c31b0]) | rw [c31b1] | skip)
   replace H := Option.bind_eq_some_iff.mp H
   obtain ⟨t301, A320, H⟩ := H
   try dsimp only at H
   have A32 := Aside0.mk A320
   clear A320
   replace H := Option.bind_eq_some_iff.mp H
   obtain ⟨t302, A330, H⟩ := H
   try dsimp only at H
   have A33 := Aside0.mk A330
   clear A330
   have HF34 := Aside0.mk H
   clear H
   try go_wp2
   have n0_ : Aside0 ((((w26.setCell ⟨gb300, 0, none⟩ (.bool t296)).setCell ⟨gb300, 1, none⟩ (.string t297)).setCell ⟨gb300, 2, none⟩ (.string t298)).heap[gb287]? = some (.cells #[.bool a1_0, .string a1_1, .string a1_2] 33 (0, 0))) := ⟨by refine blk_far ?_ NB287_300.out _; refine blk_far ?_ NB287_300.out _; refine blk_far ?_ NB287_300.out _; exact BK287.out⟩
   have n1_ : Aside0 ((((w26.setCell ⟨gb300, 0, none⟩ (.bool t296)).setCell ⟨gb300, 1, none⟩ (.string t297)).setCell ⟨gb300, 2, none⟩ (.string t298)).heap[gb288]? = some (.cells #[.bool false, .string (⟨#[]⟩ : ByteArray), .string (⟨#[]⟩ : ByteArray)] 33 (0, 0))) := ⟨by refine blk_far ?_ NB288_300.out _; refine blk_far ?_ NB288_300.out _; refine blk_far ?_ NB288_300.out _; exact BK288.out⟩
   have n2_ : Aside0 ((((w26.setCell ⟨gb300, 0, none⟩ (.bool t296)).setCell ⟨gb300, 1, none⟩ (.string t297)).setCell ⟨gb300, 2, none⟩ (.string t298)).heap[gb295]? = some (.cells #[.bool t291, .string t292, .string t293] 33 (0, 0))) := ⟨by refine blk_far ?_ NB295_300.out _; refine blk_far ?_ NB295_300.out _; refine blk_far ?_ NB295_300.out _; exact BK295.out⟩
   have n3_ : Aside0 ((((w26.setCell ⟨gb300, 0, none⟩ (.bool t296)).setCell ⟨gb300, 1, none⟩ (.string t297)).setCell ⟨gb300, 2, none⟩ (.string t298)).heap[gb300]? = some (.cells #[.bool t296, .string t297, .string t298] 33 (0, 0))) := ⟨by refine blk_put (cs := #[.bool t296, .string t297, .string (⟨#[]⟩ : ByteArray)]) ?_ 2 _ rfl; refine blk_put (cs := #[.bool t296, .string (⟨#[]⟩ : ByteArray), .string (⟨#[]⟩ : ByteArray)]) ?_ 1 _ rfl; refine blk_put (cs := #[.bool false, .string (⟨#[]⟩ : ByteArray), .string (⟨#[]⟩ : ByteArray)]) ?_ 0 _ rfl; exact BK300.out⟩
   have n4_ : Aside0 (Below w.heap.size w (((w26.setCell ⟨gb300, 0, none⟩ (.bool t296)).setCell ⟨gb300, 1, none⟩ (.string t297)).setCell ⟨gb300, 2, none⟩ (.string t298))) := ⟨by repeat (first | (with_reducible first | exact HB.out | apply below_alloc | apply pw_below_drewN | apply below_drew1 | refine below_set ?_ GE287.out | refine below_set ?_ GE288.out | refine below_set ?_ GE295.out | refine below_set ?_ GE300.out) | exact HB.out)⟩
   (try clear BK287)
   (try clear BK288)
   (try clear BK295)
   (try clear BK300)
   (try clear HB)
   generalize (((w26.setCell ⟨gb300, 0, none⟩ (.bool t296)).setCell ⟨gb300, 1, none⟩ (.string t297)).setCell ⟨gb300, 2, none⟩ (.string t298)) = w35 at n0_ n1_ n2_ n3_ n4_ ⊢
   have BK287 := n0_
   have BK288 := n1_
   have BK295 := n2_
   have BK300 := n3_
   have HB := n4_
   clear n0_ n1_ n2_ n3_ n4_
   replace BK287 := Aside0.mk (blk_drew BK287.out)
   replace BK288 := Aside0.mk (blk_drew BK288.out)
   replace BK295 := Aside0.mk (blk_drew BK295.out)
   replace BK300 := Aside0.mk (blk_drew BK300.out)
   replace HB := Aside0.mk (below_drew1 HB.out)
   refine start_ (n := 5) (S := fun w' => w'.cell? ⟨gb300, 0, none⟩ = some (.bool t296) ∧ w'.cell? ⟨gb300, 1, none⟩ = some (.string t297) ∧ w'.cell? ⟨gb300, 2, none⟩ = some (.string t298) ∧ w'.cell? ⟨gb295, 0, none⟩ = some (.bool t291) ∧ w'.cell? ⟨gb295, 1, none⟩ = some (.string t292) ∧ w'.cell? ⟨gb295, 2, none⟩ = some (.string t293)) (ds := []) #[false, false, false, false, false] (by kernel_rfl) rfl rfl ⟨(blk_cell BK300.out 0).trans rfl, (blk_cell BK300.out 1).trans rfl, (blk_cell BK300.out 2).trans rfl, (blk_cell BK295.out 0).trans rfl, (blk_cell BK295.out 1).trans rfl, (blk_cell BK295.out 2).trans rfl⟩ (fun hHeld => ?_)
   generalize w35.drew = w36 at BK287 BK288 BK295 BK300 HB hHeld ⊢
   refine tk_ 0 (some 43) hHeld ?_
   refine tk_ 2 (some 45) hHeld ?_
   refine one_ (i := 1) (N := some 44) #[true, true, true, false, false] rfl rfl (by kernel_rfl) (by decide) (fun K hK => ?_)
   refine goes_ Tryd.func21 (by kernel_rfl) rfl #[.agg #[.bool t296, .string t297, .string t298]] (by rfl) rfl rfl ar_ ?_
   with_reducible refine (compact_size.calls t296 t297 t298 t301 _ A32.out).mono ?_
   rintro e w37 ⟨rfl, hb⟩
   refine ⟨_, rfl, ?_⟩
   replace BK287 := BK287.bl hb
   replace BK288 := BK288.bl hb
   replace BK295 := BK295.bl hb
   replace BK300 := BK300.bl hb
   replace HB := Aside0.mk (below_step hb_ hb)
   (try clear hb)
   (try clear hb2)
   (try clear hk)
   (try clear hi)
   refine hK.out _ _ ⟨(blk_cell BK300.out 0).trans rfl, (blk_cell BK300.out 1).trans rfl, (blk_cell BK300.out 2).trans rfl, (blk_cell BK295.out 0).trans rfl, (blk_cell BK295.out 1).trans rfl, (blk_cell BK295.out 2).trans rfl⟩ (fun hHeld => ?_)
   clear hK K
   refine norm_ (a' := ?_) ?_ ?_
   rotate_left
   ·show Act.put _ (some 44) _ = _
    simp only [Act.put, List.setIfInBounds_toArray, List.set_cons_zero, List.set_cons_succ, i64_w, i32_w]
    rfl
   refine one_ (i := 3) (N := some 46) #[true, true, true, true, false] rfl rfl (by kernel_rfl) (by decide) (fun K hK => ?_)
   refine goes_ Tryd.func21 (by kernel_rfl) rfl #[.agg #[.bool t291, .string t292, .string t293]] (by rfl) rfl rfl ar_ ?_
   with_reducible refine (compact_size.calls t291 t292 t293 t302 _ A33.out).mono ?_
   rintro e w38 ⟨rfl, hb⟩
   refine ⟨_, rfl, ?_⟩
   replace BK287 := BK287.bl hb
   replace BK288 := BK288.bl hb
   replace BK295 := BK295.bl hb
   replace BK300 := BK300.bl hb
   replace HB := Aside0.mk (below_step hb_ hb)
   (try clear hb)
   (try clear hb2)
   (try clear hk)
   (try clear hi)
   refine hK.out _ _ ⟨(blk_cell BK300.out 0).trans rfl, (blk_cell BK300.out 1).trans rfl, (blk_cell BK300.out 2).trans rfl, (blk_cell BK295.out 0).trans rfl, (blk_cell BK295.out 1).trans rfl, (blk_cell BK295.out 2).trans rfl⟩ (fun hHeld => ?_)
   clear hK K
   refine norm_ (a' := ?_) ?_ ?_
   rotate_left
   ·show Act.put _ (some 46) _ = _
    simp only [Act.put, List.setIfInBounds_toArray, List.set_cons_zero, List.set_cons_succ, i64_w, i32_w]
    rfl
   refine pr_ 4 (some 47) ?_
   refine done_ (by kernel_rfl) ?_
   go_upto_if 47 with (fail)
   have H := HF34.out
   clear HF34
   by_cases c39 : t301 ≤ t302
   ·rw [if_pos c39] at H
    have c39b0 : decide (t301 ≤ t302) = true := decide_eq_true c39
    clear c39
    (first | rw [c39b0] | (simp only [i64_w, i32_w]; rw [c39b0]) | skip)
    simp only [Option.some.injEq, Prod.mk.injEq] at H
    obtain ⟨rfl, rfl, rfl, rfl, rfl, rfl⟩ := H
    have hnb40 := NB300_287.out
    have hnc40 := NB287_300.out
    have hnb41 := NB300_288.out
    have hnc41 := NB288_300.out
    have hnb42 := NB300_295.out
    have hnc42 := NB295_300.out
    obtain ⟨hcz43_0, hcz43_1, hcz43_2, hfz43_0, hfz43_1, hfz43_2⟩ := BK300.c3
    have hnb44 := NB288_287.out
    have hnc44 := NB287_288.out
    have hnb45 := NB288_295.out
    have hnc45 := NB295_288.out
    obtain ⟨hcz46_0, hcz46_1, hcz46_2, hfz46_0, hfz46_1, hfz46_2⟩ := BK288.c3
    go_wp2
    refine bodyPost_ret (results_list (rs := [.cell 6 33, .tmp 7, .tmp 8, .tmp 9]) rfl (by simp) (.cell gb288 33 #[.bool t296, .string t297, .string t298] (0, 0) _ rfl (by refine blk_put (cs := #[.bool t296, .string t297, .string (⟨#[]⟩ : ByteArray)]) ?_ 2 _ rfl; refine blk_put (cs := #[.bool t296, .string (⟨#[]⟩ : ByteArray), .string (⟨#[]⟩ : ByteArray)]) ?_ 1 _ rfl; refine blk_put (cs := #[.bool false, .string (⟨#[]⟩ : ByteArray), .string (⟨#[]⟩ : ByteArray)]) ?_ 0 _ rfl; exact BK288.out) Tryd.underlying33 rfl (by kernel_rfl) (.tmp (.tmp (.tmp .nil))))) rfl ?_
    exact ⟨by first | rfl | (simp [errW_none, errW_some] <;> rfl) | (simp [*, errW_none, errW_some] <;> rfl) | (simp [bne_nil_]; done), by repeat (first | (with_reducible first | exact HB.out | apply below_alloc | apply pw_below_drewN | apply below_drew1 | refine below_set ?_ GE287.out | refine below_set ?_ GE288.out | refine below_set ?_ GE295.out | refine below_set ?_ GE300.out) | exact HB.out)⟩
   ·rw [if_neg c39] at H
    have c39b0 : decide (t301 ≤ t302) = false := decide_eq_false c39
    clear c39
    (first | rw [c39b0] | (simp only [i64_w, i32_w]; rw [c39b0]) | skip)
    replace H := Option.bind_eq_some_iff.mp H
    obtain ⟨t303, A470, H⟩ := H
    try dsimp only at H
    have A47 := Aside0.mk A470
    clear A470
    have HF48 := Aside0.mk H
    clear H
    have hnb49 := NB287_288.out
    have hnc49 := NB288_287.out
    have hnb50 := NB287_295.out
    have hnc50 := NB295_287.out
    have hnb51 := NB287_300.out
    have hnc51 := NB300_287.out
    obtain ⟨hcz52_0, hcz52_1, hcz52_2, hfz52_0, hfz52_1, hfz52_2⟩ := BK287.c3
    go_upto_if 55 with (first | ((with_reducible refine gate_callee (f := 21) rfl ?_); refine gL_ (some 52) Tryd.func21 #[.agg #[.bool a1_0, .string a1_1, .string a1_2]] ?_; (with_reducible refine (compact_size.calls a1_0 a1_1 a1_2 t303 _ A47.out).mono ?_); rintro e w53 ⟨rfl, hb⟩; refine ⟨_, rfl, ?_⟩; replace BK287 := BK287.bl hb; replace BK288 := BK288.bl hb; replace BK295 := BK295.bl hb; replace BK300 := BK300.bl hb; replace HB := Aside0.mk (below_step hb_ hb)))
    (try simp only [Act.put, List.setIfInBounds_toArray, List.set_cons_zero, List.set_cons_succ])
    have H := HF48.out
    clear HF48
    by_cases c54 : (wrap64 (t303 + 1)) > 40
    ·rw [if_pos c54] at H
     have c54b0 : decide (40 < (wrap64 (t303 + 1))) = true := decide_eq_true c54
     clear c54
     (first | rw [c54b0] | (simp only [i64_w, i32_w]; rw [c54b0]) | skip)
     simp only [Option.some.injEq, Prod.mk.injEq] at H
     obtain ⟨rfl, rfl, rfl, rfl, rfl, rfl⟩ := H
     have hnb55 := NB288_287.out
     have hnc55 := NB287_288.out
     have hnb56 := NB288_295.out
     have hnc56 := NB295_288.out
     have hnb57 := NB288_300.out
     have hnc57 := NB300_288.out
     obtain ⟨hcz58_0, hcz58_1, hcz58_2, hfz58_0, hfz58_1, hfz58_2⟩ := BK288.c3
     go_wp2
     refine bodyPost_ret (results_list (rs := [.cell 6 33, .tmp 7, .tmp 8, .tmp 9]) rfl (by simp) (.cell gb288 33 #[.bool false, .string (⟨#[]⟩ : ByteArray), .string (⟨#[]⟩ : ByteArray)] (0, 0) _ rfl (by refine blk_put (cs := #[.bool false, .string (⟨#[]⟩ : ByteArray), .string (⟨#[]⟩ : ByteArray)]) ?_ 2 _ rfl; refine blk_put (cs := #[.bool false, .string (⟨#[]⟩ : ByteArray), .string (⟨#[]⟩ : ByteArray)]) ?_ 1 _ rfl; refine blk_put (cs := #[.bool false, .string (⟨#[]⟩ : ByteArray), .string (⟨#[]⟩ : ByteArray)]) ?_ 0 _ rfl; exact BK288.out) Tryd.underlying33 rfl (by kernel_rfl) (.tmp (.tmp (.tmp .nil))))) rfl ?_
     exact ⟨by first | rfl | (simp [errW_none, errW_some] <;> rfl) | (simp [*, errW_none, errW_some] <;> rfl) | (simp [bne_nil_]; done), by repeat (first | (with_reducible first | exact HB.out | apply below_alloc | apply pw_below_drewN | apply below_drew1 | refine below_set ?_ GE287.out | refine below_set ?_ GE288.out | refine below_set ?_ GE295.out | refine below_set ?_ GE300.out) | exact HB.out)⟩
    ·rw [if_neg c54] at H
     have c54b0 : decide (40 < (wrap64 (t303 + 1))) = false := decide_eq_false c54
     clear c54
     (first | rw [c54b0] | (simp only [i64_w, i32_w]; rw [c54b0]) | skip)
     replace H := Option.bind_eq_some_iff.mp H
     obtain ⟨t304, A590, H⟩ := H
     try dsimp only at H
     have A59 := Aside0.mk A590
     clear A590
     by_cases c60 : 1 + t304.size ≤ 9223372036854775807
     ·rw [if_pos c60] at H
      have c60b0 := eq_true c60
      have c60b1 : decide (1 + t304.size ≤ 9223372036854775807) = true := decide_eq_true c60
      try have c60b2 : (9223372036854775807 < 1 + t304.size) = False := eq_false (Nat.not_lt.2 c60)
      replace H := Option.bind_eq_some_iff.mp H
      obtain ⟨⟨t305, t306, t307, t308, t309, t310⟩, A610, H⟩ := H
      try dsimp only at H
      have A61 := Aside0.mk A610
      clear A610
      simp only [Option.some.injEq, Prod.mk.injEq] at H
      obtain ⟨rfl, rfl, rfl, rfl, rfl, rfl⟩ := H
      try go_wp2
      replace BK287 := Aside0.mk (blk_drew BK287.out)
      replace BK288 := Aside0.mk (blk_drew BK288.out)
      replace BK295 := Aside0.mk (blk_drew BK295.out)
      replace BK300 := Aside0.mk (blk_drew BK300.out)
      replace HB := Aside0.mk (below_drew1 HB.out)
      refine start_ (n := 17) (S := fun w' => w'.cell? ⟨gb287, 0, none⟩ = some (.bool a1_0) ∧ w'.cell? ⟨gb287, 1, none⟩ = some (.string a1_1) ∧ w'.cell? ⟨gb287, 2, none⟩ = some (.string a1_2)) (ds := []) #[false, false, false, false, false, false, false, false, false, false, false, false, false, false, false, false, false] (by kernel_rfl) rfl rfl ⟨(blk_cell BK287.out 0).trans rfl, (blk_cell BK287.out 1).trans rfl, (blk_cell BK287.out 2).trans rfl⟩ (fun hHeld => ?_); refine with_tabW compact_shorten.tab14 compact_shorten.bits14 (fun HT_ HW_ => ?_)
      generalize w53.drew = w62 at BK287 BK288 BK295 BK300 HB hHeld ⊢
      refine pr_ 0 (some 57) ?_
      refine pr_ 1 (some 58) ?_
      refine pr_ 3 (some 60) ?_
      refine pr_ 7 (some 64) ?_
      refine tk_ 2 (some 59) hHeld ?_
      refine one_ (i := 4) (N := some 61) #[true, true, true, true, true, false, false, true, false, false, false, false, false, false, false, false, false] rfl rfl (one_of HT_.out (by kernel_rfl)) (by decide) (fun K hK => ?_)
      refine goes_ Tryd.func22 (by kernel_rfl) rfl #[.string (⟨#[48]⟩ : ByteArray), .int .i64 t303] (by rfl) rfl rfl ar_ ?_
      with_reducible refine (strings_Repeat.calls (⟨#[48]⟩ : ByteArray) t303 t304 _ A59.out).mono ?_
      rintro e w63 ⟨rfl, hb⟩
      refine ⟨_, rfl, ?_⟩
      replace BK287 := BK287.bl hb
      replace BK288 := BK288.bl hb
      replace BK295 := BK295.bl hb
      replace BK300 := BK300.bl hb
      replace HB := Aside0.mk (below_step hb_ hb)
      (try clear hb)
      (try clear hb2)
      (try clear hk)
      (try clear hi)
      refine hK.out _ _ ⟨(blk_cell BK287.out 0).trans rfl, (blk_cell BK287.out 1).trans rfl, (blk_cell BK287.out 2).trans rfl⟩ (fun hHeld => ?_)
      clear hK K
      refine norm_ (a' := ?_) ?_ ?_
      rotate_left
      ·show Act.put _ (some 61) _ = _
       simp only [Act.put, List.setIfInBounds_toArray, List.set_cons_zero, List.set_cons_succ, i64_w, i32_w]
       rfl
      refine pr_ 5 (some 62) ?_
      refine pr_ 6 (some 63) ?_
      refine one_ (i := 8) (N := some 65) #[true, true, true, true, true, true, true, true, true, false, false, false, false, false, false, false, false] rfl rfl (one_of HT_.out (by kernel_rfl)) (by decide) (fun K hK => ?_)
      refine goes_ Tryd.func12 (by kernel_rfl) rfl #[.slice A0 l0.length c0, .agg #[.bool a1_0, .string ((⟨#[49]⟩ : ByteArray) ++ t304), .string (⟨#[]⟩ : ByteArray)], .int .i64 a2] (by rfl) rfl rfl ar_ ?_
      with_reducible refine (ih k (by omega) _ _ l0 a1_0 ((⟨#[49]⟩ : ByteArray) ++ t304) (⟨#[]⟩ : ByteArray) a2 t305 t306 t307 t308 t309 t310 _ ?side1 ?side2 A61.out).mono ?_
      (case side1 => repeat (first | exact (Kd.C_below HR0.out HB.out) | (with_reducible refine Kd.C_alloc ?_ _) | (with_reducible refine Kd.C_drewN ?_ _) | (with_reducible refine Kd.C_drew ?_)))
      (case side2 => exact HC0.out)
      rintro e w64 ⟨rfl, hb⟩
      refine ⟨_, rfl, ?_⟩
      replace BK287 := BK287.bl hb
      replace BK288 := BK288.bl hb
      replace BK295 := BK295.bl hb
      replace BK300 := BK300.bl hb
      replace HB := Aside0.mk (below_step hb_ hb)
      (try clear hb)
      (try clear hb2)
      (try clear hk)
      (try clear hi)
      refine hK.out _ _ ⟨(blk_cell BK287.out 0).trans rfl, (blk_cell BK287.out 1).trans rfl, (blk_cell BK287.out 2).trans rfl⟩ (fun hHeld => ?_)
      clear hK K
      refine norm_ (a' := ?_) ?_ ?_
      rotate_left
      ·show Act.put _ (some 65) _ = _
       simp only [Act.put, List.setIfInBounds_toArray, List.set_cons_zero, List.set_cons_succ, i64_w, i32_w]
       rfl
      refine pr_ 9 (some 66) ?_
      refine pr_ 10 (some 67) ?_
      refine pr_ 11 (some 68) ?_
      refine pr_ 12 (some 69) ?_
      refine one_ (i := 13) (N := none) #[true, true, true, true, true, true, true, true, true, true, true, true, true, true, false, false, false] rfl rfl (one_of HT_.out (by kernel_rfl)) (by decide) (fun K hK => ?_)
      have hs65 : w64.cell? ⟨gb288, 0, none⟩ = some (.bool false) := (blk_cell BK288.out 0).trans rfl
      have hfs65 := blk_frozen BK288.out 0
      have hns65_0 := NB287_288.out
      have hns65_2 := NB295_288.out
      have hns65_3 := NB300_288.out
      have hms65_0 := NB288_287.out
      have hms65_2 := NB288_295.out
      have hms65_3 := NB288_300.out
      have hs66 : w64.cell? ⟨gb288, 1, none⟩ = some (.string (⟨#[]⟩ : ByteArray)) := (blk_cell BK288.out 1).trans rfl
      have hfs66 := blk_frozen BK288.out 1
      have hns66_0 := NB287_288.out
      have hns66_2 := NB295_288.out
      have hns66_3 := NB300_288.out
      have hms66_0 := NB288_287.out
      have hms66_2 := NB288_295.out
      have hms66_3 := NB288_300.out
      have hs67 : w64.cell? ⟨gb288, 2, none⟩ = some (.string (⟨#[]⟩ : ByteArray)) := (blk_cell BK288.out 2).trans rfl
      have hfs67 := blk_frozen BK288.out 2
      have hns67_0 := NB287_288.out
      have hns67_2 := NB295_288.out
      have hns67_3 := NB300_288.out
      have hms67_0 := NB288_287.out
      have hms67_2 := NB288_295.out
      have hms67_3 := NB288_300.out
      refine skip_ (w1 := ?_) (by rfl) rfl ?_ ?_
      rotate_left
      ·go_simp
       rfl
      refine hK.out _ _ ⟨((cell_far (p := ⟨gb288, _, none⟩) NB287_288.out _).trans (((cell_far (p := ⟨gb288, _, none⟩) NB287_288.out _).trans (((cell_far (p := ⟨gb288, _, none⟩) NB287_288.out _).trans (hHeld.1)))))), ((cell_far (p := ⟨gb288, _, none⟩) NB287_288.out _).trans (((cell_far (p := ⟨gb288, _, none⟩) NB287_288.out _).trans (((cell_far (p := ⟨gb288, _, none⟩) NB287_288.out _).trans (hHeld.2.1)))))), ((cell_far (p := ⟨gb288, _, none⟩) NB287_288.out _).trans (((cell_far (p := ⟨gb288, _, none⟩) NB287_288.out _).trans (((cell_far (p := ⟨gb288, _, none⟩) NB287_288.out _).trans (hHeld.2.2))))))⟩ (fun hHeld => ?_)
      clear hK K
      refine pr_ 14 (some 7) ?_
      refine pr_ 15 (some 8) ?_
      refine pr_ 16 (some 9) ?_
      refine done_ (done_of HT_.out (by kernel_rfl)) ?_
      (try clear hms67_3 hms67_2 hms67_0 hns67_3 hns67_2 hns67_0 hfs67 hs67 hms66_3 hms66_2 hms66_0 hns66_3 hns66_2 hns66_0 hfs66 hs66 hms65_3 hms65_2 hms65_0 hns65_3 hns65_2 hns65_0 hfs65 hs65)
      have n0_ : Aside0 ((((w64.setCell ⟨gb288, 0, none⟩ (.bool t305)).setCell ⟨gb288, 1, none⟩ (.string t306)).setCell ⟨gb288, 2, none⟩ (.string t307)).heap[gb287]? = some (.cells #[.bool a1_0, .string a1_1, .string a1_2] 33 (0, 0))) := ⟨by refine blk_far ?_ NB287_288.out _; refine blk_far ?_ NB287_288.out _; refine blk_far ?_ NB287_288.out _; exact BK287.out⟩
      have n1_ : Aside0 ((((w64.setCell ⟨gb288, 0, none⟩ (.bool t305)).setCell ⟨gb288, 1, none⟩ (.string t306)).setCell ⟨gb288, 2, none⟩ (.string t307)).heap[gb288]? = some (.cells #[.bool t305, .string t306, .string t307] 33 (0, 0))) := ⟨by refine blk_put (cs := #[.bool t305, .string t306, .string (⟨#[]⟩ : ByteArray)]) ?_ 2 _ rfl; refine blk_put (cs := #[.bool t305, .string (⟨#[]⟩ : ByteArray), .string (⟨#[]⟩ : ByteArray)]) ?_ 1 _ rfl; refine blk_put (cs := #[.bool false, .string (⟨#[]⟩ : ByteArray), .string (⟨#[]⟩ : ByteArray)]) ?_ 0 _ rfl; exact BK288.out⟩
      have n2_ : Aside0 ((((w64.setCell ⟨gb288, 0, none⟩ (.bool t305)).setCell ⟨gb288, 1, none⟩ (.string t306)).setCell ⟨gb288, 2, none⟩ (.string t307)).heap[gb295]? = some (.cells #[.bool t291, .string t292, .string t293] 33 (0, 0))) := ⟨by refine blk_far ?_ NB295_288.out _; refine blk_far ?_ NB295_288.out _; refine blk_far ?_ NB295_288.out _; exact BK295.out⟩
      have n3_ : Aside0 ((((w64.setCell ⟨gb288, 0, none⟩ (.bool t305)).setCell ⟨gb288, 1, none⟩ (.string t306)).setCell ⟨gb288, 2, none⟩ (.string t307)).heap[gb300]? = some (.cells #[.bool t296, .string t297, .string t298] 33 (0, 0))) := ⟨by refine blk_far ?_ NB300_288.out _; refine blk_far ?_ NB300_288.out _; refine blk_far ?_ NB300_288.out _; exact BK300.out⟩
      have n4_ : Aside0 (Below w.heap.size w (((w64.setCell ⟨gb288, 0, none⟩ (.bool t305)).setCell ⟨gb288, 1, none⟩ (.string t306)).setCell ⟨gb288, 2, none⟩ (.string t307))) := ⟨by repeat (first | (with_reducible first | exact HB.out | apply below_alloc | apply pw_below_drewN | apply below_drew1 | refine below_set ?_ GE287.out | refine below_set ?_ GE288.out | refine below_set ?_ GE295.out | refine below_set ?_ GE300.out) | exact HB.out)⟩
      (try clear BK287)
      (try clear BK288)
      (try clear BK295)
      (try clear BK300)
      (try clear HB)
      generalize (((w64.setCell ⟨gb288, 0, none⟩ (.bool t305)).setCell ⟨gb288, 1, none⟩ (.string t306)).setCell ⟨gb288, 2, none⟩ (.string t307)) = w68 at n0_ n1_ n2_ n3_ n4_ ⊢
      have BK287 := n0_
      have BK288 := n1_
      have BK295 := n2_
      have BK300 := n3_
      have HB := n4_
      clear n0_ n1_ n2_ n3_ n4_
      try go_wp2
      refine bodyPost_ret (results_list (rs := [.cell 6 33, .tmp 7, .tmp 8, .tmp 9]) rfl (by simp) (.cell gb288 33 #[.bool t305, .string t306, .string t307] (0, 0) _ rfl BK288.out Tryd.underlying33 rfl (by kernel_rfl) (.tmp (.tmp (.tmp .nil))))) rfl ?_
      exact ⟨by first | rfl | (simp [errW_none, errW_some] <;> rfl) | (simp [*, errW_none, errW_some] <;> rfl) | (simp [bne_nil_]; done), by repeat (first | (with_reducible first | exact HB.out | apply below_alloc | apply pw_below_drewN | apply below_drew1 | refine below_set ?_ GE287.out | refine below_set ?_ GE288.out | refine below_set ?_ GE295.out | refine below_set ?_ GE300.out) | exact HB.out)⟩
     ·rw [if_neg c60] at H
      exact absurd H (by simp)
  ·rw [if_neg c31] at H
   have c31b0 : (t299 == 0) = false := beq_eq_false_iff_ne.mpr c31
   have c31b1 : (t299 != 0) = true := bne_iff_ne.mpr c31
   (first | rw [c31b0] | (simp only [i64_w, i32_w]; rw [c31b0]) | rw [c31b1] | skip)
   simp only [Option.some.injEq, Prod.mk.injEq] at H
   obtain ⟨rfl, rfl, rfl, rfl, rfl, rfl⟩ := H
   have hnb69 := NB288_287.out
   have hnc69 := NB287_288.out
   have hnb70 := NB288_295.out
   have hnc70 := NB295_288.out
   have hnb71 := NB288_300.out
   have hnc71 := NB300_288.out
   obtain ⟨hcz72_0, hcz72_1, hcz72_2, hfz72_0, hfz72_1, hfz72_2⟩ := BK288.c3
   go_wp2
   refine bodyPost_ret (results_list (rs := [.cell 6 33, .tmp 7, .tmp 8, .tmp 9]) rfl (by simp) (.cell gb288 33 #[.bool false, .string (⟨#[]⟩ : ByteArray), .string (⟨#[]⟩ : ByteArray)] (0, 0) _ rfl (by refine blk_put (cs := #[.bool false, .string (⟨#[]⟩ : ByteArray), .string (⟨#[]⟩ : ByteArray)]) ?_ 2 _ rfl; refine blk_put (cs := #[.bool false, .string (⟨#[]⟩ : ByteArray), .string (⟨#[]⟩ : ByteArray)]) ?_ 1 _ rfl; refine blk_put (cs := #[.bool false, .string (⟨#[]⟩ : ByteArray), .string (⟨#[]⟩ : ByteArray)]) ?_ 0 _ rfl; refine blk_far ?_ NB288_300.out _; refine blk_far ?_ NB288_300.out _; refine blk_far ?_ NB288_300.out _; exact BK288.out) Tryd.underlying33 rfl (by kernel_rfl) (.tmp (.tmp (.tmp .nil))))) rfl ?_
   exact ⟨by first | rfl | (simp [errW_none, errW_some] <;> rfl) | (simp [*, errW_none, errW_some] <;> rfl) | (simp [bne_nil_]; done), by repeat (first | (with_reducible first | exact HB.out | apply below_alloc | apply pw_below_drewN | apply below_drew1 | refine below_set ?_ GE287.out | refine below_set ?_ GE288.out | refine below_set ?_ GE295.out | refine below_set ?_ GE300.out) | exact HB.out)⟩
 ·rw [if_neg c19] at H
  have c19b0 : (t294 == 0) = false := beq_eq_false_iff_ne.mpr c19
  have c19b1 : (t294 != 0) = true := bne_iff_ne.mpr c19
  (first | rw [c19b0] | (simp only [i64_w, i32_w]; rw [c19b0]) | rw [c19b1] | skip)
  simp only [Option.some.injEq, Prod.mk.injEq] at H
  obtain ⟨rfl, rfl, rfl, rfl, rfl, rfl⟩ := H
  have hnb73 := NB288_287.out
  have hnc73 := NB287_288.out
  have hnb74 := NB288_295.out
  have hnc74 := NB295_288.out
  obtain ⟨hcz75_0, hcz75_1, hcz75_2, hfz75_0, hfz75_1, hfz75_2⟩ := BK288.c3
  go_wp2
  refine bodyPost_ret (results_list (rs := [.cell 6 33, .tmp 7, .tmp 8, .tmp 9]) rfl (by simp) (.cell gb288 33 #[.bool false, .string (⟨#[]⟩ : ByteArray), .string (⟨#[]⟩ : ByteArray)] (0, 0) _ rfl (by refine blk_put (cs := #[.bool false, .string (⟨#[]⟩ : ByteArray), .string (⟨#[]⟩ : ByteArray)]) ?_ 2 _ rfl; refine blk_put (cs := #[.bool false, .string (⟨#[]⟩ : ByteArray), .string (⟨#[]⟩ : ByteArray)]) ?_ 1 _ rfl; refine blk_put (cs := #[.bool false, .string (⟨#[]⟩ : ByteArray), .string (⟨#[]⟩ : ByteArray)]) ?_ 0 _ rfl; refine blk_far ?_ NB288_295.out _; refine blk_far ?_ NB288_295.out _; refine blk_far ?_ NB288_295.out _; exact BK288.out) Tryd.underlying33 rfl (by kernel_rfl) (.tmp (.tmp (.tmp .nil))))) rfl ?_
  exact ⟨by first | rfl | (simp [errW_none, errW_some] <;> rfl) | (simp [*, errW_none, errW_some] <;> rfl) | (simp [bne_nil_]; done), by repeat (first | (with_reducible first | exact HB.out | apply below_alloc | apply pw_below_drewN | apply below_drew1 | refine below_set ?_ GE287.out | refine below_set ?_ GE288.out | refine below_set ?_ GE295.out) | exact HB.out)⟩
end Go.Proofs.YtahlkcnecgihbaaDoor.P
namespace Go.Proofs.YtahlkcnecgihbaaDoor.P
open Go.RowKit Go.Proofs.YtahlkcnecgihbaaDoorW.PrintWords Go.Proofs.YtahlkcnecgihbaaDoorW.PrintLast Go.Proofs.YtahlkcnecgihbaaDoorW.PrintMore
attribute [local go_sem] max2_int max_two
set_option linter.unusedVariables false
set_option linter.unusedSimpArgs false
def compact_Shorten.f (k : Nat) (l0 : List (S27)) (a1_0 : Bool) (a1_1 : ByteArray) (a1_2 : ByteArray) (a2 : Int) : Option (Bool × ByteArray × ByteArray × Int × Int) := (compact_Check.f k l0).bind fun t313 => (if t313 = 0 then ((compact_asked.f k a1_0 a1_1 a1_2 a2).bind fun t314 => (if t314 = 0 then ((compact_shorten.f k l0 a1_0 a1_1 a1_2 a2).bind fun bt315 => (some (bt315.1, bt315.2.1, bt315.2.2.1, bt315.2.2.2.1, bt315.2.2.2.2.2))) else (some (false, (⟨#[]⟩ : ByteArray), (⟨#[]⟩ : ByteArray), 0, t314)))) else (some (false, (⟨#[]⟩ : ByteArray), (⟨#[]⟩ : ByteArray), 0, t313)))
theorem compact_Shorten.mono : ∀ a0 a1 a2 a3 a4 k, LeO (compact_Shorten.f k a0 a1 a2 a3 a4) (compact_Shorten.f (k + 1) a0 a1 a2 a3 a4) := by
 intro a0 a1 a2 a3 a4 k
 unfold compact_Shorten.f
 repeat' first
   | (with_reducible exact compact_Check.mono _ _)
   | (with_reducible exact compact_asked.mono _ _ _ _ _)
   | (with_reducible exact compact_shorten.mono _ _ _ _ _ _)
   | (with_reducible exact LeO.refl _)
   | (with_reducible exact LeO.none _)
   | (with_reducible refine LeO.ite ?_ ?_)
   | (with_reducible refine LeO.bind ?_ (fun _ => ?_))
   | exact compact_Check.mono _ _
   | exact compact_asked.mono _ _ _ _ _
   | exact compact_shorten.mono _ _ _ _ _ _
   | exact LeO.none _
   | refine LeO.ite ?_ ?_
   | refine LeO.bind ?_ (fun _ => ?_)
set_option maxHeartbeats 8000000 in
set_option maxRecDepth 100000 in
theorem compact_Shorten.calls (k : Nat) (A0 : Option Addr) (c0 : Nat) (l0 : List (S27)) (a1_0 : Bool) (a1_1 : ByteArray) (a1_2 : ByteArray) (a2 : Int) (r1 : Bool) (r2 : ByteArray) (r3 : ByteArray) (r4 : Int) (r5 : Int) (w : World) (hr0 : Kd.C k27 w A0 l0.length l0) (hc0 : l0.length ≤ c0) (h : compact_Shorten.f k l0 a1_0 a1_1 a1_2 a2 = some (r1, r2, r3, r4, r5)) :
    Calls Tryd.prog 9 #[.slice A0 l0.length c0, .agg #[.bool a1_0, .string a1_1, .string a1_2], .int .i64 a2] w fun e w' => e = .returned (.tuple #[.agg #[.bool r1, .string r2, .string r3], .int .i64 r4, .int .i64 r5]) ∧ Below w.heap.size w w' := by
 have hu33 := Tryd.underlying33
 have HR0 := Aside0.mk hr0
 have HC0 := Aside0.mk hc0
 clear hr0 hc0
 have HB := Aside0.mk (Below.refl w.heap.size w)
 unfold compact_Shorten.f at h
 have H := h
 clear h
 replace H := Option.bind_eq_some_iff.mp H
 obtain ⟨t313, A40, H⟩ := H
 try dsimp only at H
 have A4 := Aside0.mk A40
 clear A40
 have HF5 := Aside0.mk H
 clear H
 go_enter Tryd.func9, Tryd.ntmps9
 go_upto_if 18 with (first | ((with_reducible refine gate_dst (N := 4) rfl ?_); refine bx_ #[.bool a1_0, .string a1_1, .string a1_2] 33 ?_; intro gb311 hg w6 hbox hb; have BK311 := Aside0.mk (hbox); have GW311 := Aside0.mk ((by rw [hg]; exact (below_size hb_) : w.heap.size ≤ gb311)); have GE311 := Aside0.mk ((by rw [hg]; exact (below_size hb_) : w.heap.size ≤ gb311)); replace HB := Aside0.mk (below_step hb_ hb); clear hb hbox hg) | ((with_reducible refine gate_dst (N := 6) rfl ?_); refine bx_ #[.bool false, .string (⟨#[]⟩ : ByteArray), .string (⟨#[]⟩ : ByteArray)] 33 ?_; intro gb312 hg w7 hbox hb; have BK312 := Aside0.mk (hbox); have GW312 := Aside0.mk ((by rw [hg]; exact (below_size hb_) : w.heap.size ≤ gb312)); have GE312 := Aside0.mk ((by rw [hg]; exact (below_size hb_) : w.heap.size ≤ gb312)); have NB311_312 := BK311.nl hg; have NB312_311 := BK311.ng hg; replace BK311 := BK311.bl hb; replace HB := Aside0.mk (below_step hb_ hb); clear hb hbox hg) | ((with_reducible refine gate_callee (f := 5) rfl ?_); refine gL_ (some 16) Tryd.func5 #[.slice A0 l0.length c0] ?_; (with_reducible refine (compact_Check.calls k _ _ l0 t313 _ ?side1 ?side2 A4.out).mono ?_); (case side1 => repeat (first | exact (Kd.C_below HR0.out HB.out) | (with_reducible refine Kd.C_alloc ?_ _) | (with_reducible refine Kd.C_drewN ?_ _) | (with_reducible refine Kd.C_drew ?_))); (case side2 => exact HC0.out); rintro e w8 ⟨rfl, hb⟩; refine ⟨_, rfl, ?_⟩; replace BK311 := BK311.bl hb; replace BK312 := BK312.bl hb; replace HB := Aside0.mk (below_step hb_ hb)))
 (try simp only [Act.put, List.setIfInBounds_toArray, List.set_cons_zero, List.set_cons_succ])
 have H := HF5.out
 clear HF5
 by_cases c9 : t313 = 0
 ·rw [if_pos c9] at H
  have c9b0 : (t313 == 0) = true := beq_iff_eq.mpr c9
  have c9b1 : (t313 != 0) = false := bne_eq_false_iff_eq.mpr c9
  clear c9
  (first | rw [c9b0] | (simp only [i64_w, i32_w]; rw [c9b0]) | rw [c9b1] | skip)
  replace H := Option.bind_eq_some_iff.mp H
  obtain ⟨t314, A100, H⟩ := H
  try dsimp only at H
  have A10 := Aside0.mk A100
  clear A100
  have HF11 := Aside0.mk H
  clear H
  have hnb12 := NB311_312.out
  have hnc12 := NB312_311.out
  obtain ⟨hcz13_0, hcz13_1, hcz13_2, hfz13_0, hfz13_1, hfz13_2⟩ := BK311.c3
  go_upto_if 25 with (first | ((with_reducible refine gate_callee (f := 11) rfl ?_); refine gL_ (some 23) Tryd.func11 #[.agg #[.bool a1_0, .string a1_1, .string a1_2], .int .i64 a2] ?_; (with_reducible refine (compact_asked.calls k a1_0 a1_1 a1_2 a2 t314 _ A10.out).mono ?_); rintro e w14 ⟨rfl, hb⟩; refine ⟨_, rfl, ?_⟩; replace BK311 := BK311.bl hb; replace BK312 := BK312.bl hb; replace HB := Aside0.mk (below_step hb_ hb)))
  (try simp only [Act.put, List.setIfInBounds_toArray, List.set_cons_zero, List.set_cons_succ])
  have H := HF11.out
  clear HF11
  by_cases c15 : t314 = 0
  ·rw [if_pos c15] at H
   have c15b0 : (t314 == 0) = true := beq_iff_eq.mpr c15
   have c15b1 : (t314 != 0) = false := bne_eq_false_iff_eq.mpr c15
   clear c15
   (first | rw [c15b0] | (simp only [i64_w, i32_w]; rw [c15b0]) | rw [c15b1] | skip)
   replace H := Option.bind_eq_some_iff.mp H
   obtain ⟨⟨t315, t316, t317, t318, t319, t320⟩, A160, H⟩ := H
   try dsimp only at H
   have A16 := Aside0.mk A160
   clear A160
   simp only [Option.some.injEq, Prod.mk.injEq] at H
   obtain ⟨rfl, rfl, rfl, rfl, rfl⟩ := H
   have hnb17 := NB311_312.out
   have hnc17 := NB312_311.out
   obtain ⟨hcz18_0, hcz18_1, hcz18_2, hfz18_0, hfz18_1, hfz18_2⟩ := BK311.c3
   go_wp2_with (first | ((with_reducible refine gate_callee (f := 12) rfl ?_); refine gL_ (some 32) Tryd.func12 #[.slice A0 l0.length c0, .agg #[.bool a1_0, .string a1_1, .string a1_2], .int .i64 a2] ?_; (with_reducible refine (compact_shorten.calls k _ _ l0 a1_0 a1_1 a1_2 a2 t315 t316 t317 t318 t319 t320 _ ?side1 ?side2 A16.out).mono ?_); (case side1 => repeat (first | exact (Kd.C_below HR0.out HB.out) | (with_reducible refine Kd.C_alloc ?_ _) | (with_reducible refine Kd.C_drewN ?_ _) | (with_reducible refine Kd.C_drew ?_))); (case side2 => exact HC0.out); rintro e w19 ⟨rfl, hb⟩; refine ⟨_, rfl, ?_⟩; replace BK311 := BK311.bl hb; replace BK312 := BK312.bl hb; replace HB := Aside0.mk (below_step hb_ hb)) | ((with_reducible refine gate_dst (N := 11) rfl ?_); refine bx_ #[.bool false, .string (⟨#[]⟩ : ByteArray), .string (⟨#[]⟩ : ByteArray)] 33 ?_; intro gb321 hg w20 hbox hb; have BK321 := Aside0.mk (hbox); have GW321 := Aside0.mk ((by rw [hg]; exact (below_size hb_) : w.heap.size ≤ gb321)); have GE321 := Aside0.mk ((by rw [hg]; exact (below_size hb_) : w.heap.size ≤ gb321)); have NB311_321 := BK311.nl hg; have NB321_311 := BK311.ng hg; have NB312_321 := BK312.nl hg; have NB321_312 := BK312.ng hg; replace BK311 := BK311.bl hb; replace BK312 := BK312.bl hb; replace HB := Aside0.mk (below_step hb_ hb); clear hb hbox hg; have hnb21 := NB321_311.out; have hnc21 := NB311_321.out; have hnb22 := NB321_312.out; have hnc22 := NB312_321.out; obtain ⟨hcz23_0, hcz23_1, hcz23_2, hfz23_0, hfz23_1, hfz23_2⟩ := BK321.c3; obtain ⟨hcz24_0, hcz24_1, hcz24_2, hfz24_0, hfz24_1, hfz24_2⟩ := BK312.c3))
   refine bodyPost_ret (results_ctt rfl _ _ gb312 33 #[.bool t315, .string t316, .string t317] (0, 0) _ rfl (by refine blk_put (cs := #[.bool t315, .string t316, .string (⟨#[]⟩ : ByteArray)]) ?_ 2 _ rfl; refine blk_put (cs := #[.bool t315, .string (⟨#[]⟩ : ByteArray), .string (⟨#[]⟩ : ByteArray)]) ?_ 1 _ rfl; refine blk_put (cs := #[.bool false, .string (⟨#[]⟩ : ByteArray), .string (⟨#[]⟩ : ByteArray)]) ?_ 0 _ rfl; refine blk_far ?_ NB312_321.out _; refine blk_far ?_ NB312_321.out _; refine blk_far ?_ NB312_321.out _; exact BK312.out) Tryd.underlying33 rfl (by kernel_rfl)) rfl ?_
   exact ⟨by first | rfl | (simp [errW_none, errW_some] <;> rfl) | (simp [*, errW_none, errW_some] <;> rfl) | (simp [bne_nil_]; done), by repeat (first | (with_reducible first | exact HB.out | apply below_alloc | apply pw_below_drewN | apply below_drew1 | refine below_set ?_ GE311.out | refine below_set ?_ GE312.out | refine below_set ?_ GE321.out) | exact HB.out)⟩
  ·rw [if_neg c15] at H
   have c15b0 : (t314 == 0) = false := beq_eq_false_iff_ne.mpr c15
   have c15b1 : (t314 != 0) = true := bne_iff_ne.mpr c15
   (first | rw [c15b0] | (simp only [i64_w, i32_w]; rw [c15b0]) | rw [c15b1] | skip)
   simp only [Option.some.injEq, Prod.mk.injEq] at H
   obtain ⟨rfl, rfl, rfl, rfl, rfl⟩ := H
   have hnb25 := NB312_311.out
   have hnc25 := NB311_312.out
   obtain ⟨hcz26_0, hcz26_1, hcz26_2, hfz26_0, hfz26_1, hfz26_2⟩ := BK312.c3
   go_wp2
   refine bodyPost_ret (results_ctt rfl _ _ gb312 33 #[.bool false, .string (⟨#[]⟩ : ByteArray), .string (⟨#[]⟩ : ByteArray)] (0, 0) _ rfl (by refine blk_put (cs := #[.bool false, .string (⟨#[]⟩ : ByteArray), .string (⟨#[]⟩ : ByteArray)]) ?_ 2 _ rfl; refine blk_put (cs := #[.bool false, .string (⟨#[]⟩ : ByteArray), .string (⟨#[]⟩ : ByteArray)]) ?_ 1 _ rfl; refine blk_put (cs := #[.bool false, .string (⟨#[]⟩ : ByteArray), .string (⟨#[]⟩ : ByteArray)]) ?_ 0 _ rfl; exact BK312.out) Tryd.underlying33 rfl (by kernel_rfl)) rfl ?_
   exact ⟨by first | rfl | (simp [errW_none, errW_some] <;> rfl) | (simp [*, errW_none, errW_some] <;> rfl) | (simp [bne_nil_]; done), by repeat (first | (with_reducible first | exact HB.out | apply below_alloc | apply pw_below_drewN | apply below_drew1 | refine below_set ?_ GE311.out | refine below_set ?_ GE312.out) | exact HB.out)⟩
 ·rw [if_neg c9] at H
  have c9b0 : (t313 == 0) = false := beq_eq_false_iff_ne.mpr c9
  have c9b1 : (t313 != 0) = true := bne_iff_ne.mpr c9
  (first | rw [c9b0] | (simp only [i64_w, i32_w]; rw [c9b0]) | rw [c9b1] | skip)
  simp only [Option.some.injEq, Prod.mk.injEq] at H
  obtain ⟨rfl, rfl, rfl, rfl, rfl⟩ := H
  have hnb27 := NB312_311.out
  have hnc27 := NB311_312.out
  obtain ⟨hcz28_0, hcz28_1, hcz28_2, hfz28_0, hfz28_1, hfz28_2⟩ := BK312.c3
  go_wp2
  refine bodyPost_ret (results_ctt rfl _ _ gb312 33 #[.bool false, .string (⟨#[]⟩ : ByteArray), .string (⟨#[]⟩ : ByteArray)] (0, 0) _ rfl (by refine blk_put (cs := #[.bool false, .string (⟨#[]⟩ : ByteArray), .string (⟨#[]⟩ : ByteArray)]) ?_ 2 _ rfl; refine blk_put (cs := #[.bool false, .string (⟨#[]⟩ : ByteArray), .string (⟨#[]⟩ : ByteArray)]) ?_ 1 _ rfl; refine blk_put (cs := #[.bool false, .string (⟨#[]⟩ : ByteArray), .string (⟨#[]⟩ : ByteArray)]) ?_ 0 _ rfl; exact BK312.out) Tryd.underlying33 rfl (by kernel_rfl)) rfl ?_
  exact ⟨by first | rfl | (simp [errW_none, errW_some] <;> rfl) | (simp [*, errW_none, errW_some] <;> rfl) | (simp [bne_nil_]; done), by repeat (first | (with_reducible first | exact HB.out | apply below_alloc | apply pw_below_drewN | apply below_drew1 | refine below_set ?_ GE311.out | refine below_set ?_ GE312.out) | exact HB.out)⟩
end Go.Proofs.YtahlkcnecgihbaaDoor.P
namespace Go.Proofs.YtahlkcnecgihbaaDoor.P
open Go.RowKit Go.Proofs.YtahlkcnecgihbaaDoorW.PrintWords Go.Proofs.YtahlkcnecgihbaaDoorW.PrintLast Go.Proofs.YtahlkcnecgihbaaDoorW.PrintMore
attribute [local go_sem] max2_int max_two
set_option linter.unusedVariables false
set_option linter.unusedSimpArgs false
attribute [local go_sem high] eqA33
def idiomlaw11_awake.f (k : Nat)  : Option (Bool) := (compact_Shorten.f k (([(⟨3, 0, 1, (⟨#[]⟩ : ByteArray), (⟨#[75]⟩ : ByteArray)⟩ : S27)] : List (S27))) false (⟨#[49, 50, 48, 48]⟩ : ByteArray) (⟨#[]⟩ : ByteArray) 7).bind fun bt325 => (if bt325.2.2.2.2 = 0 then (if bt325.2.2.2.1 = 3 then (some (!bt325.1 && (bt325.2.1.toList == ([49] : List UInt8) && (bt325.2.2.1.toList == ([50] : List UInt8))))) else (some false)) else (some false))
theorem idiomlaw11_awake.mono : ∀ k, LeO (idiomlaw11_awake.f k ) (idiomlaw11_awake.f (k + 1) ) := by
 intro  k
 unfold idiomlaw11_awake.f
 repeat' first
   | (with_reducible exact compact_Shorten.mono _ _ _ _ _ _)
   | (with_reducible exact LeO.refl _)
   | (with_reducible exact LeO.none _)
   | (with_reducible refine LeO.ite ?_ ?_)
   | (with_reducible refine LeO.bind ?_ (fun _ => ?_))
   | exact compact_Shorten.mono _ _ _ _ _ _
   | exact LeO.none _
   | refine LeO.ite ?_ ?_
   | refine LeO.bind ?_ (fun _ => ?_)
set_option maxHeartbeats 8000000 in
set_option maxRecDepth 100000 in
theorem idiomlaw11_awake.calls (k : Nat)  (r : Bool) (w : World) (h : idiomlaw11_awake.f k  = some r) :
    Calls Tryd.prog 7 #[] w fun e w' => e = .returned (.bool r) ∧ Below w.heap.size w w' := by
 have hu27 := Tryd.underlying27
 have hu33 := Tryd.underlying33
 have HB := Aside0.mk (Below.refl w.heap.size w)
 unfold idiomlaw11_awake.f at h
 have H := h
 clear h
 obtain ⟨y322, hy322⟩ : ∃ y_ : List (S27), y_ = (([(⟨3, 0, 1, (⟨#[]⟩ : ByteArray), (⟨#[75]⟩ : ByteArray)⟩ : S27)] : List (S27))) := ⟨_, rfl⟩
 rw [← hy322] at H
 have Ny322 := Aside0.mk hy322
 clear hy322
 replace H := Option.bind_eq_some_iff.mp H
 obtain ⟨⟨t325, t326, t327, t328, t329⟩, A10, H⟩ := H
 try dsimp only at H
 have A1 := Aside0.mk A10
 clear A10
 by_cases c2 : t329 = 0
 ·rw [if_pos c2] at H
  have c2b0 : (t329 == 0) = true := beq_iff_eq.mpr c2
  have c2b1 : (t329 != 0) = false := bne_eq_false_iff_eq.mpr c2
  clear c2
  by_cases c3 : t328 = 3
  ·rw [if_pos c3] at H
   have c3b0 : (t328 == 3) = true := beq_iff_eq.mpr c3
   have c3b1 : (t328 != 3) = false := bne_eq_false_iff_eq.mpr c3
   clear c3
   obtain rfl := Option.some.inj H
   go_enter Tryd.func7, Tryd.ntmps7
   go_wp2_with (first | ((with_reducible refine gate_dst (N := 6) rfl ?_); refine Kd.R_lit k27 _ 27 ?hg (N := 6) ?hd (xs := ([(⟨3, 0, 1, (⟨#[]⟩ : ByteArray), (⟨#[75]⟩ : ByteArray)⟩ : S27)] : List (S27))) (inner := [.int .i64 3, .int .i64 0, .int .i64 1, .string (⟨#[]⟩ : ByteArray), .string (⟨#[75]⟩ : ByteArray)]) (ok := fun _ => True) (okp := fun _ => True) ?hr ?hp (fun _ hk => hk) trivial (Below.refl _ _) (Nat.le_refl _) (by simp) ?_; (case hd => rfl); (case hg => rfl); (case hr => first | (go_simp; done) | (go_simp; rfl)); (case hp => exact (Reps.c5 (show Kd.M k27 _ _ _ (⟨3, 0, 1, (⟨#[]⟩ : ByteArray), (⟨#[75]⟩ : ByteArray)⟩ : S27) [.int .i64 3, .int .i64 0, .int .i64 1, .string (⟨#[]⟩ : ByteArray), .string (⟨#[75]⟩ : ByteArray)] from (k27_mkM _ _ _ (⟨3, 0, 1, (⟨#[]⟩ : ByteArray), (⟨#[75]⟩ : ByteArray)⟩ : S27) )) (Reps.none _ _))); intro v323 w4 ho5 hb hg_ hnew_; clear hg_ hnew_; (first | rw [← Ny322.out] at ho5 | (simp only [Int.reduceToNat] at ho5; rw [← Ny322.out] at ho5)); have HO324 := Aside0.mk (Kd.R_lower ho5 (below_size hb_)); replace HB := Aside0.mk (below_step hb_ hb); clear hb ho5; obtain ⟨Ao6, co6, eo6⟩ := Kd.R_slice HO324.out; subst eo6) | ((with_reducible refine gate_callee (f := 9) rfl ?_); refine gL_ (some 8) Tryd.func9 #[.slice Ao6 y322.length co6, .agg #[.bool false, .string (⟨#[49, 50, 48, 48]⟩ : ByteArray), .string (⟨#[]⟩ : ByteArray)], .int .i64 7] ?_; (with_reducible refine (compact_Shorten.calls k _ _ y322 false (⟨#[49, 50, 48, 48]⟩ : ByteArray) (⟨#[]⟩ : ByteArray) 7 t325 t326 t327 t328 t329 _ ?side1 ?side2 A1.out).mono ?_); (case side1 => repeat (first | exact (Kd.R_reads' HO324.out).2.2 | (with_reducible refine Kd.C_alloc ?_ _) | (with_reducible refine Kd.C_drewN ?_ _) | (with_reducible refine Kd.C_drew ?_))); (case side2 => exact (Kd.R_reads' HO324.out).2.1); rintro e w7 ⟨rfl, hb⟩; refine ⟨_, rfl, ?_⟩; replace HO324 := Aside0.mk (Kd.R_below (by (with_reducible repeat (first | apply Kd.R_alloc | apply Kd.R_drewN | apply Kd.R_drew)); exact HO324.out) hb); replace HB := Aside0.mk (below_step hb_ hb)) | ((with_reducible refine gate_dst (N := 1) rfl ?_); refine bx_ #[.bool false, .string (⟨#[]⟩ : ByteArray), .string (⟨#[]⟩ : ByteArray)] 33 ?_; intro gb330 hg w8 hbox hb; have BK330 := Aside0.mk (hbox); have GW330 := Aside0.mk ((by rw [hg]; exact (below_size hb_) : w.heap.size ≤ gb330)); have GE330 := Aside0.mk ((by rw [hg]; exact (below_size hb_) : w.heap.size ≤ gb330)); replace HO324 := Aside0.mk (Kd.R_below (by (with_reducible repeat (first | apply Kd.R_alloc | apply Kd.R_drewN | apply Kd.R_drew)); exact HO324.out) hb); replace HB := Aside0.mk (below_step hb_ hb); clear hb hbox hg; obtain ⟨hcz9_0, hcz9_1, hcz9_2, hfz9_0, hfz9_1, hfz9_2⟩ := BK330.c3))
   go_ret
   exact ⟨by first | rfl | (simp [errW_none, errW_some] <;> rfl) | (simp [*, errW_none, errW_some] <;> rfl) | (simp [bne_nil_]; done), by repeat (first | (with_reducible first | exact HB.out | apply below_alloc | apply pw_below_drewN | apply below_drew1 | refine below_set ?_ GE330.out) | exact HB.out)⟩
  ·rw [if_neg c3] at H
   have c3b0 : (t328 == 3) = false := beq_eq_false_iff_ne.mpr c3
   have c3b1 : (t328 != 3) = true := bne_iff_ne.mpr c3
   obtain rfl := Option.some.inj H
   go_enter Tryd.func7, Tryd.ntmps7
   go_wp2_with (first | ((with_reducible refine gate_dst (N := 6) rfl ?_); refine Kd.R_lit k27 _ 27 ?hg (N := 6) ?hd (xs := ([(⟨3, 0, 1, (⟨#[]⟩ : ByteArray), (⟨#[75]⟩ : ByteArray)⟩ : S27)] : List (S27))) (inner := [.int .i64 3, .int .i64 0, .int .i64 1, .string (⟨#[]⟩ : ByteArray), .string (⟨#[75]⟩ : ByteArray)]) (ok := fun _ => True) (okp := fun _ => True) ?hr ?hp (fun _ hk => hk) trivial (Below.refl _ _) (Nat.le_refl _) (by simp) ?_; (case hd => rfl); (case hg => rfl); (case hr => first | (go_simp; done) | (go_simp; rfl)); (case hp => exact (Reps.c5 (show Kd.M k27 _ _ _ (⟨3, 0, 1, (⟨#[]⟩ : ByteArray), (⟨#[75]⟩ : ByteArray)⟩ : S27) [.int .i64 3, .int .i64 0, .int .i64 1, .string (⟨#[]⟩ : ByteArray), .string (⟨#[75]⟩ : ByteArray)] from (k27_mkM _ _ _ (⟨3, 0, 1, (⟨#[]⟩ : ByteArray), (⟨#[75]⟩ : ByteArray)⟩ : S27) )) (Reps.none _ _))); intro v323 w10 ho11 hb hg_ hnew_; clear hg_ hnew_; (first | rw [← Ny322.out] at ho11 | (simp only [Int.reduceToNat] at ho11; rw [← Ny322.out] at ho11)); have HO324 := Aside0.mk (Kd.R_lower ho11 (below_size hb_)); replace HB := Aside0.mk (below_step hb_ hb); clear hb ho11; obtain ⟨Ao12, co12, eo12⟩ := Kd.R_slice HO324.out; subst eo12) | ((with_reducible refine gate_callee (f := 9) rfl ?_); refine gL_ (some 8) Tryd.func9 #[.slice Ao12 y322.length co12, .agg #[.bool false, .string (⟨#[49, 50, 48, 48]⟩ : ByteArray), .string (⟨#[]⟩ : ByteArray)], .int .i64 7] ?_; (with_reducible refine (compact_Shorten.calls k _ _ y322 false (⟨#[49, 50, 48, 48]⟩ : ByteArray) (⟨#[]⟩ : ByteArray) 7 t325 t326 t327 t328 t329 _ ?side1 ?side2 A1.out).mono ?_); (case side1 => repeat (first | exact (Kd.R_reads' HO324.out).2.2 | (with_reducible refine Kd.C_alloc ?_ _) | (with_reducible refine Kd.C_drewN ?_ _) | (with_reducible refine Kd.C_drew ?_))); (case side2 => exact (Kd.R_reads' HO324.out).2.1); rintro e w13 ⟨rfl, hb⟩; refine ⟨_, rfl, ?_⟩; replace HO324 := Aside0.mk (Kd.R_below (by (with_reducible repeat (first | apply Kd.R_alloc | apply Kd.R_drewN | apply Kd.R_drew)); exact HO324.out) hb); replace HB := Aside0.mk (below_step hb_ hb)) | ((with_reducible refine gate_dst (N := 1) rfl ?_); refine bx_ #[.bool false, .string (⟨#[]⟩ : ByteArray), .string (⟨#[]⟩ : ByteArray)] 33 ?_; intro gb330 hg w14 hbox hb; have BK330 := Aside0.mk (hbox); have GW330 := Aside0.mk ((by rw [hg]; exact (below_size hb_) : w.heap.size ≤ gb330)); have GE330 := Aside0.mk ((by rw [hg]; exact (below_size hb_) : w.heap.size ≤ gb330)); replace HO324 := Aside0.mk (Kd.R_below (by (with_reducible repeat (first | apply Kd.R_alloc | apply Kd.R_drewN | apply Kd.R_drew)); exact HO324.out) hb); replace HB := Aside0.mk (below_step hb_ hb); clear hb hbox hg; obtain ⟨hcz15_0, hcz15_1, hcz15_2, hfz15_0, hfz15_1, hfz15_2⟩ := BK330.c3))
   go_ret
   exact ⟨by first | rfl | (simp [errW_none, errW_some] <;> rfl) | (simp [*, errW_none, errW_some] <;> rfl) | (simp [bne_nil_]; done), by repeat (first | (with_reducible first | exact HB.out | apply below_alloc | apply pw_below_drewN | apply below_drew1 | refine below_set ?_ GE330.out) | exact HB.out)⟩
 ·rw [if_neg c2] at H
  have c2b0 : (t329 == 0) = false := beq_eq_false_iff_ne.mpr c2
  have c2b1 : (t329 != 0) = true := bne_iff_ne.mpr c2
  obtain rfl := Option.some.inj H
  go_enter Tryd.func7, Tryd.ntmps7
  go_wp2_with (first | ((with_reducible refine gate_dst (N := 6) rfl ?_); refine Kd.R_lit k27 _ 27 ?hg (N := 6) ?hd (xs := ([(⟨3, 0, 1, (⟨#[]⟩ : ByteArray), (⟨#[75]⟩ : ByteArray)⟩ : S27)] : List (S27))) (inner := [.int .i64 3, .int .i64 0, .int .i64 1, .string (⟨#[]⟩ : ByteArray), .string (⟨#[75]⟩ : ByteArray)]) (ok := fun _ => True) (okp := fun _ => True) ?hr ?hp (fun _ hk => hk) trivial (Below.refl _ _) (Nat.le_refl _) (by simp) ?_; (case hd => rfl); (case hg => rfl); (case hr => first | (go_simp; done) | (go_simp; rfl)); (case hp => exact (Reps.c5 (show Kd.M k27 _ _ _ (⟨3, 0, 1, (⟨#[]⟩ : ByteArray), (⟨#[75]⟩ : ByteArray)⟩ : S27) [.int .i64 3, .int .i64 0, .int .i64 1, .string (⟨#[]⟩ : ByteArray), .string (⟨#[75]⟩ : ByteArray)] from (k27_mkM _ _ _ (⟨3, 0, 1, (⟨#[]⟩ : ByteArray), (⟨#[75]⟩ : ByteArray)⟩ : S27) )) (Reps.none _ _))); intro v323 w16 ho17 hb hg_ hnew_; clear hg_ hnew_; (first | rw [← Ny322.out] at ho17 | (simp only [Int.reduceToNat] at ho17; rw [← Ny322.out] at ho17)); have HO324 := Aside0.mk (Kd.R_lower ho17 (below_size hb_)); replace HB := Aside0.mk (below_step hb_ hb); clear hb ho17; obtain ⟨Ao18, co18, eo18⟩ := Kd.R_slice HO324.out; subst eo18) | ((with_reducible refine gate_callee (f := 9) rfl ?_); refine gL_ (some 8) Tryd.func9 #[.slice Ao18 y322.length co18, .agg #[.bool false, .string (⟨#[49, 50, 48, 48]⟩ : ByteArray), .string (⟨#[]⟩ : ByteArray)], .int .i64 7] ?_; (with_reducible refine (compact_Shorten.calls k _ _ y322 false (⟨#[49, 50, 48, 48]⟩ : ByteArray) (⟨#[]⟩ : ByteArray) 7 t325 t326 t327 t328 t329 _ ?side1 ?side2 A1.out).mono ?_); (case side1 => repeat (first | exact (Kd.R_reads' HO324.out).2.2 | (with_reducible refine Kd.C_alloc ?_ _) | (with_reducible refine Kd.C_drewN ?_ _) | (with_reducible refine Kd.C_drew ?_))); (case side2 => exact (Kd.R_reads' HO324.out).2.1); rintro e w19 ⟨rfl, hb⟩; refine ⟨_, rfl, ?_⟩; replace HO324 := Aside0.mk (Kd.R_below (by (with_reducible repeat (first | apply Kd.R_alloc | apply Kd.R_drewN | apply Kd.R_drew)); exact HO324.out) hb); replace HB := Aside0.mk (below_step hb_ hb)) | ((with_reducible refine gate_dst (N := 1) rfl ?_); refine bx_ #[.bool false, .string (⟨#[]⟩ : ByteArray), .string (⟨#[]⟩ : ByteArray)] 33 ?_; intro gb330 hg w20 hbox hb; have BK330 := Aside0.mk (hbox); have GW330 := Aside0.mk ((by rw [hg]; exact (below_size hb_) : w.heap.size ≤ gb330)); have GE330 := Aside0.mk ((by rw [hg]; exact (below_size hb_) : w.heap.size ≤ gb330)); replace HO324 := Aside0.mk (Kd.R_below (by (with_reducible repeat (first | apply Kd.R_alloc | apply Kd.R_drewN | apply Kd.R_drew)); exact HO324.out) hb); replace HB := Aside0.mk (below_step hb_ hb); clear hb hbox hg; obtain ⟨hcz21_0, hcz21_1, hcz21_2, hfz21_0, hfz21_1, hfz21_2⟩ := BK330.c3))
  go_ret
  exact ⟨by first | rfl | (simp [errW_none, errW_some] <;> rfl) | (simp [*, errW_none, errW_some] <;> rfl) | (simp [bne_nil_]; done), by repeat (first | (with_reducible first | exact HB.out | apply below_alloc | apply pw_below_drewN | apply below_drew1 | refine below_set ?_ GE330.out) | exact HB.out)⟩
end Go.Proofs.YtahlkcnecgihbaaDoor.P
namespace Go.Proofs.YtahlkcnecgihbaaDoor.P
open Go.RowKit Go.Proofs.YtahlkcnecgihbaaDoorW.PrintWords Go.Proofs.YtahlkcnecgihbaaDoorW.PrintLast Go.Proofs.YtahlkcnecgihbaaDoorW.PrintMore
attribute [local go_sem] max2_int max_two
set_option linter.unusedVariables false
set_option linter.unusedSimpArgs false
attribute [local go_sem high] eqA27
def idiomlaw11_CompactChecks.l0 : Nat → List (S27) → List (S27) → Int → Int → Option (Bool)
  | 0, _, _, _, _ => none
  | k + 1, x0, x3, x4, x5 => if x5 < (x0.length : Int) then (if 0 ≤ x5 then (if x5 < (x3.length : Int) then (if (!(((rd_T27 x3 x5).f0) == ((rd_T27 x0 x5).f0)) || (!(((rd_T27 x3 x5).f1) == ((rd_T27 x0 x5).f1)) || (!(((rd_T27 x3 x5).f2) == ((rd_T27 x0 x5).f2)) || (!((((rd_T27 x3 x5).f3).toList) == (((rd_T27 x0 x5).f3).toList)) || (!((((rd_T27 x3 x5).f4).toList) == (((rd_T27 x0 x5).f4).toList))))))) = true then (some false) else (idiomlaw11_CompactChecks.l0 k x0 x3 x4 (wrap64 (x5 + 1)))) else (none)) else (none)) else ((idiomref11_Check.f k x0).bind fun t337 => (if x4 = t337 then ((idiomlaw11_awake.f k).bind fun t338 => (some t338)) else (some false)))
def idiomlaw11_CompactChecks.f (k : Nat) (l0 : List (S27)) : Option (Bool) := (idiomlaw11_copied.f l0).bind fun t331 => ((compact_Check.f k t331).bind fun t334 => (idiomlaw11_CompactChecks.l0 k l0 t331 t334 0))
set_option maxHeartbeats 8000000 in
set_option maxRecDepth 100000 in
theorem idiomlaw11_CompactChecks.calls (k : Nat) (A0 : Option Addr) (c0 : Nat) (l0 : List (S27)) (r : Bool) (w : World) (hr0 : Kd.C k27 w A0 l0.length l0) (hc0 : l0.length ≤ c0) (h : idiomlaw11_CompactChecks.f k l0 = some r) :
    Calls Tryd.prog 3 #[.slice A0 l0.length c0] w fun e w' => e = .returned (.bool r) ∧ Below w.heap.size w w' := by
 have hu27 := Tryd.underlying27
 have HR0 := Aside0.mk hr0
 have HC0 := Aside0.mk hc0
 clear hr0 hc0
 have HB := Aside0.mk (Below.refl w.heap.size w)
 unfold idiomlaw11_CompactChecks.f at h
 have H := h
 clear h
 replace H := Option.bind_eq_some_iff.mp H
 obtain ⟨t331, A20, H⟩ := H
 try dsimp only at H
 have A2 := Aside0.mk A20
 clear A20
 replace H := Option.bind_eq_some_iff.mp H
 obtain ⟨t334, A30, H⟩ := H
 try dsimp only at H
 have A3 := Aside0.mk A30
 clear A30
 have H' := Aside0.mk H
 clear H
 go_enter Tryd.func3, Tryd.ntmps3
 go_wp2_with (first | (go_at_call 4; (with_reducible refine (idiomlaw11_copied.calls _ _ l0 t331 _ ?side1 ?side2 A2.out).mono ?_); (case side1 => repeat (first | exact HR0.out | (with_reducible refine Kd.C_alloc ?_ _) | (with_reducible refine Kd.C_drewN ?_ _) | (with_reducible refine Kd.C_drew ?_))); (case side2 => exact HC0.out); rintro e w4 ⟨v332, rfl, ho0, hb⟩; have HO333 := Aside0.mk (Kd.R_lower ho0 (below_size hb_)); replace HB := Aside0.mk (below_step hb_ hb); (try clear ho0); obtain ⟨Ao5, co5, eo5⟩ := Kd.R_slice HO333.out; subst eo5) | (go_at_call 5; (with_reducible refine (compact_Check.calls k _ _ t331 t334 _ ?side1 ?side2 A3.out).mono ?_); (case side1 => repeat (first | exact (Kd.R_reads' HO333.out).2.2 | (with_reducible refine Kd.C_alloc ?_ _) | (with_reducible refine Kd.C_drewN ?_ _) | (with_reducible refine Kd.C_drew ?_))); (case side2 => exact (Kd.R_reads' HO333.out).2.1); rintro e w6 ⟨rfl, hb⟩; replace HO333 := Aside0.mk (Kd.R_below (by (with_reducible repeat (first | apply Kd.R_alloc | apply Kd.R_drewN | apply Kd.R_drew)); exact HO333.out) hb); replace HB := Aside0.mk (below_step hb_ hb)))
 repeat (go_quiet (first | (go_at_call 4; (with_reducible refine (idiomlaw11_copied.calls _ _ l0 t331 _ ?side1 ?side2 A2.out).mono ?_); (case side1 => repeat (first | exact HR0.out | (with_reducible refine Kd.C_alloc ?_ _) | (with_reducible refine Kd.C_drewN ?_ _) | (with_reducible refine Kd.C_drew ?_))); (case side2 => exact HC0.out); rintro e w4 ⟨v332, rfl, ho0, hb⟩; have HO333 := Aside0.mk (Kd.R_lower ho0 (below_size hb_)); replace HB := Aside0.mk (below_step hb_ hb); (try clear ho0); obtain ⟨Ao5, co5, eo5⟩ := Kd.R_slice HO333.out; subst eo5) | (go_at_call 5; (with_reducible refine (compact_Check.calls k _ _ t331 t334 _ ?side1 ?side2 A3.out).mono ?_); (case side1 => repeat (first | exact (Kd.R_reads' HO333.out).2.2 | (with_reducible refine Kd.C_alloc ?_ _) | (with_reducible refine Kd.C_drewN ?_ _) | (with_reducible refine Kd.C_drew ?_))); (case side2 => exact (Kd.R_reads' HO333.out).2.1); rintro e w6 ⟨rfl, hb⟩; replace HO333 := Aside0.mk (Kd.R_below (by (with_reducible repeat (first | apply Kd.R_alloc | apply Kd.R_drewN | apply Kd.R_drew)); exact HO333.out) hb); replace HB := Aside0.mk (below_step hb_ hb))); try go_wp2_with (first | (go_at_call 4; (with_reducible refine (idiomlaw11_copied.calls _ _ l0 t331 _ ?side1 ?side2 A2.out).mono ?_); (case side1 => repeat (first | exact HR0.out | (with_reducible refine Kd.C_alloc ?_ _) | (with_reducible refine Kd.C_drewN ?_ _) | (with_reducible refine Kd.C_drew ?_))); (case side2 => exact HC0.out); rintro e w4 ⟨v332, rfl, ho0, hb⟩; have HO333 := Aside0.mk (Kd.R_lower ho0 (below_size hb_)); replace HB := Aside0.mk (below_step hb_ hb); (try clear ho0); obtain ⟨Ao5, co5, eo5⟩ := Kd.R_slice HO333.out; subst eo5) | (go_at_call 5; (with_reducible refine (compact_Check.calls k _ _ t331 t334 _ ?side1 ?side2 A3.out).mono ?_); (case side1 => repeat (first | exact (Kd.R_reads' HO333.out).2.2 | (with_reducible refine Kd.C_alloc ?_ _) | (with_reducible refine Kd.C_drewN ?_ _) | (with_reducible refine Kd.C_drew ?_))); (case side2 => exact (Kd.R_reads' HO333.out).2.1); rintro e w6 ⟨rfl, hb⟩; replace HO333 := Aside0.mk (Kd.R_below (by (with_reducible repeat (first | apply Kd.R_alloc | apply Kd.R_drewN | apply Kd.R_drew)); exact HO333.out) hb); replace HB := Aside0.mk (below_step hb_ hb))))
 go_loopg [5] k (fun kq v5 w' => ∃ (x5_1 : Int), v5 = .int .i64 x5_1 ∧ Aside0 (idiomlaw11_CompactChecks.l0 kq l0 t331 t334 x5_1 = some r) ∧ Aside0 (kq ≤ k) ∧ Aside0 (Kd.R k27 27 w' w.heap.size (fun _ => True) (.slice Ao5 t331.length co5) t331) ∧ Aside0 (Below w.heap.size w w'))
 case atStart => exact ⟨(0), (by first | rfl | (simp; done) | (simp [*]; done)), H', ⟨Nat.le_refl _⟩, ⟨by (with_reducible repeat (first | apply Kd.R_alloc | apply Kd.R_drewN | apply Kd.R_drew)); exact HO333.out⟩, ⟨by repeat (first | (with_reducible first | exact HB.out | apply below_alloc | apply pw_below_drewN | apply below_drew1) | exact HB.out)⟩⟩
 case round =>
  clear H'
  obtain ⟨x5_1, rfl, HA, HK1, HO_3, HB⟩ := hrel
  cases gk with
  | zero => exact absurd HA.out (by simp [idiomlaw11_CompactChecks.l0])
  | succ k1 =>
   have H := HA.out
   clear HA
   simp only [idiomlaw11_CompactChecks.l0] at H
   by_cases c7 : x5_1 < (l0.length : Int)
   ·rw [if_pos c7] at H
    have c7b0 : decide (x5_1 < (l0.length : Int)) = true := decide_eq_true c7
    clear c7
    by_cases c8 : 0 ≤ x5_1
    ·rw [if_pos c8] at H
     have c8b0 : decide (0 ≤ x5_1) = true := decide_eq_true c8
     clear c8
     by_cases c9 : x5_1 < (t331.length : Int)
     ·rw [if_pos c9] at H
      have c9b0 : decide (x5_1 < (t331.length : Int)) = true := decide_eq_true c9
      clear c9
      by_cases c10 : (!(((rd_T27 t331 x5_1).f0) == ((rd_T27 l0 x5_1).f0)) || (!(((rd_T27 t331 x5_1).f1) == ((rd_T27 l0 x5_1).f1)) || (!(((rd_T27 t331 x5_1).f2) == ((rd_T27 l0 x5_1).f2)) || (!((((rd_T27 t331 x5_1).f3).toList) == (((rd_T27 l0 x5_1).f3).toList)) || (!((((rd_T27 t331 x5_1).f4).toList) == (((rd_T27 l0 x5_1).f4).toList))))))) = true
      ·rw [if_pos c10] at H
       have c10b0 : (!(((rd_T27 t331 x5_1).f0) == ((rd_T27 l0 x5_1).f0)) || (!(((rd_T27 t331 x5_1).f1) == ((rd_T27 l0 x5_1).f1)) || (!(((rd_T27 t331 x5_1).f2) == ((rd_T27 l0 x5_1).f2)) || (!((((rd_T27 t331 x5_1).f3).toList) == (((rd_T27 l0 x5_1).f3).toList)) || (!((((rd_T27 t331 x5_1).f4).toList) == (((rd_T27 l0 x5_1).f4).toList))))))) = true := c10
       clear c10
       obtain rfl := Option.some.inj H
       have p335 : 0 ≤ (x5_1 : Int) := of_decide_eq_true (by first | (with_reducible assumption) | assumption)
       have q335 : x5_1 < (t331.length : Int) := of_decide_eq_true (by first | (with_reducible assumption) | assumption)
       obtain ⟨ad335, e335, hx335_0, hx335_1, hx335_2, hx335_3, hx335_4⟩ := at_T27 (Kd.R_reads' HO_3.out).2.2 x5_1 p335 q335
       cases e335
       replace p335 := eq_true p335
       replace q335 := eq_true q335
       have p336 : 0 ≤ (x5_1 : Int) := of_decide_eq_true (by first | (with_reducible assumption) | assumption)
       have q336 : x5_1 < (l0.length : Int) := of_decide_eq_true (by first | (with_reducible assumption) | assumption)
       obtain ⟨ad336, e336, hx336_0, hx336_1, hx336_2, hx336_3, hx336_4⟩ := at_T27 HR0.out x5_1 p336 q336
       cases e336
       replace hx336_0 := (HB.out.cell (World.block_lt_of_cell? w _ hx336_0)).trans hx336_0
       replace hx336_1 := (HB.out.cell (World.block_lt_of_cell? w _ hx336_1)).trans hx336_1
       replace hx336_2 := (HB.out.cell (World.block_lt_of_cell? w _ hx336_2)).trans hx336_2
       replace hx336_3 := (HB.out.cell (World.block_lt_of_cell? w _ hx336_3)).trans hx336_3
       replace hx336_4 := (HB.out.cell (World.block_lt_of_cell? w _ hx336_4)).trans hx336_4
       replace p336 := eq_true p336
       replace q336 := eq_true q336
       go_wp2
       repeat (go_quiet (fail); try go_wp2)
       go_ret
       exact ⟨by first | rfl | (simp [errW_none, errW_some] <;> rfl) | (simp [*, errW_none, errW_some] <;> rfl) | (simp [bne_nil_]; done), by repeat (first | (with_reducible first | exact HB.out | apply below_alloc | apply pw_below_drewN | apply below_drew1) | exact HB.out)⟩
      ·rw [if_neg c10] at H
       have c10b0 : (!(((rd_T27 t331 x5_1).f0) == ((rd_T27 l0 x5_1).f0)) || (!(((rd_T27 t331 x5_1).f1) == ((rd_T27 l0 x5_1).f1)) || (!(((rd_T27 t331 x5_1).f2) == ((rd_T27 l0 x5_1).f2)) || (!((((rd_T27 t331 x5_1).f3).toList) == (((rd_T27 l0 x5_1).f3).toList)) || (!((((rd_T27 t331 x5_1).f4).toList) == (((rd_T27 l0 x5_1).f4).toList))))))) = false := by simpa using c10
       clear c10
       have H' := Aside0.mk H
       clear H
       have p335 : 0 ≤ (x5_1 : Int) := of_decide_eq_true (by first | (with_reducible assumption) | assumption)
       have q335 : x5_1 < (t331.length : Int) := of_decide_eq_true (by first | (with_reducible assumption) | assumption)
       obtain ⟨ad335, e335, hx335_0, hx335_1, hx335_2, hx335_3, hx335_4⟩ := at_T27 (Kd.R_reads' HO_3.out).2.2 x5_1 p335 q335
       cases e335
       replace p335 := eq_true p335
       replace q335 := eq_true q335
       have p336 : 0 ≤ (x5_1 : Int) := of_decide_eq_true (by first | (with_reducible assumption) | assumption)
       have q336 : x5_1 < (l0.length : Int) := of_decide_eq_true (by first | (with_reducible assumption) | assumption)
       obtain ⟨ad336, e336, hx336_0, hx336_1, hx336_2, hx336_3, hx336_4⟩ := at_T27 HR0.out x5_1 p336 q336
       cases e336
       replace hx336_0 := (HB.out.cell (World.block_lt_of_cell? w _ hx336_0)).trans hx336_0
       replace hx336_1 := (HB.out.cell (World.block_lt_of_cell? w _ hx336_1)).trans hx336_1
       replace hx336_2 := (HB.out.cell (World.block_lt_of_cell? w _ hx336_2)).trans hx336_2
       replace hx336_3 := (HB.out.cell (World.block_lt_of_cell? w _ hx336_3)).trans hx336_3
       replace hx336_4 := (HB.out.cell (World.block_lt_of_cell? w _ hx336_4)).trans hx336_4
       replace p336 := eq_true p336
       replace q336 := eq_true q336
       go_wp2
       repeat (go_quiet (fail); try go_wp2)
       go_roundg k1
       case measure => have := HK1.out; omega
       case rel => exact ⟨(wrap64 (x5_1 + 1)), (by first | rfl | (simp; done) | (simp [*]; done)), H', ⟨by have := HK1.out; omega⟩, ⟨by (with_reducible repeat (first | apply Kd.R_alloc | apply Kd.R_drewN | apply Kd.R_drew)); exact HO_3.out⟩, ⟨by repeat (first | (with_reducible first | exact HB.out | apply below_alloc | apply pw_below_drewN | apply below_drew1) | exact HB.out)⟩⟩
     ·rw [if_neg c9] at H
      exact absurd H (by simp)
    ·rw [if_neg c8] at H
     exact absurd H (by simp)
   ·rw [if_neg c7] at H
    have c7b0 : decide (x5_1 < (l0.length : Int)) = false := decide_eq_false c7
    clear c7
    replace H := Option.bind_eq_some_iff.mp H
    obtain ⟨t337, A110, H⟩ := H
    try dsimp only at H
    have A11 := Aside0.mk A110
    clear A110
    by_cases c12 : t334 = t337
    ·rw [if_pos c12] at H
     have c12b0 : (t334 == t337) = true := beq_iff_eq.mpr c12
     have c12b1 : (t334 != t337) = false := bne_eq_false_iff_eq.mpr c12
     clear c12
     replace H := Option.bind_eq_some_iff.mp H
     obtain ⟨t338, A130, H⟩ := H
     try dsimp only at H
     have A13 := Aside0.mk A130
     clear A130
     obtain rfl := Option.some.inj H
     go_wp2_with (first | (go_at_call 6; (with_reducible refine (idiomref11_Check.calls k1 _ _ l0 t337 _ ?side1 ?side2 A11.out).mono ?_); (case side1 => repeat (first | exact (Kd.C_below HR0.out HB.out) | (with_reducible refine Kd.C_alloc ?_ _) | (with_reducible refine Kd.C_drewN ?_ _) | (with_reducible refine Kd.C_drew ?_))); (case side2 => exact HC0.out); rintro e w14 ⟨rfl, hb⟩; replace HO_3 := Aside0.mk (Kd.R_below (by (with_reducible repeat (first | apply Kd.R_alloc | apply Kd.R_drewN | apply Kd.R_drew)); exact HO_3.out) hb); replace HB := Aside0.mk (below_step hb_ hb)) | (go_at_call 7; (with_reducible refine (idiomlaw11_awake.calls k1  t338 _ A13.out).mono ?_); rintro e w15 ⟨rfl, hb⟩; replace HO_3 := Aside0.mk (Kd.R_below (by (with_reducible repeat (first | apply Kd.R_alloc | apply Kd.R_drewN | apply Kd.R_drew)); exact HO_3.out) hb); replace HB := Aside0.mk (below_step hb_ hb)))
     repeat (go_quiet (first | (go_at_call 6; (with_reducible refine (idiomref11_Check.calls k1 _ _ l0 t337 _ ?side1 ?side2 A11.out).mono ?_); (case side1 => repeat (first | exact (Kd.C_below HR0.out HB.out) | (with_reducible refine Kd.C_alloc ?_ _) | (with_reducible refine Kd.C_drewN ?_ _) | (with_reducible refine Kd.C_drew ?_))); (case side2 => exact HC0.out); rintro e w14 ⟨rfl, hb⟩; replace HO_3 := Aside0.mk (Kd.R_below (by (with_reducible repeat (first | apply Kd.R_alloc | apply Kd.R_drewN | apply Kd.R_drew)); exact HO_3.out) hb); replace HB := Aside0.mk (below_step hb_ hb)) | (go_at_call 7; (with_reducible refine (idiomlaw11_awake.calls k1  t338 _ A13.out).mono ?_); rintro e w15 ⟨rfl, hb⟩; replace HO_3 := Aside0.mk (Kd.R_below (by (with_reducible repeat (first | apply Kd.R_alloc | apply Kd.R_drewN | apply Kd.R_drew)); exact HO_3.out) hb); replace HB := Aside0.mk (below_step hb_ hb))); try go_wp2_with (first | (go_at_call 6; (with_reducible refine (idiomref11_Check.calls k1 _ _ l0 t337 _ ?side1 ?side2 A11.out).mono ?_); (case side1 => repeat (first | exact (Kd.C_below HR0.out HB.out) | (with_reducible refine Kd.C_alloc ?_ _) | (with_reducible refine Kd.C_drewN ?_ _) | (with_reducible refine Kd.C_drew ?_))); (case side2 => exact HC0.out); rintro e w14 ⟨rfl, hb⟩; replace HO_3 := Aside0.mk (Kd.R_below (by (with_reducible repeat (first | apply Kd.R_alloc | apply Kd.R_drewN | apply Kd.R_drew)); exact HO_3.out) hb); replace HB := Aside0.mk (below_step hb_ hb)) | (go_at_call 7; (with_reducible refine (idiomlaw11_awake.calls k1  t338 _ A13.out).mono ?_); rintro e w15 ⟨rfl, hb⟩; replace HO_3 := Aside0.mk (Kd.R_below (by (with_reducible repeat (first | apply Kd.R_alloc | apply Kd.R_drewN | apply Kd.R_drew)); exact HO_3.out) hb); replace HB := Aside0.mk (below_step hb_ hb))))
     go_ret
     exact ⟨by first | rfl | (simp [errW_none, errW_some] <;> rfl) | (simp [*, errW_none, errW_some] <;> rfl) | (simp [bne_nil_]; done), by repeat (first | (with_reducible first | exact HB.out | apply below_alloc | apply pw_below_drewN | apply below_drew1) | exact HB.out)⟩
    ·rw [if_neg c12] at H
     have c12b0 : (t334 == t337) = false := beq_eq_false_iff_ne.mpr c12
     have c12b1 : (t334 != t337) = true := bne_iff_ne.mpr c12
     obtain rfl := Option.some.inj H
     go_wp2_with (first | (go_at_call 6; (with_reducible refine (idiomref11_Check.calls k1 _ _ l0 t337 _ ?side1 ?side2 A11.out).mono ?_); (case side1 => repeat (first | exact (Kd.C_below HR0.out HB.out) | (with_reducible refine Kd.C_alloc ?_ _) | (with_reducible refine Kd.C_drewN ?_ _) | (with_reducible refine Kd.C_drew ?_))); (case side2 => exact HC0.out); rintro e w16 ⟨rfl, hb⟩; replace HO_3 := Aside0.mk (Kd.R_below (by (with_reducible repeat (first | apply Kd.R_alloc | apply Kd.R_drewN | apply Kd.R_drew)); exact HO_3.out) hb); replace HB := Aside0.mk (below_step hb_ hb)))
     repeat (go_quiet (first | (go_at_call 6; (with_reducible refine (idiomref11_Check.calls k1 _ _ l0 t337 _ ?side1 ?side2 A11.out).mono ?_); (case side1 => repeat (first | exact (Kd.C_below HR0.out HB.out) | (with_reducible refine Kd.C_alloc ?_ _) | (with_reducible refine Kd.C_drewN ?_ _) | (with_reducible refine Kd.C_drew ?_))); (case side2 => exact HC0.out); rintro e w16 ⟨rfl, hb⟩; replace HO_3 := Aside0.mk (Kd.R_below (by (with_reducible repeat (first | apply Kd.R_alloc | apply Kd.R_drewN | apply Kd.R_drew)); exact HO_3.out) hb); replace HB := Aside0.mk (below_step hb_ hb))); try go_wp2_with (first | (go_at_call 6; (with_reducible refine (idiomref11_Check.calls k1 _ _ l0 t337 _ ?side1 ?side2 A11.out).mono ?_); (case side1 => repeat (first | exact (Kd.C_below HR0.out HB.out) | (with_reducible refine Kd.C_alloc ?_ _) | (with_reducible refine Kd.C_drewN ?_ _) | (with_reducible refine Kd.C_drew ?_))); (case side2 => exact HC0.out); rintro e w16 ⟨rfl, hb⟩; replace HO_3 := Aside0.mk (Kd.R_below (by (with_reducible repeat (first | apply Kd.R_alloc | apply Kd.R_drewN | apply Kd.R_drew)); exact HO_3.out) hb); replace HB := Aside0.mk (below_step hb_ hb))))
     go_ret
     exact ⟨by first | rfl | (simp [errW_none, errW_some] <;> rfl) | (simp [*, errW_none, errW_some] <;> rfl) | (simp [bne_nil_]; done), by repeat (first | (with_reducible first | exact HB.out | apply below_alloc | apply pw_below_drewN | apply below_drew1) | exact HB.out)⟩
end Go.Proofs.YtahlkcnecgihbaaDoor.P
