/- A part of the proof. Part 3 of 7; its texts were written by programs, some out of the kit's print. -/
import Derived.Test.YtihjcaglhjepdaaGreatDoorZOh1
import Derived.Shelf.LaysM
import Derived.Shelf.Strings.Repeat
import Derived.Test.YtihjcaglhjepdaaGreatDoorProg
import Derived.Shelf.Strconv.Itoa3
import Derived.Lib.ItoaMem
namespace Go.Proofs.YtihjcaglhjepdaaGreatDoor.P
open Go.RowKit Go.Proofs.YtihjcaglhjepdaaGreatDoorW.PrintWords Go.Proofs.YtihjcaglhjepdaaGreatDoorW.PrintLast Go.Proofs.YtihjcaglhjepdaaGreatDoorW.PrintMore
attribute [local go_sem] max2_int max_two
set_option linter.unusedVariables false
set_option linter.unusedSimpArgs false
def idiomref02_turned.l0 : Nat → List Int → List Int → Int → Option (ByteArray)
  | 0, _, _, _ => none
  | k + 1, x0, x3, x4 => if x4 < (x0.length : Int) then (if 0 ≤ x4 then (if 0 ≤ (wrap64 ((wrap64 ((x0.length : Int) - 1)) - x4)) then (if (wrap64 ((wrap64 ((x0.length : Int) - 1)) - x4)) < (x3.length : Int) then (idiomref02_turned.l0 k x0 (x3.set ((wrap64 ((wrap64 ((x0.length : Int) - 1)) - x4)) : Int).toNat (rd x0 x4)) (wrap64 (x4 + 1))) else (none)) else (none)) else (none)) else ((idiomref02_Lead.f k (strOfNums x3)).bind fun t425 => (some t425))
def idiomref02_turned.f (k : Nat) (l0 : List Int) : Option (ByteArray) := if 0 ≤ (l0.length : Int) then (if ((l0.length : Int) : Int).toNat ≤ 281474976710656 then (idiomref02_turned.l0 k l0 (List.replicate ((l0.length : Int) : Int).toNat 0) 0) else (none)) else (none)
set_option maxHeartbeats 8000000 in
set_option maxRecDepth 100000 in
theorem idiomref02_turned.calls (k : Nat) (A0 : Option Addr) (c0 : Nat) (l0 : List Int) (r : ByteArray) (w : World) (hr0 : Kd.C (Kd.int .u8) w A0 l0.length l0) (hc0 : l0.length ≤ c0) (h : idiomref02_turned.f k l0 = some r) :
    Calls Tryz.prog 108 #[.slice A0 l0.length c0] w fun e w' => e = .returned (.string r) ∧ Below w.heap.size w w' := by
 have HR0 := Aside0.mk hr0
 have HC0 := Aside0.mk hc0
 clear hr0 hc0
 have HB := Aside0.mk (Below.refl w.heap.size w)
 unfold idiomref02_turned.f at h
 have H := h
 clear h
 by_cases c2 : 0 ≤ (l0.length : Int)
 ·rw [if_pos c2] at H
  have c2b0 := eq_true c2
  have c2b1 : decide (0 ≤ (l0.length : Int)) = true := decide_eq_true c2
  clear c2
  by_cases c3 : ((l0.length : Int) : Int).toNat ≤ 281474976710656
  ·rw [if_pos c3] at H
   have c3b0 := eq_true c3
   have c3b1 : decide (((l0.length : Int) : Int).toNat ≤ 281474976710656) = true := decide_eq_true c3
   clear c3
   obtain ⟨y420, hy420⟩ : ∃ y_ : List Int, y_ = (List.replicate ((l0.length : Int) : Int).toNat 0) := ⟨_, rfl⟩
   rw [← hy420] at H
   have Ny420 := Aside0.mk hy420
   clear hy420
   have H' := Aside0.mk H
   clear H
   go_enter Tryz.func108, Tryz.ntmps108
   go_wp2_with (first | ((with_reducible refine gate_dst (N := 7) rfl ?_); refine Kd.R_make (Kd.int .u8) _ 5 rfl (N := 7) rfl 62 _ _ rfl (l0.length : Int) rfl rfl Tryz.underlying62 (.int .u8 0) 1 info5 rfl (by decide) (by omega) 0 (ok := fun _ => True) (okp := fun _ => True) rfl (fun _ hk => hk) trivial (of_decide_eq_true (by first | (with_reducible assumption) | assumption)) (Nat.le_trans (Nat.mul_le_mul_right _ (of_decide_eq_true (by first | (with_reducible assumption) | assumption) : (l0.length : Int).toNat ≤ 281474976710656)) (by omega)) (Below.refl _ _) (Nat.le_refl _) ?_; intro v421 w4 ho5 hb hg_ hnew_; clear hg_ hnew_; (first | rw [← Ny420.out] at ho5 | (simp only [Int.reduceToNat] at ho5; rw [← Ny420.out] at ho5)); have HO422 := Aside0.mk (Kd.R_lower ho5 (below_size hb_)); replace HB := Aside0.mk (below_step hb_ hb); clear hb ho5))
   go_loopg [4] k (fun kq v4 w' => ∃ (x3_1 : List Int) (x4_1 : Int), v4 = .int .i64 x4_1 ∧ Aside0 (idiomref02_turned.l0 kq l0 x3_1 x4_1 = some r) ∧ Aside0 (kq ≤ k) ∧ Aside0 (Kd.R (Kd.int .u8) 5 w' w.heap.size (fun _ => True) v421 x3_1) ∧ Aside0 (Below w.heap.size w w'))
   case atStart => exact ⟨(y420), (0), (by first | rfl | (simp; done) | (simp [*]; done)), H', ⟨Nat.le_refl _⟩, ⟨by (with_reducible repeat (first | apply Kd.R_alloc | apply Kd.R_drewN | apply Kd.R_drew)); exact HO422.out⟩, ⟨hb_⟩⟩
   case round =>
    clear H'
    (try clear c2); (try clear c2b0); (try clear c2b1); (try clear c3); (try clear c3b0); (try clear c3b1)
    obtain ⟨x3_1, x4_1, rfl, HA, HK1, HO_3, HB⟩ := hrel
    cases gk with
    | zero => exact absurd HA.out (by simp [idiomref02_turned.l0])
    | succ k1 =>
     have H := HA.out
     clear HA
     simp only [idiomref02_turned.l0] at H
     by_cases c6 : x4_1 < (l0.length : Int)
     ·rw [if_pos c6] at H
      have c6b0 : decide (x4_1 < (l0.length : Int)) = true := decide_eq_true c6
      clear c6
      by_cases c7 : 0 ≤ x4_1
      ·rw [if_pos c7] at H
       have c7b0 : decide (0 ≤ x4_1) = true := decide_eq_true c7
       clear c7
       obtain ⟨ji8, hji8⟩ : ∃ j_ : Int, (wrap64 ((wrap64 ((l0.length : Int) - 1)) - x4_1)) = j_ := ⟨_, rfl⟩
       replace H : (if 0 ≤ (ji8) then (if (ji8) < (x3_1.length : Int) then (idiomref02_turned.l0 k1 l0 (x3_1.set ((ji8) : Int).toNat (rd l0 x4_1)) (wrap64 (x4_1 + 1))) else (none)) else (none)) = some r := by first | (rw [hji8] at H; exact H) | (simp only [hji8] at H ⊢; exact H)
       have hji8w : (IntKind.i64.wrap ((wrap64 ((l0.length : Int) - 1)) - x4_1)) = ji8 := (i64_w _).trans hji8
       by_cases c9 : 0 ≤ (ji8)
       ·rw [if_pos c9] at H
        have c9b0 : decide (0 ≤ (ji8)) = true := decide_eq_true c9
        clear c9
        by_cases c10 : (ji8) < (x3_1.length : Int)
        ·rw [if_pos c10] at H
         have c10b0 : decide ((ji8) < (x3_1.length : Int)) = true := decide_eq_true c10
         clear c10
         obtain ⟨y424, hy424⟩ : ∃ y_ : List Int, y_ = (x3_1.set ((ji8) : Int).toNat (rd l0 x4_1)) := ⟨_, rfl⟩
         rw [← hy424] at H
         have Ny424 := Aside0.mk hy424
         clear hy424
         have H' := Aside0.mk H
         clear H
         have p423 : 0 ≤ (x4_1 : Int) := of_decide_eq_true (by first | (with_reducible assumption) | assumption)
         have q423 : x4_1 < (l0.length : Int) := of_decide_eq_true (by first | (with_reducible assumption) | assumption)
         obtain ⟨ad423, e423, hx423_0⟩ := Kd.at_int HR0.out x4_1 p423 q423
         cases e423
         replace hx423_0 := (HB.out.cell (World.block_lt_of_cell? w _ hx423_0)).trans hx423_0
         replace p423 := eq_true p423
         replace q423 := eq_true q423
         have p11 : 0 ≤ ((ji8) : Int) := of_decide_eq_true (by first | (with_reducible assumption) | assumption)
         have q11 : ((ji8) : Int) < ((x3_1.length : Int) : Int) := of_decide_eq_true (by first | (with_reducible assumption) | assumption)
         obtain ⟨go11, co11, eo11, gb11, gl11, cl11, HG11⟩ := Kd.R_form HO_3.out (by omega)
         (first | cases eo11 | (injection eo11 with ea_ en_ ec_; (first | subst ea_ | (injection ea_ with ea_; subst ea_)); subst ec_; clear en_))
         have GB11 := Aside0.mk gb11
         have GG11 := Aside0.mk HG11
         clear gb11 gl11 HG11
         obtain ⟨hx11_0, hf11_0⟩ := Kd.R_celln 0 HO_3.out ((ji8) : Int) p11 q11
         replace p11 := eq_true p11
         replace q11 := eq_true q11
         have HP12 := Kd.R_putg HO_3.out ((ji8) : Int) (rd l0 x4_1)
         go_wp2_with (first | ((with_reducible refine gate_store (t := 5) (p := 24) rfl ?_); refine store_event (t := 5) (p := 24) (v := ?vo_w13) (w1 := (wr.setCell ⟨go11, ((ji8) : Int).toNat, none⟩ (.int .u8 (rd l0 x4_1)))) ?hg ?ho ?hn ?hr ?_; (case ho => rfl); (case hg => rfl); (case hn => rfl); (case hr => first | (go_simp; done) | (go_simp; rfl)); intro w13 hw; have hg : wr.grownBy w13 (some go11) := (by rw [hw]; exact HP12.2); have hp_ : Kd.R (Kd.int .u8) 5 w13 w.heap.size (fun _ => True) (.slice (some ⟨go11, 0, none⟩) x3_1.length co11) y424 := (by rw [hw, Ny424.out]; exact HP12.1); clear HP12; replace HO_3 := Aside0.mk (hp_); replace HB := Aside0.mk ((by rw [hw]; exact below_set (HB.out) GB11.out : Below w.heap.size w w13)); clear hg hw hp_))
         go_roundg k1
         case measure => have := HK1.out; omega
         case rel => exact ⟨(y424), (wrap64 (x4_1 + 1)), (by first | rfl | (simp; done) | (simp [*]; done)), H', ⟨by have := HK1.out; omega⟩, ⟨by (with_reducible repeat (first | apply Kd.R_alloc | apply Kd.R_drewN | apply Kd.R_drew)); exact HO_3.out⟩, ⟨hb_⟩⟩
        ·rw [if_neg c10] at H
         exact absurd H (by simp)
       ·rw [if_neg c9] at H
        exact absurd H (by simp)
      ·rw [if_neg c7] at H
       exact absurd H (by simp)
     ·rw [if_neg c6] at H
      have c6b0 : decide (x4_1 < (l0.length : Int)) = false := decide_eq_false c6
      clear c6
      replace H := Option.bind_eq_some_iff.mp H
      obtain ⟨t425, A140, H⟩ := H
      try dsimp only at H
      have A14 := Aside0.mk A140
      clear A140
      obtain rfl := Option.some.inj H
      have hcv15 := own_string (P := Tryz.prog) Tryz.underlying62 Tryz.underlying5 Tryz.underlying9 (Kd.own_of_R HO_3.out)
      go_wp2_with (first | ((with_reducible refine gate_callee (f := 78) rfl ?_); refine gL_ (some 27) Tryz.func78 #[.string (strOfNums x3_1)] ?_; (with_reducible refine (idiomref02_Lead.calls k1 (strOfNums x3_1) t425 _ A14.out).mono ?_); rintro e w' ⟨rfl, ⟨nd, rfl⟩⟩; refine ⟨_, rfl, ?_⟩))
      go_ret
      exact fin_
  ·rw [if_neg c3] at H
   exact absurd H (by simp)
 ·rw [if_neg c2] at H
  exact absurd H (by simp)
attribute [local go_sem] max2_int max_two
set_option linter.unusedVariables false
set_option linter.unusedSimpArgs false
def idiomref02_Minus.l0 : Nat → ByteArray → ByteArray → List Int → Int → Int → Option (ByteArray)
  | 0, _, _, _, _, _ => none
  | k + 1, x0, x1, x5, x6, x7 => if x7 < (x0.size : Int) then ((idiomref02_at.f x0 x7).bind fun t427 => ((idiomref02_at.f x1 x7).bind fun t428 => (if (wrap64 ((wrap64 (t427 - t428)) - x6)) < 0 then (if x5.length < 140737488355328 then (idiomref02_Minus.l0 k x0 x1 (x5 ++ [(wrap64 (48 + (wrap64 ((wrap64 ((wrap64 (t427 - t428)) - x6)) + 10)))) % 256]) 1 (wrap64 (x7 + 1))) else (none)) else (if x5.length < 140737488355328 then (idiomref02_Minus.l0 k x0 x1 (x5 ++ [(wrap64 (48 + (wrap64 ((wrap64 (t427 - t428)) - x6)))) % 256]) 0 (wrap64 (x7 + 1))) else (none))))) else ((idiomref02_turned.f k x5).bind fun t426 => (some t426))
def idiomref02_Minus.f (k : Nat) (a0 : ByteArray) (a1 : ByteArray) : Option (ByteArray) := idiomref02_Minus.l0 k a0 a1 ([] : List Int) 0 0
set_option maxHeartbeats 8000000 in
set_option maxRecDepth 100000 in
theorem idiomref02_Minus.calls (k : Nat) (a0 : ByteArray) (a1 : ByteArray) (r : ByteArray) (w : World) (h : idiomref02_Minus.f k a0 a1 = some r) :
    Calls Tryz.prog 96 #[.string a0, .string a1] w fun e w' => e = .returned (.string r) ∧ Below w.heap.size w w' := by
 have HB := Aside0.mk (Below.refl w.heap.size w)
 unfold idiomref02_Minus.f at h
 have H := h
 clear h
 have H' := Aside0.mk H
 clear H
 go_enter Tryz.func96, Tryz.ntmps96
 go_wp2
 go_loopg [5, 6, 7] k (fun kq v5 v6 v7 w' => ∃ (x5_1 : List Int) (x6_1 : Int) (x7_1 : Int), v6 = .int .i64 x6_1 ∧ v7 = .int .i64 x7_1 ∧ Aside0 (idiomref02_Minus.l0 kq a0 a1 x5_1 x6_1 x7_1 = some r) ∧ Aside0 (kq ≤ k) ∧ Aside0 (Kd.R (Kd.int .u8) 5 w' w.heap.size (fun _ => True) v5 x5_1) ∧ Aside0 (Below w.heap.size w w'))
 case atStart => exact ⟨(([] : List Int)), (0), (0), (by first | rfl | (simp; done) | (simp [*]; done)), (by first | rfl | (simp; done) | (simp [*]; done)), H', ⟨Nat.le_refl _⟩, ⟨by first | exact Kd.R_nil _ _ _ _ _ | exact Kd.N_nil _ _ _ _ _ | exact Kd.V_nil _ _ _ _ _ | exact Kd.Q_nil _ _ _ _ _ | exact Kd.S_nil _ _ _ _ _⟩, ⟨hb_⟩⟩
 case round =>
  clear H'
  obtain ⟨x5_1, x6_1, x7_1, rfl, rfl, HA, HK1, HO_5, HB⟩ := hrel
  cases gk with
  | zero => exact absurd HA.out (by simp [idiomref02_Minus.l0])
  | succ k1 =>
   have H := HA.out
   clear HA
   simp only [idiomref02_Minus.l0] at H
   by_cases c3 : x7_1 < (a0.size : Int)
   ·rw [if_pos c3] at H
    have c3b0 : decide (x7_1 < (a0.size : Int)) = true := decide_eq_true c3
    clear c3
    replace H := Option.bind_eq_some_iff.mp H
    obtain ⟨t427, A40, H⟩ := H
    try dsimp only at H
    have A4 := Aside0.mk A40
    clear A40
    replace H := Option.bind_eq_some_iff.mp H
    obtain ⟨t428, A50, H⟩ := H
    try dsimp only at H
    have A5 := Aside0.mk A50
    clear A50
    have HF6 := Aside0.mk H
    clear H
    go_upto_if 25 with (first | ((with_reducible refine gate_callee (f := 107) rfl ?_); refine gL_ (some 17) Tryz.func107 #[.string a0, .int .i64 x7_1] ?_; (with_reducible refine (idiomref02_at.calls a0 x7_1 t427 _ A4.out).mono ?_); rintro e w' ⟨rfl, ⟨nd, rfl⟩⟩; refine ⟨_, rfl, ?_⟩) | ((with_reducible refine gate_callee (f := 107) rfl ?_); refine gL_ (some 20) Tryz.func107 #[.string a1, .int .i64 x7_1] ?_; (with_reducible refine (idiomref02_at.calls a1 x7_1 t428 _ A5.out).mono ?_); rintro e w' ⟨rfl, ⟨nd, rfl⟩⟩; refine ⟨_, rfl, ?_⟩))
    (try simp only [Act.put, List.setIfInBounds_toArray, List.set_cons_zero, List.set_cons_succ])
    have H := HF6.out
    clear HF6
    by_cases c7 : (wrap64 ((wrap64 (t427 - t428)) - x6_1)) < 0
    ·rw [if_pos c7] at H
     have c7b0 : decide ((wrap64 ((wrap64 (t427 - t428)) - x6_1)) < 0) = true := decide_eq_true c7
     clear c7
     (first | rw [c7b0] | (simp only [i64_w, i32_w]; rw [c7b0]) | skip)
     by_cases c8 : x5_1.length < 140737488355328
     ·rw [if_pos c8] at H
      have LMc8 := Aside0.mk c8
      clear c8
      obtain ⟨y429, hy429⟩ : ∃ y_ : List Int, y_ = (x5_1 ++ [(wrap64 (48 + (wrap64 ((wrap64 ((wrap64 (t427 - t428)) - x6_1)) + 10)))) % 256]) := ⟨_, rfl⟩
      rw [← hy429] at H
      have Ny429 := Aside0.mk hy429
      clear hy429
      have H' := Aside0.mk H
      clear H
      go_wp2_with (first | ((with_reducible refine gate_builtin (b := .append) (xs := #[.tmp 28, .tmp 32]) rfl ?_); at_builtin; refine Kd.R_append (Kd.int .u8) (w0 := w) w.heap.size rfl (.tmp 28) (.tmp 32) 62 5 (.int .u8 0) 1 rfl Tryz.underlying62 info5 rfl (by decide) (by omega) u5 x5_1 ((wrap64 (48 + (wrap64 ((wrap64 ((wrap64 (t427 - t428)) - x6_1)) + 10)))) % 256) [.int .u8 ((wrap64 (48 + (wrap64 ((wrap64 ((wrap64 (t427 - t428)) - x6_1)) + 10)))) % 256)] (fun _ => True) (fun _ => False) rfl rfl ?aP (fun _ hk => hk.elim) ?aF ?aO ?aB ?aS ?aL ?_; (case aP => exact rfl); (case aB => exact hb_); (case aF => exact (fun _ _ => trivial)); (case aO => exact (by (with_reducible repeat (first | apply Kd.R_alloc | apply Kd.R_drewN | apply Kd.R_drew)); exact HO_5.out)); (case aS => exact (below_size hb_)); (case aL => have := LMc8.out; omega); intro v430 w9 ho hb hg hat; rw [← Ny429.out] at ho; have HO431 := Aside0.mk (ho); clear HO_5; replace HB := Aside0.mk (hb); clear ho hb hg hat))
      go_roundg k1
      case measure => have := HK1.out; omega
      case rel => exact ⟨(y429), (1), (wrap64 (x7_1 + 1)), (by first | rfl | (simp; done) | (simp [*]; done)), (by first | rfl | (simp; done) | (simp [*]; done)), H', ⟨by have := HK1.out; omega⟩, ⟨by (with_reducible repeat (first | apply Kd.R_alloc | apply Kd.R_drewN | apply Kd.R_drew)); exact HO431.out⟩, ⟨hb_⟩⟩
     ·rw [if_neg c8] at H
      exact absurd H (by simp)
    ·rw [if_neg c7] at H
     have c7b0 : decide ((wrap64 ((wrap64 (t427 - t428)) - x6_1)) < 0) = false := decide_eq_false c7
     clear c7
     (first | rw [c7b0] | (simp only [i64_w, i32_w]; rw [c7b0]) | skip)
     by_cases c10 : x5_1.length < 140737488355328
     ·rw [if_pos c10] at H
      have LMc10 := Aside0.mk c10
      clear c10
      obtain ⟨y432, hy432⟩ : ∃ y_ : List Int, y_ = (x5_1 ++ [(wrap64 (48 + (wrap64 ((wrap64 (t427 - t428)) - x6_1)))) % 256]) := ⟨_, rfl⟩
      rw [← hy432] at H
      have Ny432 := Aside0.mk hy432
      clear hy432
      have H' := Aside0.mk H
      clear H
      go_wp2_with (first | ((with_reducible refine gate_builtin (b := .append) (xs := #[.tmp 28, .tmp 32]) rfl ?_); at_builtin; refine Kd.R_append (Kd.int .u8) (w0 := w) w.heap.size rfl (.tmp 28) (.tmp 32) 62 5 (.int .u8 0) 1 rfl Tryz.underlying62 info5 rfl (by decide) (by omega) u5 x5_1 ((wrap64 (48 + (wrap64 ((wrap64 (t427 - t428)) - x6_1)))) % 256) [.int .u8 ((wrap64 (48 + (wrap64 ((wrap64 (t427 - t428)) - x6_1)))) % 256)] (fun _ => True) (fun _ => False) rfl rfl ?aP (fun _ hk => hk.elim) ?aF ?aO ?aB ?aS ?aL ?_; (case aP => exact rfl); (case aB => exact hb_); (case aF => exact (fun _ _ => trivial)); (case aO => exact (by (with_reducible repeat (first | apply Kd.R_alloc | apply Kd.R_drewN | apply Kd.R_drew)); exact HO_5.out)); (case aS => exact (below_size hb_)); (case aL => have := LMc10.out; omega); intro v433 w11 ho hb hg hat; rw [← Ny432.out] at ho; have HO434 := Aside0.mk (ho); clear HO_5; replace HB := Aside0.mk (hb); clear ho hb hg hat))
      go_roundg k1
      case measure => have := HK1.out; omega
      case rel => exact ⟨(y432), (0), (wrap64 (x7_1 + 1)), (by first | rfl | (simp; done) | (simp [*]; done)), (by first | rfl | (simp; done) | (simp [*]; done)), H', ⟨by have := HK1.out; omega⟩, ⟨by (with_reducible repeat (first | apply Kd.R_alloc | apply Kd.R_drewN | apply Kd.R_drew)); exact HO434.out⟩, ⟨hb_⟩⟩
     ·rw [if_neg c10] at H
      exact absurd H (by simp)
   ·rw [if_neg c3] at H
    have c3b0 : decide (x7_1 < (a0.size : Int)) = false := decide_eq_false c3
    clear c3
    replace H := Option.bind_eq_some_iff.mp H
    obtain ⟨t426, A120, H⟩ := H
    try dsimp only at H
    have A12 := Aside0.mk A120
    clear A120
    obtain rfl := Option.some.inj H
    obtain ⟨Ao13, co13, eo13⟩ := Kd.R_slice HO_5.out
    subst eo13
    go_wp2_with (first | ((with_reducible refine gate_callee (f := 108) rfl ?_); refine gL_ (some 35) Tryz.func108 #[.slice Ao13 x5_1.length co13] ?_; (with_reducible refine (idiomref02_turned.calls k1 _ _ x5_1 t426 _ ?side1 ?side2 A12.out).mono ?_); (case side1 => repeat (first | exact (Kd.R_reads' HO_5.out).2.2 | (with_reducible refine Kd.C_alloc ?_ _) | (with_reducible refine Kd.C_drewN ?_ _) | (with_reducible refine Kd.C_drew ?_))); (case side2 => exact (Kd.R_reads' HO_5.out).2.1); rintro e w14 ⟨rfl, hb⟩; refine ⟨_, rfl, ?_⟩; replace HO_5 := Aside0.mk (Kd.R_below (by (with_reducible repeat (first | apply Kd.R_alloc | apply Kd.R_drewN | apply Kd.R_drew)); exact HO_5.out) hb); replace HB := Aside0.mk (below_step hb_ hb)))
    go_ret
    exact fin_
attribute [local go_sem] max2_int max_two
set_option linter.unusedVariables false
set_option linter.unusedSimpArgs false
mutual
def idiomref02_Over.l0 : Nat → ByteArray → ByteArray → ByteArray → ByteArray → Int → Option (ByteArray × ByteArray)
  | 0, _, _, _, _, _ => none
  | k + 1, x0, x1, x6, x7, x8 => if x8 < (x0.size : Int) then (if 0 ≤ x8 then (if x8 ≤ (wrap64 (x8 + 1)) then (if (wrap64 (x8 + 1)) ≤ (x0.size : Int) then (if x7.size + (x0.extract (x8 : Int).toNat ((wrap64 (x8 + 1)) : Int).toNat).size ≤ 9223372036854775807 then ((idiomref02_Lead.f k (x7 ++ (x0.extract (x8 : Int).toNat ((wrap64 (x8 + 1)) : Int).toNat))).bind fun t436 => (idiomref02_Over.l1 k x0 x1 x6 t436 x8 0)) else (none)) else (none)) else (none)) else (none)) else ((idiomref02_Lead.f k x6).bind fun t435 => (some (t435, x7)))
def idiomref02_Over.l1 : Nat → ByteArray → ByteArray → ByteArray → ByteArray → Int → Int → Option (ByteArray × ByteArray)
  | 0, _, _, _, _, _, _ => none
  | k + 1, x0, x1, x6, x7, x8, x9 => (idiomref02_Cmp.f k x7 x1).bind fun t437 => (if t437 ≥ 0 then ((idiomref02_Minus.f k x7 x1).bind fun t438 => (idiomref02_Over.l1 k x0 x1 x6 t438 x8 (wrap64 (x9 + 1)))) else ((some (([(wrap64 (48 + x9)) % 256] : List Int) : List Int)).bind fun y439 => (if x6.size + (strOfNums y439).size ≤ 9223372036854775807 then (idiomref02_Over.l0 k x0 x1 (x6 ++ (strOfNums y439)) x7 (wrap64 (x8 + 1))) else (none))))
end
def idiomref02_Over.f (k : Nat) (a0 : ByteArray) (a1 : ByteArray) : Option (ByteArray × ByteArray) := idiomref02_Over.l0 k a0 a1 (⟨#[]⟩ : ByteArray) (⟨#[48]⟩ : ByteArray) 0
set_option maxHeartbeats 8000000 in
set_option maxRecDepth 100000 in
theorem idiomref02_Over.calls (k : Nat) (a0 : ByteArray) (a1 : ByteArray) (r1 : ByteArray) (r2 : ByteArray) (w : World) (h : idiomref02_Over.f k a0 a1 = some (r1, r2)) :
    Calls Tryz.prog 77 #[.string a0, .string a1] w fun e w' => e = .returned (.tuple #[.string r1, .string r2]) ∧ Below w.heap.size w w' := by
 have HB := Aside0.mk (Below.refl w.heap.size w)
 unfold idiomref02_Over.f at h
 have H := h
 clear h
 have H' := Aside0.mk H
 clear H
 go_enter Tryz.func77, Tryz.ntmps77
 go_wp2
 go_loopg [6, 7, 8] k (fun kq v6 v7 v8 w' => ∃ (x6_1 : ByteArray) (x7_1 : ByteArray) (x8_1 : Int), v6 = .string x6_1 ∧ v7 = .string x7_1 ∧ v8 = .int .i64 x8_1 ∧ Aside0 (idiomref02_Over.l0 kq a0 a1 x6_1 x7_1 x8_1 = some (r1, r2)) ∧ Aside0 (kq ≤ k) ∧ Aside0 (Below w.heap.size w w'))
 case atStart => exact ⟨((⟨#[]⟩ : ByteArray)), ((⟨#[48]⟩ : ByteArray)), (0), (by first | rfl | (simp; done) | (simp [*]; done)), (by first | rfl | (simp; done) | (simp [*]; done)), (by first | rfl | (simp; done) | (simp [*]; done)), H', ⟨Nat.le_refl _⟩, ⟨hb_⟩⟩
 case round =>
  clear H'
  obtain ⟨x6_1, x7_1, x8_1, rfl, rfl, rfl, HA, HK1, HB⟩ := hrel
  cases gk with
  | zero => exact absurd HA.out (by simp [idiomref02_Over.l0])
  | succ k1 =>
   have H := HA.out
   clear HA
   simp only [idiomref02_Over.l0] at H
   by_cases c3 : x8_1 < (a0.size : Int)
   ·rw [if_pos c3] at H
    have c3b0 : decide (x8_1 < (a0.size : Int)) = true := decide_eq_true c3
    clear c3
    by_cases c4 : 0 ≤ x8_1
    ·rw [if_pos c4] at H
     have c4b0 := eq_true c4
     have c4b1 : decide (0 ≤ x8_1) = true := decide_eq_true c4
     clear c4
     by_cases c5 : x8_1 ≤ (wrap64 (x8_1 + 1))
     ·rw [if_pos c5] at H
      have c5b0 := eq_true c5
      have c5b1 : decide (x8_1 ≤ (wrap64 (x8_1 + 1))) = true := decide_eq_true c5
      by_cases c6 : (wrap64 (x8_1 + 1)) ≤ (a0.size : Int)
      ·rw [if_pos c6] at H
       have c6b0 := eq_true c6
       have c6b1 : decide ((wrap64 (x8_1 + 1)) ≤ (a0.size : Int)) = true := decide_eq_true c6
       by_cases c7 : x7_1.size + (a0.extract (x8_1 : Int).toNat ((wrap64 (x8_1 + 1)) : Int).toNat).size ≤ 9223372036854775807
       ·rw [if_pos c7] at H
        have c7b0 := eq_true c7
        have c7b1 : decide (x7_1.size + (a0.extract (x8_1 : Int).toNat ((wrap64 (x8_1 + 1)) : Int).toNat).size ≤ 9223372036854775807) = true := decide_eq_true c7
        try have c7b2 : (9223372036854775807 < x7_1.size + (a0.extract (x8_1 : Int).toNat ((wrap64 (x8_1 + 1)) : Int).toNat).size) = False := eq_false (Nat.not_lt.2 c7)
        replace H := Option.bind_eq_some_iff.mp H
        obtain ⟨t436, A80, H⟩ := H
        try dsimp only at H
        have A8 := Aside0.mk A80
        clear A80
        have H' := Aside0.mk H
        clear H
        go_wp2_with (first | ((with_reducible refine gate_callee (f := 78) rfl ?_); refine gL_ (some 23) Tryz.func78 #[.string (x7_1 ++ (a0.extract (x8_1 : Int).toNat ((wrap64 (x8_1 + 1)) : Int).toNat))] ?_; (with_reducible refine (idiomref02_Lead.calls k1 (x7_1 ++ (a0.extract (x8_1 : Int).toNat ((wrap64 (x8_1 + 1)) : Int).toNat)) t436 _ A8.out).mono ?_); rintro e w' ⟨rfl, ⟨nd, rfl⟩⟩; refine ⟨_, rfl, ?_⟩))
        go_loopg [7, 9] k1 (fun kq v7 v9 w' => ∃ (x7_2 : ByteArray) (x9_2 : Int), v7 = .string x7_2 ∧ v9 = .int .i64 x9_2 ∧ Aside0 (idiomref02_Over.l1 kq a0 a1 x6_1 x7_2 x8_1 x9_2 = some (r1, r2)) ∧ Aside0 (kq ≤ k1) ∧ Aside0 (Below w.heap.size w w'))
        case atStart => exact ⟨(t436), (0), (by first | rfl | (simp; done) | (simp [*]; done)), (by first | rfl | (simp; done) | (simp [*]; done)), H', ⟨Nat.le_refl _⟩, ⟨hb_⟩⟩
        case round =>
         clear H'
         (try clear c3); (try clear c3b0); (try clear c4); (try clear c4b0); (try clear c4b1); (try clear c5); (try clear c5b0); (try clear c5b1); (try clear c6); (try clear c6b0); (try clear c6b1); (try clear c7); (try clear c7b0); (try clear c7b1); (try clear c7b2)
         obtain ⟨x7_2, x9_2, rfl, rfl, HA, HK2, HB⟩ := hrel
         cases gk with
         | zero => exact absurd HA.out (by simp [idiomref02_Over.l1])
         | succ k2 =>
          have H := HA.out
          clear HA
          simp only [idiomref02_Over.l1] at H
          replace H := Option.bind_eq_some_iff.mp H
          obtain ⟨t437, A90, H⟩ := H
          try dsimp only at H
          have A9 := Aside0.mk A90
          clear A90
          have HF10 := Aside0.mk H
          clear H
          go_upto_if 27 with (first | ((with_reducible refine gate_callee (f := 56) rfl ?_); refine gL_ (some 26) Tryz.func56 #[.string x7_2, .string a1] ?_; (with_reducible refine (idiomref02_Cmp.calls k2 x7_2 a1 t437 _ A9.out).mono ?_); rintro e w' ⟨rfl, ⟨nd, rfl⟩⟩; refine ⟨_, rfl, ?_⟩))
          (try simp only [Act.put, List.setIfInBounds_toArray, List.set_cons_zero, List.set_cons_succ])
          have H := HF10.out
          clear HF10
          by_cases c11 : t437 ≥ 0
          ·rw [if_pos c11] at H
           have c11b0 : decide (0 ≤ t437) = true := decide_eq_true c11
           clear c11
           (first | rw [c11b0] | (simp only [i64_w, i32_w]; rw [c11b0]) | skip)
           replace H := Option.bind_eq_some_iff.mp H
           obtain ⟨t438, A120, H⟩ := H
           try dsimp only at H
           have A12 := Aside0.mk A120
           clear A120
           have H' := Aside0.mk H
           clear H
           go_wp2_with (first | ((with_reducible refine gate_callee (f := 96) rfl ?_); refine gL_ (some 30) Tryz.func96 #[.string x7_2, .string a1] ?_; (with_reducible refine (idiomref02_Minus.calls k2 x7_2 a1 t438 _ A12.out).mono ?_); rintro e w13 ⟨rfl, hb⟩; refine ⟨_, rfl, ?_⟩; replace HB := Aside0.mk (below_step hb_ hb)))
           go_roundg k2
           case measure => have := HK1.out; have := HK2.out; omega
           case rel => exact ⟨(t438), (wrap64 (x9_2 + 1)), (by first | rfl | (simp; done) | (simp [*]; done)), (by first | rfl | (simp; done) | (simp [*]; done)), H', ⟨by have := HK1.out; have := HK2.out; omega⟩, ⟨hb_⟩⟩
          ·rw [if_neg c11] at H
           have c11b0 : decide (0 ≤ t437) = false := decide_eq_false c11
           clear c11
           (first | rw [c11b0] | (simp only [i64_w, i32_w]; rw [c11b0]) | skip)
           obtain ⟨y439, hy439⟩ : ∃ y_ : List Int, y_ = (([(wrap64 (48 + x9_2)) % 256] : List Int)) := ⟨_, rfl⟩
           rw [Option.bind_some, ← hy439] at H
           have Ny439 := Aside0.mk hy439
           clear hy439
           by_cases c14 : x6_1.size + (strOfNums y439).size ≤ 9223372036854775807
           ·rw [if_pos c14] at H
            have c14b0 := eq_true c14
            have c14b1 : decide (x6_1.size + (strOfNums y439).size ≤ 9223372036854775807) = true := decide_eq_true c14
            try have c14b2 : (9223372036854775807 < x6_1.size + (strOfNums y439).size) = False := eq_false (Nat.not_lt.2 c14)
            have H' := Aside0.mk H
            clear H
            go_wp2_with (first | ((with_reducible refine gate_dst (N := 37) rfl ?_); refine Kd.R_lit (Kd.int .u8) _ 5 ?hg (N := 37) ?hd (xs := ([(wrap64 (48 + x9_2)) % 256] : List Int)) (inner := [.int .u8 ((wrap64 (48 + x9_2)) % 256)]) (ok := fun _ => True) (okp := fun _ => True) ?hr ?hp (fun _ hk => hk) trivial (Below.refl _ _) (Nat.le_refl _) (by simp) ?_; (case hd => rfl); (case hg => rfl); (case hr => first | (go_simp; done) | (go_simp; rfl)); (case hp => exact (Reps.one (show Kd.M (Kd.int .u8) _ _ _ ((wrap64 (48 + x9_2)) % 256) [.int .u8 ((wrap64 (48 + x9_2)) % 256)] from rfl) (Reps.none _ _))); intro v440 w15 ho16 hb hg_ hnew_; clear hg_ hnew_; (first | rw [← Ny439.out] at ho16 | (simp only [Int.reduceToNat] at ho16; rw [← Ny439.out] at ho16)); have HO441 := Aside0.mk (Kd.R_lower ho16 (below_size hb_)); replace HB := Aside0.mk (below_step hb_ hb); clear hb ho16; have hcv17 := own_string (P := Tryz.prog) Tryz.underlying62 Tryz.underlying5 Tryz.underlying9 (Kd.own_of_R HO441.out)))
            go_roundg k2
            case measure => have := HK1.out; have := HK2.out; omega
            case rel => exact ⟨(x6_1 ++ (strOfNums y439)), (x7_2), (wrap64 (x8_1 + 1)), (by first | rfl | (simp; done) | (simp [*]; done)), (by first | rfl | (simp; done) | (simp [*]; done)), (by first | rfl | (simp; done) | (simp [*]; done)), H', ⟨by have := HK1.out; have := HK2.out; omega⟩, ⟨hb_⟩⟩
           ·rw [if_neg c14] at H
            exact absurd H (by simp)
       ·rw [if_neg c7] at H
        exact absurd H (by simp)
      ·rw [if_neg c6] at H
       exact absurd H (by simp)
     ·rw [if_neg c5] at H
      exact absurd H (by simp)
    ·rw [if_neg c4] at H
     exact absurd H (by simp)
   ·rw [if_neg c3] at H
    have c3b0 : decide (x8_1 < (a0.size : Int)) = false := decide_eq_false c3
    clear c3
    replace H := Option.bind_eq_some_iff.mp H
    obtain ⟨t435, A180, H⟩ := H
    try dsimp only at H
    have A18 := Aside0.mk A180
    clear A180
    simp only [Option.some.injEq, Prod.mk.injEq] at H
    obtain ⟨rfl, rfl⟩ := H
    go_wp2_with (first | ((with_reducible refine gate_callee (f := 78) rfl ?_); refine gL_ (some 41) Tryz.func78 #[.string x6_1] ?_; (with_reducible refine (idiomref02_Lead.calls k1 x6_1 t435 _ A18.out).mono ?_); rintro e w' ⟨rfl, ⟨nd, rfl⟩⟩; refine ⟨_, rfl, ?_⟩))
    go_ret2
    exact fin_
attribute [local go_sem] max2_int max_two
set_option linter.unusedVariables false
set_option linter.unusedSimpArgs false
def idiomref02_Make.j0 : Nat → Bool → ByteArray → Int → Option (Bool × ByteArray × ByteArray × Int)
  | 0, _, _, _ => none
  | k + 1, x0, x1, x2 => if (x1.size : Int) ≤ x2 then ((idiomref02_Zeros.f k (wrap64 ((wrap64 (x2 + 1)) - (x1.size : Int)))).bind fun t457 => (if t457.size + x1.size ≤ 9223372036854775807 then ((some (t457 ++ x1 : ByteArray)).bind fun y458 => (if (y458.size : Int) > 40 then (some (false, (⟨#[]⟩ : ByteArray), (⟨#[]⟩ : ByteArray), 3)) else (if 0 ≤ (wrap64 ((y458.size : Int) - x2)) then (if (wrap64 ((y458.size : Int) - x2)) ≤ (y458.size : Int) then (some (x0, (y458.extract 0 ((wrap64 ((y458.size : Int) - x2)) : Int).toNat), (y458.extract ((wrap64 ((y458.size : Int) - x2)) : Int).toNat y458.size), 0)) else (none)) else (none)))) else (none))) else (if (x1.size : Int) > 40 then (some (false, (⟨#[]⟩ : ByteArray), (⟨#[]⟩ : ByteArray), 3)) else (if 0 ≤ (wrap64 ((x1.size : Int) - x2)) then (if (wrap64 ((x1.size : Int) - x2)) ≤ (x1.size : Int) then (some (x0, (x1.extract 0 ((wrap64 ((x1.size : Int) - x2)) : Int).toNat), (x1.extract ((wrap64 ((x1.size : Int) - x2)) : Int).toNat x1.size), 0)) else (none)) else (none)))
def idiomref02_Make.f (k : Nat) (a0 : Bool) (a1 : ByteArray) (a2 : Int) : Option (Bool × ByteArray × ByteArray × Int) := (idiomref02_Lead.f k a1).bind fun t456 => (if a0 = true then (idiomref02_Make.j0 k (t456.toList != ([48] : List UInt8)) t456 a2) else (idiomref02_Make.j0 k false t456 a2))
def idiomref02_Make.T7 : Bool × List (List Nat × List Nat) := (true, [([], []), ([], []), ([], []), ([2], [2]), ([], []), ([3, 4], [3, 4]), ([1, 5], [1, 5]), ([], []), ([], []), ([8], [8]), ([], []), ([9, 10], [9, 10]), ([7, 11], [7, 11]), ([0, 6, 12], [0, 6, 12]), ([13, 0, 1, 2, 3, 4, 5, 6, 7, 8, 9, 10, 11, 12, 13], [13]), ([14, 0, 1, 2, 3, 4, 5, 6, 7, 8, 9, 10, 11, 12, 13, 14], [])])
def idiomref02_Make.B7 : List Nat := [0, 0, 0, 4, 0, 28, 62, 0, 0, 256, 0, 1792, 3968, 8191, 16383, 32767]
theorem idiomref02_Make.tab7 : rtab .any (opsOf Tryz.f45 7) = idiomref02_Make.T7 := by kernel_rfl
theorem idiomref02_Make.bits7 : waitsOk idiomref02_Make.T7.2 idiomref02_Make.B7 = true := by kernel_rfl
set_option maxHeartbeats 8000000 in
set_option maxRecDepth 100000 in
theorem idiomref02_Make.calls (k : Nat) (a0 : Bool) (a1 : ByteArray) (a2 : Int) (r1 : Bool) (r2 : ByteArray) (r3 : ByteArray) (r4 : Int) (w : World) (h : idiomref02_Make.f k a0 a1 a2 = some (r1, r2, r3, r4)) :
    Calls Tryz.prog 45 #[.bool a0, .string a1, .int .i64 a2] w fun e w' => e = .returned (.tuple #[.agg #[.bool r1, .string r2, .string r3], .int .i64 r4]) ∧ Below w.heap.size w w' := by
 have hu23 := Tryz.underlying23
 have HB := Aside0.mk (Below.refl w.heap.size w)
 unfold idiomref02_Make.f at h
 have H := h
 clear h
 replace H := Option.bind_eq_some_iff.mp H
 obtain ⟨t456, A40, H⟩ := H
 try dsimp only at H
 have A4 := Aside0.mk A40
 clear A40
 have HC5 := Aside0.mk H
 clear H
 go_enter Tryz.func45, Tryz.ntmps45
 go_upto_region 2 with (first | ((with_reducible refine gate_dst (N := 6) rfl ?_); refine bx_ #[.bool false, .string (⟨#[]⟩ : ByteArray), .string (⟨#[]⟩ : ByteArray)] 23 ?_; intro gb455 hg w6 hbox hb; have BK455 := Aside0.mk (hbox); have GW455 := ge_ (w := w) hg; have GE455 := ge_ (w := w) hg; replace HB := Aside0.mk (below_step hb_ hb); clear hb hbox hg) | ((with_reducible refine gate_callee (f := 78) rfl ?_); refine gL_ (some 9) Tryz.func78 #[.string a1] ?_; (with_reducible refine (idiomref02_Lead.calls k a1 t456 _ A4.out).mono ?_); rintro e w' ⟨rfl, ⟨nd, rfl⟩⟩; refine ⟨_, rfl, ?_⟩))
 (try simp only [Act.put, List.setIfInBounds_toArray, List.set_cons_zero, List.set_cons_succ])
 go_cut [0] (fun v0 wc => ∃ (kq : Nat) (x0_4 : Bool), v0 = .bool x0_4 ∧ Aside0 (idiomref02_Make.j0 kq x0_4 t456 a2 = some (r1, r2, r3, r4)) ∧ Aside0 (kq ≤ k) ∧ Aside0 (wc.heap[gb455]? = some (.cells #[.bool false, .string (⟨#[]⟩ : ByteArray), .string (⟨#[]⟩ : ByteArray)] 23 (0, 0))) ∧ Aside0 (Below w.heap.size w wc))
 case first =>
  have H := HC5.out
  clear HC5
  by_cases c7 : a0 = true
  ·subst c7
   have H1 : (idiomref02_Make.j0 k (t456.toList != ([48] : List UInt8)) t456 a2) = some (r1, r2, r3, r4) := by rw [if_pos rfl] at H; exact H
   clear H
   have H := H1
   clear H1
   have H' := Aside0.mk H
   clear H
   go_wp2
   go_meet
   case rel => exact ⟨_, ((t456.toList != ([48] : List UInt8))), (by first | rfl | (simp; done) | (simp [*]; done)), H', ⟨by first | omega | exact Nat.le_refl _⟩, ⟨by exact BK455.out⟩, ⟨hb_⟩⟩
  ·replace c7 := Bool.eq_false_iff.mpr c7
   subst c7
   have H1 : (idiomref02_Make.j0 k false t456 a2) = some (r1, r2, r3, r4) := by rw [if_neg (show ¬ (false = true) by decide)] at H; exact H
   clear H
   have H := H1
   clear H1
   have H' := Aside0.mk H
   clear H
   go_wp2
   go_meet
   case rel => exact ⟨_, (false), (by first | rfl | (simp; done) | (simp [*]; done)), H', ⟨by first | omega | exact Nat.le_refl _⟩, ⟨by exact BK455.out⟩, ⟨hb_⟩⟩
 case rest =>
  clear HC5
  obtain ⟨kq, x0_4, rfl, HA, HJ4, BK455, HB⟩ := hcut
  cases kq with
  | zero => exact absurd HA.out (by simp [idiomref02_Make.j0])
  | succ kj4 =>
   have H := HA.out
   clear HA
   simp only [idiomref02_Make.j0] at H
   by_cases c8 : (t456.size : Int) ≤ a2
   ·rw [if_pos c8] at H
    have c8b0 : decide ((t456.size : Int) ≤ a2) = true := decide_eq_true c8
    clear c8
    replace H := Option.bind_eq_some_iff.mp H
    obtain ⟨t457, A90, H⟩ := H
    try dsimp only at H
    have A9 := Aside0.mk A90
    clear A90
    by_cases c10 : t457.size + t456.size ≤ 9223372036854775807
    ·rw [if_pos c10] at H
     have c10b0 := eq_true c10
     have c10b1 : decide (t457.size + t456.size ≤ 9223372036854775807) = true := decide_eq_true c10
     try have c10b2 : (9223372036854775807 < t457.size + t456.size) = False := eq_false (Nat.not_lt.2 c10)
     obtain ⟨y458, hy458⟩ : ∃ y_ : ByteArray, y_ = (t457 ++ t456) := ⟨_, rfl⟩
     rw [Option.bind_some, ← hy458] at H
     have Ny458 := Aside0.mk hy458
     replace hy458 := hy458.symm
     have HF11 := Aside0.mk H
     clear H
     go_upto_if 29 with (first | ((with_reducible refine gate_callee (f := 65) rfl ?_); refine gL_ (some 24) Tryz.func65 #[.int .i64 (wrap64 ((wrap64 (a2 + 1)) - (t456.size : Int)))] ?_; (with_reducible refine (idiomref02_Zeros.calls kj4 (wrap64 ((wrap64 (a2 + 1)) - (t456.size : Int))) t457 _ A9.out).mono ?_); rintro e w12 ⟨rfl, hb⟩; refine ⟨_, rfl, ?_⟩; replace BK455 := BK455.bl hb; replace HB := Aside0.mk (below_step hb_ hb)))
     (try simp only [Act.put, List.setIfInBounds_toArray, List.set_cons_zero, List.set_cons_succ])
     have H := HF11.out
     clear HF11
     by_cases c13 : (y458.size : Int) > 40
     ·rw [if_pos c13] at H
      have c13b0 : decide (40 < (y458.size : Int)) = true := decide_eq_true c13
      have c13b1 : decide (40 < y458.size) = true := decide_eq_true (by omega)
      clear c13
      (first | rw [c13b0] | (simp only [i64_w, i32_w]; rw [c13b0]) | rw [c13b1] | skip)
      simp only [Option.some.injEq, Prod.mk.injEq] at H
      obtain ⟨rfl, rfl, rfl, rfl⟩ := H
      obtain ⟨hcz14_0, hcz14_1, hcz14_2, hfz14_0, hfz14_1, hfz14_2⟩ := BK455.c3
      go_wp2
      refine bodyPost_ret (results_ct rfl _ _ gb455 23 #[.bool false, .string (⟨#[]⟩ : ByteArray), .string (⟨#[]⟩ : ByteArray)] (0, 0) _ rfl (by refine put3_ (cs := #[.bool false, .string (⟨#[]⟩ : ByteArray), .string (⟨#[]⟩ : ByteArray)]) ?_; exact BK455.out) Tryz.underlying23 rfl (by kernel_rfl)) rfl ?_
      exact fin_
     ·rw [if_neg c13] at H
      have c13b0 : decide (40 < (y458.size : Int)) = false := decide_eq_false c13
      have c13b1 : decide (40 < y458.size) = false := decide_eq_false (by omega)
      clear c13
      (first | rw [c13b0] | (simp only [i64_w, i32_w]; rw [c13b0]) | rw [c13b1] | skip)
      obtain ⟨ji15, hji15⟩ : ∃ j_ : Int, (wrap64 ((y458.size : Int) - a2)) = j_ := ⟨_, rfl⟩
      replace H : (if 0 ≤ (ji15) then (if (ji15) ≤ (y458.size : Int) then (some (x0_4, (y458.extract 0 ((ji15) : Int).toNat), (y458.extract ((ji15) : Int).toNat y458.size), 0)) else (none)) else (none)) = some (r1, r2, r3, r4) := by first | (rw [hji15] at H; exact H) | (simp only [hji15] at H ⊢; exact H)
      have hji15w : (IntKind.i64.wrap ((y458.size : Int) - a2)) = ji15 := (i64_w _).trans hji15
      by_cases c16 : 0 ≤ (ji15)
      ·rw [if_pos c16] at H
       have c16b0 := eq_true c16
       have c16b1 : decide (0 ≤ (ji15)) = true := decide_eq_true c16
       clear c16
       by_cases c17 : (ji15) ≤ (y458.size : Int)
       ·rw [if_pos c17] at H
        have c17b0 := eq_true c17
        have c17b1 : decide ((ji15) ≤ (y458.size : Int)) = true := decide_eq_true c17
        clear c17
        obtain ⟨y459, hy459⟩ : ∃ y_ : ByteArray, y_ = (y458.extract 0 ((ji15) : Int).toNat) := ⟨_, rfl⟩
        rw [← hy459] at H
        have Ny459 := Aside0.mk hy459
        replace hy459 := hy459.symm
        have c18b0 := eq_true (of_decide_eq_true (by first | (with_reducible assumption) | assumption) : 0 ≤ (ji15))
        have c19b0 := eq_true (of_decide_eq_true (by first | (with_reducible assumption) | assumption) : (ji15) ≤ (y458.size : Int))
        obtain ⟨y460, hy460⟩ : ∃ y_ : ByteArray, y_ = (y458.extract ((ji15) : Int).toNat y458.size) := ⟨_, rfl⟩
        rw [← hy460] at H
        have Ny460 := Aside0.mk hy460
        replace hy460 := hy460.symm
        simp only [Option.some.injEq, Prod.mk.injEq] at H
        obtain ⟨rfl, rfl, rfl, rfl⟩ := H
        try go_wp2
        replace BK455 := Aside0.mk (blk_drew BK455.out)
        replace HB := Aside0.mk (below_drew1 HB.out)
        refine start_ (n := 16) (S := fun w' => True) (ds := []) #[false, false, false, false, false, false, false, false, false, false, false, false, false, false, false, false] (by kernel_rfl) rfl rfl trivial (fun hHeld => ?_); refine with_tabW idiomref02_Make.tab7 idiomref02_Make.bits7 (fun HT_ HW_ => ?_)
        generalize w12.drew = w20 at BK455 HB hHeld ⊢
        refine pr_ 0 (some 31) ?_
        refine pr_ 1 (some 32) ?_
        refine pr_ 2 (some 33) ?_
        refine pr_ 3 (some 34) ?_
        refine pr_ 4 (some 35) ?_
        refine pr_ 5 (some 36) ?_
        refine pr_ 6 (some 37) ?_
        refine pr_ 7 (some 38) ?_
        refine pr_ 8 (some 39) ?_
        refine pr_ 9 (some 40) ?_
        refine pr_ 10 (some 41) ?_
        refine pr_ 11 (some 42) ?_
        refine pr_ 12 (some 43) ?_
        refine pr_ 13 (some 44) ?_
        refine one_ (i := 14) (N := none) #[true, true, true, true, true, true, true, true, true, true, true, true, true, true, true, false] rfl rfl (one_of HT_.out (by kernel_rfl)) (by decide) (fun K hK => ?_)
        have hs21 : w20.cell? ⟨gb455, 0, none⟩ = some (.bool false) := (blk_cell BK455.out 0).trans rfl
        have hfs21 := blk_frozen BK455.out 0
        have hs22 : w20.cell? ⟨gb455, 1, none⟩ = some (.string (⟨#[]⟩ : ByteArray)) := (blk_cell BK455.out 1).trans rfl
        have hfs22 := blk_frozen BK455.out 1
        have hs23 : w20.cell? ⟨gb455, 2, none⟩ = some (.string (⟨#[]⟩ : ByteArray)) := (blk_cell BK455.out 2).trans rfl
        have hfs23 := blk_frozen BK455.out 2
        refine skip_ (w1 := ?_) (by rfl) rfl ?_ ?_
        rotate_left
        ·go_simp
         rfl
        refine hK.out _ _ trivial (fun hHeld => ?_)
        clear hK K
        refine pr_ 15 (some 7) ?_
        refine done_ (done_of HT_.out (by kernel_rfl)) ?_
        (try clear hfs23 hs23 hfs22 hs22 hfs21 hs21)
        try go_wp2
        refine bodyPost_ret (results_ct rfl _ _ gb455 23 #[.bool x0_4, .string y459, .string y460] (0, 0) _ rfl (by refine put3_ (cs := #[.bool false, .string (⟨#[]⟩ : ByteArray), .string (⟨#[]⟩ : ByteArray)]) ?_; exact BK455.out) Tryz.underlying23 rfl (by kernel_rfl)) rfl ?_
        exact ⟨by first | rfl | (simp [errW_none, errW_some] <;> rfl) | (simp only [← hji15]; first | rfl | (simp [errW_none, errW_some] <;> rfl)) | (simp [*, errW_none, errW_some] <;> rfl) | (simp [bne_nil_]; done), hb_⟩
       ·rw [if_neg c17] at H
        exact absurd H (by simp)
      ·rw [if_neg c16] at H
       exact absurd H (by simp)
    ·rw [if_neg c10] at H
     exact absurd H (by simp)
   ·rw [if_neg c8] at H
    have c8b0 : decide ((t456.size : Int) ≤ a2) = false := decide_eq_false c8
    clear c8
    by_cases c24 : (t456.size : Int) > 40
    ·rw [if_pos c24] at H
     have c24b0 : decide (40 < (t456.size : Int)) = true := decide_eq_true c24
     have c24b1 : decide (40 < t456.size) = true := decide_eq_true (by omega)
     clear c24
     simp only [Option.some.injEq, Prod.mk.injEq] at H
     obtain ⟨rfl, rfl, rfl, rfl⟩ := H
     obtain ⟨hcz25_0, hcz25_1, hcz25_2, hfz25_0, hfz25_1, hfz25_2⟩ := BK455.c3
     go_wp2
     refine bodyPost_ret (results_ct rfl _ _ gb455 23 #[.bool false, .string (⟨#[]⟩ : ByteArray), .string (⟨#[]⟩ : ByteArray)] (0, 0) _ rfl (by refine put3_ (cs := #[.bool false, .string (⟨#[]⟩ : ByteArray), .string (⟨#[]⟩ : ByteArray)]) ?_; exact BK455.out) Tryz.underlying23 rfl (by kernel_rfl)) rfl ?_
     exact fin_
    ·rw [if_neg c24] at H
     have c24b0 : decide (40 < (t456.size : Int)) = false := decide_eq_false c24
     have c24b1 : decide (40 < t456.size) = false := decide_eq_false (by omega)
     clear c24
     obtain ⟨ji26, hji26⟩ : ∃ j_ : Int, (wrap64 ((t456.size : Int) - a2)) = j_ := ⟨_, rfl⟩
     replace H : (if 0 ≤ (ji26) then (if (ji26) ≤ (t456.size : Int) then (some (x0_4, (t456.extract 0 ((ji26) : Int).toNat), (t456.extract ((ji26) : Int).toNat t456.size), 0)) else (none)) else (none)) = some (r1, r2, r3, r4) := by first | (rw [hji26] at H; exact H) | (simp only [hji26] at H ⊢; exact H)
     have hji26w : (IntKind.i64.wrap ((t456.size : Int) - a2)) = ji26 := (i64_w _).trans hji26
     by_cases c27 : 0 ≤ (ji26)
     ·rw [if_pos c27] at H
      have c27b0 := eq_true c27
      have c27b1 : decide (0 ≤ (ji26)) = true := decide_eq_true c27
      clear c27
      by_cases c28 : (ji26) ≤ (t456.size : Int)
      ·rw [if_pos c28] at H
       have c28b0 := eq_true c28
       have c28b1 : decide ((ji26) ≤ (t456.size : Int)) = true := decide_eq_true c28
       clear c28
       obtain ⟨y461, hy461⟩ : ∃ y_ : ByteArray, y_ = (t456.extract 0 ((ji26) : Int).toNat) := ⟨_, rfl⟩
       rw [← hy461] at H
       have Ny461 := Aside0.mk hy461
       replace hy461 := hy461.symm
       have c29b0 := eq_true (of_decide_eq_true (by first | (with_reducible assumption) | assumption) : 0 ≤ (ji26))
       have c30b0 := eq_true (of_decide_eq_true (by first | (with_reducible assumption) | assumption) : (ji26) ≤ (t456.size : Int))
       obtain ⟨y462, hy462⟩ : ∃ y_ : ByteArray, y_ = (t456.extract ((ji26) : Int).toNat t456.size) := ⟨_, rfl⟩
       rw [← hy462] at H
       have Ny462 := Aside0.mk hy462
       replace hy462 := hy462.symm
       simp only [Option.some.injEq, Prod.mk.injEq] at H
       obtain ⟨rfl, rfl, rfl, rfl⟩ := H
       try go_wp2
       replace BK455 := Aside0.mk (blk_drew BK455.out)
       replace HB := Aside0.mk (below_drew1 HB.out)
       refine start_ (n := 16) (S := fun w' => True) (ds := []) #[false, false, false, false, false, false, false, false, false, false, false, false, false, false, false, false] (by kernel_rfl) rfl rfl trivial (fun hHeld => ?_); refine with_tabW idiomref02_Make.tab7 idiomref02_Make.bits7 (fun HT_ HW_ => ?_)
       generalize wc.drew = w31 at BK455 HB hHeld ⊢
       refine pr_ 0 (some 31) ?_
       refine pr_ 1 (some 32) ?_
       refine pr_ 2 (some 33) ?_
       refine pr_ 3 (some 34) ?_
       refine pr_ 4 (some 35) ?_
       refine pr_ 5 (some 36) ?_
       refine pr_ 6 (some 37) ?_
       refine pr_ 7 (some 38) ?_
       refine pr_ 8 (some 39) ?_
       refine pr_ 9 (some 40) ?_
       refine pr_ 10 (some 41) ?_
       refine pr_ 11 (some 42) ?_
       refine pr_ 12 (some 43) ?_
       refine pr_ 13 (some 44) ?_
       refine one_ (i := 14) (N := none) #[true, true, true, true, true, true, true, true, true, true, true, true, true, true, true, false] rfl rfl (one_of HT_.out (by kernel_rfl)) (by decide) (fun K hK => ?_)
       have hs32 : w31.cell? ⟨gb455, 0, none⟩ = some (.bool false) := (blk_cell BK455.out 0).trans rfl
       have hfs32 := blk_frozen BK455.out 0
       have hs33 : w31.cell? ⟨gb455, 1, none⟩ = some (.string (⟨#[]⟩ : ByteArray)) := (blk_cell BK455.out 1).trans rfl
       have hfs33 := blk_frozen BK455.out 1
       have hs34 : w31.cell? ⟨gb455, 2, none⟩ = some (.string (⟨#[]⟩ : ByteArray)) := (blk_cell BK455.out 2).trans rfl
       have hfs34 := blk_frozen BK455.out 2
       refine skip_ (w1 := ?_) (by rfl) rfl ?_ ?_
       rotate_left
       ·go_simp
        rfl
       refine hK.out _ _ trivial (fun hHeld => ?_)
       clear hK K
       refine pr_ 15 (some 7) ?_
       refine done_ (done_of HT_.out (by kernel_rfl)) ?_
       (try clear hfs34 hs34 hfs33 hs33 hfs32 hs32)
       try go_wp2
       refine bodyPost_ret (results_ct rfl _ _ gb455 23 #[.bool x0_4, .string y461, .string y462] (0, 0) _ rfl (by refine put3_ (cs := #[.bool false, .string (⟨#[]⟩ : ByteArray), .string (⟨#[]⟩ : ByteArray)]) ?_; exact BK455.out) Tryz.underlying23 rfl (by kernel_rfl)) rfl ?_
       exact ⟨by first | rfl | (simp [errW_none, errW_some] <;> rfl) | (simp only [← hji26]; first | rfl | (simp [errW_none, errW_some] <;> rfl)) | (simp [*, errW_none, errW_some] <;> rfl) | (simp [bne_nil_]; done), hb_⟩
      ·rw [if_neg c28] at H
       exact absurd H (by simp)
     ·rw [if_neg c27] at H
      exact absurd H (by simp)
attribute [local go_sem] max2_int max_two
set_option linter.unusedVariables false
set_option linter.unusedSimpArgs false
def idiomref02_First.l0 : Nat → List Int → Int → Option (Int)
  | 0, _, _ => none
  | k + 1, x0, x3 => if x3 < (x0.length : Int) then (if 0 ≤ x3 then (if (rd x0 x3) = 0 then (idiomref02_First.l0 k x0 (wrap64 (x3 + 1))) else (some (rd x0 x3))) else (none)) else (some 0)
def idiomref02_First.f (k : Nat) (l0 : List Int) : Option (Int) := idiomref02_First.l0 k l0 0
set_option maxHeartbeats 8000000 in
set_option maxRecDepth 100000 in
theorem idiomref02_First.calls (k : Nat) (A0 : Option Addr) (c0 : Nat) (l0 : List Int) (r : Int) (w : World) (hr0 : Kd.C (Kd.int .i64) w A0 l0.length l0) (hc0 : l0.length ≤ c0) (h : idiomref02_First.f k l0 = some r) :
    Calls Tryz.prog 32 #[.slice A0 l0.length c0] w fun e w' => e = .returned (.int .i64 r) ∧ Drawn0 w w' := by
 have HR0 := Aside0.mk hr0
 have HC0 := Aside0.mk hc0
 clear hr0 hc0
 unfold idiomref02_First.f at h
 have H := h
 clear h
 have H' := Aside0.mk H
 clear H
 go_enter Tryz.func32, Tryz.ntmps32
 go_wp2
 go_loopg [3] k (fun kq v3 w' => ∃ (x3_1 : Int), v3 = .int .i64 x3_1 ∧ Aside0 (idiomref02_First.l0 kq l0 x3_1 = some r) ∧ Aside0 (kq ≤ k) ∧ Drawn0 w w')
 case atStart => exact ⟨(0), (by first | rfl | (simp; done) | (simp [*]; done)), H', ⟨Nat.le_refl _⟩, by repeat (first | exact Drawn0.refl _ | apply Drawn0.step)⟩
 case round =>
  clear H'
  obtain ⟨x3_1, rfl, HA, HK1, ⟨m1, rfl⟩⟩ := hrel
  cases gk with
  | zero => exact absurd HA.out (by simp [idiomref02_First.l0])
  | succ k1 =>
   have H := HA.out
   clear HA
   simp only [idiomref02_First.l0] at H
   by_cases c2 : x3_1 < (l0.length : Int)
   ·rw [if_pos c2] at H
    have c2b0 : decide (x3_1 < (l0.length : Int)) = true := decide_eq_true c2
    clear c2
    by_cases c3 : 0 ≤ x3_1
    ·rw [if_pos c3] at H
     have c3b0 : decide (0 ≤ x3_1) = true := decide_eq_true c3
     clear c3
     by_cases c4 : (rd l0 x3_1) = 0
     ·rw [if_pos c4] at H
      have c4b0 : ((rd l0 x3_1) == 0) = true := beq_iff_eq.mpr c4
      have c4b1 : ((rd l0 x3_1) != 0) = false := bne_eq_false_iff_eq.mpr c4
      clear c4
      have H' := Aside0.mk H
      clear H
      have p162 : 0 ≤ (x3_1 : Int) := of_decide_eq_true (by first | (with_reducible assumption) | assumption)
      have q162 : x3_1 < (l0.length : Int) := of_decide_eq_true (by first | (with_reducible assumption) | assumption)
      obtain ⟨ad162, e162, hx162_0⟩ := Kd.at_int HR0.out x3_1 p162 q162
      cases e162
      replace p162 := eq_true p162
      replace q162 := eq_true q162
      go_wp2
      go_roundg k1
      case measure => have := HK1.out; omega
      case rel => exact ⟨(wrap64 (x3_1 + 1)), (by first | rfl | (simp; done) | (simp [*]; done)), H', ⟨by have := HK1.out; omega⟩, by repeat (first | exact Drawn0.refl _ | apply Drawn0.step)⟩
     ·rw [if_neg c4] at H
      have c4b0 : ((rd l0 x3_1) == 0) = false := beq_eq_false_iff_ne.mpr c4
      have c4b1 : ((rd l0 x3_1) != 0) = true := bne_iff_ne.mpr c4
      obtain rfl := Option.some.inj H
      have p162 : 0 ≤ (x3_1 : Int) := of_decide_eq_true (by first | (with_reducible assumption) | assumption)
      have q162 : x3_1 < (l0.length : Int) := of_decide_eq_true (by first | (with_reducible assumption) | assumption)
      obtain ⟨ad162, e162, hx162_0⟩ := Kd.at_int HR0.out x3_1 p162 q162
      cases e162
      replace p162 := eq_true p162
      replace q162 := eq_true q162
      have p163 : 0 ≤ (x3_1 : Int) := of_decide_eq_true (by first | (with_reducible assumption) | assumption)
      have q163 : x3_1 < (l0.length : Int) := of_decide_eq_true (by first | (with_reducible assumption) | assumption)
      obtain ⟨ad163, e163, hx163_0⟩ := Kd.at_int HR0.out x3_1 p163 q163
      obtain rfl : ad162 = ad163 := (by injection e163)
      replace p163 := eq_true p163
      replace q163 := eq_true q163
      go_wp2
      go_ret
      exact ⟨by first | rfl | (simp; done) | (simp [*]; done), by repeat (first | exact Drawn0.refl _ | apply Drawn0.step)⟩
    ·rw [if_neg c3] at H
     exact absurd H (by simp)
   ·rw [if_neg c2] at H
    have c2b0 : decide (x3_1 < (l0.length : Int)) = false := decide_eq_false c2
    clear c2
    obtain rfl := Option.some.inj H
    go_wp2
    go_ret
    exact ⟨by first | rfl | (simp; done) | (simp [*]; done), by repeat (first | exact Drawn0.refl _ | apply Drawn0.step)⟩
attribute [local go_sem] max2_int max_two
set_option linter.unusedVariables false
set_option linter.unusedSimpArgs false
def decimal_aligned.f (k : Nat) (a0_0 : Bool) (a0_1 : ByteArray) (a0_2 : ByteArray) (a1_0 : Bool) (a1_1 : ByteArray) (a1_2 : ByteArray) : Option (List Int × List Int × Int) := if a0_1.size + a0_2.size ≤ 9223372036854775807 then ((decimal_of.f k (a0_1 ++ a0_2)).bind fun t306 => ((decimal_digits_up.f t306 (wrap64 ((mx (a0_2.size : Int) (a1_2.size : Int)) - (a0_2.size : Int)))).bind fun t309 => (if a1_1.size + a1_2.size ≤ 9223372036854775807 then ((decimal_of.f k (a1_1 ++ a1_2)).bind fun t312 => ((decimal_digits_up.f t312 (wrap64 ((mx (a0_2.size : Int) (a1_2.size : Int)) - (a1_2.size : Int)))).bind fun t315 => (some (t309, t315, mx (a0_2.size : Int) (a1_2.size : Int))))) else (none)))) else (none)
def decimal_aligned.T2 : Bool × List (List Nat × List Nat) := (true, [([], []), ([0], [0]), ([], []), ([2], [2]), ([1, 3], [1, 3]), ([4], [4]), ([], []), ([], []), ([7], [7]), ([8], [8]), ([6, 9], [6, 9]), ([5, 10, 5], [5, 10]), ([], []), ([12], [12]), ([], []), ([14], [14]), ([13, 15], [13, 15]), ([16, 11], [16]), ([], []), ([], []), ([19], [19]), ([20], [20]), ([18, 21], [18, 21]), ([17, 22, 17], [17, 22]), ([], []), ([11, 23, 0, 1, 2, 3, 4, 5, 6, 7, 8, 9, 10, 11], [11]), ([23, 25, 0, 1, 2, 3, 4, 5, 6, 7, 8, 9, 10, 11, 12, 13, 14, 15, 16, 17, 18, 19, 20, 21, 22, 23, 25], [23]), ([24, 26, 0, 1, 2, 3, 4, 5, 6, 7, 8, 9, 10, 11, 12, 13, 14, 15, 16, 17, 18, 19, 20, 21, 22, 23, 24, 25, 26], [6, 18, 24])])
def decimal_aligned.B2 : List Nat := [0, 1, 0, 4, 15, 31, 0, 0, 128, 384, 960, 2047, 0, 4096, 0, 16384, 61440, 131071, 0, 0, 524288, 1572864, 3932160, 8388607, 0, 16777215, 50331647, 134217727]
theorem decimal_aligned.tab2 : rtab .any (opsOf Tryz.f47 2) = decimal_aligned.T2 := by kernel_rfl
theorem decimal_aligned.bits2 : waitsOk decimal_aligned.T2.2 decimal_aligned.B2 = true := by kernel_rfl
set_option maxHeartbeats 8000000 in
set_option maxRecDepth 100000 in
theorem decimal_aligned.calls (k : Nat) (a0_0 : Bool) (a0_1 : ByteArray) (a0_2 : ByteArray) (a1_0 : Bool) (a1_1 : ByteArray) (a1_2 : ByteArray) (r1 : List Int) (r2 : List Int) (r3 : Int) (w : World) (h : decimal_aligned.f k a0_0 a0_1 a0_2 a1_0 a1_1 a1_2 = some (r1, r2, r3)) :
    Calls Tryz.prog 47 #[.agg #[.bool a0_0, .string a0_1, .string a0_2], .agg #[.bool a1_0, .string a1_1, .string a1_2]] w fun e w' => ∃ v0_ v1_ : Value, e = .returned (.tuple #[v0_, v1_, .int .i64 r3]) ∧ Kd.V (Kd.int .u8) 5 w' w.heap.size (fun k_ => (w.heap.size ≤ k_)) v0_ r1 ∧ Kd.V (Kd.int .u8) 5 w' w.heap.size (fun k_ => (w.heap.size ≤ k_)) v1_ r2 ∧ Below w.heap.size w w' := by
 have hu23 := Tryz.underlying23
 have HB := Aside0.mk (Below.refl w.heap.size w)
 unfold decimal_aligned.f at h
 have H := h
 clear h
 obtain ⟨ji3, hji3⟩ : ∃ j_ : Int, (mx (a0_2.size : Int) (a1_2.size : Int)) = j_ := ⟨_, rfl⟩
 replace H : (if a0_1.size + a0_2.size ≤ 9223372036854775807 then ((decimal_of.f k (a0_1 ++ a0_2)).bind fun t306 => ((decimal_digits_up.f t306 (wrap64 ((ji3) - (a0_2.size : Int)))).bind fun t309 => (if a1_1.size + a1_2.size ≤ 9223372036854775807 then ((decimal_of.f k (a1_1 ++ a1_2)).bind fun t312 => ((decimal_digits_up.f t312 (wrap64 ((ji3) - (a1_2.size : Int)))).bind fun t315 => (some (t309, t315, ji3)))) else (none)))) else (none)) = some (r1, r2, r3) := by first | (rw [hji3] at H; exact H) | (simp only [hji3] at H ⊢; exact H)
 (try (have hji3l : 0 ≤ ji3 := by (rw [← hji3]; unfold mx; (repeat' split) <;> omega)))
 (try (have hji3m : 0 ≤ ji3 := by omega))
 have hji3_ : (if (a0_2.size : Int) < (a1_2.size : Int) then (a1_2.size : Int) else (a0_2.size : Int)) = ji3 := hji3
 (try (have hji3n := hji3_; simp only [Int.ofNat_lt] at hji3n))
 by_cases c4 : a0_1.size + a0_2.size ≤ 9223372036854775807
 ·rw [if_pos c4] at H
  have c4b0 := eq_true c4
  have c4b1 : decide (a0_1.size + a0_2.size ≤ 9223372036854775807) = true := decide_eq_true c4
  try have c4b2 : (9223372036854775807 < a0_1.size + a0_2.size) = False := eq_false (Nat.not_lt.2 c4)
  replace H := Option.bind_eq_some_iff.mp H
  obtain ⟨t306, A50, H⟩ := H
  try dsimp only at H
  have A5 := Aside0.mk A50
  clear A50
  replace H := Option.bind_eq_some_iff.mp H
  obtain ⟨t309, A60, H⟩ := H
  try dsimp only at H
  have A6 := Aside0.mk A60
  clear A60
  by_cases c7 : a1_1.size + a1_2.size ≤ 9223372036854775807
  ·rw [if_pos c7] at H
   have c7b0 := eq_true c7
   have c7b1 : decide (a1_1.size + a1_2.size ≤ 9223372036854775807) = true := decide_eq_true c7
   try have c7b2 : (9223372036854775807 < a1_1.size + a1_2.size) = False := eq_false (Nat.not_lt.2 c7)
   replace H := Option.bind_eq_some_iff.mp H
   obtain ⟨t312, A80, H⟩ := H
   try dsimp only at H
   have A8 := Aside0.mk A80
   clear A80
   replace H := Option.bind_eq_some_iff.mp H
   obtain ⟨t315, A90, H⟩ := H
   try dsimp only at H
   have A9 := Aside0.mk A90
   clear A90
   simp only [Option.some.injEq, Prod.mk.injEq] at H
   obtain ⟨rfl, rfl, rfl⟩ := H
   go_enter Tryz.func47, Tryz.ntmps47
   try go_wp2_with (first | ((with_reducible refine gate_dst (N := 2) rfl ?_); refine bx_ #[.bool a0_0, .string a0_1, .string a0_2] 23 ?_; intro gb304 hg w10 hbox hb; have BK304 := Aside0.mk (hbox); have GW304 := ge_ (w := w) hg; have GE304 := ge_ (w := w) hg; replace HB := Aside0.mk (below_step hb_ hb); clear hb hbox hg) | ((with_reducible refine gate_dst (N := 3) rfl ?_); refine bx_ #[.bool a1_0, .string a1_1, .string a1_2] 23 ?_; intro gb305 hg w11 hbox hb; have BK305 := Aside0.mk (hbox); have GW305 := ge_ (w := w) hg; have GE305 := ge_ (w := w) hg; have NB304_305 := BK304.nl hg; have NB305_304 := BK304.ng hg; replace BK304 := BK304.bl hb; replace HB := Aside0.mk (below_step hb_ hb); clear hb hbox hg; have hnb12 := NB304_305.out; have hnc12 := NB305_304.out; obtain ⟨hcz13_0, hcz13_1, hcz13_2, hfz13_0, hfz13_1, hfz13_2⟩ := BK304.c3; obtain ⟨hcz14_0, hcz14_1, hcz14_2, hfz14_0, hfz14_1, hfz14_2⟩ := BK305.c3))
   replace BK304 := Aside0.mk (blk_drew BK304.out)
   replace BK305 := Aside0.mk (blk_drew BK305.out)
   replace HB := Aside0.mk (below_drew1 HB.out)
   refine start_ (n := 28) (S := fun w' => w'.cell? ⟨gb304, 0, none⟩ = some (.bool a0_0) ∧ w'.cell? ⟨gb304, 1, none⟩ = some (.string a0_1) ∧ w'.cell? ⟨gb304, 2, none⟩ = some (.string a0_2) ∧ w'.cell? ⟨gb305, 0, none⟩ = some (.bool a1_0) ∧ w'.cell? ⟨gb305, 1, none⟩ = some (.string a1_1) ∧ w'.cell? ⟨gb305, 2, none⟩ = some (.string a1_2)) (ds := []) #[false, false, false, false, false, false, false, false, false, false, false, false, false, false, false, false, false, false, false, false, false, false, false, false, false, false, false, false] (by kernel_rfl) rfl rfl ⟨(blk_cell BK304.out 0).trans rfl, (blk_cell BK304.out 1).trans rfl, (blk_cell BK304.out 2).trans rfl, (blk_cell BK305.out 0).trans rfl, (blk_cell BK305.out 1).trans rfl, (blk_cell BK305.out 2).trans rfl⟩ (fun hHeld => ?_); refine with_tabW decimal_aligned.tab2 decimal_aligned.bits2 (fun HT_ HW_ => ?_)
   generalize w11.drew = w15 at BK304 BK305 HB hHeld ⊢
   refine pr_ 0 (some 14) ?_
   refine pr_ 2 (some 16) ?_
   refine pr_ 6 (some 20) ?_
   refine pr_ 7 (some 21) ?_
   refine pr_ 12 (some 26) ?_
   refine pr_ 14 (some 28) ?_
   refine pr_ 18 (some 32) ?_
   refine pr_ 19 (some 33) ?_
   refine pr_ 24 (some 38) ?_
   refine tk_ 1 (some 15) hHeld ?_
   refine tk_ 3 (some 17) hHeld ?_
   refine pr_ 4 (some 18) ?_
   refine tk_ 8 (some 22) hHeld ?_
   refine pr_ 9 (some 23) ?_
   refine pr_ 10 (some 24) ?_
   refine tk_ 13 (some 27) hHeld ?_
   refine tk_ 15 (some 29) hHeld ?_
   refine pr_ 16 (some 30) ?_
   refine tk_ 20 (some 34) hHeld ?_
   refine pr_ 21 (some 35) ?_
   refine pr_ 22 (some 36) ?_
   refine one_ (i := 5) (N := some 19) #[true, true, true, true, true, true, true, true, true, true, true, false, true, true, true, true, true, false, true, true, true, true, true, false, true, false, false, false] rfl rfl (one_of HT_.out (by kernel_rfl)) (by decide) (fun K hK => ?_)
   refine goes_ Tryz.func59 (by kernel_rfl) rfl #[.string (a0_1 ++ a0_2)] (by rfl) rfl rfl ar_ ?_
   with_reducible refine (decimal_of.calls k (a0_1 ++ a0_2) t306 _ A5.out).mono ?_
   rintro e w16 ⟨v307, rfl, ho0, hb⟩
   refine ⟨_, rfl, ?_⟩
   have HO308 := Aside0.mk (Kd.R_lower (Kd.R_newM (M := fun k_ => (w.heap.size ≤ k_)) ho0 (below_size hb_) (fun k_ h_ => h_)) (below_size hb_))
   replace BK304 := BK304.bl hb
   replace BK305 := BK305.bl hb
   replace HB := Aside0.mk (below_step hb_ hb)
   (try clear hb)
   (try clear hb2)
   (try clear hk)
   (try clear hi)
   (try clear ho0)
   obtain ⟨Ao17, co17, eo17⟩ := Kd.R_slice HO308.out
   (first | subst eo17 | (injection eo17 with f1_ f2_ f3_; have f4_ := f1_.symm; have f5_ := f3_.symm; clear f1_ f2_ f3_; subst f4_; subst f5_))
   refine hK.out _ _ ⟨(blk_cell BK304.out 0).trans rfl, (blk_cell BK304.out 1).trans rfl, (blk_cell BK304.out 2).trans rfl, (blk_cell BK305.out 0).trans rfl, (blk_cell BK305.out 1).trans rfl, (blk_cell BK305.out 2).trans rfl⟩ (fun hHeld => ?_)
   clear hK K
   refine norm_ (a' := ?_) ?_ ?_
   rotate_left
   ·show Act.put _ (some 19) _ = _
    simp only [Act.put, List.setIfInBounds_toArray, List.set_cons_zero, List.set_cons_succ, i64_w, i32_w]
    rfl
   refine one_ (i := 11) (N := some 25) #[true, true, true, true, true, true, true, true, true, true, true, true, true, true, true, true, true, false, true, true, true, true, true, false, true, false, false, false] rfl rfl (one_of HT_.out (by kernel_rfl)) (by decide) (fun K hK => ?_)
   refine goes_ Tryz.func60 (by kernel_rfl) rfl #[.slice Ao17 t306.length co17, .int .i64 (wrap64 ((ji3) - (a0_2.size : Int)))] (by rfl) rfl rfl (by (try simp only [List.map_toArray, List.map_cons, List.map_nil]); first | done | (simp only [hji3]; rfl) | rfl | (simp only [List.length_drop, List.length_take]; rfl)) ?_
   with_reducible refine (decimal_digits_up.calls (fun k_ => some k_ = (.slice Ao17 t306.length co17 : Value).ownBlock) _ _ t306 (wrap64 ((ji3) - (a0_2.size : Int))) t309 _ ?side1 A6.out).mono ?_
   (case side1 => exact Kd.R_V (Kd.R_tight rfl (Kd.R_types (Kd.R_types (HO308.out) BK304.out (by decide)) BK305.out (by decide))))
   rintro e w18 ⟨v310, rfl, ho0, hb⟩
   refine ⟨_, rfl, ?_⟩
   have HO311 := Aside0.mk (Kd.V_lower (Kd.V_mono (ok' := fun k_ => (w.heap.size ≤ k_) ∧ k_ ≠ gb304 ∧ k_ ≠ gb305) ho0 (fun k_ hk_ => ⟨Or.elim hk_ (fun hs_ => ((Kd.R_types (Kd.R_types (HO308.out) BK304.out (by decide)) BK305.out (by decide)).1 k_ hs_.symm).1.1.1) (fun hn_ => (Nat.le_trans (below_size hb_) hn_)), Or.elim hk_ (fun hs_ => ((Kd.R_types (Kd.R_types (HO308.out) BK304.out (by decide)) BK305.out (by decide)).1 k_ hs_.symm).1.2) (fun hn_ => (Kd.freshB (g := gb304) (o := .cells #[.bool a0_0, .string a0_1, .string a0_2] 23 (0, 0)) BK304.out k_ hn_)), Or.elim hk_ (fun hs_ => ((Kd.R_types (Kd.R_types (HO308.out) BK304.out (by decide)) BK305.out (by decide)).1 k_ hs_.symm).2) (fun hn_ => (Kd.freshB (g := gb305) (o := .cells #[.bool a1_0, .string a1_1, .string a1_2] 23 (0, 0)) BK305.out k_ hn_))⟩)) (below_size hb_))
   replace HO308 := Aside0.mk (Kd.R_below (by (with_reducible repeat (first | apply Kd.R_alloc | apply Kd.R_drewN | apply Kd.R_drew)); exact HO308.out) hb)
   replace BK304 := BK304.bl hb
   replace BK305 := BK305.bl hb
   replace HB := Aside0.mk (below_step hb_ hb)
   (try clear hb)
   (try clear hb2)
   (try clear hk)
   (try clear hi)
   (try clear ho0)
   refine hK.out _ _ ⟨(blk_cell BK304.out 0).trans rfl, (blk_cell BK304.out 1).trans rfl, (blk_cell BK304.out 2).trans rfl, (blk_cell BK305.out 0).trans rfl, (blk_cell BK305.out 1).trans rfl, (blk_cell BK305.out 2).trans rfl⟩ (fun hHeld => ?_)
   clear hK K
   refine norm_ (a' := ?_) ?_ ?_
   rotate_left
   ·show Act.put _ (some 25) _ = _
    simp only [Act.put, List.setIfInBounds_toArray, List.set_cons_zero, List.set_cons_succ, i64_w, i32_w]
    rfl
   refine one_ (i := 17) (N := some 31) #[true, true, true, true, true, true, true, true, true, true, true, true, true, true, true, true, true, true, true, true, true, true, true, false, true, false, false, false] rfl rfl (one_of HT_.out (by kernel_rfl)) (by decide) (fun K hK => ?_)
   refine goes_ Tryz.func59 (by kernel_rfl) rfl #[.string (a1_1 ++ a1_2)] (by rfl) rfl rfl ar_ ?_
   with_reducible refine (decimal_of.calls k (a1_1 ++ a1_2) t312 _ A8.out).mono ?_
   rintro e w19 ⟨v313, rfl, ho0, hb⟩
   refine ⟨_, rfl, ?_⟩
   have HO314 := Aside0.mk (Kd.R_lower (Kd.R_new' (Kd.R_newM (M := fun k_ => (w.heap.size ≤ k_)) ho0 (below_size hb_) (fun k_ h_ => h_)) (Kd.R_lt (by (with_reducible repeat (first | apply Kd.R_alloc | apply Kd.R_drewN | apply Kd.R_drew)); exact HO308.out))) (below_size hb_))
   replace HO308 := Aside0.mk (Kd.R_elder' (by (with_reducible repeat (first | apply Kd.R_alloc | apply Kd.R_drewN | apply Kd.R_drew)); exact HO308.out) (Kd.R_base ho0) hb)
   replace HO311 := Aside0.mk (Kd.V_elder' (by (with_reducible repeat (first | apply Kd.V_alloc | apply Kd.V_drewN | apply Kd.V_drew)); exact HO311.out) (Kd.R_base ho0) hb)
   replace BK304 := BK304.bl hb
   replace BK305 := BK305.bl hb
   replace HB := Aside0.mk (below_step hb_ hb)
   (try clear hb)
   (try clear hb2)
   (try clear hk)
   (try clear hi)
   (try clear ho0)
   obtain ⟨Ao20, co20, eo20⟩ := Kd.R_slice HO314.out
   (first | subst eo20 | (injection eo20 with f1_ f2_ f3_; have f4_ := f1_.symm; have f5_ := f3_.symm; clear f1_ f2_ f3_; subst f4_; subst f5_))
   refine hK.out _ _ ⟨(blk_cell BK304.out 0).trans rfl, (blk_cell BK304.out 1).trans rfl, (blk_cell BK304.out 2).trans rfl, (blk_cell BK305.out 0).trans rfl, (blk_cell BK305.out 1).trans rfl, (blk_cell BK305.out 2).trans rfl⟩ (fun hHeld => ?_)
   clear hK K
   refine norm_ (a' := ?_) ?_ ?_
   rotate_left
   ·show Act.put _ (some 31) _ = _
    simp only [Act.put, List.setIfInBounds_toArray, List.set_cons_zero, List.set_cons_succ, i64_w, i32_w]
    rfl
   refine one_ (i := 23) (N := some 37) #[true, true, true, true, true, true, true, true, true, true, true, true, true, true, true, true, true, true, true, true, true, true, true, true, true, false, false, false] rfl rfl (one_of HT_.out (by kernel_rfl)) (by decide) (fun K hK => ?_)
   refine goes_ Tryz.func60 (by kernel_rfl) rfl #[.slice Ao20 t312.length co20, .int .i64 (wrap64 ((ji3) - (a1_2.size : Int)))] (by rfl) rfl rfl (by (try simp only [List.map_toArray, List.map_cons, List.map_nil]); first | done | (simp only [hji3]; rfl) | rfl | (simp only [List.length_drop, List.length_take]; rfl)) ?_
   with_reducible refine (decimal_digits_up.calls (fun k_ => some k_ = (.slice Ao20 t312.length co20 : Value).ownBlock) _ _ t312 (wrap64 ((ji3) - (a1_2.size : Int))) t315 _ ?side1 A9.out).mono ?_
   (case side1 => exact Kd.R_V (Kd.R_tight rfl (Kd.R_types (Kd.R_types (HO314.out) BK304.out (by decide)) BK305.out (by decide))))
   rintro e w21 ⟨v316, rfl, ho0, hb⟩
   refine ⟨_, rfl, ?_⟩
   have HO317 := Aside0.mk (Kd.V_lower (Kd.V_mono (ok' := fun k_ => (w.heap.size ≤ k_) ∧ some k_ ≠ (.slice Ao17 t306.length co17 : Value).ownBlock ∧ k_ ≠ gb304 ∧ k_ ≠ gb305) ho0 (fun k_ hk_ => ⟨Or.elim hk_ (fun hs_ => ((Kd.R_types (Kd.R_types (HO314.out) BK304.out (by decide)) BK305.out (by decide)).1 k_ hs_.symm).1.1.1.1) (fun hn_ => (Nat.le_trans (below_size hb_) hn_)), Or.elim hk_ (fun hs_ => ((Kd.R_types (Kd.R_types (HO314.out) BK304.out (by decide)) BK305.out (by decide)).1 k_ hs_.symm).1.1.2) (fun hn_ => (Kd.fresh' (Kd.R_lt (by (with_reducible repeat (first | apply Kd.R_alloc | apply Kd.R_drewN | apply Kd.R_drew)); exact HO308.out)) k_ hn_)), Or.elim hk_ (fun hs_ => ((Kd.R_types (Kd.R_types (HO314.out) BK304.out (by decide)) BK305.out (by decide)).1 k_ hs_.symm).1.2) (fun hn_ => (Kd.freshB (g := gb304) (o := .cells #[.bool a0_0, .string a0_1, .string a0_2] 23 (0, 0)) BK304.out k_ hn_)), Or.elim hk_ (fun hs_ => ((Kd.R_types (Kd.R_types (HO314.out) BK304.out (by decide)) BK305.out (by decide)).1 k_ hs_.symm).2) (fun hn_ => (Kd.freshB (g := gb305) (o := .cells #[.bool a1_0, .string a1_1, .string a1_2] 23 (0, 0)) BK305.out k_ hn_))⟩)) (below_size hb_))
   replace HO308 := Aside0.mk (Kd.R_below (by (with_reducible repeat (first | apply Kd.R_alloc | apply Kd.R_drewN | apply Kd.R_drew)); exact HO308.out) hb)
   replace HO311 := Aside0.mk (Kd.V_below (by (with_reducible repeat (first | apply Kd.V_alloc | apply Kd.V_drewN | apply Kd.V_drew)); exact HO311.out) hb)
   replace HO314 := Aside0.mk (Kd.R_below (by (with_reducible repeat (first | apply Kd.R_alloc | apply Kd.R_drewN | apply Kd.R_drew)); exact HO314.out) hb)
   replace BK304 := BK304.bl hb
   replace BK305 := BK305.bl hb
   replace HB := Aside0.mk (below_step hb_ hb)
   (try clear hb)
   (try clear hb2)
   (try clear hk)
   (try clear hi)
   (try clear ho0)
   refine hK.out _ _ ⟨(blk_cell BK304.out 0).trans rfl, (blk_cell BK304.out 1).trans rfl, (blk_cell BK304.out 2).trans rfl, (blk_cell BK305.out 0).trans rfl, (blk_cell BK305.out 1).trans rfl, (blk_cell BK305.out 2).trans rfl⟩ (fun hHeld => ?_)
   clear hK K
   refine norm_ (a' := ?_) ?_ ?_
   rotate_left
   ·show Act.put _ (some 37) _ = _
    simp only [Act.put, List.setIfInBounds_toArray, List.set_cons_zero, List.set_cons_succ, i64_w, i32_w]
    rfl
   refine pr_ 25 (some 4) ?_
   refine pr_ 26 (some 5) ?_
   refine pr_ 27 (some 6) ?_
   refine done_ (done_of HT_.out (by kernel_rfl)) ?_
   try go_wp2
   go_ret3
   exact ⟨_, _, by first | rfl | (simp [errW_none, errW_some] <;> rfl) | (simp only [← hji3]; first | rfl | (simp [errW_none, errW_some] <;> rfl)) | (simp [*, errW_none, errW_some] <;> rfl) | (simp [bne_nil_]; done), by (with_reducible repeat (first | apply Kd.V_alloc | apply Kd.V_drewN | apply Kd.V_drew)); exact Kd.V_mono HO311.out (fun _ hk => hk.1.1), by (with_reducible repeat (first | apply Kd.V_alloc | apply Kd.V_drewN | apply Kd.V_drew)); exact Kd.V_mono HO317.out (fun _ hk => hk.1), hb_⟩
  ·rw [if_neg c7] at H
   exact absurd H (by simp)
 ·rw [if_neg c4] at H
  exact absurd H (by simp)
attribute [local go_sem] max2_int max_two
set_option linter.unusedVariables false
set_option linter.unusedSimpArgs false
def idiomref02_raised.f (k : Nat) (a0_0 : Bool) (a0_1 : ByteArray) (a0_2 : ByteArray) (a1 : Int) : Option (ByteArray) := if a0_1.size + a0_2.size ≤ 9223372036854775807 then ((idiomref02_Zeros.f k (wrap64 (a1 - (a0_2.size : Int)))).bind fun t418 => (if (a0_1 ++ a0_2).size + t418.size ≤ 9223372036854775807 then ((idiomref02_Lead.f k ((a0_1 ++ a0_2) ++ t418)).bind fun t419 => (some t419)) else (none))) else (none)
def idiomref02_raised.T1 : Bool × List (List Nat × List Nat) := (true, [([], []), ([0], [0]), ([], []), ([2], [2]), ([1, 3], [1, 3]), ([], []), ([], []), ([6], [6]), ([7], [7]), ([5, 8], [5, 8]), ([9], [9]), ([4, 10], [4, 10]), ([11, 10], [11]), ([12, 12, 0, 1, 2, 3, 4, 5, 6, 7, 8, 9, 10, 11, 12], [12])])
def idiomref02_raised.B1 : List Nat := [0, 1, 0, 4, 15, 0, 0, 64, 192, 480, 992, 2047, 4095, 8191]
theorem idiomref02_raised.tab1 : rtab .any (opsOf Tryz.f57 1) = idiomref02_raised.T1 := by kernel_rfl
theorem idiomref02_raised.bits1 : waitsOk idiomref02_raised.T1.2 idiomref02_raised.B1 = true := by kernel_rfl
set_option maxHeartbeats 8000000 in
set_option maxRecDepth 100000 in
theorem idiomref02_raised.calls (k : Nat) (a0_0 : Bool) (a0_1 : ByteArray) (a0_2 : ByteArray) (a1 : Int) (r : ByteArray) (w : World) (h : idiomref02_raised.f k a0_0 a0_1 a0_2 a1 = some r) :
    Calls Tryz.prog 57 #[.agg #[.bool a0_0, .string a0_1, .string a0_2], .int .i64 a1] w fun e w' => e = .returned (.string r) ∧ Below w.heap.size w w' := by
 have hu23 := Tryz.underlying23
 have HB := Aside0.mk (Below.refl w.heap.size w)
 unfold idiomref02_raised.f at h
 have H := h
 clear h
 by_cases c3 : a0_1.size + a0_2.size ≤ 9223372036854775807
 ·rw [if_pos c3] at H
  have c3b0 := eq_true c3
  have c3b1 : decide (a0_1.size + a0_2.size ≤ 9223372036854775807) = true := decide_eq_true c3
  try have c3b2 : (9223372036854775807 < a0_1.size + a0_2.size) = False := eq_false (Nat.not_lt.2 c3)
  replace H := Option.bind_eq_some_iff.mp H
  obtain ⟨t418, A40, H⟩ := H
  try dsimp only at H
  have A4 := Aside0.mk A40
  clear A40
  by_cases c5 : (a0_1 ++ a0_2).size + t418.size ≤ 9223372036854775807
  ·rw [if_pos c5] at H
   have c5b0 := eq_true c5
   have c5b1 : decide ((a0_1 ++ a0_2).size + t418.size ≤ 9223372036854775807) = true := decide_eq_true c5
   try have c5b2 : (9223372036854775807 < (a0_1 ++ a0_2).size + t418.size) = False := eq_false (Nat.not_lt.2 c5)
   try (have c5s0 := c5b2; simp only [ByteArray.size_append] at c5s0)
   replace H := Option.bind_eq_some_iff.mp H
   obtain ⟨t419, A60, H⟩ := H
   try dsimp only at H
   have A6 := Aside0.mk A60
   clear A60
   obtain rfl := Option.some.inj H
   go_enter Tryz.func57, Tryz.ntmps57
   try go_wp2_with (first | ((with_reducible refine gate_dst (N := 2) rfl ?_); refine bx_ #[.bool a0_0, .string a0_1, .string a0_2] 23 ?_; intro gb417 hg w7 hbox hb; have BK417 := Aside0.mk (hbox); have GW417 := ge_ (w := w) hg; have GE417 := ge_ (w := w) hg; replace HB := Aside0.mk (below_step hb_ hb); clear hb hbox hg))
   replace BK417 := Aside0.mk (blk_drew BK417.out)
   replace HB := Aside0.mk (below_drew1 HB.out)
   refine start_ (n := 14) (S := fun w' => w'.cell? ⟨gb417, 0, none⟩ = some (.bool a0_0) ∧ w'.cell? ⟨gb417, 1, none⟩ = some (.string a0_1) ∧ w'.cell? ⟨gb417, 2, none⟩ = some (.string a0_2)) (ds := []) #[false, false, false, false, false, false, false, false, false, false, false, false, false, false] (by kernel_rfl) rfl rfl ⟨(blk_cell BK417.out 0).trans rfl, (blk_cell BK417.out 1).trans rfl, (blk_cell BK417.out 2).trans rfl⟩ (fun hHeld => ?_); refine with_tabW idiomref02_raised.tab1 idiomref02_raised.bits1 (fun HT_ HW_ => ?_)
   generalize w7.drew = w8 at BK417 HB hHeld ⊢
   refine pr_ 0 (some 5) ?_
   refine pr_ 2 (some 7) ?_
   refine pr_ 5 (some 10) ?_
   refine pr_ 6 (some 11) ?_
   refine tk_ 1 (some 6) hHeld ?_
   refine tk_ 3 (some 8) hHeld ?_
   refine pr_ 4 (some 9) ?_
   refine tk_ 7 (some 12) hHeld ?_
   refine pr_ 8 (some 13) ?_
   refine pr_ 9 (some 14) ?_
   refine one_ (i := 10) (N := some 15) #[true, true, true, true, true, true, true, true, true, true, true, false, false, false] rfl rfl (one_of HT_.out (by kernel_rfl)) (by decide) (fun K hK => ?_)
   refine goes_ Tryz.func65 (by kernel_rfl) rfl #[.int .i64 (wrap64 (a1 - (a0_2.size : Int)))] (by rfl) rfl rfl ar_ ?_
   with_reducible refine (idiomref02_Zeros.calls k (wrap64 (a1 - (a0_2.size : Int))) t418 _ A4.out).mono ?_
   rintro e w9 ⟨rfl, hb⟩
   refine ⟨_, rfl, ?_⟩
   replace BK417 := BK417.bl hb
   replace HB := Aside0.mk (below_step hb_ hb)
   (try clear hb)
   (try clear hb2)
   (try clear hk)
   (try clear hi)
   refine hK.out _ _ ⟨(blk_cell BK417.out 0).trans rfl, (blk_cell BK417.out 1).trans rfl, (blk_cell BK417.out 2).trans rfl⟩ (fun hHeld => ?_)
   clear hK K
   refine norm_ (a' := ?_) ?_ ?_
   rotate_left
   ·show Act.put _ (some 15) _ = _
    simp only [Act.put, List.setIfInBounds_toArray, List.set_cons_zero, List.set_cons_succ, i64_w, i32_w]
    rfl
   refine pr_ 11 (some 16) ?_
   refine one_ (i := 12) (N := some 17) #[true, true, true, true, true, true, true, true, true, true, true, true, true, false] rfl rfl (one_of HT_.out (by kernel_rfl)) (by decide) (fun K hK => ?_)
   refine goes_ Tryz.func78 (by kernel_rfl) rfl #[.string ((a0_1 ++ a0_2) ++ t418)] (by rfl) rfl rfl ar_ ?_
   with_reducible refine (idiomref02_Lead.calls k ((a0_1 ++ a0_2) ++ t418) t419 _ A6.out).mono ?_
   rintro e w' ⟨rfl, ⟨nd, rfl⟩⟩
   refine ⟨_, rfl, ?_⟩
   refine hK.out _ _ ⟨(blk_cell BK417.out 0).trans rfl, (blk_cell BK417.out 1).trans rfl, (blk_cell BK417.out 2).trans rfl⟩ (fun hHeld => ?_)
   clear hK K
   refine norm_ (a' := ?_) ?_ ?_
   rotate_left
   ·show Act.put _ (some 17) _ = _
    simp only [Act.put, List.setIfInBounds_toArray, List.set_cons_zero, List.set_cons_succ, i64_w, i32_w]
    rfl
   refine pr_ 13 (some 4) ?_
   refine done_ (done_of HT_.out (by kernel_rfl)) ?_
   try go_wp2
   go_ret
   exact fin_
  ·rw [if_neg c5] at H
   exact absurd H (by simp)
 ·rw [if_neg c3] at H
  exact absurd H (by simp)
attribute [local go_sem] max2_int max_two
set_option linter.unusedVariables false
set_option linter.unusedSimpArgs false
def idiomref02_Num.f (k : Nat) (a0_0 : Bool) (a0_1 : ByteArray) (a0_2 : ByteArray) : Option (ByteArray) := if a0_1.size + a0_2.size ≤ 9223372036854775807 then ((idiomref02_Lead.f k (a0_1 ++ a0_2)).bind fun t593 => (some t593)) else (none)
set_option maxHeartbeats 8000000 in
set_option maxRecDepth 100000 in
theorem idiomref02_Num.calls (k : Nat) (a0_0 : Bool) (a0_1 : ByteArray) (a0_2 : ByteArray) (r : ByteArray) (w : World) (h : idiomref02_Num.f k a0_0 a0_1 a0_2 = some r) :
    Calls Tryz.prog 64 #[.agg #[.bool a0_0, .string a0_1, .string a0_2]] w fun e w' => e = .returned (.string r) ∧ Below w.heap.size w w' := by
 have hu23 := Tryz.underlying23
 have HB := Aside0.mk (Below.refl w.heap.size w)
 unfold idiomref02_Num.f at h
 have H := h
 clear h
 by_cases c2 : a0_1.size + a0_2.size ≤ 9223372036854775807
 ·rw [if_pos c2] at H
  have c2b0 := eq_true c2
  have c2b1 : decide (a0_1.size + a0_2.size ≤ 9223372036854775807) = true := decide_eq_true c2
  try have c2b2 : (9223372036854775807 < a0_1.size + a0_2.size) = False := eq_false (Nat.not_lt.2 c2)
  replace H := Option.bind_eq_some_iff.mp H
  obtain ⟨t593, A30, H⟩ := H
  try dsimp only at H
  have A3 := Aside0.mk A30
  clear A30
  obtain rfl := Option.some.inj H
  go_enter Tryz.func64, Tryz.ntmps64
  go_wp2_with (first | ((with_reducible refine gate_dst (N := 1) rfl ?_); refine bx_ #[.bool a0_0, .string a0_1, .string a0_2] 23 ?_; intro gb592 hg w4 hbox hb; have BK592 := Aside0.mk (hbox); have GW592 := ge_ (w := w) hg; have GE592 := ge_ (w := w) hg; replace HB := Aside0.mk (below_step hb_ hb); clear hb hbox hg; obtain ⟨hcz5_0, hcz5_1, hcz5_2, hfz5_0, hfz5_1, hfz5_2⟩ := BK592.c3) | ((with_reducible refine gate_callee (f := 78) rfl ?_); refine gL_ (some 8) Tryz.func78 #[.string (a0_1 ++ a0_2)] ?_; (with_reducible refine (idiomref02_Lead.calls k (a0_1 ++ a0_2) t593 _ A3.out).mono ?_); rintro e w' ⟨rfl, ⟨nd, rfl⟩⟩; refine ⟨_, rfl, ?_⟩))
  go_ret
  exact fin_
 ·rw [if_neg c2] at H
  exact absurd H (by simp)
attribute [local go_sem] max2_int max_two
set_option linter.unusedVariables false
set_option linter.unusedSimpArgs false
def decimal_both.f (k : Nat) (a0_0 : Bool) (a0_1 : ByteArray) (a0_2 : ByteArray) (a1_0 : Bool) (a1_1 : ByteArray) (a1_2 : ByteArray) : Option (Int) := (decimal_Check.f k a0_0 a0_1 a0_2).bind fun t302 => (if t302 = 0 then ((decimal_Check.f k a1_0 a1_1 a1_2).bind fun t303 => (some t303)) else (some t302))
set_option maxHeartbeats 8000000 in
set_option maxRecDepth 100000 in
theorem decimal_both.calls (k : Nat) (a0_0 : Bool) (a0_1 : ByteArray) (a0_2 : ByteArray) (a1_0 : Bool) (a1_1 : ByteArray) (a1_2 : ByteArray) (r : Int) (w : World) (h : decimal_both.f k a0_0 a0_1 a0_2 a1_0 a1_1 a1_2 = some r) :
    Calls Tryz.prog 46 #[.agg #[.bool a0_0, .string a0_1, .string a0_2], .agg #[.bool a1_0, .string a1_1, .string a1_2]] w fun e w' => e = .returned (.int .i64 r) ∧ Below w.heap.size w w' := by
 have hu23 := Tryz.underlying23
 have HB := Aside0.mk (Below.refl w.heap.size w)
 unfold decimal_both.f at h
 have H := h
 clear h
 replace H := Option.bind_eq_some_iff.mp H
 obtain ⟨t302, A30, H⟩ := H
 try dsimp only at H
 have A3 := Aside0.mk A30
 clear A30
 have HF4 := Aside0.mk H
 clear H
 go_enter Tryz.func46, Tryz.ntmps46
 go_upto_if 9 with (first | ((with_reducible refine gate_dst (N := 2) rfl ?_); refine bx_ #[.bool a0_0, .string a0_1, .string a0_2] 23 ?_; intro gb300 hg w5 hbox hb; have BK300 := Aside0.mk (hbox); have GW300 := ge_ (w := w) hg; have GE300 := ge_ (w := w) hg; replace HB := Aside0.mk (below_step hb_ hb); clear hb hbox hg) | ((with_reducible refine gate_dst (N := 3) rfl ?_); refine bx_ #[.bool a1_0, .string a1_1, .string a1_2] 23 ?_; intro gb301 hg w6 hbox hb; have BK301 := Aside0.mk (hbox); have GW301 := ge_ (w := w) hg; have GE301 := ge_ (w := w) hg; have NB300_301 := BK300.nl hg; have NB301_300 := BK300.ng hg; replace BK300 := BK300.bl hb; replace HB := Aside0.mk (below_step hb_ hb); clear hb hbox hg; have hnb7 := NB300_301.out; have hnc7 := NB301_300.out; obtain ⟨hcz8_0, hcz8_1, hcz8_2, hfz8_0, hfz8_1, hfz8_2⟩ := BK300.c3) | ((with_reducible refine gate_callee (f := 28) rfl ?_); refine gL_ (some 7) Tryz.func28 #[.agg #[.bool a0_0, .string a0_1, .string a0_2]] ?_; (with_reducible refine (decimal_Check.calls k a0_0 a0_1 a0_2 t302 _ A3.out).mono ?_); rintro e w9 ⟨rfl, hb⟩; refine ⟨_, rfl, ?_⟩; replace BK300 := BK300.bl hb; replace BK301 := BK301.bl hb; replace HB := Aside0.mk (below_step hb_ hb)))
 (try simp only [Act.put, List.setIfInBounds_toArray, List.set_cons_zero, List.set_cons_succ])
 have H := HF4.out
 clear HF4
 by_cases c10 : t302 = 0
 ·rw [if_pos c10] at H
  have c10b0 : (t302 == 0) = true := beq_iff_eq.mpr c10
  have c10b1 : (t302 != 0) = false := bne_eq_false_iff_eq.mpr c10
  clear c10
  (first | rw [c10b0] | (simp only [i64_w, i32_w]; rw [c10b0]) | rw [c10b1] | skip)
  replace H := Option.bind_eq_some_iff.mp H
  obtain ⟨t303, A110, H⟩ := H
  try dsimp only at H
  have A11 := Aside0.mk A110
  clear A110
  obtain rfl := Option.some.inj H
  have hnb12 := NB301_300.out
  have hnc12 := NB300_301.out
  obtain ⟨hcz13_0, hcz13_1, hcz13_2, hfz13_0, hfz13_1, hfz13_2⟩ := BK301.c3
  go_wp2_with (first | ((with_reducible refine gate_callee (f := 28) rfl ?_); refine gL_ (some 12) Tryz.func28 #[.agg #[.bool a1_0, .string a1_1, .string a1_2]] ?_; (with_reducible refine (decimal_Check.calls k a1_0 a1_1 a1_2 t303 _ A11.out).mono ?_); rintro e w14 ⟨rfl, hb⟩; refine ⟨_, rfl, ?_⟩; replace BK300 := BK300.bl hb; replace BK301 := BK301.bl hb; replace HB := Aside0.mk (below_step hb_ hb)))
  go_ret
  exact fin_
 ·rw [if_neg c10] at H
  have c10b0 : (t302 == 0) = false := beq_eq_false_iff_ne.mpr c10
  have c10b1 : (t302 != 0) = true := bne_iff_ne.mpr c10
  (first | rw [c10b0] | (simp only [i64_w, i32_w]; rw [c10b0]) | rw [c10b1] | skip)
  obtain rfl := Option.some.inj H
  go_wp2
  go_ret
  exact fin_
attribute [local go_sem] max2_int max_two
set_option linter.unusedVariables false
set_option linter.unusedSimpArgs false
def decimal_Compare.j0 : Nat → List Int → List Int → Bool → Bool → ByteArray → ByteArray → Bool → ByteArray → ByteArray → Option (Int × Int)
  | 0, _, _, _, _, _, _, _, _, _ => none
  | k + 1, x7, x8, x23, x487000, x487001, x487002, x488000, x488001, x488002 => if x23 = true then ((decimal_digits_cmp.f k x8 x7).bind fun t496 => (some (t496, 0))) else (if x487000 = true then (some ((-1), 0)) else (if x488000 = true then (some (1, 0)) else ((decimal_digits_cmp.f k x7 x8).bind fun t497 => (some (t497, 0)))))
def decimal_Compare.f (k : Nat) (a0_0 : Bool) (a0_1 : ByteArray) (a0_2 : ByteArray) (a1_0 : Bool) (a1_1 : ByteArray) (a1_2 : ByteArray) : Option (Int × Int) := (decimal_both.f k a0_0 a0_1 a0_2 a1_0 a1_1 a1_2).bind fun t488 => (if t488 = 0 then ((decimal_aligned.f k a0_0 a0_1 a0_2 a1_0 a1_1 a1_2).bind fun bt489 => (if a0_0 = true then (decimal_Compare.j0 k bt489.1 bt489.2.1 a1_0 a0_0 a0_1 a0_2 a1_0 a1_1 a1_2) else (decimal_Compare.j0 k bt489.1 bt489.2.1 false a0_0 a0_1 a0_2 a1_0 a1_1 a1_2))) else (some (0, t488)))
set_option maxHeartbeats 8000000 in
set_option maxRecDepth 100000 in
theorem decimal_Compare.calls (k : Nat) (a0_0 : Bool) (a0_1 : ByteArray) (a0_2 : ByteArray) (a1_0 : Bool) (a1_1 : ByteArray) (a1_2 : ByteArray) (r1 : Int) (r2 : Int) (w : World) (h : decimal_Compare.f k a0_0 a0_1 a0_2 a1_0 a1_1 a1_2 = some (r1, r2)) :
    Calls Tryz.prog 23 #[.agg #[.bool a0_0, .string a0_1, .string a0_2], .agg #[.bool a1_0, .string a1_1, .string a1_2]] w fun e w' => e = .returned (.tuple #[.int .i64 r1, .int .i64 r2]) ∧ Below w.heap.size w w' := by
 have hu23 := Tryz.underlying23
 have HB := Aside0.mk (Below.refl w.heap.size w)
 unfold decimal_Compare.f at h
 have H := h
 clear h
 replace H := Option.bind_eq_some_iff.mp H
 obtain ⟨t488, A30, H⟩ := H
 try dsimp only at H
 have A3 := Aside0.mk A30
 clear A30
 have HF4 := Aside0.mk H
 clear H
 go_enter Tryz.func23, Tryz.ntmps23
 go_upto_if 14 with (first | ((with_reducible refine gate_dst (N := 2) rfl ?_); refine bx_ #[.bool a0_0, .string a0_1, .string a0_2] 23 ?_; intro gb486 hg w5 hbox hb; have BK486 := Aside0.mk (hbox); have GW486 := ge_ (w := w) hg; have GE486 := ge_ (w := w) hg; replace HB := Aside0.mk (below_step hb_ hb); clear hb hbox hg) | ((with_reducible refine gate_dst (N := 3) rfl ?_); refine bx_ #[.bool a1_0, .string a1_1, .string a1_2] 23 ?_; intro gb487 hg w6 hbox hb; have BK487 := Aside0.mk (hbox); have GW487 := ge_ (w := w) hg; have GE487 := ge_ (w := w) hg; have NB486_487 := BK486.nl hg; have NB487_486 := BK486.ng hg; replace BK486 := BK486.bl hb; replace HB := Aside0.mk (below_step hb_ hb); clear hb hbox hg; have hnb7 := NB486_487.out; have hnc7 := NB487_486.out; obtain ⟨hcz8_0, hcz8_1, hcz8_2, hfz8_0, hfz8_1, hfz8_2⟩ := BK486.c3; obtain ⟨hcz9_0, hcz9_1, hcz9_2, hfz9_0, hfz9_1, hfz9_2⟩ := BK487.c3) | ((with_reducible refine gate_callee (f := 46) rfl ?_); refine gL_ (some 12) Tryz.func46 #[.agg #[.bool a0_0, .string a0_1, .string a0_2], .agg #[.bool a1_0, .string a1_1, .string a1_2]] ?_; (with_reducible refine (decimal_both.calls k a0_0 a0_1 a0_2 a1_0 a1_1 a1_2 t488 _ A3.out).mono ?_); rintro e w10 ⟨rfl, hb⟩; refine ⟨_, rfl, ?_⟩; replace BK486 := BK486.bl hb; replace BK487 := BK487.bl hb; replace HB := Aside0.mk (below_step hb_ hb)))
 (try simp only [Act.put, List.setIfInBounds_toArray, List.set_cons_zero, List.set_cons_succ])
 have H := HF4.out
 clear HF4
 by_cases c11 : t488 = 0
 ·rw [if_pos c11] at H
  have c11b0 : (t488 == 0) = true := beq_iff_eq.mpr c11
  have c11b1 : (t488 != 0) = false := bne_eq_false_iff_eq.mpr c11
  clear c11
  (first | rw [c11b0] | (simp only [i64_w, i32_w]; rw [c11b0]) | rw [c11b1] | skip)
  replace H := Option.bind_eq_some_iff.mp H
  obtain ⟨⟨t489, t492, t495⟩, A120, H⟩ := H
  try dsimp only at H
  have A12 := Aside0.mk A120
  clear A120
  have HC13 := Aside0.mk H
  clear H
  have hnb14 := NB486_487.out
  have hnc14 := NB487_486.out
  obtain ⟨hcz15_0, hcz15_1, hcz15_2, hfz15_0, hfz15_1, hfz15_2⟩ := BK486.c3
  obtain ⟨hcz16_0, hcz16_1, hcz16_2, hfz16_0, hfz16_1, hfz16_2⟩ := BK487.c3
  go_upto_region 5 with (first | ((with_reducible refine gate_callee (f := 47) rfl ?_); refine gL_ (some 19) Tryz.func47 #[.agg #[.bool a0_0, .string a0_1, .string a0_2], .agg #[.bool a1_0, .string a1_1, .string a1_2]] ?_; (with_reducible refine (decimal_aligned.calls k a0_0 a0_1 a0_2 a1_0 a1_1 a1_2 t489 t492 t495 _ A12.out).mono ?_); rintro e w17 ⟨v490, v493, rfl, ho0, ho1, hb⟩; refine ⟨_, rfl, ?_⟩; have HO491 := Aside0.mk (Kd.V_lower (Kd.V_mono (ok' := fun k_ => k_ ≠ gb486 ∧ k_ ≠ gb487) ho0 (fun k_ hk_ => ⟨(Kd.freshB (g := gb486) (o := .cells #[.bool a0_0, .string a0_1, .string a0_2] 23 (0, 0)) BK486.out k_ hk_), (Kd.freshB (g := gb487) (o := .cells #[.bool a1_0, .string a1_1, .string a1_2] 23 (0, 0)) BK487.out k_ hk_)⟩)) (below_size hb_)); have HO494 := Aside0.mk (Kd.V_lower (Kd.V_mono (ok' := fun k_ => k_ ≠ gb486 ∧ k_ ≠ gb487) ho1 (fun k_ hk_ => ⟨(Kd.freshB (g := gb486) (o := .cells #[.bool a0_0, .string a0_1, .string a0_2] 23 (0, 0)) BK486.out k_ hk_), (Kd.freshB (g := gb487) (o := .cells #[.bool a1_0, .string a1_1, .string a1_2] 23 (0, 0)) BK487.out k_ hk_)⟩)) (below_size hb_)); replace BK486 := BK486.bl hb; replace BK487 := BK487.bl hb; replace HB := Aside0.mk (below_step hb_ hb); (try clear ho0); (try clear ho1)))
  (try simp only [Act.put, List.setIfInBounds_toArray, List.set_cons_zero, List.set_cons_succ])
  go_cut [23] (fun v23 wc => ∃ (kq : Nat) (x23_12 : Bool), v23 = .bool x23_12 ∧ Aside0 (decimal_Compare.j0 kq t489 t492 x23_12 a0_0 a0_1 a0_2 a1_0 a1_1 a1_2 = some (r1, r2)) ∧ Aside0 (kq ≤ k) ∧ Aside0 (Kd.V (Kd.int .u8) 5 wc w.heap.size (fun k_ => k_ ≠ gb486 ∧ k_ ≠ gb487) v490 t489) ∧ Aside0 (Kd.V (Kd.int .u8) 5 wc w.heap.size (fun k_ => k_ ≠ gb486 ∧ k_ ≠ gb487) v493 t492) ∧ Aside0 (wc.heap[gb486]? = some (.cells #[.bool a0_0, .string a0_1, .string a0_2] 23 (0, 0))) ∧ Aside0 (wc.heap[gb487]? = some (.cells #[.bool a1_0, .string a1_1, .string a1_2] 23 (0, 0))) ∧ Aside0 (Below w.heap.size w wc))
  case first =>
   have H := HC13.out
   clear HC13
   by_cases c18 : a0_0 = true
   ·subst c18
    have H1 : (decimal_Compare.j0 k t489 t492 a1_0 true a0_1 a0_2 a1_0 a1_1 a1_2) = some (r1, r2) := by rw [if_pos rfl] at H; exact H
    clear H
    have H := H1
    clear H1
    have H' := Aside0.mk H
    clear H
    have hnb19 := NB486_487.out
    have hnc19 := NB487_486.out
    obtain ⟨hcz20_0, hcz20_1, hcz20_2, hfz20_0, hfz20_1, hfz20_2⟩ := BK486.c3
    obtain ⟨hcz21_0, hcz21_1, hcz21_2, hfz21_0, hfz21_1, hfz21_2⟩ := BK487.c3
    go_wp2
    go_meet
    case rel => exact ⟨_, (a1_0), (by first | rfl | (simp; done) | (simp [*]; done)), H', ⟨by first | omega | exact Nat.le_refl _⟩, ⟨by (with_reducible repeat (first | apply Kd.V_alloc | apply Kd.V_drewN | apply Kd.V_drew)); exact HO491.out⟩, ⟨by (with_reducible repeat (first | apply Kd.V_alloc | apply Kd.V_drewN | apply Kd.V_drew)); exact HO494.out⟩, ⟨by exact BK486.out⟩, ⟨by exact BK487.out⟩, ⟨hb_⟩⟩
   ·replace c18 := Bool.eq_false_iff.mpr c18
    subst c18
    have H1 : (decimal_Compare.j0 k t489 t492 false false a0_1 a0_2 a1_0 a1_1 a1_2) = some (r1, r2) := by rw [if_neg (show ¬ (false = true) by decide)] at H; exact H
    clear H
    have H := H1
    clear H1
    have H' := Aside0.mk H
    clear H
    have hnb22 := NB486_487.out
    have hnc22 := NB487_486.out
    obtain ⟨hcz23_0, hcz23_1, hcz23_2, hfz23_0, hfz23_1, hfz23_2⟩ := BK486.c3
    go_wp2
    go_meet
    case rel => exact ⟨_, (false), (by first | rfl | (simp; done) | (simp [*]; done)), H', ⟨by first | omega | exact Nat.le_refl _⟩, ⟨by (with_reducible repeat (first | apply Kd.V_alloc | apply Kd.V_drewN | apply Kd.V_drew)); exact HO491.out⟩, ⟨by (with_reducible repeat (first | apply Kd.V_alloc | apply Kd.V_drewN | apply Kd.V_drew)); exact HO494.out⟩, ⟨by exact BK486.out⟩, ⟨by exact BK487.out⟩, ⟨hb_⟩⟩
  case rest =>
   clear HC13
   (try clear c11); (try clear c11b0); (try clear c11b1); (try clear hcz15_0); (try clear hcz15_1); (try clear hcz15_2); (try clear hcz16_0); (try clear hcz16_1); (try clear hcz16_2); (try clear hcz8_0); (try clear hcz8_1); (try clear hcz8_2); (try clear hcz9_0); (try clear hcz9_1); (try clear hcz9_2); (try clear hfz15_0); (try clear hfz15_1); (try clear hfz15_2); (try clear hfz16_0); (try clear hfz16_1); (try clear hfz16_2); (try clear hfz8_0); (try clear hfz8_1); (try clear hfz8_2); (try clear hfz9_0); (try clear hfz9_1); (try clear hfz9_2)
   obtain ⟨kq, x23_12, rfl, HA, HJ12, HO_7, HO_8, BK486, BK487, HB⟩ := hcut
   cases kq with
   | zero => exact absurd HA.out (by simp [decimal_Compare.j0])
   | succ kj12 =>
    have H := HA.out
    clear HA
    simp only [decimal_Compare.j0] at H
    by_cases c24 : x23_12 = true
    ·subst c24
     have H1 : ((decimal_digits_cmp.f kj12 t492 t489).bind fun t496 => (some (t496, 0))) = some (r1, r2) := by rw [if_pos rfl] at H; exact H
     clear H
     have H := H1
     clear H1
     replace H := Option.bind_eq_some_iff.mp H
     obtain ⟨t496, A250, H⟩ := H
     try dsimp only at H
     have A25 := Aside0.mk A250
     clear A250
     simp only [Option.some.injEq, Prod.mk.injEq] at H
     obtain ⟨rfl, rfl⟩ := H
     obtain ⟨Ao26, co26, eo26⟩ := Kd.V_slice HO_8.out
     subst eo26
     obtain ⟨Ao27, co27, eo27⟩ := Kd.V_slice HO_7.out
     subst eo27
     go_wp2_with (first | ((with_reducible refine gate_callee (f := 48) rfl ?_); refine gL_ (some 32) Tryz.func48 #[.slice Ao26 t492.length co26, .slice Ao27 t489.length co27] ?_; (with_reducible refine (decimal_digits_cmp.calls kj12 _ _ t492 _ _ t489 t496 _ ?side1 ?side2 ?side3 ?side4 A25.out).mono ?_); (case side1 => repeat (first | exact (Kd.V_reads' HO_8.out).2.2 | (with_reducible refine Kd.C_alloc ?_ _) | (with_reducible refine Kd.C_drewN ?_ _) | (with_reducible refine Kd.C_drew ?_))); (case side2 => exact (Kd.V_reads' HO_8.out).2.1); (case side3 => repeat (first | exact (Kd.V_reads' HO_7.out).2.2 | (with_reducible refine Kd.C_alloc ?_ _) | (with_reducible refine Kd.C_drewN ?_ _) | (with_reducible refine Kd.C_drew ?_))); (case side4 => exact (Kd.V_reads' HO_7.out).2.1); rintro e w' ⟨rfl, ⟨nd, rfl⟩⟩; refine ⟨_, rfl, ?_⟩))
     go_ret2
     exact fin_
    ·replace c24 := Bool.eq_false_iff.mpr c24
     subst c24
     have H1 : (if a0_0 = true then (some ((-1), 0)) else (if a1_0 = true then (some (1, 0)) else ((decimal_digits_cmp.f kj12 t489 t492).bind fun t497 => (some (t497, 0))))) = some (r1, r2) := by rw [if_neg (show ¬ (false = true) by decide)] at H; exact H
     clear H
     have H := H1
     clear H1
     by_cases c28 : a0_0 = true
     ·subst c28
      have H1 : (some ((-1), 0)) = some (r1, r2) := by rw [if_pos rfl] at H; exact H
      clear H
      have H := H1
      clear H1
      simp only [Option.some.injEq, Prod.mk.injEq] at H
      obtain ⟨rfl, rfl⟩ := H
      have hnb29 := NB486_487.out
      have hnc29 := NB487_486.out
      obtain ⟨hcz30_0, hcz30_1, hcz30_2, hfz30_0, hfz30_1, hfz30_2⟩ := BK486.c3
      go_wp2
      go_ret2
      exact fin_
     ·replace c28 := Bool.eq_false_iff.mpr c28
      subst c28
      have H1 : (if a1_0 = true then (some (1, 0)) else ((decimal_digits_cmp.f kj12 t489 t492).bind fun t497 => (some (t497, 0)))) = some (r1, r2) := by rw [if_neg (show ¬ (false = true) by decide)] at H; exact H
      clear H
      have H := H1
      clear H1
      by_cases c31 : a1_0 = true
      ·subst c31
       have H1 : (some (1, 0)) = some (r1, r2) := by rw [if_pos rfl] at H; exact H
       clear H
       have H := H1
       clear H1
       simp only [Option.some.injEq, Prod.mk.injEq] at H
       obtain ⟨rfl, rfl⟩ := H
       have hnb32 := NB486_487.out
       have hnc32 := NB487_486.out
       obtain ⟨hcz33_0, hcz33_1, hcz33_2, hfz33_0, hfz33_1, hfz33_2⟩ := BK486.c3
       obtain ⟨hcz34_0, hcz34_1, hcz34_2, hfz34_0, hfz34_1, hfz34_2⟩ := BK487.c3
       go_wp2
       go_ret2
       exact fin_
      ·replace c31 := Bool.eq_false_iff.mpr c31
       subst c31
       have H1 : ((decimal_digits_cmp.f kj12 t489 t492).bind fun t497 => (some (t497, 0))) = some (r1, r2) := by rw [if_neg (show ¬ (false = true) by decide)] at H; exact H
       clear H
       have H := H1
       clear H1
       replace H := Option.bind_eq_some_iff.mp H
       obtain ⟨t497, A350, H⟩ := H
       try dsimp only at H
       have A35 := Aside0.mk A350
       clear A350
       simp only [Option.some.injEq, Prod.mk.injEq] at H
       obtain ⟨rfl, rfl⟩ := H
       have hnb36 := NB486_487.out
       have hnc36 := NB487_486.out
       obtain ⟨hcz37_0, hcz37_1, hcz37_2, hfz37_0, hfz37_1, hfz37_2⟩ := BK486.c3
       obtain ⟨hcz38_0, hcz38_1, hcz38_2, hfz38_0, hfz38_1, hfz38_2⟩ := BK487.c3
       obtain ⟨Ao39, co39, eo39⟩ := Kd.V_slice HO_7.out
       subst eo39
       obtain ⟨Ao40, co40, eo40⟩ := Kd.V_slice HO_8.out
       subst eo40
       go_wp2_with (first | ((with_reducible refine gate_callee (f := 48) rfl ?_); refine gL_ (some 41) Tryz.func48 #[.slice Ao39 t489.length co39, .slice Ao40 t492.length co40] ?_; (with_reducible refine (decimal_digits_cmp.calls kj12 _ _ t489 _ _ t492 t497 _ ?side1 ?side2 ?side3 ?side4 A35.out).mono ?_); (case side1 => repeat (first | exact (Kd.V_reads' HO_7.out).2.2 | (with_reducible refine Kd.C_alloc ?_ _) | (with_reducible refine Kd.C_drewN ?_ _) | (with_reducible refine Kd.C_drew ?_))); (case side2 => exact (Kd.V_reads' HO_7.out).2.1); (case side3 => repeat (first | exact (Kd.V_reads' HO_8.out).2.2 | (with_reducible refine Kd.C_alloc ?_ _) | (with_reducible refine Kd.C_drewN ?_ _) | (with_reducible refine Kd.C_drew ?_))); (case side4 => exact (Kd.V_reads' HO_8.out).2.1); rintro e w' ⟨rfl, ⟨nd, rfl⟩⟩; refine ⟨_, rfl, ?_⟩))
       go_ret2
       exact fin_
 ·rw [if_neg c11] at H
  have c11b0 : (t488 == 0) = false := beq_eq_false_iff_ne.mpr c11
  have c11b1 : (t488 != 0) = true := bne_iff_ne.mpr c11
  (first | rw [c11b0] | (simp only [i64_w, i32_w]; rw [c11b0]) | rw [c11b1] | skip)
  simp only [Option.some.injEq, Prod.mk.injEq] at H
  obtain ⟨rfl, rfl⟩ := H
  go_wp2
  go_ret2
  exact fin_
attribute [local go_sem] max2_int max_two
set_option linter.unusedVariables false
set_option linter.unusedSimpArgs false
def idiomref02_Compare.j0 : Nat → Int → Bool → Bool → ByteArray → ByteArray → Bool → ByteArray → ByteArray → Option (Int × Int)
  | 0, _, _, _, _, _, _, _, _ => none
  | k + 1, x8, x32, x525000, x525001, x525002, x526000, x526001, x526002 => if x32 = true then (some (wrap64 (-x8), 0)) else (if x525000 = true then (some ((-1), 0)) else (if x526000 = true then (some (1, 0)) else (some (x8, 0))))
def idiomref02_Compare.f (k : Nat) (a0_0 : Bool) (a0_1 : ByteArray) (a0_2 : ByteArray) (a1_0 : Bool) (a1_1 : ByteArray) (a1_2 : ByteArray) : Option (Int × Int) := (idiomref02_Check.f k a0_0 a0_1 a0_2).bind fun t526 => ((idiomref02_Check.f k a1_0 a1_1 a1_2).bind fun t527 => ((idiomref02_First.f k (([t526, t527] : List Int))).bind fun t531 => (if t531 = 0 then ((idiomref02_raised.f k a0_0 a0_1 a0_2 (mx (a0_2.size : Int) (a1_2.size : Int))).bind fun t532 => ((idiomref02_raised.f k a1_0 a1_1 a1_2 (mx (a0_2.size : Int) (a1_2.size : Int))).bind fun t533 => ((idiomref02_Cmp.f k t532 t533).bind fun t534 => (if a0_0 = true then (idiomref02_Compare.j0 k t534 a1_0 a0_0 a0_1 a0_2 a1_0 a1_1 a1_2) else (idiomref02_Compare.j0 k t534 false a0_0 a0_1 a0_2 a1_0 a1_1 a1_2))))) else (some (0, t531)))))
def idiomref02_Compare.T5 : Bool × List (List Nat × List Nat) := (true, [([], []), ([], []), ([0, 1], [0, 1]), ([], []), ([], []), ([3, 4, 2], [3, 4]), ([2, 5, 5], [2, 5]), ([6, 6, 0, 1, 2, 3, 4, 5, 6], [6])])
def idiomref02_Compare.B5 : List Nat := [0, 0, 3, 0, 0, 31, 63, 127]
theorem idiomref02_Compare.tab5 : rtab .any (opsOf Tryz.f27 5) = idiomref02_Compare.T5 := by kernel_rfl
theorem idiomref02_Compare.bits5 : waitsOk idiomref02_Compare.T5.2 idiomref02_Compare.B5 = true := by kernel_rfl
set_option maxHeartbeats 8000000 in
set_option maxRecDepth 100000 in
theorem idiomref02_Compare.calls (k : Nat) (a0_0 : Bool) (a0_1 : ByteArray) (a0_2 : ByteArray) (a1_0 : Bool) (a1_1 : ByteArray) (a1_2 : ByteArray) (r1 : Int) (r2 : Int) (w : World) (h : idiomref02_Compare.f k a0_0 a0_1 a0_2 a1_0 a1_1 a1_2 = some (r1, r2)) :
    Calls Tryz.prog 27 #[.agg #[.bool a0_0, .string a0_1, .string a0_2], .agg #[.bool a1_0, .string a1_1, .string a1_2]] w fun e w' => e = .returned (.tuple #[.int .i64 r1, .int .i64 r2]) ∧ Below w.heap.size w w' := by
 have hu23 := Tryz.underlying23
 have HB := Aside0.mk (Below.refl w.heap.size w)
 unfold idiomref02_Compare.f at h
 have H := h
 clear h
 replace H := Option.bind_eq_some_iff.mp H
 obtain ⟨t526, A30, H⟩ := H
 try dsimp only at H
 have A3 := Aside0.mk A30
 clear A30
 replace H := Option.bind_eq_some_iff.mp H
 obtain ⟨t527, A40, H⟩ := H
 try dsimp only at H
 have A4 := Aside0.mk A40
 clear A40
 obtain ⟨y528, hy528⟩ : ∃ y_ : List Int, y_ = (([t526, t527] : List Int)) := ⟨_, rfl⟩
 rw [← hy528] at H
 have Ny528 := Aside0.mk hy528
 clear hy528
 replace H := Option.bind_eq_some_iff.mp H
 obtain ⟨t531, A50, H⟩ := H
 try dsimp only at H
 have A5 := Aside0.mk A50
 clear A50
 have HF6 := Aside0.mk H
 clear H
 go_enter Tryz.func27, Tryz.ntmps27
 try go_wp2_with (first | ((with_reducible refine gate_dst (N := 2) rfl ?_); refine bx_ #[.bool a0_0, .string a0_1, .string a0_2] 23 ?_; intro gb524 hg w7 hbox hb; have BK524 := Aside0.mk (hbox); have GW524 := ge_ (w := w) hg; have GE524 := ge_ (w := w) hg; replace HB := Aside0.mk (below_step hb_ hb); clear hb hbox hg) | ((with_reducible refine gate_dst (N := 3) rfl ?_); refine bx_ #[.bool a1_0, .string a1_1, .string a1_2] 23 ?_; intro gb525 hg w8 hbox hb; have BK525 := Aside0.mk (hbox); have GW525 := ge_ (w := w) hg; have GE525 := ge_ (w := w) hg; have NB524_525 := BK524.nl hg; have NB525_524 := BK524.ng hg; replace BK524 := BK524.bl hb; replace HB := Aside0.mk (below_step hb_ hb); clear hb hbox hg))
 replace BK524 := Aside0.mk (blk_drew BK524.out)
 replace BK525 := Aside0.mk (blk_drew BK525.out)
 replace HB := Aside0.mk (below_drew1 HB.out)
 refine start_ (n := 7) (S := fun w' => w'.cell? ⟨gb524, 0, none⟩ = some (.bool a0_0) ∧ w'.cell? ⟨gb524, 1, none⟩ = some (.string a0_1) ∧ w'.cell? ⟨gb524, 2, none⟩ = some (.string a0_2) ∧ w'.cell? ⟨gb525, 0, none⟩ = some (.bool a1_0) ∧ w'.cell? ⟨gb525, 1, none⟩ = some (.string a1_1) ∧ w'.cell? ⟨gb525, 2, none⟩ = some (.string a1_2)) (ds := []) #[false, false, false, false, false, false, false] (by kernel_rfl) rfl rfl ⟨(blk_cell BK524.out 0).trans rfl, (blk_cell BK524.out 1).trans rfl, (blk_cell BK524.out 2).trans rfl, (blk_cell BK525.out 0).trans rfl, (blk_cell BK525.out 1).trans rfl, (blk_cell BK525.out 2).trans rfl⟩ (fun hHeld => ?_)
 generalize w8.drew = w9 at BK524 BK525 HB hHeld ⊢
 refine tk_ 0 (some 9) hHeld ?_
 refine tk_ 2 (some 11) hHeld ?_
 refine one_ (i := 1) (N := some 10) #[true, true, true, false, false, false, false] rfl rfl (by kernel_rfl) (by decide) (fun K hK => ?_)
 refine goes_ Tryz.func33 (by kernel_rfl) rfl #[.agg #[.bool a0_0, .string a0_1, .string a0_2]] (by rfl) rfl rfl ar_ ?_
 with_reducible refine (idiomref02_Check.calls k a0_0 a0_1 a0_2 t526 _ A3.out).mono ?_
 rintro e w10 ⟨rfl, hb⟩
 refine ⟨_, rfl, ?_⟩
 replace BK524 := BK524.bl hb
 replace BK525 := BK525.bl hb
 replace HB := Aside0.mk (below_step hb_ hb)
 (try clear hb)
 (try clear hb2)
 (try clear hk)
 (try clear hi)
 refine hK.out _ _ ⟨(blk_cell BK524.out 0).trans rfl, (blk_cell BK524.out 1).trans rfl, (blk_cell BK524.out 2).trans rfl, (blk_cell BK525.out 0).trans rfl, (blk_cell BK525.out 1).trans rfl, (blk_cell BK525.out 2).trans rfl⟩ (fun hHeld => ?_)
 clear hK K
 refine norm_ (a' := ?_) ?_ ?_
 rotate_left
 ·show Act.put _ (some 10) _ = _
  simp only [Act.put, List.setIfInBounds_toArray, List.set_cons_zero, List.set_cons_succ, i64_w, i32_w]
  rfl
 refine one_ (i := 3) (N := some 12) #[true, true, true, true, false, false, false] rfl rfl (by kernel_rfl) (by decide) (fun K hK => ?_)
 refine goes_ Tryz.func33 (by kernel_rfl) rfl #[.agg #[.bool a1_0, .string a1_1, .string a1_2]] (by rfl) rfl rfl ar_ ?_
 with_reducible refine (idiomref02_Check.calls k a1_0 a1_1 a1_2 t527 _ A4.out).mono ?_
 rintro e w11 ⟨rfl, hb⟩
 refine ⟨_, rfl, ?_⟩
 replace BK524 := BK524.bl hb
 replace BK525 := BK525.bl hb
 replace HB := Aside0.mk (below_step hb_ hb)
 (try clear hb)
 (try clear hb2)
 (try clear hk)
 (try clear hi)
 refine hK.out _ _ ⟨(blk_cell BK524.out 0).trans rfl, (blk_cell BK524.out 1).trans rfl, (blk_cell BK524.out 2).trans rfl, (blk_cell BK525.out 0).trans rfl, (blk_cell BK525.out 1).trans rfl, (blk_cell BK525.out 2).trans rfl⟩ (fun hHeld => ?_)
 clear hK K
 refine norm_ (a' := ?_) ?_ ?_
 rotate_left
 ·show Act.put _ (some 12) _ = _
  simp only [Act.put, List.setIfInBounds_toArray, List.set_cons_zero, List.set_cons_succ, i64_w, i32_w]
  rfl
 refine one_ (i := 4) (N := some 13) #[true, true, true, true, true, false, false] rfl rfl (by kernel_rfl) (by decide) (fun K hK => ?_)
 refine Kd.R_lit_step (Kd.int .i64) _ 29 ?hg (N := 13) ?hd (xs := ([t526, t527] : List Int)) (inner := [.int .i64 t526, .int .i64 t527]) (ok := fun _ => True) (okp := fun _ => True) ?hr ?hp (fun _ hk => hk) trivial (Below.refl _ _) (Nat.le_refl _) (by simp) ?_; (case hd => rfl); (case hg => rfl); (case hr => first | (go_simp; done) | (go_simp; rfl)); (case hp => exact (Reps.one (show Kd.M (Kd.int .i64) _ _ _ t526 [.int .i64 t526] from rfl) (Reps.one (show Kd.M (Kd.int .i64) _ _ _ t527 [.int .i64 t527] from rfl) (Reps.none _ _))))
 intro v529 w12 ho13 hb hg_ hnew_
 clear hg_ hnew_
 (first | rw [← Ny528.out] at ho13 | (simp only [Int.reduceToNat] at ho13; rw [← Ny528.out] at ho13))
 have HO530 := Aside0.mk (Kd.R_lower ho13 (below_size hb_))
 replace BK524 := BK524.bl hb
 replace BK525 := BK525.bl hb
 replace HB := Aside0.mk (below_step hb_ hb)
 clear hb ho13
 obtain ⟨Ao14, co14, eo14⟩ := Kd.R_slice HO530.out
 (first | subst eo14 | (injection eo14 with f1_ f2_ f3_; have f4_ := f1_.symm; have f5_ := f3_.symm; clear f1_ f2_ f3_; subst f4_; subst f5_))
 refine hK.out _ _ ⟨(blk_cell BK524.out 0).trans rfl, (blk_cell BK524.out 1).trans rfl, (blk_cell BK524.out 2).trans rfl, (blk_cell BK525.out 0).trans rfl, (blk_cell BK525.out 1).trans rfl, (blk_cell BK525.out 2).trans rfl⟩ (fun hHeld => ?_)
 clear hK K
 refine norm_ (a' := ?_) ?_ ?_
 rotate_left
 ·show Act.put _ (some 13) _ = _
  simp only [Act.put, List.setIfInBounds_toArray, List.set_cons_zero, List.set_cons_succ, i64_w, i32_w]
  rfl
 refine one_ (i := 5) (N := some 14) #[true, true, true, true, true, true, false] rfl rfl (by kernel_rfl) (by decide) (fun K hK => ?_)
 refine goes_ Tryz.func32 (by kernel_rfl) rfl #[.slice Ao14 y528.length co14] (by rfl) rfl rfl ar_ ?_
 with_reducible refine (idiomref02_First.calls k _ _ y528 t531 _ ?side1 ?side2 A5.out).mono ?_
 (case side1 => repeat (first | exact (Kd.R_reads' HO530.out).2.2 | (with_reducible refine Kd.C_alloc ?_ _) | (with_reducible refine Kd.C_drewN ?_ _) | (with_reducible refine Kd.C_drew ?_)))
 (case side2 => exact (Kd.R_reads' HO530.out).2.1)
 rintro e w' ⟨rfl, ⟨nd, rfl⟩⟩
 refine ⟨_, rfl, ?_⟩
 refine hK.out _ _ ⟨(blk_cell BK524.out 0).trans rfl, (blk_cell BK524.out 1).trans rfl, (blk_cell BK524.out 2).trans rfl, (blk_cell BK525.out 0).trans rfl, (blk_cell BK525.out 1).trans rfl, (blk_cell BK525.out 2).trans rfl⟩ (fun hHeld => ?_)
 clear hK K
 refine norm_ (a' := ?_) ?_ ?_
 rotate_left
 ·show Act.put _ (some 14) _ = _
  simp only [Act.put, List.setIfInBounds_toArray, List.set_cons_zero, List.set_cons_succ, i64_w, i32_w]
  rfl
 refine pr_ 6 (some 6) ?_
 refine done_ (by kernel_rfl) ?_
 go_upto_if 16 with (fail)
 have H := HF6.out
 clear HF6
 by_cases c15 : t531 = 0
 ·rw [if_pos c15] at H
  have c15b0 : (t531 == 0) = true := beq_iff_eq.mpr c15
  have c15b1 : (t531 != 0) = false := bne_eq_false_iff_eq.mpr c15
  clear c15
  (first | rw [c15b0] | (simp only [i64_w, i32_w]; rw [c15b0]) | rw [c15b1] | skip)
  obtain ⟨ji16, hji16⟩ : ∃ j_ : Int, (mx (a0_2.size : Int) (a1_2.size : Int)) = j_ := ⟨_, rfl⟩
  replace H : ((idiomref02_raised.f k a0_0 a0_1 a0_2 (ji16)).bind fun t532 => ((idiomref02_raised.f k a1_0 a1_1 a1_2 (ji16)).bind fun t533 => ((idiomref02_Cmp.f k t532 t533).bind fun t534 => (if a0_0 = true then (idiomref02_Compare.j0 k t534 a1_0 a0_0 a0_1 a0_2 a1_0 a1_1 a1_2) else (idiomref02_Compare.j0 k t534 false a0_0 a0_1 a0_2 a1_0 a1_1 a1_2))))) = some (r1, r2) := by first | (rw [hji16] at H; exact H) | (simp only [hji16] at H ⊢; exact H)
  (try (have hji16l : 0 ≤ ji16 := by (rw [← hji16]; unfold mx; (repeat' split) <;> omega)))
  (try (have hji16m : 0 ≤ ji16 := by omega))
  have hji16_ : (if (a0_2.size : Int) < (a1_2.size : Int) then (a1_2.size : Int) else (a0_2.size : Int)) = ji16 := hji16
  (try (have hji16n := hji16_; simp only [Int.ofNat_lt] at hji16n))
  replace H := Option.bind_eq_some_iff.mp H
  obtain ⟨t532, A170, H⟩ := H
  try dsimp only at H
  have A17 := Aside0.mk A170
  clear A170
  replace H := Option.bind_eq_some_iff.mp H
  obtain ⟨t533, A180, H⟩ := H
  try dsimp only at H
  have A18 := Aside0.mk A180
  clear A180
  replace H := Option.bind_eq_some_iff.mp H
  obtain ⟨t534, A190, H⟩ := H
  try dsimp only at H
  have A19 := Aside0.mk A190
  clear A190
  have HC20 := Aside0.mk H
  clear H
  have hnb21 := NB524_525.out
  have hnc21 := NB525_524.out
  obtain ⟨hcz22_0, hcz22_1, hcz22_2, hfz22_0, hfz22_1, hfz22_2⟩ := BK524.c3
  obtain ⟨hcz23_0, hcz23_1, hcz23_2, hfz23_0, hfz23_1, hfz23_2⟩ := BK525.c3
  try go_wp2
  (try (rw [drewN_self w12]; generalize hq_ : World.drewN w12 _ = w12; have n0_ : Aside0 (Kd.R (Kd.int .i64) 29 w12 w.heap.size (fun _ => True) (.slice Ao14 y528.length co14) y528) := ⟨by rw [← hq_]; exact (by (with_reducible repeat (first | apply Kd.R_alloc | apply Kd.R_drewN | apply Kd.R_drew)); exact HO530.out)⟩; have n1_ : Aside0 (w12.heap[gb524]? = some (.cells #[.bool a0_0, .string a0_1, .string a0_2] 23 (0, 0))) := ⟨by rw [← hq_]; exact BK524.out⟩; have n2_ : Aside0 (w12.heap[gb525]? = some (.cells #[.bool a1_0, .string a1_1, .string a1_2] 23 (0, 0))) := ⟨by rw [← hq_]; exact BK525.out⟩; have n3_ : Aside0 (Below w.heap.size w w12) := ⟨by rw [← hq_]; exact hb_⟩; clear HO530 BK524 BK525 HB hq_; have HO530 := n0_; have BK524 := n1_; have BK525 := n2_; have HB := n3_; clear n0_ n1_ n2_ n3_))
  replace HO530 := Aside0.mk (Kd.R_drew HO530.out)
  replace BK524 := Aside0.mk (blk_drew BK524.out)
  replace BK525 := Aside0.mk (blk_drew BK525.out)
  replace HB := Aside0.mk (below_drew1 HB.out)
  refine start_ (n := 8) (S := fun w' => w'.cell? ⟨gb524, 0, none⟩ = some (.bool a0_0) ∧ w'.cell? ⟨gb524, 1, none⟩ = some (.string a0_1) ∧ w'.cell? ⟨gb524, 2, none⟩ = some (.string a0_2) ∧ w'.cell? ⟨gb525, 0, none⟩ = some (.bool a1_0) ∧ w'.cell? ⟨gb525, 1, none⟩ = some (.string a1_1) ∧ w'.cell? ⟨gb525, 2, none⟩ = some (.string a1_2)) (ds := []) #[false, false, false, false, false, false, false, false] (by kernel_rfl) rfl rfl ⟨(blk_cell BK524.out 0).trans rfl, (blk_cell BK524.out 1).trans rfl, (blk_cell BK524.out 2).trans rfl, (blk_cell BK525.out 0).trans rfl, (blk_cell BK525.out 1).trans rfl, (blk_cell BK525.out 2).trans rfl⟩ (fun hHeld => ?_); refine with_tabW idiomref02_Compare.tab5 idiomref02_Compare.bits5 (fun HT_ HW_ => ?_)
  generalize w12.drew = w24 at HO530 BK524 BK525 HB hHeld ⊢
  refine pr_ 1 (some 26) ?_
  refine pr_ 4 (some 29) ?_
  refine tk_ 0 (some 25) hHeld ?_
  refine tk_ 3 (some 28) hHeld ?_
  refine one_ (i := 2) (N := some 27) #[true, true, true, true, true, false, false, false] rfl rfl (one_of HT_.out (by kernel_rfl)) (by decide) (fun K hK => ?_)
  refine goes_ Tryz.func57 (by kernel_rfl) rfl #[.agg #[.bool a0_0, .string a0_1, .string a0_2], .int .i64 ji16] (by rfl) rfl rfl (by (try simp only [List.map_toArray, List.map_cons, List.map_nil]); first | done | (simp only [hji16]; rfl) | rfl | (simp only [List.length_drop, List.length_take]; rfl)) ?_
  with_reducible refine (idiomref02_raised.calls k a0_0 a0_1 a0_2 ji16 t532 _ A17.out).mono ?_
  rintro e w25 ⟨rfl, hb⟩
  refine ⟨_, rfl, ?_⟩
  replace HO530 := Aside0.mk (Kd.R_below (by (with_reducible repeat (first | apply Kd.R_alloc | apply Kd.R_drewN | apply Kd.R_drew)); exact HO530.out) hb)
  replace BK524 := BK524.bl hb
  replace BK525 := BK525.bl hb
  replace HB := Aside0.mk (below_step hb_ hb)
  (try clear hb)
  (try clear hb2)
  (try clear hk)
  (try clear hi)
  refine hK.out _ _ ⟨(blk_cell BK524.out 0).trans rfl, (blk_cell BK524.out 1).trans rfl, (blk_cell BK524.out 2).trans rfl, (blk_cell BK525.out 0).trans rfl, (blk_cell BK525.out 1).trans rfl, (blk_cell BK525.out 2).trans rfl⟩ (fun hHeld => ?_)
  clear hK K
  refine norm_ (a' := ?_) ?_ ?_
  rotate_left
  ·show Act.put _ (some 27) _ = _
   simp only [Act.put, List.setIfInBounds_toArray, List.set_cons_zero, List.set_cons_succ, i64_w, i32_w]
   rfl
  refine one_ (i := 5) (N := some 30) #[true, true, true, true, true, true, false, false] rfl rfl (one_of HT_.out (by kernel_rfl)) (by decide) (fun K hK => ?_)
  refine goes_ Tryz.func57 (by kernel_rfl) rfl #[.agg #[.bool a1_0, .string a1_1, .string a1_2], .int .i64 ji16] (by rfl) rfl rfl (by (try simp only [List.map_toArray, List.map_cons, List.map_nil]); first | done | (simp only [hji16]; rfl) | rfl | (simp only [List.length_drop, List.length_take]; rfl)) ?_
  with_reducible refine (idiomref02_raised.calls k a1_0 a1_1 a1_2 ji16 t533 _ A18.out).mono ?_
  rintro e w26 ⟨rfl, hb⟩
  refine ⟨_, rfl, ?_⟩
  replace HO530 := Aside0.mk (Kd.R_below (by (with_reducible repeat (first | apply Kd.R_alloc | apply Kd.R_drewN | apply Kd.R_drew)); exact HO530.out) hb)
  replace BK524 := BK524.bl hb
  replace BK525 := BK525.bl hb
  replace HB := Aside0.mk (below_step hb_ hb)
  (try clear hb)
  (try clear hb2)
  (try clear hk)
  (try clear hi)
  refine hK.out _ _ ⟨(blk_cell BK524.out 0).trans rfl, (blk_cell BK524.out 1).trans rfl, (blk_cell BK524.out 2).trans rfl, (blk_cell BK525.out 0).trans rfl, (blk_cell BK525.out 1).trans rfl, (blk_cell BK525.out 2).trans rfl⟩ (fun hHeld => ?_)
  clear hK K
  refine norm_ (a' := ?_) ?_ ?_
  rotate_left
  ·show Act.put _ (some 30) _ = _
   simp only [Act.put, List.setIfInBounds_toArray, List.set_cons_zero, List.set_cons_succ, i64_w, i32_w]
   rfl
  refine one_ (i := 6) (N := some 31) #[true, true, true, true, true, true, true, false] rfl rfl (one_of HT_.out (by kernel_rfl)) (by decide) (fun K hK => ?_)
  refine goes_ Tryz.func56 (by kernel_rfl) rfl #[.string t532, .string t533] (by rfl) rfl rfl ar_ ?_
  with_reducible refine (idiomref02_Cmp.calls k t532 t533 t534 _ A19.out).mono ?_
  rintro e w' ⟨rfl, ⟨nd, rfl⟩⟩
  refine ⟨_, rfl, ?_⟩
  refine hK.out _ _ ⟨(blk_cell BK524.out 0).trans rfl, (blk_cell BK524.out 1).trans rfl, (blk_cell BK524.out 2).trans rfl, (blk_cell BK525.out 0).trans rfl, (blk_cell BK525.out 1).trans rfl, (blk_cell BK525.out 2).trans rfl⟩ (fun hHeld => ?_)
  clear hK K
  refine norm_ (a' := ?_) ?_ ?_
  rotate_left
  ·show Act.put _ (some 31) _ = _
   simp only [Act.put, List.setIfInBounds_toArray, List.set_cons_zero, List.set_cons_succ, i64_w, i32_w]
   rfl
  refine pr_ 7 (some 8) ?_
  refine done_ (done_of HT_.out (by kernel_rfl)) ?_
  go_upto_region 6 with (fail)
  go_cut [32] (fun v32 wc => ∃ (kq : Nat) (x32_19 : Bool), v32 = .bool x32_19 ∧ Aside0 (idiomref02_Compare.j0 kq t534 x32_19 a0_0 a0_1 a0_2 a1_0 a1_1 a1_2 = some (r1, r2)) ∧ Aside0 (kq ≤ k) ∧ Aside0 (wc.heap[gb524]? = some (.cells #[.bool a0_0, .string a0_1, .string a0_2] 23 (0, 0))) ∧ Aside0 (wc.heap[gb525]? = some (.cells #[.bool a1_0, .string a1_1, .string a1_2] 23 (0, 0))) ∧ Aside0 (Below w.heap.size w wc))
  case first =>
   have H := HC20.out
   clear HC20
   by_cases c27 : a0_0 = true
   ·subst c27
    have H1 : (idiomref02_Compare.j0 k t534 a1_0 true a0_1 a0_2 a1_0 a1_1 a1_2) = some (r1, r2) := by rw [if_pos rfl] at H; exact H
    clear H
    have H := H1
    clear H1
    have H' := Aside0.mk H
    clear H
    have hnb28 := NB524_525.out
    have hnc28 := NB525_524.out
    obtain ⟨hcz29_0, hcz29_1, hcz29_2, hfz29_0, hfz29_1, hfz29_2⟩ := BK524.c3
    obtain ⟨hcz30_0, hcz30_1, hcz30_2, hfz30_0, hfz30_1, hfz30_2⟩ := BK525.c3
    go_wp2
    go_meet
    case rel => exact ⟨_, (a1_0), (by first | rfl | (simp; done) | (simp [*]; done)), H', ⟨by first | omega | exact Nat.le_refl _⟩, ⟨by exact BK524.out⟩, ⟨by exact BK525.out⟩, ⟨hb_⟩⟩
   ·replace c27 := Bool.eq_false_iff.mpr c27
    subst c27
    have H1 : (idiomref02_Compare.j0 k t534 false false a0_1 a0_2 a1_0 a1_1 a1_2) = some (r1, r2) := by rw [if_neg (show ¬ (false = true) by decide)] at H; exact H
    clear H
    have H := H1
    clear H1
    have H' := Aside0.mk H
    clear H
    have hnb31 := NB524_525.out
    have hnc31 := NB525_524.out
    obtain ⟨hcz32_0, hcz32_1, hcz32_2, hfz32_0, hfz32_1, hfz32_2⟩ := BK524.c3
    go_wp2
    go_meet
    case rel => exact ⟨_, (false), (by first | rfl | (simp; done) | (simp [*]; done)), H', ⟨by first | omega | exact Nat.le_refl _⟩, ⟨by exact BK524.out⟩, ⟨by exact BK525.out⟩, ⟨hb_⟩⟩
  case rest =>
   clear HC20
   (try clear c15); (try clear c15b0); (try clear c15b1); (try clear hcz22_0); (try clear hcz22_1); (try clear hcz22_2); (try clear hcz23_0); (try clear hcz23_1); (try clear hcz23_2); (try clear hfz22_0); (try clear hfz22_1); (try clear hfz22_2); (try clear hfz23_0); (try clear hfz23_1); (try clear hfz23_2)
   obtain ⟨kq, x32_19, rfl, HA, HJ19, BK524, BK525, HB⟩ := hcut
   cases kq with
   | zero => exact absurd HA.out (by simp [idiomref02_Compare.j0])
   | succ kj19 =>
    have H := HA.out
    clear HA
    simp only [idiomref02_Compare.j0] at H
    by_cases c33 : x32_19 = true
    ·subst c33
     have H1 : (some (wrap64 (-t534), 0)) = some (r1, r2) := by rw [if_pos rfl] at H; exact H
     clear H
     have H := H1
     clear H1
     simp only [Option.some.injEq, Prod.mk.injEq] at H
     obtain ⟨rfl, rfl⟩ := H
     go_wp2
     go_ret2
     exact ⟨by first | rfl | (simp [errW_none, errW_some] <;> rfl) | (simp only [← hji16]; first | rfl | (simp [errW_none, errW_some] <;> rfl)) | (simp [*, errW_none, errW_some] <;> rfl) | (simp [bne_nil_]; done), hb_⟩
    ·replace c33 := Bool.eq_false_iff.mpr c33
     subst c33
     have H1 : (if a0_0 = true then (some ((-1), 0)) else (if a1_0 = true then (some (1, 0)) else (some (t534, 0)))) = some (r1, r2) := by rw [if_neg (show ¬ (false = true) by decide)] at H; exact H
     clear H
     have H := H1
     clear H1
     by_cases c34 : a0_0 = true
     ·subst c34
      have H1 : (some ((-1), 0)) = some (r1, r2) := by rw [if_pos rfl] at H; exact H
      clear H
      have H := H1
      clear H1
      simp only [Option.some.injEq, Prod.mk.injEq] at H
      obtain ⟨rfl, rfl⟩ := H
      have hnb35 := NB524_525.out
      have hnc35 := NB525_524.out
      obtain ⟨hcz36_0, hcz36_1, hcz36_2, hfz36_0, hfz36_1, hfz36_2⟩ := BK524.c3
      go_wp2
      go_ret2
      exact ⟨by first | rfl | (simp [errW_none, errW_some] <;> rfl) | (simp only [← hji16]; first | rfl | (simp [errW_none, errW_some] <;> rfl)) | (simp [*, errW_none, errW_some] <;> rfl) | (simp [bne_nil_]; done), hb_⟩
     ·replace c34 := Bool.eq_false_iff.mpr c34
      subst c34
      have H1 : (if a1_0 = true then (some (1, 0)) else (some (t534, 0))) = some (r1, r2) := by rw [if_neg (show ¬ (false = true) by decide)] at H; exact H
      clear H
      have H := H1
      clear H1
      by_cases c37 : a1_0 = true
      ·subst c37
       have H1 : (some (1, 0)) = some (r1, r2) := by rw [if_pos rfl] at H; exact H
       clear H
       have H := H1
       clear H1
       simp only [Option.some.injEq, Prod.mk.injEq] at H
       obtain ⟨rfl, rfl⟩ := H
       have hnb38 := NB524_525.out
       have hnc38 := NB525_524.out
       obtain ⟨hcz39_0, hcz39_1, hcz39_2, hfz39_0, hfz39_1, hfz39_2⟩ := BK524.c3
       obtain ⟨hcz40_0, hcz40_1, hcz40_2, hfz40_0, hfz40_1, hfz40_2⟩ := BK525.c3
       go_wp2
       go_ret2
       exact ⟨by first | rfl | (simp [errW_none, errW_some] <;> rfl) | (simp only [← hji16]; first | rfl | (simp [errW_none, errW_some] <;> rfl)) | (simp [*, errW_none, errW_some] <;> rfl) | (simp [bne_nil_]; done), hb_⟩
      ·replace c37 := Bool.eq_false_iff.mpr c37
       subst c37
       have H1 : (some (t534, 0)) = some (r1, r2) := by rw [if_neg (show ¬ (false = true) by decide)] at H; exact H
       clear H
       have H := H1
       clear H1
       simp only [Option.some.injEq, Prod.mk.injEq] at H
       obtain ⟨rfl, rfl⟩ := H
       have hnb41 := NB524_525.out
       have hnc41 := NB525_524.out
       obtain ⟨hcz42_0, hcz42_1, hcz42_2, hfz42_0, hfz42_1, hfz42_2⟩ := BK524.c3
       obtain ⟨hcz43_0, hcz43_1, hcz43_2, hfz43_0, hfz43_1, hfz43_2⟩ := BK525.c3
       go_wp2
       go_ret2
       exact ⟨by first | rfl | (simp [errW_none, errW_some] <;> rfl) | (simp only [← hji16]; first | rfl | (simp [errW_none, errW_some] <;> rfl)) | (simp [*, errW_none, errW_some] <;> rfl) | (simp [bne_nil_]; done), hb_⟩
 ·rw [if_neg c15] at H
  have c15b0 : (t531 == 0) = false := beq_eq_false_iff_ne.mpr c15
  have c15b1 : (t531 != 0) = true := bne_iff_ne.mpr c15
  (first | rw [c15b0] | (simp only [i64_w, i32_w]; rw [c15b0]) | rw [c15b1] | skip)
  simp only [Option.some.injEq, Prod.mk.injEq] at H
  obtain ⟨rfl, rfl⟩ := H
  go_wp2
  go_ret2
  exact fin_
end Go.Proofs.YtihjcaglhjepdaaGreatDoor.P
namespace Go.Proofs
open Go.Shelf
def Tryz.lays105_ren : Go.Shelf.Ren := ⟨fun | 105 => 38 | 212 => 68 | 99 => 69 | 165 => 70 | 166 => 71 | 170 => 72 | 169 => 73 | 263 => 85 | 264 => 86 | 206 => 87 | 240 => 88 | 241 => 89 | 276 => 100 | 277 => 101 | n => n, fun | 9 => 9 | 3 => 3 | 4 => 4 | 20 => 20 | 0 => 0 | 46 => 88 | 109 => 89 | 5 => 5 | 72 => 93 | 76 => 97 | 51 => 110 | 146 => 111 | 53 => 113 | 148 => 114 | 70 => 91 | 37 => 62 | 75 => 96 | 127 => 116 | 164 => 125 | 80 => 100 | n => n, fun | n => n⟩
theorem Tryz.lays105 : Go.Proofs.Lays.n105 Tryz.prog Tryz.lays105_ren := {
  mixed := by kernel_rfl
  f99 := Tryz.func69.trans (congrArg some (by kernel_rfl))
  f105 := Tryz.func38.trans (congrArg some (by kernel_rfl))
  f165 := Tryz.func70.trans (congrArg some (by kernel_rfl))
  f166 := Tryz.func71.trans (congrArg some (by kernel_rfl))
  f169 := Tryz.func73.trans (congrArg some (by kernel_rfl))
  f170 := Tryz.func72.trans (congrArg some (by kernel_rfl))
  f206 := Tryz.func87.trans (congrArg some (by kernel_rfl))
  f212 := Tryz.func68.trans (congrArg some (by kernel_rfl))
  f240 := Tryz.func88.trans (congrArg some (by kernel_rfl))
  f241 := Tryz.func89.trans (congrArg some (by kernel_rfl))
  f263 := Tryz.func85.trans (congrArg some (by kernel_rfl))
  f264 := Tryz.func86.trans (congrArg some (by kernel_rfl))
  f276 := Tryz.func100.trans (congrArg some (by kernel_rfl))
  f277 := Tryz.func101.trans (congrArg some (by kernel_rfl))
  t0 := Tryz.underlying0
  a0 := Tryz.isAgg0
  z0 := Tryz.sizeOf0
  v0 := Tryz.zeroValue0
  t3 := Tryz.underlying3
  a3 := Tryz.isAgg3
  z3 := Tryz.sizeOf3
  v3 := Tryz.zeroValue3
  t4 := Tryz.underlying4
  a4 := Tryz.isAgg4
  z4 := Tryz.sizeOf4
  v4 := Tryz.zeroValue4
  t5 := Tryz.underlying5
  a5 := Tryz.isAgg5
  z5 := Tryz.sizeOf5
  v5 := Tryz.zeroValue5
  t9 := Tryz.underlying9
  a9 := Tryz.isAgg9
  z9 := Tryz.sizeOf9
  v9 := Tryz.zeroValue9
  t20 := Tryz.underlying20
  a20 := Tryz.isAgg20
  z20 := Tryz.sizeOf20
  v20 := Tryz.zeroValue20
  t37 := Tryz.underlying62
  a37 := Tryz.isAgg62
  z37 := Tryz.sizeOf62
  v37 := Tryz.zeroValue62
  t46 := Tryz.underlying88
  a46 := Tryz.isAgg88
  z46 := Tryz.sizeOf88
  v46 := Tryz.zeroValue88
  t51 := Tryz.underlying110
  a51 := Tryz.isAgg110
  z51 := Tryz.sizeOf110
  v51 := Tryz.zeroValue110
  t53 := Tryz.underlying113
  a53 := Tryz.isAgg113
  z53 := Tryz.sizeOf113
  v53 := Tryz.zeroValue113
  t70 := Tryz.underlying91
  a70 := Tryz.isAgg91
  z70 := Tryz.sizeOf91
  v70 := Tryz.zeroValue91
  t72 := Tryz.underlying93
  a72 := Tryz.isAgg93
  z72 := Tryz.sizeOf93
  v72 := Tryz.zeroValue93
  t75 := Tryz.underlying96
  a75 := Tryz.isAgg96
  z75 := Tryz.sizeOf96
  v75 := Tryz.zeroValue96
  t76 := Tryz.underlying97
  a76 := Tryz.isAgg97
  z76 := Tryz.sizeOf97
  v76 := Tryz.zeroValue97
  t109 := Tryz.underlying89
  a109 := Tryz.isAgg89
  z109 := Tryz.sizeOf89
  v109 := Tryz.zeroValue89
  t127 := Tryz.underlying116
  a127 := Tryz.isAgg116
  z127 := Tryz.sizeOf116
  v127 := Tryz.zeroValue116
  t146 := Tryz.underlying111
  a146 := Tryz.isAgg111
  z146 := Tryz.sizeOf111
  v146 := Tryz.zeroValue111
  t148 := Tryz.underlying114
  a148 := Tryz.isAgg114
  z148 := Tryz.sizeOf114
  v148 := Tryz.zeroValue114
  t164 := Tryz.underlying125
  a164 := Tryz.isAgg125
  z164 := Tryz.sizeOf125
  v164 := Tryz.zeroValue125 }
theorem Tryz.Builder_Extra_105 : Builder.Extra Tryz.prog Tryz.lays105_ren := {
  sizeBuilder := by kernel_rfl
  liesBuilder := by kernel_rfl
  t5 := Tryz.underlying5
  a5 := Tryz.isAgg5
  z5 := Tryz.sizeOf5
  v5 := Tryz.zeroValue5
  infoByte := by kernel_rfl
  cellsByte := by kernel_rfl
  sizeByte := by kernel_rfl
  neB5 := by decide }
open Go.RowKit Go.Lib in
theorem Tryz.strings_Repeat (s : ByteArray) (c : Nat) (w : World) (hc : c ≤ 9223372036854775807) (hlen : s.size * c ≤ 140737488355328) :
    Calls Tryz.prog 38 #[.string s, .int .i64 c] w fun e w' => e = .returned (.string ⟨(Lib.repeatL s.data.toList c).toArray⟩) ∧ Below w.heap.size w w' := Any.strings_Repeat Tryz.lays105 Tryz.Builder_Extra_105 s c w hc hlen
end Go.Proofs
namespace Go.Proofs.YtihjcaglhjepdaaGreatDoor.P
open Go.RowKit Go.Proofs.YtihjcaglhjepdaaGreatDoorW.PrintWords Go.Proofs.YtihjcaglhjepdaaGreatDoorW.PrintLast Go.Proofs.YtihjcaglhjepdaaGreatDoorW.PrintMore
def strings_Repeat.f (a0 : ByteArray) (a1 : Int) : Option (ByteArray) :=
  if 0 ≤ a1 ∧ a1 ≤ 1048576 ∧ a0.size ≤ 1048576 then some ⟨(Lib.repeatL a0.data.toList a1.toNat).toArray⟩ else none
theorem strings_Repeat.calls (a0 : ByteArray) (a1 : Int) (r : ByteArray) (w : World) (h : strings_Repeat.f a0 a1 = some r) :
    Calls Tryz.prog 38 #[.string a0, .int .i64 a1] w fun e w' => e = .returned (.string r) ∧ Below w.heap.size w w' := by
 unfold strings_Repeat.f at h
 split at h
 ·rename_i hc
  obtain ⟨h0, h1, h2⟩ := hc
  obtain rfl := Option.some.inj h
  obtain ⟨n, rfl⟩ := Int.eq_ofNat_of_zero_le h0
  have hl : a0.size * n ≤ 1048576 * 1048576 := Nat.mul_le_mul h2 (by omega)
  exact Tryz.strings_Repeat a0 n w (by omega) (by omega)
 ·cases h
attribute [local go_sem] max2_int max_two
set_option linter.unusedVariables false
set_option linter.unusedSimpArgs false
def idiomref02_Trim.l0 : Nat → Bool → ByteArray → ByteArray → Option (Bool × ByteArray × ByteArray × Int)
  | 0, _, _, _ => none
  | k + 1, x151000, x151001, x151002 => if x151002.toList = ([] : List UInt8) then (some (x151000, x151001, x151002, 0)) else (if 0 ≤ (wrap64 ((x151002.size : Int) - 1)) then (if (wrap64 ((x151002.size : Int) - 1)) < (x151002.size : Int) then (if (bt x151002 (wrap64 ((x151002.size : Int) - 1))) = 48 then (if (wrap64 ((x151002.size : Int) - 1)) ≤ (x151002.size : Int) then (idiomref02_Trim.l0 k x151000 x151001 (x151002.extract 0 ((wrap64 ((x151002.size : Int) - 1)) : Int).toNat)) else (none)) else (some (x151000, x151001, x151002, 0))) else (none)) else (none))
def idiomref02_Trim.f (k : Nat) (a0_0 : Bool) (a0_1 : ByteArray) (a0_2 : ByteArray) : Option (Bool × ByteArray × ByteArray × Int) := (idiomref02_Check.f k a0_0 a0_1 a0_2).bind fun t152 => (if t152 = 0 then (idiomref02_Trim.l0 k a0_0 a0_1 a0_2) else (some (false, (⟨#[]⟩ : ByteArray), (⟨#[]⟩ : ByteArray), t152)))
set_option maxHeartbeats 8000000 in
set_option maxRecDepth 100000 in
theorem idiomref02_Trim.calls (k : Nat) (a0_0 : Bool) (a0_1 : ByteArray) (a0_2 : ByteArray) (r1 : Bool) (r2 : ByteArray) (r3 : ByteArray) (r4 : Int) (w : World) (h : idiomref02_Trim.f k a0_0 a0_1 a0_2 = some (r1, r2, r3, r4)) :
    Calls Tryz.prog 26 #[.agg #[.bool a0_0, .string a0_1, .string a0_2]] w fun e w' => e = .returned (.tuple #[.agg #[.bool r1, .string r2, .string r3], .int .i64 r4]) ∧ Below w.heap.size w w' := by
 have hu23 := Tryz.underlying23
 have HB := Aside0.mk (Below.refl w.heap.size w)
 unfold idiomref02_Trim.f at h
 have H := h
 clear h
 replace H := Option.bind_eq_some_iff.mp H
 obtain ⟨t152, A20, H⟩ := H
 try dsimp only at H
 have A2 := Aside0.mk A20
 clear A20
 have HF3 := Aside0.mk H
 clear H
 go_enter Tryz.func26, Tryz.ntmps26
 go_upto_if 8 with (first | ((with_reducible refine gate_dst (N := 1) rfl ?_); (try (refine gate_guard (by rfl) ?_; dsimp only)); refine box_event ?hg (N := 1) ?hd (cs := #[.bool a0_0, .string a0_1, .string a0_2]) (t := 23) ?hr ?_; (case hd => rfl); (case hg => rfl); (case hr => first | (go_simp; done) | (go_simp; rfl)); intro gb150 hg w4 hbox hb; have BK150 := Aside0.mk (hbox); have GW150 := ge_ (w := w) hg; have GE150 := ge_ (w := w) hg; replace HB := Aside0.mk (below_step hb_ hb); clear hb hbox hg) | ((with_reducible refine gate_dst (N := 2) rfl ?_); (try (refine gate_guard (by rfl) ?_; dsimp only)); refine box_event ?hg (N := 2) ?hd (cs := #[.bool false, .string (⟨#[]⟩ : ByteArray), .string (⟨#[]⟩ : ByteArray)]) (t := 23) ?hr ?_; (case hd => rfl); (case hg => rfl); (case hr => first | (go_simp; done) | (go_simp; rfl)); intro gb151 hg w5 hbox hb; have BK151 := Aside0.mk (hbox); have GW151 := ge_ (w := w) hg; have GE151 := ge_ (w := w) hg; have NB150_151 := BK150.nl hg; have NB151_150 := BK150.ng hg; replace BK150 := BK150.bl hb; replace HB := Aside0.mk (below_step hb_ hb); clear hb hbox hg; have hnb6 := NB150_151.out; have hnc6 := NB151_150.out; obtain ⟨hcz7_0, hcz7_1, hcz7_2, hfz7_0, hfz7_1, hfz7_2⟩ := BK150.c3) | ((with_reducible refine gate_callee (f := 33) rfl ?_); refine gL_ (some 6) Tryz.func33 #[.agg #[.bool a0_0, .string a0_1, .string a0_2]] ?_; (with_reducible refine (idiomref02_Check.calls k a0_0 a0_1 a0_2 t152 _ A2.out).mono ?_); rintro e w8 ⟨rfl, hb⟩; refine ⟨_, rfl, ?_⟩; replace BK150 := BK150.bl hb; replace BK151 := BK151.bl hb; replace HB := Aside0.mk (below_step hb_ hb)))
 (try simp only [Act.put, List.setIfInBounds_toArray, List.set_cons_zero, List.set_cons_succ])
 have H := HF3.out
 clear HF3
 by_cases c9 : t152 = 0
 ·rw [if_pos c9] at H
  have c9b0 : (t152 == 0) = true := beq_iff_eq.mpr c9
  have c9b1 : (t152 != 0) = false := bne_eq_false_iff_eq.mpr c9
  clear c9
  (first | rw [c9b0] | (simp only [i64_w, i32_w]; rw [c9b0]) | rw [c9b1] | skip)
  have H' := Aside0.mk H
  clear H
  go_wp2
  go_loopg [] k (fun kq w' => ∃ (x151002_1 : ByteArray), Aside0 (idiomref02_Trim.l0 kq a0_0 a0_1 x151002_1 = some (r1, r2, r3, r4)) ∧ Aside0 (kq ≤ k) ∧ Aside0 (w'.heap[gb150]? = some (.cells #[.bool a0_0, .string a0_1, .string x151002_1] 23 (0, 0))) ∧ Aside0 (w'.heap[gb151]? = some (.cells #[.bool false, .string (⟨#[]⟩ : ByteArray), .string (⟨#[]⟩ : ByteArray)] 23 (0, 0))) ∧ Aside0 (Below w.heap.size w w'))
  case atStart => exact ⟨(a0_2), H', ⟨Nat.le_refl _⟩, ⟨by exact BK150.out⟩, ⟨by exact BK151.out⟩, ⟨hb_⟩⟩
  case round =>
   clear H'
   (try clear c9); (try clear c9b0); (try clear c9b1); (try clear hcz7_0); (try clear hcz7_1); (try clear hcz7_2); (try clear hfz7_0); (try clear hfz7_1); (try clear hfz7_2)
   obtain ⟨x151002_1, HA, HK1, BK150, BK151, HB⟩ := hrel
   cases gk with
   | zero => exact absurd HA.out (by simp [idiomref02_Trim.l0])
   | succ k1 =>
    have H := HA.out
    clear HA
    simp only [idiomref02_Trim.l0] at H
    by_cases c10 : x151002_1.toList = ([] : List UInt8)
    ·rw [if_pos c10] at H
     have c10b0 : (x151002_1.toList == ([] : List UInt8)) = true := beq_iff_eq.mpr c10
     have c10b1 : (x151002_1.toList != ([] : List UInt8)) = false := bne_eq_false_iff_eq.mpr c10
     clear c10
     simp only [Option.some.injEq, Prod.mk.injEq] at H
     obtain ⟨rfl, rfl, rfl, rfl⟩ := H
     have hnb11 := NB150_151.out
     have hnc11 := NB151_150.out
     obtain ⟨hcz12_0, hcz12_1, hcz12_2, hfz12_0, hfz12_1, hfz12_2⟩ := BK150.c3
     obtain ⟨hcz13_0, hcz13_1, hcz13_2, hfz13_0, hfz13_1, hfz13_2⟩ := BK151.c3
     go_wp2
     refine bodyPost_ret (results_ct rfl _ _ gb151 23 #[.bool a0_0, .string a0_1, .string x151002_1] (0, 0) _ rfl (by refine put3_ (cs := #[.bool false, .string (⟨#[]⟩ : ByteArray), .string (⟨#[]⟩ : ByteArray)]) ?_; exact BK151.out) Tryz.underlying23 rfl (by kernel_rfl)) rfl ?_
     exact fin_
    ·rw [if_neg c10] at H
     have c10b0 : (x151002_1.toList == ([] : List UInt8)) = false := beq_eq_false_iff_ne.mpr c10
     have c10b1 : (x151002_1.toList != ([] : List UInt8)) = true := bne_iff_ne.mpr c10
     obtain ⟨ji14, hji14⟩ : ∃ j_ : Int, (wrap64 ((x151002_1.size : Int) - 1)) = j_ := ⟨_, rfl⟩
     replace H : (if 0 ≤ (ji14) then (if (ji14) < (x151002_1.size : Int) then (if (bt x151002_1 (ji14)) = 48 then (if (ji14) ≤ (x151002_1.size : Int) then (idiomref02_Trim.l0 k1 a0_0 a0_1 (x151002_1.extract 0 ((ji14) : Int).toNat)) else (none)) else (some (a0_0, a0_1, x151002_1, 0))) else (none)) else (none)) = some (r1, r2, r3, r4) := by first | (rw [hji14] at H; exact H) | (simp only [hji14] at H ⊢; exact H)
     have hji14w : (IntKind.i64.wrap ((x151002_1.size : Int) - 1)) = ji14 := (i64_w _).trans hji14
     by_cases c15 : 0 ≤ (ji14)
     ·rw [if_pos c15] at H
      have c15b0 : decide (0 ≤ (ji14)) = true := decide_eq_true c15
      clear c15
      by_cases c16 : (ji14) < (x151002_1.size : Int)
      ·rw [if_pos c16] at H
       have c16b0 : decide ((ji14) < (x151002_1.size : Int)) = true := decide_eq_true c16
       clear c16
       by_cases c18 : (bt x151002_1 (ji14)) = 48
       ·rw [if_pos c18] at H
        have c18b0 : ((bt x151002_1 (ji14)) == 48) = true := beq_iff_eq.mpr c18
        have c18b1 : ((bt x151002_1 (ji14)) != 48) = false := bne_eq_false_iff_eq.mpr c18
        clear c18
        have c19b0 := eq_true (of_decide_eq_true (by first | (with_reducible assumption) | assumption) : 0 ≤ (ji14))
        by_cases c20 : (ji14) ≤ (x151002_1.size : Int)
        ·rw [if_pos c20] at H
         have c20b0 := eq_true c20
         have c20b1 : decide ((ji14) ≤ (x151002_1.size : Int)) = true := decide_eq_true c20
         clear c20
         have H' := Aside0.mk H
         clear H
         have hnb21 := NB150_151.out
         have hnc21 := NB151_150.out
         obtain ⟨hcz22_0, hcz22_1, hcz22_2, hfz22_0, hfz22_1, hfz22_2⟩ := BK150.c3
         have p17 : 0 ≤ ((ji14) : Int) := of_decide_eq_true (by first | (with_reducible assumption) | assumption)
         have q17 : (ji14) < (x151002_1.size : Int) := of_decide_eq_true (by first | (with_reducible assumption) | assumption)
         have hx17 := bt_at x151002_1 (ji14)
         replace p17 := eq_true p17
         replace q17 := eq_true q17
         go_wp2
         go_roundg k1
         case measure => have := HK1.out; omega
         case rel => exact ⟨(x151002_1.extract 0 ((ji14) : Int).toNat), H', ⟨by have := HK1.out; omega⟩, ⟨by refine blk_put (cs := #[.bool a0_0, .string a0_1, .string x151002_1]) ?_ 2 _ rfl; exact BK150.out⟩, ⟨by refine blk_far ?_ NB151_150.out _; exact BK151.out⟩, ⟨hb_⟩⟩
        ·rw [if_neg c20] at H
         exact absurd H (by simp)
       ·rw [if_neg c18] at H
        have c18b0 : ((bt x151002_1 (ji14)) == 48) = false := beq_eq_false_iff_ne.mpr c18
        have c18b1 : ((bt x151002_1 (ji14)) != 48) = true := bne_iff_ne.mpr c18
        simp only [Option.some.injEq, Prod.mk.injEq] at H
        obtain ⟨rfl, rfl, rfl, rfl⟩ := H
        have hnb23 := NB150_151.out
        have hnc23 := NB151_150.out
        obtain ⟨hcz24_0, hcz24_1, hcz24_2, hfz24_0, hfz24_1, hfz24_2⟩ := BK150.c3
        have p17 : 0 ≤ ((ji14) : Int) := of_decide_eq_true (by first | (with_reducible assumption) | assumption)
        have q17 : (ji14) < (x151002_1.size : Int) := of_decide_eq_true (by first | (with_reducible assumption) | assumption)
        have hx17 := bt_at x151002_1 (ji14)
        replace p17 := eq_true p17
        replace q17 := eq_true q17
        obtain ⟨hcz25_0, hcz25_1, hcz25_2, hfz25_0, hfz25_1, hfz25_2⟩ := BK151.c3
        go_wp2
        refine bodyPost_ret (results_ct rfl _ _ gb151 23 #[.bool a0_0, .string a0_1, .string x151002_1] (0, 0) _ rfl (by refine put3_ (cs := #[.bool false, .string (⟨#[]⟩ : ByteArray), .string (⟨#[]⟩ : ByteArray)]) ?_; exact BK151.out) Tryz.underlying23 rfl (by kernel_rfl)) rfl ?_
        exact ⟨by first | rfl | (simp [errW_none, errW_some] <;> rfl) | (simp only [← hji14]; first | rfl | (simp [errW_none, errW_some] <;> rfl)) | (simp [*, errW_none, errW_some] <;> rfl) | (simp [bne_nil_]; done), hb_⟩
      ·rw [if_neg c16] at H
       exact absurd H (by simp)
     ·rw [if_neg c15] at H
      exact absurd H (by simp)
 ·rw [if_neg c9] at H
  have c9b0 : (t152 == 0) = false := beq_eq_false_iff_ne.mpr c9
  have c9b1 : (t152 != 0) = true := bne_iff_ne.mpr c9
  (first | rw [c9b0] | (simp only [i64_w, i32_w]; rw [c9b0]) | rw [c9b1] | skip)
  simp only [Option.some.injEq, Prod.mk.injEq] at H
  obtain ⟨rfl, rfl, rfl, rfl⟩ := H
  have hnb26 := NB151_150.out
  have hnc26 := NB150_151.out
  obtain ⟨hcz27_0, hcz27_1, hcz27_2, hfz27_0, hfz27_1, hfz27_2⟩ := BK151.c3
  go_wp2
  refine bodyPost_ret (results_ct rfl _ _ gb151 23 #[.bool false, .string (⟨#[]⟩ : ByteArray), .string (⟨#[]⟩ : ByteArray)] (0, 0) _ rfl (by refine put3_ (cs := #[.bool false, .string (⟨#[]⟩ : ByteArray), .string (⟨#[]⟩ : ByteArray)]) ?_; exact BK151.out) Tryz.underlying23 rfl (by kernel_rfl)) rfl ?_
  exact fin_
attribute [local go_sem] max2_int max_two
set_option linter.unusedVariables false
set_option linter.unusedSimpArgs false
def decimal_Shift.j0 : Nat → Int → Bool → Bool → ByteArray → ByteArray → Option (Bool × ByteArray × ByteArray × Int)
  | 0, _, _, _, _, _ => none
  | k + 1, x1, x20, x237000, x237001, x237002 => if x20 = true then (some (false, (⟨#[]⟩ : ByteArray), (⟨#[]⟩ : ByteArray), 1)) else (if x237001.size + x237002.size ≤ 9223372036854775807 then ((decimal_of.f k (x237001 ++ x237002)).bind fun t239 => (if (wrap64 ((x237002.size : Int) - x1)) < 0 then ((decimal_digits_up.f t239 (wrap64 (-(wrap64 ((x237002.size : Int) - x1))))).bind fun t242 => ((decimal_made.f k x237000 t242 0).bind fun bt245 => (some (bt245.1, bt245.2.1, bt245.2.2.1, bt245.2.2.2)))) else ((decimal_made.f k x237000 t239 (wrap64 ((x237002.size : Int) - x1))).bind fun bt249 => (some (bt249.1, bt249.2.1, bt249.2.2.1, bt249.2.2.2))))) else (none))
def decimal_Shift.f (k : Nat) (a0_0 : Bool) (a0_1 : ByteArray) (a0_2 : ByteArray) (a1 : Int) : Option (Bool × ByteArray × ByteArray × Int) := (decimal_Check.f k a0_0 a0_1 a0_2).bind fun t238 => (if t238 = 0 then (if a1 < (-40) then (decimal_Shift.j0 k a1 true a0_0 a0_1 a0_2) else (decimal_Shift.j0 k a1 (decide (a1 > 40)) a0_0 a0_1 a0_2)) else (some (false, (⟨#[]⟩ : ByteArray), (⟨#[]⟩ : ByteArray), t238)))
theorem decimal_Shift.mono_l : ∀ k, (∀ y0 y1 y2 y3 y4, LeO (decimal_Shift.j0 k y0 y1 y2 y3 y4) (decimal_Shift.j0 (k + 1) y0 y1 y2 y3 y4))
  | 0 => fun _ _ _ _ _ r h => by simp [decimal_Shift.j0] at h
  | k + 1 => by
    have ih0 := decimal_Shift.mono_l k
    · intro y0 y1 y2 y3 y4
      unfold decimal_Shift.j0
      repeat' first
      | (with_reducible exact ih0 _ _ _ _ _)
      | (with_reducible exact decimal_Check.mono _ _ _ _)
      | (with_reducible exact decimal_made.mono _ _ _ _)
      | (with_reducible exact decimal_of.mono _ _)
      | (with_reducible exact LeO.refl _)
      | (with_reducible exact LeO.none _)
      | (with_reducible refine LeO.ite ?_ ?_)
      | (with_reducible refine LeO.bind ?_ (fun _ => ?_))
      | exact ih0 _ _ _ _ _
      | exact decimal_Check.mono _ _ _ _
      | exact decimal_made.mono _ _ _ _
      | exact decimal_of.mono _ _
      | exact LeO.none _
      | refine LeO.ite ?_ ?_
      | refine LeO.bind ?_ (fun _ => ?_)
theorem decimal_Shift.mono : ∀ a0 a1 a2 a3 k, LeO (decimal_Shift.f k a0 a1 a2 a3) (decimal_Shift.f (k + 1) a0 a1 a2 a3) := by
 intro a0 a1 a2 a3 k
 have ih0 := decimal_Shift.mono_l k
 unfold decimal_Shift.f
 repeat' first
   | (with_reducible exact ih0 _ _ _ _ _)
   | (with_reducible exact decimal_Check.mono _ _ _ _)
   | (with_reducible exact decimal_made.mono _ _ _ _)
   | (with_reducible exact decimal_of.mono _ _)
   | (with_reducible exact LeO.refl _)
   | (with_reducible exact LeO.none _)
   | (with_reducible refine LeO.ite ?_ ?_)
   | (with_reducible refine LeO.bind ?_ (fun _ => ?_))
   | exact ih0 _ _ _ _ _
   | exact decimal_Check.mono _ _ _ _
   | exact decimal_made.mono _ _ _ _
   | exact decimal_of.mono _ _
   | exact LeO.none _
   | refine LeO.ite ?_ ?_
   | refine LeO.bind ?_ (fun _ => ?_)
def decimal_Shift.T6 : Bool × List (List Nat × List Nat) := (true, [([], []), ([0], [0]), ([], []), ([2], [2]), ([1, 3], [1, 3]), ([4], [4]), ([], []), ([6], [6]), ([7], [7]), ([], []), ([8, 9], [8, 9]), ([5, 5, 0, 1, 2, 3, 4, 5], [5]), ([10, 11, 0, 1, 2, 3, 4, 5, 6, 7, 8, 9, 10, 11], [10])])
def decimal_Shift.B6 : List Nat := [0, 1, 0, 4, 15, 31, 0, 64, 192, 0, 960, 63, 4095]
theorem decimal_Shift.tab6 : rtab .any (opsOf Tryz.f29 6) = decimal_Shift.T6 := by kernel_rfl
theorem decimal_Shift.bits6 : waitsOk decimal_Shift.T6.2 decimal_Shift.B6 = true := by kernel_rfl
set_option maxHeartbeats 8000000 in
set_option maxRecDepth 100000 in
theorem decimal_Shift.calls (k : Nat) (a0_0 : Bool) (a0_1 : ByteArray) (a0_2 : ByteArray) (a1 : Int) (r1 : Bool) (r2 : ByteArray) (r3 : ByteArray) (r4 : Int) (w : World) (h : decimal_Shift.f k a0_0 a0_1 a0_2 a1 = some (r1, r2, r3, r4)) :
    Calls Tryz.prog 29 #[.agg #[.bool a0_0, .string a0_1, .string a0_2], .int .i64 a1] w fun e w' => e = .returned (.tuple #[.agg #[.bool r1, .string r2, .string r3], .int .i64 r4]) ∧ Below w.heap.size w w' := by
 have hu23 := Tryz.underlying23
 have HB := Aside0.mk (Below.refl w.heap.size w)
 unfold decimal_Shift.f at h
 have H := h
 clear h
 replace H := Option.bind_eq_some_iff.mp H
 obtain ⟨t238, A30, H⟩ := H
 try dsimp only at H
 have A3 := Aside0.mk A30
 clear A30
 have HF4 := Aside0.mk H
 clear H
 go_enter Tryz.func29, Tryz.ntmps29
 go_upto_if 12 with (first | ((with_reducible refine gate_dst (N := 2) rfl ?_); refine bx_ #[.bool a0_0, .string a0_1, .string a0_2] 23 ?_; intro gb236 hg w5 hbox hb; have BK236 := Aside0.mk (hbox); have GW236 := ge_ (w := w) hg; have GE236 := ge_ (w := w) hg; replace HB := Aside0.mk (below_step hb_ hb); clear hb hbox hg) | ((with_reducible refine gate_dst (N := 4) rfl ?_); refine bx_ #[.bool false, .string (⟨#[]⟩ : ByteArray), .string (⟨#[]⟩ : ByteArray)] 23 ?_; intro gb237 hg w6 hbox hb; have BK237 := Aside0.mk (hbox); have GW237 := ge_ (w := w) hg; have GE237 := ge_ (w := w) hg; have NB236_237 := BK236.nl hg; have NB237_236 := BK236.ng hg; replace BK236 := BK236.bl hb; replace HB := Aside0.mk (below_step hb_ hb); clear hb hbox hg; have hnb7 := NB236_237.out; have hnc7 := NB237_236.out; obtain ⟨hcz8_0, hcz8_1, hcz8_2, hfz8_0, hfz8_1, hfz8_2⟩ := BK236.c3) | ((with_reducible refine gate_callee (f := 28) rfl ?_); refine gL_ (some 10) Tryz.func28 #[.agg #[.bool a0_0, .string a0_1, .string a0_2]] ?_; (with_reducible refine (decimal_Check.calls k a0_0 a0_1 a0_2 t238 _ A3.out).mono ?_); rintro e w9 ⟨rfl, hb⟩; refine ⟨_, rfl, ?_⟩; replace BK236 := BK236.bl hb; replace BK237 := BK237.bl hb; replace HB := Aside0.mk (below_step hb_ hb)))
 (try simp only [Act.put, List.setIfInBounds_toArray, List.set_cons_zero, List.set_cons_succ])
 have H := HF4.out
 clear HF4
 by_cases c10 : t238 = 0
 ·rw [if_pos c10] at H
  have c10b0 : (t238 == 0) = true := beq_iff_eq.mpr c10
  have c10b1 : (t238 != 0) = false := bne_eq_false_iff_eq.mpr c10
  clear c10
  (first | rw [c10b0] | (simp only [i64_w, i32_w]; rw [c10b0]) | rw [c10b1] | skip)
  have HC11 := Aside0.mk H
  clear H
  go_upto_region 4 with (fail)
  go_cut [20] (fun v20 wc => ∃ (kq : Nat) (x20_10 : Bool), v20 = .bool x20_10 ∧ Aside0 (decimal_Shift.j0 kq a1 x20_10 a0_0 a0_1 a0_2 = some (r1, r2, r3, r4)) ∧ Aside0 (kq ≤ k) ∧ Aside0 (wc.heap[gb236]? = some (.cells #[.bool a0_0, .string a0_1, .string a0_2] 23 (0, 0))) ∧ Aside0 (wc.heap[gb237]? = some (.cells #[.bool false, .string (⟨#[]⟩ : ByteArray), .string (⟨#[]⟩ : ByteArray)] 23 (0, 0))) ∧ Aside0 (Below w.heap.size w wc))
  case first =>
   have H := HC11.out
   clear HC11
   by_cases c12 : a1 < (-40)
   ·rw [if_pos c12] at H
    have c12b0 : decide (a1 < (-40)) = true := decide_eq_true c12
    clear c12
    (first | rw [c12b0] | (simp only [i64_w, i32_w]; rw [c12b0]) | skip)
    have H' := Aside0.mk H
    clear H
    go_wp2
    go_meet
    case rel => exact ⟨_, (true), (by first | rfl | (simp; done) | (simp [*]; done)), H', ⟨by first | omega | exact Nat.le_refl _⟩, ⟨by exact BK236.out⟩, ⟨by exact BK237.out⟩, ⟨hb_⟩⟩
   ·rw [if_neg c12] at H
    have c12b0 : decide (a1 < (-40)) = false := decide_eq_false c12
    clear c12
    (first | rw [c12b0] | (simp only [i64_w, i32_w]; rw [c12b0]) | skip)
    have H' := Aside0.mk H
    clear H
    go_wp2
    go_meet
    case rel => exact ⟨_, (decide (a1 > 40)), (by first | rfl | (simp; done) | (simp [*]; done)), H', ⟨by first | omega | exact Nat.le_refl _⟩, ⟨by exact BK236.out⟩, ⟨by exact BK237.out⟩, ⟨hb_⟩⟩
  case rest =>
   clear HC11
   (try clear c10); (try clear c10b0); (try clear c10b1); (try clear hcz8_0); (try clear hcz8_1); (try clear hcz8_2); (try clear hfz8_0); (try clear hfz8_1); (try clear hfz8_2)
   obtain ⟨kq, x20_10, rfl, HA, HJ10, BK236, BK237, HB⟩ := hcut
   cases kq with
   | zero => exact absurd HA.out (by simp [decimal_Shift.j0])
   | succ kj10 =>
    have H := HA.out
    clear HA
    simp only [decimal_Shift.j0] at H
    by_cases c13 : x20_10 = true
    ·subst c13
     have H1 : (some (false, (⟨#[]⟩ : ByteArray), (⟨#[]⟩ : ByteArray), 1)) = some (r1, r2, r3, r4) := by rw [if_pos rfl] at H; exact H
     clear H
     have H := H1
     clear H1
     simp only [Option.some.injEq, Prod.mk.injEq] at H
     obtain ⟨rfl, rfl, rfl, rfl⟩ := H
     have hnb14 := NB237_236.out
     have hnc14 := NB236_237.out
     obtain ⟨hcz15_0, hcz15_1, hcz15_2, hfz15_0, hfz15_1, hfz15_2⟩ := BK237.c3
     go_wp2
     refine bodyPost_ret (results_ct rfl _ _ gb237 23 #[.bool false, .string (⟨#[]⟩ : ByteArray), .string (⟨#[]⟩ : ByteArray)] (0, 0) _ rfl (by refine put3_ (cs := #[.bool false, .string (⟨#[]⟩ : ByteArray), .string (⟨#[]⟩ : ByteArray)]) ?_; exact BK237.out) Tryz.underlying23 rfl (by kernel_rfl)) rfl ?_
     exact fin_
    ·replace c13 := Bool.eq_false_iff.mpr c13
     subst c13
     have H1 : (if a0_1.size + a0_2.size ≤ 9223372036854775807 then ((decimal_of.f kj10 (a0_1 ++ a0_2)).bind fun t239 => (if (wrap64 ((a0_2.size : Int) - a1)) < 0 then ((decimal_digits_up.f t239 (wrap64 (-(wrap64 ((a0_2.size : Int) - a1))))).bind fun t242 => ((decimal_made.f kj10 a0_0 t242 0).bind fun bt245 => (some (bt245.1, bt245.2.1, bt245.2.2.1, bt245.2.2.2)))) else ((decimal_made.f kj10 a0_0 t239 (wrap64 ((a0_2.size : Int) - a1))).bind fun bt249 => (some (bt249.1, bt249.2.1, bt249.2.2.1, bt249.2.2.2))))) else (none)) = some (r1, r2, r3, r4) := by rw [if_neg (show ¬ (false = true) by decide)] at H; exact H
     clear H
     have H := H1
     clear H1
     by_cases c16 : a0_1.size + a0_2.size ≤ 9223372036854775807
     ·rw [if_pos c16] at H
      have c16b0 := eq_true c16
      have c16b1 : decide (a0_1.size + a0_2.size ≤ 9223372036854775807) = true := decide_eq_true c16
      try have c16b2 : (9223372036854775807 < a0_1.size + a0_2.size) = False := eq_false (Nat.not_lt.2 c16)
      replace H := Option.bind_eq_some_iff.mp H
      obtain ⟨t239, A170, H⟩ := H
      try dsimp only at H
      have A17 := Aside0.mk A170
      clear A170
      have HF18 := Aside0.mk H
      clear H
      try go_wp2
      replace BK236 := Aside0.mk (blk_drew BK236.out)
      replace BK237 := Aside0.mk (blk_drew BK237.out)
      replace HB := Aside0.mk (below_drew1 HB.out)
      refine start_ (n := 13) (S := fun w' => w'.cell? ⟨gb236, 0, none⟩ = some (.bool a0_0) ∧ w'.cell? ⟨gb236, 1, none⟩ = some (.string a0_1) ∧ w'.cell? ⟨gb236, 2, none⟩ = some (.string a0_2)) (ds := []) #[false, false, false, false, false, false, false, false, false, false, false, false, false] (by kernel_rfl) rfl rfl ⟨(blk_cell BK236.out 0).trans rfl, (blk_cell BK236.out 1).trans rfl, (blk_cell BK236.out 2).trans rfl⟩ (fun hHeld => ?_); refine with_tabW decimal_Shift.tab6 decimal_Shift.bits6 (fun HT_ HW_ => ?_)
      generalize wc.drew = w19 at BK236 BK237 HB hHeld ⊢
      refine pr_ 0 (some 22) ?_
      refine pr_ 2 (some 24) ?_
      refine pr_ 6 (some 28) ?_
      refine pr_ 9 (some 31) ?_
      refine tk_ 1 (some 23) hHeld ?_
      refine tk_ 3 (some 25) hHeld ?_
      refine pr_ 4 (some 26) ?_
      refine tk_ 7 (some 29) hHeld ?_
      refine pr_ 8 (some 30) ?_
      refine pr_ 10 (some 32) ?_
      refine one_ (i := 5) (N := some 27) #[true, true, true, true, true, true, true, true, true, true, true, false, false] rfl rfl (one_of HT_.out (by kernel_rfl)) (by decide) (fun K hK => ?_)
      refine goes_ Tryz.func59 (by kernel_rfl) rfl #[.string (a0_1 ++ a0_2)] (by rfl) rfl rfl ar_ ?_
      with_reducible refine (decimal_of.calls kj10 (a0_1 ++ a0_2) t239 _ A17.out).mono ?_
      rintro e w20 ⟨v240, rfl, ho0, hb⟩
      refine ⟨_, rfl, ?_⟩
      have HO241 := Aside0.mk (Kd.R_lower ho0 (below_size hb_))
      replace BK236 := BK236.bl hb
      replace BK237 := BK237.bl hb
      replace HB := Aside0.mk (below_step hb_ hb)
      (try clear hb)
      (try clear hb2)
      (try clear hk)
      (try clear hi)
      (try clear ho0)
      refine hK.out _ _ ⟨(blk_cell BK236.out 0).trans rfl, (blk_cell BK236.out 1).trans rfl, (blk_cell BK236.out 2).trans rfl⟩ (fun hHeld => ?_)
      clear hK K
      refine norm_ (a' := ?_) ?_ ?_
      rotate_left
      ·show Act.put _ (some 27) _ = _
       simp only [Act.put, List.setIfInBounds_toArray, List.set_cons_zero, List.set_cons_succ, i64_w, i32_w]
       rfl
      refine pr_ 11 (some 7) ?_
      refine pr_ 12 (some 8) ?_
      refine done_ (done_of HT_.out (by kernel_rfl)) ?_
      go_upto_if 34 with (fail)
      have H := HF18.out
      clear HF18
      by_cases c21 : (wrap64 ((a0_2.size : Int) - a1)) < 0
      ·rw [if_pos c21] at H
       have c21b0 : decide ((wrap64 ((a0_2.size : Int) - a1)) < 0) = true := decide_eq_true c21
       clear c21
       (first | rw [c21b0] | (simp only [i64_w, i32_w]; rw [c21b0]) | skip)
       replace H := Option.bind_eq_some_iff.mp H
       obtain ⟨t242, A220, H⟩ := H
       try dsimp only at H
       have A22 := Aside0.mk A220
       clear A220
       replace H := Option.bind_eq_some_iff.mp H
       obtain ⟨⟨t245, t246, t247, t248⟩, A230, H⟩ := H
       try dsimp only at H
       have A23 := Aside0.mk A230
       clear A230
       simp only [Option.some.injEq, Prod.mk.injEq] at H
       obtain ⟨rfl, rfl, rfl, rfl⟩ := H
       obtain ⟨Ao24, co24, eo24⟩ := Kd.R_slice HO241.out
       subst eo24
       go_wp2_with (first | ((with_reducible refine gate_callee (f := 60) rfl ?_); refine gL_ (some 38) Tryz.func60 #[.slice Ao24 t239.length co24, .int .i64 (wrap64 (-(wrap64 ((a0_2.size : Int) - a1))))] ?_; (with_reducible refine (decimal_digits_up.calls (fun k_ => some k_ = (.slice Ao24 t239.length co24 : Value).ownBlock) _ _ t239 (wrap64 (-(wrap64 ((a0_2.size : Int) - a1)))) t242 _ ?side1 A22.out).mono ?_); (case side1 => exact Kd.R_V (Kd.R_tight rfl (Kd.R_types (Kd.R_types (HO241.out) BK236.out (by decide)) BK237.out (by decide)))); rintro e w25 ⟨v243, rfl, ho0, hb⟩; refine ⟨_, rfl, ?_⟩; have HO244 := Aside0.mk (Kd.V_lower (Kd.V_mono (ok' := fun k_ => k_ ≠ gb236 ∧ k_ ≠ gb237) ho0 (fun k_ hk_ => ⟨Or.elim hk_ (fun hs_ => ((Kd.R_types (Kd.R_types (HO241.out) BK236.out (by decide)) BK237.out (by decide)).1 k_ hs_.symm).1.2) (fun hn_ => (Kd.freshB (g := gb236) (o := .cells #[.bool a0_0, .string a0_1, .string a0_2] 23 (0, 0)) BK236.out k_ hn_)), Or.elim hk_ (fun hs_ => ((Kd.R_types (Kd.R_types (HO241.out) BK236.out (by decide)) BK237.out (by decide)).1 k_ hs_.symm).2) (fun hn_ => (Kd.freshB (g := gb237) (o := .cells #[.bool false, .string (⟨#[]⟩ : ByteArray), .string (⟨#[]⟩ : ByteArray)] 23 (0, 0)) BK237.out k_ hn_))⟩)) (below_size hb_)); replace HO241 := Aside0.mk (Kd.R_below (by (with_reducible repeat (first | apply Kd.R_alloc | apply Kd.R_drewN | apply Kd.R_drew)); exact HO241.out) hb); replace BK236 := BK236.bl hb; replace BK237 := BK237.bl hb; replace HB := Aside0.mk (below_step hb_ hb); (try clear ho0); have hnb26 := NB236_237.out; have hnc26 := NB237_236.out; obtain ⟨hcz27_0, hcz27_1, hcz27_2, hfz27_0, hfz27_1, hfz27_2⟩ := BK236.c3; obtain ⟨Ao28, co28, eo28⟩ := Kd.V_slice HO244.out; subst eo28) | ((with_reducible refine gate_callee (f := 42) rfl ?_); refine gL_ (some 43) Tryz.func42 #[.bool a0_0, .slice Ao28 t242.length co28, .int .i64 0] ?_; (with_reducible refine (decimal_made.calls kj10 a0_0 _ _ t242 0 t245 t246 t247 t248 _ ?side1 ?side2 A23.out).mono ?_); (case side1 => repeat (first | exact (Kd.V_reads' HO244.out).2.2 | (with_reducible refine Kd.C_alloc ?_ _) | (with_reducible refine Kd.C_drewN ?_ _) | (with_reducible refine Kd.C_drew ?_))); (case side2 => exact (Kd.V_reads' HO244.out).2.1); rintro e w29 ⟨rfl, hb⟩; refine ⟨_, rfl, ?_⟩; replace HO241 := Aside0.mk (Kd.R_below (by (with_reducible repeat (first | apply Kd.R_alloc | apply Kd.R_drewN | apply Kd.R_drew)); exact HO241.out) hb); replace HO244 := Aside0.mk (Kd.V_below (by (with_reducible repeat (first | apply Kd.V_alloc | apply Kd.V_drewN | apply Kd.V_drew)); exact HO244.out) hb); replace BK236 := BK236.bl hb; replace BK237 := BK237.bl hb; replace HB := Aside0.mk (below_step hb_ hb); obtain ⟨hcz30_0, hcz30_1, hcz30_2, hfz30_0, hfz30_1, hfz30_2⟩ := BK237.c3))
       refine bodyPost_ret (results_ct rfl _ _ gb237 23 #[.bool t245, .string t246, .string t247] (0, 0) _ rfl (by refine put3_ (cs := #[.bool false, .string (⟨#[]⟩ : ByteArray), .string (⟨#[]⟩ : ByteArray)]) ?_; exact BK237.out) Tryz.underlying23 rfl (by kernel_rfl)) rfl ?_
       exact fin_
      ·rw [if_neg c21] at H
       have c21b0 : decide ((wrap64 ((a0_2.size : Int) - a1)) < 0) = false := decide_eq_false c21
       clear c21
       (first | rw [c21b0] | (simp only [i64_w, i32_w]; rw [c21b0]) | skip)
       replace H := Option.bind_eq_some_iff.mp H
       obtain ⟨⟨t249, t250, t251, t252⟩, A310, H⟩ := H
       try dsimp only at H
       have A31 := Aside0.mk A310
       clear A310
       simp only [Option.some.injEq, Prod.mk.injEq] at H
       obtain ⟨rfl, rfl, rfl, rfl⟩ := H
       have hnb32 := NB236_237.out
       have hnc32 := NB237_236.out
       obtain ⟨hcz33_0, hcz33_1, hcz33_2, hfz33_0, hfz33_1, hfz33_2⟩ := BK236.c3
       obtain ⟨Ao34, co34, eo34⟩ := Kd.R_slice HO241.out
       subst eo34
       go_wp2_with (first | ((with_reducible refine gate_callee (f := 42) rfl ?_); refine gL_ (some 43) Tryz.func42 #[.bool a0_0, .slice Ao34 t239.length co34, .int .i64 (wrap64 ((a0_2.size : Int) - a1))] ?_; (with_reducible refine (decimal_made.calls kj10 a0_0 _ _ t239 (wrap64 ((a0_2.size : Int) - a1)) t249 t250 t251 t252 _ ?side1 ?side2 A31.out).mono ?_); (case side1 => repeat (first | exact (Kd.R_reads' HO241.out).2.2 | (with_reducible refine Kd.C_alloc ?_ _) | (with_reducible refine Kd.C_drewN ?_ _) | (with_reducible refine Kd.C_drew ?_))); (case side2 => exact (Kd.R_reads' HO241.out).2.1); rintro e w35 ⟨rfl, hb⟩; refine ⟨_, rfl, ?_⟩; replace HO241 := Aside0.mk (Kd.R_below (by (with_reducible repeat (first | apply Kd.R_alloc | apply Kd.R_drewN | apply Kd.R_drew)); exact HO241.out) hb); replace BK236 := BK236.bl hb; replace BK237 := BK237.bl hb; replace HB := Aside0.mk (below_step hb_ hb); obtain ⟨hcz36_0, hcz36_1, hcz36_2, hfz36_0, hfz36_1, hfz36_2⟩ := BK237.c3))
       refine bodyPost_ret (results_ct rfl _ _ gb237 23 #[.bool t249, .string t250, .string t251] (0, 0) _ rfl (by refine put3_ (cs := #[.bool false, .string (⟨#[]⟩ : ByteArray), .string (⟨#[]⟩ : ByteArray)]) ?_; exact BK237.out) Tryz.underlying23 rfl (by kernel_rfl)) rfl ?_
       exact fin_
     ·rw [if_neg c16] at H
      exact absurd H (by simp)
 ·rw [if_neg c10] at H
  have c10b0 : (t238 == 0) = false := beq_eq_false_iff_ne.mpr c10
  have c10b1 : (t238 != 0) = true := bne_iff_ne.mpr c10
  (first | rw [c10b0] | (simp only [i64_w, i32_w]; rw [c10b0]) | rw [c10b1] | skip)
  simp only [Option.some.injEq, Prod.mk.injEq] at H
  obtain ⟨rfl, rfl, rfl, rfl⟩ := H
  have hnb37 := NB237_236.out
  have hnc37 := NB236_237.out
  obtain ⟨hcz38_0, hcz38_1, hcz38_2, hfz38_0, hfz38_1, hfz38_2⟩ := BK237.c3
  go_wp2
  refine bodyPost_ret (results_ct rfl _ _ gb237 23 #[.bool false, .string (⟨#[]⟩ : ByteArray), .string (⟨#[]⟩ : ByteArray)] (0, 0) _ rfl (by refine put3_ (cs := #[.bool false, .string (⟨#[]⟩ : ByteArray), .string (⟨#[]⟩ : ByteArray)]) ?_; exact BK237.out) Tryz.underlying23 rfl (by kernel_rfl)) rfl ?_
  exact fin_
attribute [local go_sem] max2_int max_two
set_option linter.unusedVariables false
set_option linter.unusedSimpArgs false
def decimal_Trim.f (k : Nat) (a0_0 : Bool) (a0_1 : ByteArray) (a0_2 : ByteArray) : Option (Bool × ByteArray × ByteArray × Int) := (decimal_Check.f k a0_0 a0_1 a0_2).bind fun t265 => (if t265 = 0 then ((strings_TrimRight.f k a0_2 (⟨#[48]⟩ : ByteArray)).bind fun t266 => (some (a0_0, a0_1, t266, 0))) else (some (false, (⟨#[]⟩ : ByteArray), (⟨#[]⟩ : ByteArray), t265)))
theorem decimal_Trim.mono : ∀ a0 a1 a2 k, LeO (decimal_Trim.f k a0 a1 a2) (decimal_Trim.f (k + 1) a0 a1 a2) := by
 intro a0 a1 a2 k
 unfold decimal_Trim.f
 repeat' first
   | (with_reducible exact decimal_Check.mono _ _ _ _)
   | (with_reducible exact strings_TrimRight.mono _ _ _)
   | (with_reducible exact LeO.refl _)
   | (with_reducible exact LeO.none _)
   | (with_reducible refine LeO.ite ?_ ?_)
   | (with_reducible refine LeO.bind ?_ (fun _ => ?_))
   | exact decimal_Check.mono _ _ _ _
   | exact strings_TrimRight.mono _ _ _
   | exact LeO.none _
   | refine LeO.ite ?_ ?_
   | refine LeO.bind ?_ (fun _ => ?_)
set_option maxHeartbeats 8000000 in
set_option maxRecDepth 100000 in
theorem decimal_Trim.calls (k : Nat) (a0_0 : Bool) (a0_1 : ByteArray) (a0_2 : ByteArray) (r1 : Bool) (r2 : ByteArray) (r3 : ByteArray) (r4 : Int) (w : World) (h : decimal_Trim.f k a0_0 a0_1 a0_2 = some (r1, r2, r3, r4)) :
    Calls Tryz.prog 30 #[.agg #[.bool a0_0, .string a0_1, .string a0_2]] w fun e w' => e = .returned (.tuple #[.agg #[.bool r1, .string r2, .string r3], .int .i64 r4]) ∧ Below w.heap.size w w' := by
 have hu23 := Tryz.underlying23
 have HB := Aside0.mk (Below.refl w.heap.size w)
 unfold decimal_Trim.f at h
 have H := h
 clear h
 replace H := Option.bind_eq_some_iff.mp H
 obtain ⟨t265, A20, H⟩ := H
 try dsimp only at H
 have A2 := Aside0.mk A20
 clear A20
 have HF3 := Aside0.mk H
 clear H
 go_enter Tryz.func30, Tryz.ntmps30
 go_upto_if 8 with (first | ((with_reducible refine gate_dst (N := 1) rfl ?_); refine bx_ #[.bool a0_0, .string a0_1, .string a0_2] 23 ?_; intro gb263 hg w4 hbox hb; have BK263 := Aside0.mk (hbox); have GW263 := ge_ (w := w) hg; have GE263 := ge_ (w := w) hg; replace HB := Aside0.mk (below_step hb_ hb); clear hb hbox hg) | ((with_reducible refine gate_dst (N := 2) rfl ?_); refine bx_ #[.bool false, .string (⟨#[]⟩ : ByteArray), .string (⟨#[]⟩ : ByteArray)] 23 ?_; intro gb264 hg w5 hbox hb; have BK264 := Aside0.mk (hbox); have GW264 := ge_ (w := w) hg; have GE264 := ge_ (w := w) hg; have NB263_264 := BK263.nl hg; have NB264_263 := BK263.ng hg; replace BK263 := BK263.bl hb; replace HB := Aside0.mk (below_step hb_ hb); clear hb hbox hg; have hnb6 := NB263_264.out; have hnc6 := NB264_263.out; obtain ⟨hcz7_0, hcz7_1, hcz7_2, hfz7_0, hfz7_1, hfz7_2⟩ := BK263.c3) | ((with_reducible refine gate_callee (f := 28) rfl ?_); refine gL_ (some 6) Tryz.func28 #[.agg #[.bool a0_0, .string a0_1, .string a0_2]] ?_; (with_reducible refine (decimal_Check.calls k a0_0 a0_1 a0_2 t265 _ A2.out).mono ?_); rintro e w8 ⟨rfl, hb⟩; refine ⟨_, rfl, ?_⟩; replace BK263 := BK263.bl hb; replace BK264 := BK264.bl hb; replace HB := Aside0.mk (below_step hb_ hb)))
 (try simp only [Act.put, List.setIfInBounds_toArray, List.set_cons_zero, List.set_cons_succ])
 have H := HF3.out
 clear HF3
 by_cases c9 : t265 = 0
 ·rw [if_pos c9] at H
  have c9b0 : (t265 == 0) = true := beq_iff_eq.mpr c9
  have c9b1 : (t265 != 0) = false := bne_eq_false_iff_eq.mpr c9
  clear c9
  (first | rw [c9b0] | (simp only [i64_w, i32_w]; rw [c9b0]) | rw [c9b1] | skip)
  replace H := Option.bind_eq_some_iff.mp H
  obtain ⟨t266, A100, H⟩ := H
  try dsimp only at H
  have A10 := Aside0.mk A100
  clear A100
  simp only [Option.some.injEq, Prod.mk.injEq] at H
  obtain ⟨rfl, rfl, rfl, rfl⟩ := H
  have hnb11 := NB263_264.out
  have hnc11 := NB264_263.out
  obtain ⟨hcz12_0, hcz12_1, hcz12_2, hfz12_0, hfz12_1, hfz12_2⟩ := BK263.c3
  go_wp2_with (first | ((with_reducible refine gate_callee (f := 61) rfl ?_); refine gL_ (some 13) Tryz.func61 #[.string a0_2, .string (⟨#[48]⟩ : ByteArray)] ?_; (with_reducible refine (strings_TrimRight.calls k a0_2 (⟨#[48]⟩ : ByteArray) t266 _ A10.out).mono ?_); rintro e w13 ⟨rfl, hb⟩; refine ⟨_, rfl, ?_⟩; replace BK263 := BK263.bl hb; replace BK264 := BK264.bl hb; replace HB := Aside0.mk (below_step hb_ hb); obtain ⟨hcz14_0, hcz14_1, hcz14_2, hfz14_0, hfz14_1, hfz14_2⟩ := BK263.c3; obtain ⟨hcz15_0, hcz15_1, hcz15_2, hfz15_0, hfz15_1, hfz15_2⟩ := BK264.c3))
  refine bodyPost_ret (results_ct rfl _ _ gb264 23 #[.bool a0_0, .string a0_1, .string t266] (0, 0) _ rfl (by refine put3_ (cs := #[.bool false, .string (⟨#[]⟩ : ByteArray), .string (⟨#[]⟩ : ByteArray)]) ?_; refine blk_far ?_ NB264_263.out _; exact BK264.out) Tryz.underlying23 rfl (by kernel_rfl)) rfl ?_
  exact fin_
 ·rw [if_neg c9] at H
  have c9b0 : (t265 == 0) = false := beq_eq_false_iff_ne.mpr c9
  have c9b1 : (t265 != 0) = true := bne_iff_ne.mpr c9
  (first | rw [c9b0] | (simp only [i64_w, i32_w]; rw [c9b0]) | rw [c9b1] | skip)
  simp only [Option.some.injEq, Prod.mk.injEq] at H
  obtain ⟨rfl, rfl, rfl, rfl⟩ := H
  have hnb16 := NB264_263.out
  have hnc16 := NB263_264.out
  obtain ⟨hcz17_0, hcz17_1, hcz17_2, hfz17_0, hfz17_1, hfz17_2⟩ := BK264.c3
  go_wp2
  refine bodyPost_ret (results_ct rfl _ _ gb264 23 #[.bool false, .string (⟨#[]⟩ : ByteArray), .string (⟨#[]⟩ : ByteArray)] (0, 0) _ rfl (by refine put3_ (cs := #[.bool false, .string (⟨#[]⟩ : ByteArray), .string (⟨#[]⟩ : ByteArray)]) ?_; exact BK264.out) Tryz.underlying23 rfl (by kernel_rfl)) rfl ?_
  exact fin_
attribute [local go_sem] max2_int max_two
set_option linter.unusedVariables false
set_option linter.unusedSimpArgs false
def idiomref02_If.f (a0 : Bool) (a1 : Int) : Option (Int) := if a0 = true then (some a1) else (some 0)
set_option maxHeartbeats 8000000 in
set_option maxRecDepth 100000 in
theorem idiomref02_If.calls (a0 : Bool) (a1 : Int) (r : Int) (w : World) (h : idiomref02_If.f a0 a1 = some r) :
    Calls Tryz.prog 34 #[.bool a0, .int .i64 a1] w fun e w' => e = .returned (.int .i64 r) ∧ Drawn0 w w' := by
 unfold idiomref02_If.f at h
 have H := h
 clear h
 by_cases c3 : a0 = true
 ·subst c3
  have H1 : (some a1) = some r := by rw [if_pos rfl] at H; exact H
  clear H
  have H := H1
  clear H1
  obtain rfl := Option.some.inj H
  go_enter Tryz.func34, Tryz.ntmps34
  go_wp2
  go_ret
  exact ⟨by first | rfl | (simp; done) | (simp [*]; done), by repeat (first | exact Drawn0.refl _ | apply Drawn0.step)⟩
 ·replace c3 := Bool.eq_false_iff.mpr c3
  subst c3
  have H1 : (some 0) = some r := by rw [if_neg (show ¬ (false = true) by decide)] at H; exact H
  clear H
  have H := H1
  clear H1
  obtain rfl := Option.some.inj H
  go_enter Tryz.func34, Tryz.ntmps34
  go_wp2
  go_ret
  exact ⟨by first | rfl | (simp; done) | (simp [*]; done), by repeat (first | exact Drawn0.refl _ | apply Drawn0.step)⟩
attribute [local go_sem] max2_int max_two
set_option linter.unusedVariables false
set_option linter.unusedSimpArgs false
def idiomref02_Shift.j0 : Nat → Int → Int → Bool → ByteArray → ByteArray → Option (Bool × ByteArray × ByteArray × Int)
  | 0, _, _, _, _, _ => none
  | k + 1, x1, x6, x595000, x595001, x595002 => if x6 = 0 then (if x1 > (x595002.size : Int) then ((idiomref02_Num.f k x595000 x595001 x595002).bind fun t607 => ((idiomref02_Zeros.f k (wrap64 (x1 - (x595002.size : Int)))).bind fun t608 => (if t607.size + t608.size ≤ 9223372036854775807 then ((idiomref02_Make.f k x595000 (t607 ++ t608) 0).bind fun bt609 => (some (bt609.1, bt609.2.1, bt609.2.2.1, bt609.2.2.2))) else (none)))) else ((idiomref02_Num.f k x595000 x595001 x595002).bind fun t613 => ((idiomref02_Make.f k x595000 t613 (wrap64 ((x595002.size : Int) - x1))).bind fun bt614 => (some (bt614.1, bt614.2.1, bt614.2.2.1, bt614.2.2.2))))) else (some (false, (⟨#[]⟩ : ByteArray), (⟨#[]⟩ : ByteArray), x6))
def idiomref02_Shift.f (k : Nat) (a0_0 : Bool) (a0_1 : ByteArray) (a0_2 : ByteArray) (a1 : Int) : Option (Bool × ByteArray × ByteArray × Int) := (idiomref02_Check.f k a0_0 a0_1 a0_2).bind fun t596 => (if a1 < (-40) then ((idiomref02_If.f true 1).bind fun t597 => ((idiomref02_First.f k (([t596, t597] : List Int))).bind fun t601 => (idiomref02_Shift.j0 k a1 t601 a0_0 a0_1 a0_2))) else ((idiomref02_If.f (decide (a1 > 40)) 1).bind fun t602 => ((idiomref02_First.f k (([t596, t602] : List Int))).bind fun t606 => (idiomref02_Shift.j0 k a1 t606 a0_0 a0_1 a0_2))))
def idiomref02_Shift.T5 : Bool × List (List Nat × List Nat) := (true, [([], []), ([0], [0]), ([], []), ([2], [2]), ([], []), ([], []), ([5], [5]), ([6], [6]), ([4, 7], [4, 7]), ([8, 3], [8]), ([3, 9], [3, 9]), ([1, 10, 9], [1, 10]), ([11], [11]), ([11], [11]), ([12, 11, 0, 1, 2, 3, 4, 5, 6, 7, 8, 9, 10, 11, 12, 13], [12]), ([13, 14, 0, 1, 2, 3, 4, 5, 6, 7, 8, 9, 10, 11, 12, 13, 14], [13])])
def idiomref02_Shift.B5 : List Nat := [0, 1, 0, 4, 0, 0, 32, 96, 240, 508, 1020, 2047, 4095, 4095, 16383, 32767]
theorem idiomref02_Shift.tab5 : rtab .any (opsOf Tryz.f35 5) = idiomref02_Shift.T5 := by kernel_rfl
theorem idiomref02_Shift.bits5 : waitsOk idiomref02_Shift.T5.2 idiomref02_Shift.B5 = true := by kernel_rfl
def idiomref02_Shift.T6 : Bool × List (List Nat × List Nat) := (true, [([], []), ([0], [0]), ([], []), ([2], [2]), ([], []), ([4], [4]), ([5], [5]), ([], []), ([6, 7], [6, 7]), ([1, 3, 8, 3], [1, 3, 8]), ([9], [9]), ([9], [9]), ([10, 9, 0, 1, 2, 3, 4, 5, 6, 7, 8, 9, 10, 11], [10]), ([11, 12, 0, 1, 2, 3, 4, 5, 6, 7, 8, 9, 10, 11, 12], [11])])
def idiomref02_Shift.B6 : List Nat := [0, 1, 0, 4, 0, 16, 48, 0, 240, 511, 1023, 1023, 4095, 8191]
theorem idiomref02_Shift.tab6 : rtab .any (opsOf Tryz.f35 6) = idiomref02_Shift.T6 := by kernel_rfl
theorem idiomref02_Shift.bits6 : waitsOk idiomref02_Shift.T6.2 idiomref02_Shift.B6 = true := by kernel_rfl
set_option maxHeartbeats 8000000 in
set_option maxRecDepth 100000 in
theorem idiomref02_Shift.calls (k : Nat) (a0_0 : Bool) (a0_1 : ByteArray) (a0_2 : ByteArray) (a1 : Int) (r1 : Bool) (r2 : ByteArray) (r3 : ByteArray) (r4 : Int) (w : World) (h : idiomref02_Shift.f k a0_0 a0_1 a0_2 a1 = some (r1, r2, r3, r4)) :
    Calls Tryz.prog 35 #[.agg #[.bool a0_0, .string a0_1, .string a0_2], .int .i64 a1] w fun e w' => e = .returned (.tuple #[.agg #[.bool r1, .string r2, .string r3], .int .i64 r4]) ∧ Below w.heap.size w w' := by
 have hu23 := Tryz.underlying23
 have HB := Aside0.mk (Below.refl w.heap.size w)
 unfold idiomref02_Shift.f at h
 have H := h
 clear h
 have HC3 := Aside0.mk H
 clear H
 go_enter Tryz.func35, Tryz.ntmps35
 go_upto_region 1 with (first | ((with_reducible refine gate_dst (N := 2) rfl ?_); refine bx_ #[.bool a0_0, .string a0_1, .string a0_2] 23 ?_; intro gb594 hg w4 hbox hb; have BK594 := Aside0.mk (hbox); have GW594 := ge_ (w := w) hg; have GE594 := ge_ (w := w) hg; replace HB := Aside0.mk (below_step hb_ hb); clear hb hbox hg) | ((with_reducible refine gate_dst (N := 4) rfl ?_); refine bx_ #[.bool false, .string (⟨#[]⟩ : ByteArray), .string (⟨#[]⟩ : ByteArray)] 23 ?_; intro gb595 hg w5 hbox hb; have BK595 := Aside0.mk (hbox); have GW595 := ge_ (w := w) hg; have GE595 := ge_ (w := w) hg; have NB594_595 := Aside0.mk ((by rw [hg]; exact Nat.ne_of_lt (blk_lt (g := gb594) (o := .cells #[.bool a0_0, .string a0_1, .string a0_2] 23 (0, 0)) (by (with_reducible repeat (first | refine blk_drewN ?_ _ | refine blk_drew ?_ | refine blk_alloc ?_ _)); exact BK594.out)) : gb594 ≠ gb595)); have NB595_594 := Aside0.mk ((by rw [hg]; exact Nat.ne_of_gt (blk_lt (g := gb594) (o := .cells #[.bool a0_0, .string a0_1, .string a0_2] 23 (0, 0)) (by (with_reducible repeat (first | refine blk_drewN ?_ _ | refine blk_drew ?_ | refine blk_alloc ?_ _)); exact BK594.out)) : gb595 ≠ gb594)); replace BK594 := Aside0.mk (blk_below (g := gb594) (o := .cells #[.bool a0_0, .string a0_1, .string a0_2] 23 (0, 0)) (by (with_reducible repeat (first | refine blk_drewN ?_ _ | refine blk_drew ?_ | refine blk_alloc ?_ _)); exact BK594.out) hb); replace HB := Aside0.mk (below_step hb_ hb); clear hb hbox hg))
 (try simp only [Act.put, List.setIfInBounds_toArray, List.set_cons_zero, List.set_cons_succ])
 go_cut [6] (fun v6 wc => ∃ (kq : Nat) (x6_2 : Int), v6 = .int .i64 x6_2 ∧ Aside0 (idiomref02_Shift.j0 kq a1 x6_2 a0_0 a0_1 a0_2 = some (r1, r2, r3, r4)) ∧ Aside0 (kq ≤ k) ∧ Aside0 (wc.heap[gb594]? = some (.cells #[.bool a0_0, .string a0_1, .string a0_2] 23 (0, 0))) ∧ Aside0 (wc.heap[gb595]? = some (.cells #[.bool false, .string (⟨#[]⟩ : ByteArray), .string (⟨#[]⟩ : ByteArray)] 23 (0, 0))) ∧ Aside0 (Below w.heap.size w wc))
 case first =>
  have H := HC3.out
  clear HC3
  replace H := Option.bind_eq_some_iff.mp H
  obtain ⟨t596, A60, H⟩ := H
  try dsimp only at H
  have A6 := Aside0.mk A60
  clear A60
  by_cases c7 : a1 < (-40)
  ·rw [if_pos c7] at H
   have c7b0 : decide (a1 < (-40)) = true := decide_eq_true c7
   clear c7
   (first | rw [c7b0] | (simp only [i64_w, i32_w]; rw [c7b0]) | skip)
   replace H := Option.bind_eq_some_iff.mp H
   obtain ⟨t597, A80, H⟩ := H
   try dsimp only at H
   have A8 := Aside0.mk A80
   clear A80
   obtain ⟨y598, hy598⟩ : ∃ y_ : List Int, y_ = (([t596, t597] : List Int)) := ⟨_, rfl⟩
   rw [← hy598] at H
   have Ny598 := Aside0.mk hy598
   clear hy598
   replace H := Option.bind_eq_some_iff.mp H
   obtain ⟨t601, A90, H⟩ := H
   try dsimp only at H
   have A9 := Aside0.mk A90
   clear A90
   have H' := Aside0.mk H
   clear H
   have hnb10 := NB594_595.out
   have hnc10 := NB595_594.out
   obtain ⟨hcz11_0, hcz11_1, hcz11_2, hfz11_0, hfz11_1, hfz11_2⟩ := BK594.c3
   go_wp2_with (first | ((with_reducible refine gate_callee (f := 33) rfl ?_); refine gL_ (some 8) Tryz.func33 #[.agg #[.bool a0_0, .string a0_1, .string a0_2]] ?_; (with_reducible refine (idiomref02_Check.calls k a0_0 a0_1 a0_2 t596 _ A6.out).mono ?_); rintro e w12 ⟨rfl, hb⟩; refine ⟨_, rfl, ?_⟩; replace BK594 := Aside0.mk (blk_below (g := gb594) (o := .cells #[.bool a0_0, .string a0_1, .string a0_2] 23 (0, 0)) (by (with_reducible repeat (first | refine blk_drewN ?_ _ | refine blk_drew ?_ | refine blk_alloc ?_ _)); exact BK594.out) hb); replace BK595 := Aside0.mk (blk_below (g := gb595) (o := .cells #[.bool false, .string (⟨#[]⟩ : ByteArray), .string (⟨#[]⟩ : ByteArray)] 23 (0, 0)) (by (with_reducible repeat (first | refine blk_drewN ?_ _ | refine blk_drew ?_ | refine blk_alloc ?_ _)); exact BK595.out) hb); replace HB := Aside0.mk (below_step hb_ hb)) | ((with_reducible refine gate_callee (f := 34) rfl ?_); refine gL_ (some 15) Tryz.func34 #[.bool true, .int .i64 1] ?_; (with_reducible refine (idiomref02_If.calls true 1 t597 _ A8.out).mono ?_); rintro e w' ⟨rfl, ⟨nd, rfl⟩⟩; refine ⟨_, rfl, ?_⟩) | ((with_reducible refine gate_dst (N := 16) rfl ?_); refine Kd.R_lit (Kd.int .i64) _ 29 ?hg (N := 16) ?hd (xs := ([t596, t597] : List Int)) (inner := [.int .i64 t596, .int .i64 t597]) (ok := fun _ => True) (okp := fun _ => True) ?hr ?hp (fun _ hk => hk) trivial (Below.refl _ _) (Nat.le_refl _) (by simp) ?_; (case hd => rfl); (case hg => rfl); (case hr => first | (go_simp; done) | (go_simp; rfl)); (case hp => exact (Reps.one (show Kd.M (Kd.int .i64) _ _ _ t596 [.int .i64 t596] from rfl) (Reps.one (show Kd.M (Kd.int .i64) _ _ _ t597 [.int .i64 t597] from rfl) (Reps.none _ _)))); intro v599 w13 ho14 hb hg_ hnew_; clear hg_ hnew_; (first | rw [← Ny598.out] at ho14 | (simp only [Int.reduceToNat] at ho14; rw [← Ny598.out] at ho14)); have HO600 := Aside0.mk (Kd.R_lower ho14 (below_size hb_)); replace BK594 := Aside0.mk (blk_below (g := gb594) (o := .cells #[.bool a0_0, .string a0_1, .string a0_2] 23 (0, 0)) (by (with_reducible repeat (first | refine blk_drewN ?_ _ | refine blk_drew ?_ | refine blk_alloc ?_ _)); exact BK594.out) hb); replace BK595 := Aside0.mk (blk_below (g := gb595) (o := .cells #[.bool false, .string (⟨#[]⟩ : ByteArray), .string (⟨#[]⟩ : ByteArray)] 23 (0, 0)) (by (with_reducible repeat (first | refine blk_drewN ?_ _ | refine blk_drew ?_ | refine blk_alloc ?_ _)); exact BK595.out) hb); replace HB := Aside0.mk (below_step hb_ hb); clear hb ho14; obtain ⟨Ao15, co15, eo15⟩ := Kd.R_slice HO600.out; subst eo15) | ((with_reducible refine gate_callee (f := 32) rfl ?_); refine gL_ (some 17) Tryz.func32 #[.slice Ao15 y598.length co15] ?_; (with_reducible refine (idiomref02_First.calls k _ _ y598 t601 _ ?side1 ?side2 A9.out).mono ?_); (case side1 => repeat (first | exact (Kd.R_reads' HO600.out).2.2 | (with_reducible refine Kd.C_alloc ?_ _) | (with_reducible refine Kd.C_drewN ?_ _) | (with_reducible refine Kd.C_drew ?_))); (case side2 => exact (Kd.R_reads' HO600.out).2.1); rintro e w' ⟨rfl, ⟨nd, rfl⟩⟩; refine ⟨_, rfl, ?_⟩))
   go_meet
   case rel => exact ⟨_, (t601), (by first | rfl | (simp; done) | (simp [*]; done)), H', ⟨by first | omega | exact Nat.le_refl _⟩, ⟨by (with_reducible repeat (first | refine blk_drewN ?_ _ | refine blk_drew ?_ | refine blk_alloc ?_ _)); exact BK594.out⟩, ⟨by (with_reducible repeat (first | refine blk_drewN ?_ _ | refine blk_drew ?_ | refine blk_alloc ?_ _)); exact BK595.out⟩, ⟨hb_⟩⟩
  ·rw [if_neg c7] at H
   have c7b0 : decide (a1 < (-40)) = false := decide_eq_false c7
   clear c7
   (first | rw [c7b0] | (simp only [i64_w, i32_w]; rw [c7b0]) | skip)
   replace H := Option.bind_eq_some_iff.mp H
   obtain ⟨t602, A160, H⟩ := H
   try dsimp only at H
   have A16 := Aside0.mk A160
   clear A160
   obtain ⟨y603, hy603⟩ : ∃ y_ : List Int, y_ = (([t596, t602] : List Int)) := ⟨_, rfl⟩
   rw [← hy603] at H
   have Ny603 := Aside0.mk hy603
   clear hy603
   replace H := Option.bind_eq_some_iff.mp H
   obtain ⟨t606, A170, H⟩ := H
   try dsimp only at H
   have A17 := Aside0.mk A170
   clear A170
   have H' := Aside0.mk H
   clear H
   have hnb18 := NB594_595.out
   have hnc18 := NB595_594.out
   obtain ⟨hcz19_0, hcz19_1, hcz19_2, hfz19_0, hfz19_1, hfz19_2⟩ := BK594.c3
   go_wp2_with (first | ((with_reducible refine gate_callee (f := 33) rfl ?_); refine gL_ (some 8) Tryz.func33 #[.agg #[.bool a0_0, .string a0_1, .string a0_2]] ?_; (with_reducible refine (idiomref02_Check.calls k a0_0 a0_1 a0_2 t596 _ A6.out).mono ?_); rintro e w20 ⟨rfl, hb⟩; refine ⟨_, rfl, ?_⟩; replace BK594 := Aside0.mk (blk_below (g := gb594) (o := .cells #[.bool a0_0, .string a0_1, .string a0_2] 23 (0, 0)) (by (with_reducible repeat (first | refine blk_drewN ?_ _ | refine blk_drew ?_ | refine blk_alloc ?_ _)); exact BK594.out) hb); replace BK595 := Aside0.mk (blk_below (g := gb595) (o := .cells #[.bool false, .string (⟨#[]⟩ : ByteArray), .string (⟨#[]⟩ : ByteArray)] 23 (0, 0)) (by (with_reducible repeat (first | refine blk_drewN ?_ _ | refine blk_drew ?_ | refine blk_alloc ?_ _)); exact BK595.out) hb); replace HB := Aside0.mk (below_step hb_ hb)) | ((with_reducible refine gate_callee (f := 34) rfl ?_); refine gL_ (some 15) Tryz.func34 #[.bool (decide (a1 > 40)), .int .i64 1] ?_; (with_reducible refine (idiomref02_If.calls (decide (a1 > 40)) 1 t602 _ A16.out).mono ?_); rintro e w' ⟨rfl, ⟨nd, rfl⟩⟩; refine ⟨_, rfl, ?_⟩) | ((with_reducible refine gate_dst (N := 16) rfl ?_); refine Kd.R_lit (Kd.int .i64) _ 29 ?hg (N := 16) ?hd (xs := ([t596, t602] : List Int)) (inner := [.int .i64 t596, .int .i64 t602]) (ok := fun _ => True) (okp := fun _ => True) ?hr ?hp (fun _ hk => hk) trivial (Below.refl _ _) (Nat.le_refl _) (by simp) ?_; (case hd => rfl); (case hg => rfl); (case hr => first | (go_simp; done) | (go_simp; rfl)); (case hp => exact (Reps.one (show Kd.M (Kd.int .i64) _ _ _ t596 [.int .i64 t596] from rfl) (Reps.one (show Kd.M (Kd.int .i64) _ _ _ t602 [.int .i64 t602] from rfl) (Reps.none _ _)))); intro v604 w21 ho22 hb hg_ hnew_; clear hg_ hnew_; (first | rw [← Ny603.out] at ho22 | (simp only [Int.reduceToNat] at ho22; rw [← Ny603.out] at ho22)); have HO605 := Aside0.mk (Kd.R_lower ho22 (below_size hb_)); replace BK594 := Aside0.mk (blk_below (g := gb594) (o := .cells #[.bool a0_0, .string a0_1, .string a0_2] 23 (0, 0)) (by (with_reducible repeat (first | refine blk_drewN ?_ _ | refine blk_drew ?_ | refine blk_alloc ?_ _)); exact BK594.out) hb); replace BK595 := Aside0.mk (blk_below (g := gb595) (o := .cells #[.bool false, .string (⟨#[]⟩ : ByteArray), .string (⟨#[]⟩ : ByteArray)] 23 (0, 0)) (by (with_reducible repeat (first | refine blk_drewN ?_ _ | refine blk_drew ?_ | refine blk_alloc ?_ _)); exact BK595.out) hb); replace HB := Aside0.mk (below_step hb_ hb); clear hb ho22; obtain ⟨Ao23, co23, eo23⟩ := Kd.R_slice HO605.out; subst eo23) | ((with_reducible refine gate_callee (f := 32) rfl ?_); refine gL_ (some 17) Tryz.func32 #[.slice Ao23 y603.length co23] ?_; (with_reducible refine (idiomref02_First.calls k _ _ y603 t606 _ ?side1 ?side2 A17.out).mono ?_); (case side1 => repeat (first | exact (Kd.R_reads' HO605.out).2.2 | (with_reducible refine Kd.C_alloc ?_ _) | (with_reducible refine Kd.C_drewN ?_ _) | (with_reducible refine Kd.C_drew ?_))); (case side2 => exact (Kd.R_reads' HO605.out).2.1); rintro e w' ⟨rfl, ⟨nd, rfl⟩⟩; refine ⟨_, rfl, ?_⟩))
   go_meet
   case rel => exact ⟨_, (t606), (by first | rfl | (simp; done) | (simp [*]; done)), H', ⟨by first | omega | exact Nat.le_refl _⟩, ⟨by (with_reducible repeat (first | refine blk_drewN ?_ _ | refine blk_drew ?_ | refine blk_alloc ?_ _)); exact BK594.out⟩, ⟨by (with_reducible repeat (first | refine blk_drewN ?_ _ | refine blk_drew ?_ | refine blk_alloc ?_ _)); exact BK595.out⟩, ⟨hb_⟩⟩
 case rest =>
  clear HC3
  obtain ⟨kq, x6_2, rfl, HA, HJ2, BK594, BK595, HB⟩ := hcut
  cases kq with
  | zero => exact absurd HA.out (by simp [idiomref02_Shift.j0])
  | succ kj2 =>
   have H := HA.out
   clear HA
   simp only [idiomref02_Shift.j0] at H
   by_cases c24 : x6_2 = 0
   ·rw [if_pos c24] at H
    have c24b0 : (x6_2 == 0) = true := beq_iff_eq.mpr c24
    have c24b1 : (x6_2 != 0) = false := bne_eq_false_iff_eq.mpr c24
    clear c24
    by_cases c25 : a1 > (a0_2.size : Int)
    ·rw [if_pos c25] at H
     have c25b0 : decide ((a0_2.size : Int) < a1) = true := decide_eq_true c25
     clear c25
     replace H := Option.bind_eq_some_iff.mp H
     obtain ⟨t607, A260, H⟩ := H
     try dsimp only at H
     have A26 := Aside0.mk A260
     clear A260
     replace H := Option.bind_eq_some_iff.mp H
     obtain ⟨t608, A270, H⟩ := H
     try dsimp only at H
     have A27 := Aside0.mk A270
     clear A270
     by_cases c28 : t607.size + t608.size ≤ 9223372036854775807
     ·rw [if_pos c28] at H
      have c28b0 := eq_true c28
      have c28b1 : decide (t607.size + t608.size ≤ 9223372036854775807) = true := decide_eq_true c28
      try have c28b2 : (9223372036854775807 < t607.size + t608.size) = False := eq_false (Nat.not_lt.2 c28)
      replace H := Option.bind_eq_some_iff.mp H
      obtain ⟨⟨t609, t610, t611, t612⟩, A290, H⟩ := H
      try dsimp only at H
      have A29 := Aside0.mk A290
      clear A290
      simp only [Option.some.injEq, Prod.mk.injEq] at H
      obtain ⟨rfl, rfl, rfl, rfl⟩ := H
      have hnb30 := NB594_595.out
      have hnc30 := NB595_594.out
      obtain ⟨hcz31_0, hcz31_1, hcz31_2, hfz31_0, hfz31_1, hfz31_2⟩ := BK594.c3
      try go_wp2
      replace BK594 := Aside0.mk (blk_drew BK594.out)
      replace BK595 := Aside0.mk (blk_drew BK595.out)
      replace HB := Aside0.mk (below_drew1 HB.out)
      refine start_ (n := 16) (S := fun w' => w'.cell? ⟨gb594, 0, none⟩ = some (.bool a0_0) ∧ w'.cell? ⟨gb594, 1, none⟩ = some (.string a0_1) ∧ w'.cell? ⟨gb594, 2, none⟩ = some (.string a0_2)) (ds := []) #[false, false, false, false, false, false, false, false, false, false, false, false, false, false, false, false] (by kernel_rfl) rfl rfl ⟨(blk_cell BK594.out 0).trans rfl, (blk_cell BK594.out 1).trans rfl, (blk_cell BK594.out 2).trans rfl⟩ (fun hHeld => ?_); refine with_tabW idiomref02_Shift.tab5 idiomref02_Shift.bits5 (fun HT_ HW_ => ?_)
      generalize wc.drew = w32 at BK594 BK595 HB hHeld ⊢
      refine pr_ 0 (some 27) ?_
      refine pr_ 4 (some 31) ?_
      refine pr_ 5 (some 32) ?_
      refine tk_ 1 (some 28) hHeld ?_
      refine tk_ 2 (some 29) hHeld ?_
      refine tk_ 6 (some 33) hHeld ?_
      refine pr_ 7 (some 34) ?_
      refine pr_ 8 (some 35) ?_
      refine one_ (i := 3) (N := some 30) #[true, true, true, true, true, true, true, true, true, false, false, false, false, false, false, false] rfl rfl (one_of HT_.out (by kernel_rfl)) (by decide) (fun K hK => ?_)
      refine goes_ Tryz.func64 (by kernel_rfl) rfl #[.agg #[.bool a0_0, .string a0_1, .string a0_2]] (by rfl) rfl rfl ar_ ?_
      with_reducible refine (idiomref02_Num.calls kj2 a0_0 a0_1 a0_2 t607 _ A26.out).mono ?_
      rintro e w33 ⟨rfl, hb⟩
      refine ⟨_, rfl, ?_⟩
      replace BK594 := Aside0.mk (blk_below (g := gb594) (o := .cells #[.bool a0_0, .string a0_1, .string a0_2] 23 (0, 0)) (by (with_reducible repeat (first | refine blk_drewN ?_ _ | refine blk_drew ?_ | refine blk_alloc ?_ _)); exact BK594.out) hb)
      replace BK595 := Aside0.mk (blk_below (g := gb595) (o := .cells #[.bool false, .string (⟨#[]⟩ : ByteArray), .string (⟨#[]⟩ : ByteArray)] 23 (0, 0)) (by (with_reducible repeat (first | refine blk_drewN ?_ _ | refine blk_drew ?_ | refine blk_alloc ?_ _)); exact BK595.out) hb)
      replace HB := Aside0.mk (below_step hb_ hb)
      (try clear hb)
      (try clear hb2)
      (try clear hk)
      (try clear hi)
      refine hK.out _ _ ⟨(blk_cell BK594.out 0).trans rfl, (blk_cell BK594.out 1).trans rfl, (blk_cell BK594.out 2).trans rfl⟩ (fun hHeld => ?_)
      clear hK K
      refine norm_ (a' := ?_) ?_ ?_
      rotate_left
      ·show Act.put _ (some 30) _ = _
       simp only [Act.put, List.setIfInBounds_toArray, List.set_cons_zero, List.set_cons_succ, i64_w, i32_w]
       rfl
      refine one_ (i := 9) (N := some 36) #[true, true, true, true, true, true, true, true, true, true, false, false, false, false, false, false] rfl rfl (one_of HT_.out (by kernel_rfl)) (by decide) (fun K hK => ?_)
      refine goes_ Tryz.func65 (by kernel_rfl) rfl #[.int .i64 (wrap64 (a1 - (a0_2.size : Int)))] (by rfl) rfl rfl ar_ ?_
      with_reducible refine (idiomref02_Zeros.calls kj2 (wrap64 (a1 - (a0_2.size : Int))) t608 _ A27.out).mono ?_
      rintro e w34 ⟨rfl, hb⟩
      refine ⟨_, rfl, ?_⟩
      replace BK594 := Aside0.mk (blk_below (g := gb594) (o := .cells #[.bool a0_0, .string a0_1, .string a0_2] 23 (0, 0)) (by (with_reducible repeat (first | refine blk_drewN ?_ _ | refine blk_drew ?_ | refine blk_alloc ?_ _)); exact BK594.out) hb)
      replace BK595 := Aside0.mk (blk_below (g := gb595) (o := .cells #[.bool false, .string (⟨#[]⟩ : ByteArray), .string (⟨#[]⟩ : ByteArray)] 23 (0, 0)) (by (with_reducible repeat (first | refine blk_drewN ?_ _ | refine blk_drew ?_ | refine blk_alloc ?_ _)); exact BK595.out) hb)
      replace HB := Aside0.mk (below_step hb_ hb)
      (try clear hb)
      (try clear hb2)
      (try clear hk)
      (try clear hi)
      refine hK.out _ _ ⟨(blk_cell BK594.out 0).trans rfl, (blk_cell BK594.out 1).trans rfl, (blk_cell BK594.out 2).trans rfl⟩ (fun hHeld => ?_)
      clear hK K
      refine norm_ (a' := ?_) ?_ ?_
      rotate_left
      ·show Act.put _ (some 36) _ = _
       simp only [Act.put, List.setIfInBounds_toArray, List.set_cons_zero, List.set_cons_succ, i64_w, i32_w]
       rfl
      refine pr_ 10 (some 37) ?_
      refine one_ (i := 11) (N := some 38) #[true, true, true, true, true, true, true, true, true, true, true, true, false, false, false, false] rfl rfl (one_of HT_.out (by kernel_rfl)) (by decide) (fun K hK => ?_)
      refine goes_ Tryz.func45 (by kernel_rfl) rfl #[.bool a0_0, .string (t607 ++ t608), .int .i64 0] (by rfl) rfl rfl ar_ ?_
      with_reducible refine (idiomref02_Make.calls kj2 a0_0 (t607 ++ t608) 0 t609 t610 t611 t612 _ A29.out).mono ?_
      rintro e w35 ⟨rfl, hb⟩
      refine ⟨_, rfl, ?_⟩
      replace BK594 := Aside0.mk (blk_below (g := gb594) (o := .cells #[.bool a0_0, .string a0_1, .string a0_2] 23 (0, 0)) (by (with_reducible repeat (first | refine blk_drewN ?_ _ | refine blk_drew ?_ | refine blk_alloc ?_ _)); exact BK594.out) hb)
      replace BK595 := Aside0.mk (blk_below (g := gb595) (o := .cells #[.bool false, .string (⟨#[]⟩ : ByteArray), .string (⟨#[]⟩ : ByteArray)] 23 (0, 0)) (by (with_reducible repeat (first | refine blk_drewN ?_ _ | refine blk_drew ?_ | refine blk_alloc ?_ _)); exact BK595.out) hb)
      replace HB := Aside0.mk (below_step hb_ hb)
      (try clear hb)
      (try clear hb2)
      (try clear hk)
      (try clear hi)
      refine hK.out _ _ ⟨(blk_cell BK594.out 0).trans rfl, (blk_cell BK594.out 1).trans rfl, (blk_cell BK594.out 2).trans rfl⟩ (fun hHeld => ?_)
      clear hK K
      refine norm_ (a' := ?_) ?_ ?_
      rotate_left
      ·show Act.put _ (some 38) _ = _
       simp only [Act.put, List.setIfInBounds_toArray, List.set_cons_zero, List.set_cons_succ, i64_w, i32_w]
       rfl
      refine pr_ 12 (some 39) ?_
      refine pr_ 13 (some 40) ?_
      refine one_ (i := 14) (N := none) #[true, true, true, true, true, true, true, true, true, true, true, true, true, true, true, false] rfl rfl (one_of HT_.out (by kernel_rfl)) (by decide) (fun K hK => ?_)
      have hs36 : w35.cell? ⟨gb595, 0, none⟩ = some (.bool false) := (blk_cell BK595.out 0).trans rfl
      have hfs36 := blk_frozen BK595.out 0
      have hns36_0 := NB594_595.out
      have hms36_0 := NB595_594.out
      have hs37 : w35.cell? ⟨gb595, 1, none⟩ = some (.string (⟨#[]⟩ : ByteArray)) := (blk_cell BK595.out 1).trans rfl
      have hfs37 := blk_frozen BK595.out 1
      have hns37_0 := NB594_595.out
      have hms37_0 := NB595_594.out
      have hs38 : w35.cell? ⟨gb595, 2, none⟩ = some (.string (⟨#[]⟩ : ByteArray)) := (blk_cell BK595.out 2).trans rfl
      have hfs38 := blk_frozen BK595.out 2
      have hns38_0 := NB594_595.out
      have hms38_0 := NB595_594.out
      refine skip_ (w1 := ?_) (by rfl) rfl ?_ ?_
      rotate_left
      ·go_simp
       rfl
      refine hK.out _ _ ⟨((cell_far (p := ⟨gb595, _, none⟩) NB594_595.out _).trans (((cell_far (p := ⟨gb595, _, none⟩) NB594_595.out _).trans (((cell_far (p := ⟨gb595, _, none⟩) NB594_595.out _).trans (hHeld.1)))))), ((cell_far (p := ⟨gb595, _, none⟩) NB594_595.out _).trans (((cell_far (p := ⟨gb595, _, none⟩) NB594_595.out _).trans (((cell_far (p := ⟨gb595, _, none⟩) NB594_595.out _).trans (hHeld.2.1)))))), ((cell_far (p := ⟨gb595, _, none⟩) NB594_595.out _).trans (((cell_far (p := ⟨gb595, _, none⟩) NB594_595.out _).trans (((cell_far (p := ⟨gb595, _, none⟩) NB594_595.out _).trans (hHeld.2.2))))))⟩ (fun hHeld => ?_)
      clear hK K
      refine pr_ 15 (some 5) ?_
      refine done_ (done_of HT_.out (by kernel_rfl)) ?_
      (try clear hms38_0 hns38_0 hfs38 hs38 hms37_0 hns37_0 hfs37 hs37 hms36_0 hns36_0 hfs36 hs36)
      try go_wp2
      refine bodyPost_ret (results_ct rfl _ _ gb595 23 #[.bool t609, .string t610, .string t611] (0, 0) _ rfl (by (with_reducible repeat (first | refine blk_drewN ?_ _ | refine blk_drew ?_ | refine blk_alloc ?_ _)); refine blk_put (cs := #[.bool t609, .string t610, .string (⟨#[]⟩ : ByteArray)]) ?_ 2 _ rfl; (with_reducible repeat (first | refine blk_drewN ?_ _ | refine blk_drew ?_ | refine blk_alloc ?_ _)); refine blk_put (cs := #[.bool t609, .string (⟨#[]⟩ : ByteArray), .string (⟨#[]⟩ : ByteArray)]) ?_ 1 _ rfl; (with_reducible repeat (first | refine blk_drewN ?_ _ | refine blk_drew ?_ | refine blk_alloc ?_ _)); refine blk_put (cs := #[.bool false, .string (⟨#[]⟩ : ByteArray), .string (⟨#[]⟩ : ByteArray)]) ?_ 0 _ rfl; (with_reducible repeat (first | refine blk_drewN ?_ _ | refine blk_drew ?_ | refine blk_alloc ?_ _)); exact BK595.out) Tryz.underlying23 rfl (by kernel_rfl)) rfl ?_
      exact fin_
     ·rw [if_neg c28] at H
      exact absurd H (by simp)
    ·rw [if_neg c25] at H
     have c25b0 : decide ((a0_2.size : Int) < a1) = false := decide_eq_false c25
     clear c25
     replace H := Option.bind_eq_some_iff.mp H
     obtain ⟨t613, A390, H⟩ := H
     try dsimp only at H
     have A39 := Aside0.mk A390
     clear A390
     replace H := Option.bind_eq_some_iff.mp H
     obtain ⟨⟨t614, t615, t616, t617⟩, A400, H⟩ := H
     try dsimp only at H
     have A40 := Aside0.mk A400
     clear A400
     simp only [Option.some.injEq, Prod.mk.injEq] at H
     obtain ⟨rfl, rfl, rfl, rfl⟩ := H
     have hnb41 := NB594_595.out
     have hnc41 := NB595_594.out
     obtain ⟨hcz42_0, hcz42_1, hcz42_2, hfz42_0, hfz42_1, hfz42_2⟩ := BK594.c3
     try go_wp2
     replace BK594 := Aside0.mk (blk_drew BK594.out)
     replace BK595 := Aside0.mk (blk_drew BK595.out)
     replace HB := Aside0.mk (below_drew1 HB.out)
     refine start_ (n := 14) (S := fun w' => w'.cell? ⟨gb594, 0, none⟩ = some (.bool a0_0) ∧ w'.cell? ⟨gb594, 1, none⟩ = some (.string a0_1) ∧ w'.cell? ⟨gb594, 2, none⟩ = some (.string a0_2)) (ds := []) #[false, false, false, false, false, false, false, false, false, false, false, false, false, false] (by kernel_rfl) rfl rfl ⟨(blk_cell BK594.out 0).trans rfl, (blk_cell BK594.out 1).trans rfl, (blk_cell BK594.out 2).trans rfl⟩ (fun hHeld => ?_); refine with_tabW idiomref02_Shift.tab6 idiomref02_Shift.bits6 (fun HT_ HW_ => ?_)
     generalize wc.drew = w43 at BK594 BK595 HB hHeld ⊢
     refine pr_ 0 (some 41) ?_
     refine pr_ 4 (some 45) ?_
     refine pr_ 7 (some 48) ?_
     refine tk_ 1 (some 42) hHeld ?_
     refine tk_ 2 (some 43) hHeld ?_
     refine tk_ 5 (some 46) hHeld ?_
     refine pr_ 6 (some 47) ?_
     refine pr_ 8 (some 49) ?_
     refine one_ (i := 3) (N := some 44) #[true, true, true, true, true, true, true, true, true, false, false, false, false, false] rfl rfl (one_of HT_.out (by kernel_rfl)) (by decide) (fun K hK => ?_)
     refine goes_ Tryz.func64 (by kernel_rfl) rfl #[.agg #[.bool a0_0, .string a0_1, .string a0_2]] (by rfl) rfl rfl ar_ ?_
     with_reducible refine (idiomref02_Num.calls kj2 a0_0 a0_1 a0_2 t613 _ A39.out).mono ?_
     rintro e w44 ⟨rfl, hb⟩
     refine ⟨_, rfl, ?_⟩
     replace BK594 := Aside0.mk (blk_below (g := gb594) (o := .cells #[.bool a0_0, .string a0_1, .string a0_2] 23 (0, 0)) (by (with_reducible repeat (first | refine blk_drewN ?_ _ | refine blk_drew ?_ | refine blk_alloc ?_ _)); exact BK594.out) hb)
     replace BK595 := Aside0.mk (blk_below (g := gb595) (o := .cells #[.bool false, .string (⟨#[]⟩ : ByteArray), .string (⟨#[]⟩ : ByteArray)] 23 (0, 0)) (by (with_reducible repeat (first | refine blk_drewN ?_ _ | refine blk_drew ?_ | refine blk_alloc ?_ _)); exact BK595.out) hb)
     replace HB := Aside0.mk (below_step hb_ hb)
     (try clear hb)
     (try clear hb2)
     (try clear hk)
     (try clear hi)
     refine hK.out _ _ ⟨(blk_cell BK594.out 0).trans rfl, (blk_cell BK594.out 1).trans rfl, (blk_cell BK594.out 2).trans rfl⟩ (fun hHeld => ?_)
     clear hK K
     refine norm_ (a' := ?_) ?_ ?_
     rotate_left
     ·show Act.put _ (some 44) _ = _
      simp only [Act.put, List.setIfInBounds_toArray, List.set_cons_zero, List.set_cons_succ, i64_w, i32_w]
      rfl
     refine one_ (i := 9) (N := some 50) #[true, true, true, true, true, true, true, true, true, true, false, false, false, false] rfl rfl (one_of HT_.out (by kernel_rfl)) (by decide) (fun K hK => ?_)
     refine goes_ Tryz.func45 (by kernel_rfl) rfl #[.bool a0_0, .string t613, .int .i64 (wrap64 ((a0_2.size : Int) - a1))] (by rfl) rfl rfl ar_ ?_
     with_reducible refine (idiomref02_Make.calls kj2 a0_0 t613 (wrap64 ((a0_2.size : Int) - a1)) t614 t615 t616 t617 _ A40.out).mono ?_
     rintro e w45 ⟨rfl, hb⟩
     refine ⟨_, rfl, ?_⟩
     replace BK594 := Aside0.mk (blk_below (g := gb594) (o := .cells #[.bool a0_0, .string a0_1, .string a0_2] 23 (0, 0)) (by (with_reducible repeat (first | refine blk_drewN ?_ _ | refine blk_drew ?_ | refine blk_alloc ?_ _)); exact BK594.out) hb)
     replace BK595 := Aside0.mk (blk_below (g := gb595) (o := .cells #[.bool false, .string (⟨#[]⟩ : ByteArray), .string (⟨#[]⟩ : ByteArray)] 23 (0, 0)) (by (with_reducible repeat (first | refine blk_drewN ?_ _ | refine blk_drew ?_ | refine blk_alloc ?_ _)); exact BK595.out) hb)
     replace HB := Aside0.mk (below_step hb_ hb)
     (try clear hb)
     (try clear hb2)
     (try clear hk)
     (try clear hi)
     refine hK.out _ _ ⟨(blk_cell BK594.out 0).trans rfl, (blk_cell BK594.out 1).trans rfl, (blk_cell BK594.out 2).trans rfl⟩ (fun hHeld => ?_)
     clear hK K
     refine norm_ (a' := ?_) ?_ ?_
     rotate_left
     ·show Act.put _ (some 50) _ = _
      simp only [Act.put, List.setIfInBounds_toArray, List.set_cons_zero, List.set_cons_succ, i64_w, i32_w]
      rfl
     refine pr_ 10 (some 51) ?_
     refine pr_ 11 (some 52) ?_
     refine one_ (i := 12) (N := none) #[true, true, true, true, true, true, true, true, true, true, true, true, true, false] rfl rfl (one_of HT_.out (by kernel_rfl)) (by decide) (fun K hK => ?_)
     have hs46 : w45.cell? ⟨gb595, 0, none⟩ = some (.bool false) := (blk_cell BK595.out 0).trans rfl
     have hfs46 := blk_frozen BK595.out 0
     have hns46_0 := NB594_595.out
     have hms46_0 := NB595_594.out
     have hs47 : w45.cell? ⟨gb595, 1, none⟩ = some (.string (⟨#[]⟩ : ByteArray)) := (blk_cell BK595.out 1).trans rfl
     have hfs47 := blk_frozen BK595.out 1
     have hns47_0 := NB594_595.out
     have hms47_0 := NB595_594.out
     have hs48 : w45.cell? ⟨gb595, 2, none⟩ = some (.string (⟨#[]⟩ : ByteArray)) := (blk_cell BK595.out 2).trans rfl
     have hfs48 := blk_frozen BK595.out 2
     have hns48_0 := NB594_595.out
     have hms48_0 := NB595_594.out
     refine skip_ (w1 := ?_) (by rfl) rfl ?_ ?_
     rotate_left
     ·go_simp
      rfl
     refine hK.out _ _ ⟨((cell_far (p := ⟨gb595, _, none⟩) NB594_595.out _).trans (((cell_far (p := ⟨gb595, _, none⟩) NB594_595.out _).trans (((cell_far (p := ⟨gb595, _, none⟩) NB594_595.out _).trans (hHeld.1)))))), ((cell_far (p := ⟨gb595, _, none⟩) NB594_595.out _).trans (((cell_far (p := ⟨gb595, _, none⟩) NB594_595.out _).trans (((cell_far (p := ⟨gb595, _, none⟩) NB594_595.out _).trans (hHeld.2.1)))))), ((cell_far (p := ⟨gb595, _, none⟩) NB594_595.out _).trans (((cell_far (p := ⟨gb595, _, none⟩) NB594_595.out _).trans (((cell_far (p := ⟨gb595, _, none⟩) NB594_595.out _).trans (hHeld.2.2))))))⟩ (fun hHeld => ?_)
     clear hK K
     refine pr_ 13 (some 5) ?_
     refine done_ (done_of HT_.out (by kernel_rfl)) ?_
     (try clear hms48_0 hns48_0 hfs48 hs48 hms47_0 hns47_0 hfs47 hs47 hms46_0 hns46_0 hfs46 hs46)
     try go_wp2
     refine bodyPost_ret (results_ct rfl _ _ gb595 23 #[.bool t614, .string t615, .string t616] (0, 0) _ rfl (by (with_reducible repeat (first | refine blk_drewN ?_ _ | refine blk_drew ?_ | refine blk_alloc ?_ _)); refine blk_put (cs := #[.bool t614, .string t615, .string (⟨#[]⟩ : ByteArray)]) ?_ 2 _ rfl; (with_reducible repeat (first | refine blk_drewN ?_ _ | refine blk_drew ?_ | refine blk_alloc ?_ _)); refine blk_put (cs := #[.bool t614, .string (⟨#[]⟩ : ByteArray), .string (⟨#[]⟩ : ByteArray)]) ?_ 1 _ rfl; (with_reducible repeat (first | refine blk_drewN ?_ _ | refine blk_drew ?_ | refine blk_alloc ?_ _)); refine blk_put (cs := #[.bool false, .string (⟨#[]⟩ : ByteArray), .string (⟨#[]⟩ : ByteArray)]) ?_ 0 _ rfl; (with_reducible repeat (first | refine blk_drewN ?_ _ | refine blk_drew ?_ | refine blk_alloc ?_ _)); exact BK595.out) Tryz.underlying23 rfl (by kernel_rfl)) rfl ?_
     exact fin_
   ·rw [if_neg c24] at H
    have c24b0 : (x6_2 == 0) = false := beq_eq_false_iff_ne.mpr c24
    have c24b1 : (x6_2 != 0) = true := bne_iff_ne.mpr c24
    simp only [Option.some.injEq, Prod.mk.injEq] at H
    obtain ⟨rfl, rfl, rfl, rfl⟩ := H
    have hnb49 := NB595_594.out
    have hnc49 := NB594_595.out
    obtain ⟨hcz50_0, hcz50_1, hcz50_2, hfz50_0, hfz50_1, hfz50_2⟩ := BK595.c3
    go_wp2
    refine bodyPost_ret (results_ct rfl _ _ gb595 23 #[.bool false, .string (⟨#[]⟩ : ByteArray), .string (⟨#[]⟩ : ByteArray)] (0, 0) _ rfl (by (with_reducible repeat (first | refine blk_drewN ?_ _ | refine blk_drew ?_ | refine blk_alloc ?_ _)); refine blk_put (cs := #[.bool false, .string (⟨#[]⟩ : ByteArray), .string (⟨#[]⟩ : ByteArray)]) ?_ 2 _ rfl; (with_reducible repeat (first | refine blk_drewN ?_ _ | refine blk_drew ?_ | refine blk_alloc ?_ _)); refine blk_put (cs := #[.bool false, .string (⟨#[]⟩ : ByteArray), .string (⟨#[]⟩ : ByteArray)]) ?_ 1 _ rfl; (with_reducible repeat (first | refine blk_drewN ?_ _ | refine blk_drew ?_ | refine blk_alloc ?_ _)); refine blk_put (cs := #[.bool false, .string (⟨#[]⟩ : ByteArray), .string (⟨#[]⟩ : ByteArray)]) ?_ 0 _ rfl; (with_reducible repeat (first | refine blk_drewN ?_ _ | refine blk_drew ?_ | refine blk_alloc ?_ _)); exact BK595.out) Tryz.underlying23 rfl (by kernel_rfl)) rfl ?_
    exact fin_
attribute [local go_sem] max2_int max_two
set_option linter.unusedVariables false
set_option linter.unusedSimpArgs false
mutual
def idiomref02_Pad.j0 : Nat → Int → Int → Bool → ByteArray → ByteArray → Option (Bool × ByteArray × ByteArray × Int)
  | 0, _, _, _, _, _ => none
  | k + 1, x1, x6, x165000, x165001, x165002 => if x6 = 0 then (idiomref02_Pad.l0 k x1 x165000 x165001 x165002) else (some (false, (⟨#[]⟩ : ByteArray), (⟨#[]⟩ : ByteArray), x6))
def idiomref02_Pad.l0 : Nat → Int → Bool → ByteArray → ByteArray → Option (Bool × ByteArray × ByteArray × Int)
  | 0, _, _, _, _ => none
  | k + 1, x1, x165000, x165001, x165002 => if (x165002.size : Int) < x1 then (if x165002.size + 1 ≤ 9223372036854775807 then (idiomref02_Pad.l0 k x1 x165000 x165001 (x165002 ++ (⟨#[48]⟩ : ByteArray))) else (none)) else (if (wrap64 ((x165001.size : Int) + (x165002.size : Int))) > 40 then (some (false, (⟨#[]⟩ : ByteArray), (⟨#[]⟩ : ByteArray), 3)) else (some (x165000, x165001, x165002, 0)))
end
def idiomref02_Pad.f (k : Nat) (a0_0 : Bool) (a0_1 : ByteArray) (a0_2 : ByteArray) (a1 : Int) : Option (Bool × ByteArray × ByteArray × Int) := (idiomref02_Check.f k a0_0 a0_1 a0_2).bind fun t166 => (if a1 < 0 then ((idiomref02_If.f true 1).bind fun t167 => ((idiomref02_First.f k (([t166, t167] : List Int))).bind fun t171 => (idiomref02_Pad.j0 k a1 t171 a0_0 a0_1 a0_2))) else ((idiomref02_If.f (decide (a1 > 40)) 1).bind fun t172 => ((idiomref02_First.f k (([t166, t172] : List Int))).bind fun t176 => (idiomref02_Pad.j0 k a1 t176 a0_0 a0_1 a0_2))))
set_option maxHeartbeats 8000000 in
set_option maxRecDepth 100000 in
theorem idiomref02_Pad.calls (k : Nat) (a0_0 : Bool) (a0_1 : ByteArray) (a0_2 : ByteArray) (a1 : Int) (r1 : Bool) (r2 : ByteArray) (r3 : ByteArray) (r4 : Int) (w : World) (h : idiomref02_Pad.f k a0_0 a0_1 a0_2 a1 = some (r1, r2, r3, r4)) :
    Calls Tryz.prog 39 #[.agg #[.bool a0_0, .string a0_1, .string a0_2], .int .i64 a1] w fun e w' => e = .returned (.tuple #[.agg #[.bool r1, .string r2, .string r3], .int .i64 r4]) ∧ Below w.heap.size w w' := by
 have hu23 := Tryz.underlying23
 have HB := Aside0.mk (Below.refl w.heap.size w)
 unfold idiomref02_Pad.f at h
 have H := h
 clear h
 have HC3 := Aside0.mk H
 clear H
 go_enter Tryz.func39, Tryz.ntmps39
 go_upto_region 1 with (first | ((with_reducible refine gate_dst (N := 2) rfl ?_); refine bx_ #[.bool a0_0, .string a0_1, .string a0_2] 23 ?_; intro gb164 hg w4 hbox hb; have BK164 := Aside0.mk (hbox); have GW164 := ge_ (w := w) hg; have GE164 := ge_ (w := w) hg; replace HB := Aside0.mk (below_step hb_ hb); clear hb hbox hg) | ((with_reducible refine gate_dst (N := 4) rfl ?_); refine bx_ #[.bool false, .string (⟨#[]⟩ : ByteArray), .string (⟨#[]⟩ : ByteArray)] 23 ?_; intro gb165 hg w5 hbox hb; have BK165 := Aside0.mk (hbox); have GW165 := ge_ (w := w) hg; have GE165 := ge_ (w := w) hg; have NB164_165 := Aside0.mk ((by rw [hg]; exact Nat.ne_of_lt (blk_lt (g := gb164) (o := .cells #[.bool a0_0, .string a0_1, .string a0_2] 23 (0, 0)) (by (with_reducible repeat (first | refine blk_drewN ?_ _ | refine blk_drew ?_ | refine blk_alloc ?_ _)); exact BK164.out)) : gb164 ≠ gb165)); have NB165_164 := Aside0.mk ((by rw [hg]; exact Nat.ne_of_gt (blk_lt (g := gb164) (o := .cells #[.bool a0_0, .string a0_1, .string a0_2] 23 (0, 0)) (by (with_reducible repeat (first | refine blk_drewN ?_ _ | refine blk_drew ?_ | refine blk_alloc ?_ _)); exact BK164.out)) : gb165 ≠ gb164)); replace BK164 := Aside0.mk (blk_below (g := gb164) (o := .cells #[.bool a0_0, .string a0_1, .string a0_2] 23 (0, 0)) (by (with_reducible repeat (first | refine blk_drewN ?_ _ | refine blk_drew ?_ | refine blk_alloc ?_ _)); exact BK164.out) hb); replace HB := Aside0.mk (below_step hb_ hb); clear hb hbox hg))
 (try simp only [Act.put, List.setIfInBounds_toArray, List.set_cons_zero, List.set_cons_succ])
 go_cut [6] (fun v6 wc => ∃ (kq : Nat) (x6_2 : Int), v6 = .int .i64 x6_2 ∧ Aside0 (idiomref02_Pad.j0 kq a1 x6_2 a0_0 a0_1 a0_2 = some (r1, r2, r3, r4)) ∧ Aside0 (kq ≤ k) ∧ Aside0 (wc.heap[gb164]? = some (.cells #[.bool a0_0, .string a0_1, .string a0_2] 23 (0, 0))) ∧ Aside0 (wc.heap[gb165]? = some (.cells #[.bool false, .string (⟨#[]⟩ : ByteArray), .string (⟨#[]⟩ : ByteArray)] 23 (0, 0))) ∧ Aside0 (Below w.heap.size w wc))
 case first =>
  have H := HC3.out
  clear HC3
  replace H := Option.bind_eq_some_iff.mp H
  obtain ⟨t166, A60, H⟩ := H
  try dsimp only at H
  have A6 := Aside0.mk A60
  clear A60
  by_cases c7 : a1 < 0
  ·rw [if_pos c7] at H
   have c7b0 : decide (a1 < 0) = true := decide_eq_true c7
   clear c7
   (first | rw [c7b0] | (simp only [i64_w, i32_w]; rw [c7b0]) | skip)
   replace H := Option.bind_eq_some_iff.mp H
   obtain ⟨t167, A80, H⟩ := H
   try dsimp only at H
   have A8 := Aside0.mk A80
   clear A80
   obtain ⟨y168, hy168⟩ : ∃ y_ : List Int, y_ = (([t166, t167] : List Int)) := ⟨_, rfl⟩
   rw [← hy168] at H
   have Ny168 := Aside0.mk hy168
   clear hy168
   replace H := Option.bind_eq_some_iff.mp H
   obtain ⟨t171, A90, H⟩ := H
   try dsimp only at H
   have A9 := Aside0.mk A90
   clear A90
   have H' := Aside0.mk H
   clear H
   have hnb10 := NB164_165.out
   have hnc10 := NB165_164.out
   obtain ⟨hcz11_0, hcz11_1, hcz11_2, hfz11_0, hfz11_1, hfz11_2⟩ := BK164.c3
   go_wp2_with (first | ((with_reducible refine gate_callee (f := 33) rfl ?_); refine gL_ (some 8) Tryz.func33 #[.agg #[.bool a0_0, .string a0_1, .string a0_2]] ?_; (with_reducible refine (idiomref02_Check.calls k a0_0 a0_1 a0_2 t166 _ A6.out).mono ?_); rintro e w12 ⟨rfl, hb⟩; refine ⟨_, rfl, ?_⟩; replace BK164 := Aside0.mk (blk_below (g := gb164) (o := .cells #[.bool a0_0, .string a0_1, .string a0_2] 23 (0, 0)) (by (with_reducible repeat (first | refine blk_drewN ?_ _ | refine blk_drew ?_ | refine blk_alloc ?_ _)); exact BK164.out) hb); replace BK165 := Aside0.mk (blk_below (g := gb165) (o := .cells #[.bool false, .string (⟨#[]⟩ : ByteArray), .string (⟨#[]⟩ : ByteArray)] 23 (0, 0)) (by (with_reducible repeat (first | refine blk_drewN ?_ _ | refine blk_drew ?_ | refine blk_alloc ?_ _)); exact BK165.out) hb); replace HB := Aside0.mk (below_step hb_ hb)) | ((with_reducible refine gate_callee (f := 34) rfl ?_); refine gL_ (some 15) Tryz.func34 #[.bool true, .int .i64 1] ?_; (with_reducible refine (idiomref02_If.calls true 1 t167 _ A8.out).mono ?_); rintro e w' ⟨rfl, ⟨nd, rfl⟩⟩; refine ⟨_, rfl, ?_⟩) | ((with_reducible refine gate_dst (N := 16) rfl ?_); refine Kd.R_lit (Kd.int .i64) _ 29 ?hg (N := 16) ?hd (xs := ([t166, t167] : List Int)) (inner := [.int .i64 t166, .int .i64 t167]) (ok := fun _ => True) (okp := fun _ => True) ?hr ?hp (fun _ hk => hk) trivial (Below.refl _ _) (Nat.le_refl _) (by simp) ?_; (case hd => rfl); (case hg => rfl); (case hr => first | (go_simp; done) | (go_simp; rfl)); (case hp => exact (Reps.one (show Kd.M (Kd.int .i64) _ _ _ t166 [.int .i64 t166] from rfl) (Reps.one (show Kd.M (Kd.int .i64) _ _ _ t167 [.int .i64 t167] from rfl) (Reps.none _ _)))); intro v169 w13 ho14 hb hg_ hnew_; clear hg_ hnew_; (first | rw [← Ny168.out] at ho14 | (simp only [Int.reduceToNat] at ho14; rw [← Ny168.out] at ho14)); have HO170 := Aside0.mk (Kd.R_lower ho14 (below_size hb_)); replace BK164 := Aside0.mk (blk_below (g := gb164) (o := .cells #[.bool a0_0, .string a0_1, .string a0_2] 23 (0, 0)) (by (with_reducible repeat (first | refine blk_drewN ?_ _ | refine blk_drew ?_ | refine blk_alloc ?_ _)); exact BK164.out) hb); replace BK165 := Aside0.mk (blk_below (g := gb165) (o := .cells #[.bool false, .string (⟨#[]⟩ : ByteArray), .string (⟨#[]⟩ : ByteArray)] 23 (0, 0)) (by (with_reducible repeat (first | refine blk_drewN ?_ _ | refine blk_drew ?_ | refine blk_alloc ?_ _)); exact BK165.out) hb); replace HB := Aside0.mk (below_step hb_ hb); clear hb ho14; obtain ⟨Ao15, co15, eo15⟩ := Kd.R_slice HO170.out; subst eo15) | ((with_reducible refine gate_callee (f := 32) rfl ?_); refine gL_ (some 17) Tryz.func32 #[.slice Ao15 y168.length co15] ?_; (with_reducible refine (idiomref02_First.calls k _ _ y168 t171 _ ?side1 ?side2 A9.out).mono ?_); (case side1 => repeat (first | exact (Kd.R_reads' HO170.out).2.2 | (with_reducible refine Kd.C_alloc ?_ _) | (with_reducible refine Kd.C_drewN ?_ _) | (with_reducible refine Kd.C_drew ?_))); (case side2 => exact (Kd.R_reads' HO170.out).2.1); rintro e w' ⟨rfl, ⟨nd, rfl⟩⟩; refine ⟨_, rfl, ?_⟩))
   go_meet
   case rel => exact ⟨_, (t171), (by first | rfl | (simp; done) | (simp [*]; done)), H', ⟨by first | omega | exact Nat.le_refl _⟩, ⟨by (with_reducible repeat (first | refine blk_drewN ?_ _ | refine blk_drew ?_ | refine blk_alloc ?_ _)); exact BK164.out⟩, ⟨by (with_reducible repeat (first | refine blk_drewN ?_ _ | refine blk_drew ?_ | refine blk_alloc ?_ _)); exact BK165.out⟩, ⟨hb_⟩⟩
  ·rw [if_neg c7] at H
   have c7b0 : decide (a1 < 0) = false := decide_eq_false c7
   clear c7
   (first | rw [c7b0] | (simp only [i64_w, i32_w]; rw [c7b0]) | skip)
   replace H := Option.bind_eq_some_iff.mp H
   obtain ⟨t172, A160, H⟩ := H
   try dsimp only at H
   have A16 := Aside0.mk A160
   clear A160
   obtain ⟨y173, hy173⟩ : ∃ y_ : List Int, y_ = (([t166, t172] : List Int)) := ⟨_, rfl⟩
   rw [← hy173] at H
   have Ny173 := Aside0.mk hy173
   clear hy173
   replace H := Option.bind_eq_some_iff.mp H
   obtain ⟨t176, A170, H⟩ := H
   try dsimp only at H
   have A17 := Aside0.mk A170
   clear A170
   have H' := Aside0.mk H
   clear H
   have hnb18 := NB164_165.out
   have hnc18 := NB165_164.out
   obtain ⟨hcz19_0, hcz19_1, hcz19_2, hfz19_0, hfz19_1, hfz19_2⟩ := BK164.c3
   go_wp2_with (first | ((with_reducible refine gate_callee (f := 33) rfl ?_); refine gL_ (some 8) Tryz.func33 #[.agg #[.bool a0_0, .string a0_1, .string a0_2]] ?_; (with_reducible refine (idiomref02_Check.calls k a0_0 a0_1 a0_2 t166 _ A6.out).mono ?_); rintro e w20 ⟨rfl, hb⟩; refine ⟨_, rfl, ?_⟩; replace BK164 := Aside0.mk (blk_below (g := gb164) (o := .cells #[.bool a0_0, .string a0_1, .string a0_2] 23 (0, 0)) (by (with_reducible repeat (first | refine blk_drewN ?_ _ | refine blk_drew ?_ | refine blk_alloc ?_ _)); exact BK164.out) hb); replace BK165 := Aside0.mk (blk_below (g := gb165) (o := .cells #[.bool false, .string (⟨#[]⟩ : ByteArray), .string (⟨#[]⟩ : ByteArray)] 23 (0, 0)) (by (with_reducible repeat (first | refine blk_drewN ?_ _ | refine blk_drew ?_ | refine blk_alloc ?_ _)); exact BK165.out) hb); replace HB := Aside0.mk (below_step hb_ hb)) | ((with_reducible refine gate_callee (f := 34) rfl ?_); refine gL_ (some 15) Tryz.func34 #[.bool (decide (a1 > 40)), .int .i64 1] ?_; (with_reducible refine (idiomref02_If.calls (decide (a1 > 40)) 1 t172 _ A16.out).mono ?_); rintro e w' ⟨rfl, ⟨nd, rfl⟩⟩; refine ⟨_, rfl, ?_⟩) | ((with_reducible refine gate_dst (N := 16) rfl ?_); refine Kd.R_lit (Kd.int .i64) _ 29 ?hg (N := 16) ?hd (xs := ([t166, t172] : List Int)) (inner := [.int .i64 t166, .int .i64 t172]) (ok := fun _ => True) (okp := fun _ => True) ?hr ?hp (fun _ hk => hk) trivial (Below.refl _ _) (Nat.le_refl _) (by simp) ?_; (case hd => rfl); (case hg => rfl); (case hr => first | (go_simp; done) | (go_simp; rfl)); (case hp => exact (Reps.one (show Kd.M (Kd.int .i64) _ _ _ t166 [.int .i64 t166] from rfl) (Reps.one (show Kd.M (Kd.int .i64) _ _ _ t172 [.int .i64 t172] from rfl) (Reps.none _ _)))); intro v174 w21 ho22 hb hg_ hnew_; clear hg_ hnew_; (first | rw [← Ny173.out] at ho22 | (simp only [Int.reduceToNat] at ho22; rw [← Ny173.out] at ho22)); have HO175 := Aside0.mk (Kd.R_lower ho22 (below_size hb_)); replace BK164 := Aside0.mk (blk_below (g := gb164) (o := .cells #[.bool a0_0, .string a0_1, .string a0_2] 23 (0, 0)) (by (with_reducible repeat (first | refine blk_drewN ?_ _ | refine blk_drew ?_ | refine blk_alloc ?_ _)); exact BK164.out) hb); replace BK165 := Aside0.mk (blk_below (g := gb165) (o := .cells #[.bool false, .string (⟨#[]⟩ : ByteArray), .string (⟨#[]⟩ : ByteArray)] 23 (0, 0)) (by (with_reducible repeat (first | refine blk_drewN ?_ _ | refine blk_drew ?_ | refine blk_alloc ?_ _)); exact BK165.out) hb); replace HB := Aside0.mk (below_step hb_ hb); clear hb ho22; obtain ⟨Ao23, co23, eo23⟩ := Kd.R_slice HO175.out; subst eo23) | ((with_reducible refine gate_callee (f := 32) rfl ?_); refine gL_ (some 17) Tryz.func32 #[.slice Ao23 y173.length co23] ?_; (with_reducible refine (idiomref02_First.calls k _ _ y173 t176 _ ?side1 ?side2 A17.out).mono ?_); (case side1 => repeat (first | exact (Kd.R_reads' HO175.out).2.2 | (with_reducible refine Kd.C_alloc ?_ _) | (with_reducible refine Kd.C_drewN ?_ _) | (with_reducible refine Kd.C_drew ?_))); (case side2 => exact (Kd.R_reads' HO175.out).2.1); rintro e w' ⟨rfl, ⟨nd, rfl⟩⟩; refine ⟨_, rfl, ?_⟩))
   go_meet
   case rel => exact ⟨_, (t176), (by first | rfl | (simp; done) | (simp [*]; done)), H', ⟨by first | omega | exact Nat.le_refl _⟩, ⟨by (with_reducible repeat (first | refine blk_drewN ?_ _ | refine blk_drew ?_ | refine blk_alloc ?_ _)); exact BK164.out⟩, ⟨by (with_reducible repeat (first | refine blk_drewN ?_ _ | refine blk_drew ?_ | refine blk_alloc ?_ _)); exact BK165.out⟩, ⟨hb_⟩⟩
 case rest =>
  clear HC3
  obtain ⟨kq, x6_2, rfl, HA, HJ2, BK164, BK165, HB⟩ := hcut
  cases kq with
  | zero => exact absurd HA.out (by simp [idiomref02_Pad.j0])
  | succ kj2 =>
   have H := HA.out
   clear HA
   simp only [idiomref02_Pad.j0] at H
   by_cases c24 : x6_2 = 0
   ·rw [if_pos c24] at H
    have c24b0 : (x6_2 == 0) = true := beq_iff_eq.mpr c24
    have c24b1 : (x6_2 != 0) = false := bne_eq_false_iff_eq.mpr c24
    clear c24
    have H' := Aside0.mk H
    clear H
    go_wp2
    go_loopg [] kj2 (fun kq w' => ∃ (x165002_2 : ByteArray), Aside0 (idiomref02_Pad.l0 kq a1 a0_0 a0_1 x165002_2 = some (r1, r2, r3, r4)) ∧ Aside0 (kq ≤ kj2) ∧ Aside0 (w'.heap[gb164]? = some (.cells #[.bool a0_0, .string a0_1, .string x165002_2] 23 (0, 0))) ∧ Aside0 (w'.heap[gb165]? = some (.cells #[.bool false, .string (⟨#[]⟩ : ByteArray), .string (⟨#[]⟩ : ByteArray)] 23 (0, 0))) ∧ Aside0 (Below w.heap.size w w'))
    case atStart => exact ⟨(a0_2), H', ⟨Nat.le_refl _⟩, ⟨by (with_reducible repeat (first | refine blk_drewN ?_ _ | refine blk_drew ?_ | refine blk_alloc ?_ _)); exact BK164.out⟩, ⟨by (with_reducible repeat (first | refine blk_drewN ?_ _ | refine blk_drew ?_ | refine blk_alloc ?_ _)); exact BK165.out⟩, ⟨hb_⟩⟩
    case round =>
     clear H'
     (try clear c24); (try clear c24b0); (try clear c24b1)
     obtain ⟨x165002_2, HA, HK2, BK164, BK165, HB⟩ := hrel
     cases gk with
     | zero => exact absurd HA.out (by simp [idiomref02_Pad.l0])
     | succ k2 =>
      have H := HA.out
      clear HA
      simp only [idiomref02_Pad.l0] at H
      by_cases c25 : (x165002_2.size : Int) < a1
      ·rw [if_pos c25] at H
       have c25b0 : decide ((x165002_2.size : Int) < a1) = true := decide_eq_true c25
       clear c25
       by_cases c26 : x165002_2.size + 1 ≤ 9223372036854775807
       ·rw [if_pos c26] at H
        have c26b0 := eq_true c26
        have c26b1 : decide (x165002_2.size + 1 ≤ 9223372036854775807) = true := decide_eq_true c26
        try have c26b2 : (9223372036854775807 < x165002_2.size + 1) = False := eq_false (Nat.not_lt.2 c26)
        have H' := Aside0.mk H
        clear H
        have hnb27 := NB164_165.out
        have hnc27 := NB165_164.out
        obtain ⟨hcz28_0, hcz28_1, hcz28_2, hfz28_0, hfz28_1, hfz28_2⟩ := BK164.c3
        go_wp2
        go_roundg k2
        case measure => have := HJ2.out; have := HK2.out; omega
        case rel => exact ⟨(x165002_2 ++ (⟨#[48]⟩ : ByteArray)), H', ⟨by have := HJ2.out; have := HK2.out; omega⟩, ⟨by (with_reducible repeat (first | refine blk_drewN ?_ _ | refine blk_drew ?_ | refine blk_alloc ?_ _)); refine blk_put (cs := #[.bool a0_0, .string a0_1, .string x165002_2]) ?_ 2 _ rfl; (with_reducible repeat (first | refine blk_drewN ?_ _ | refine blk_drew ?_ | refine blk_alloc ?_ _)); exact BK164.out⟩, ⟨by (with_reducible repeat (first | refine blk_drewN ?_ _ | refine blk_drew ?_ | refine blk_alloc ?_ _)); refine blk_far ?_ NB165_164.out _; (with_reducible repeat (first | refine blk_drewN ?_ _ | refine blk_drew ?_ | refine blk_alloc ?_ _)); exact BK165.out⟩, ⟨hb_⟩⟩
       ·rw [if_neg c26] at H
        exact absurd H (by simp)
      ·rw [if_neg c25] at H
       have c25b0 : decide ((x165002_2.size : Int) < a1) = false := decide_eq_false c25
       clear c25
       by_cases c29 : (wrap64 ((a0_1.size : Int) + (x165002_2.size : Int))) > 40
       ·rw [if_pos c29] at H
        have c29b0 : decide (40 < (wrap64 ((a0_1.size : Int) + (x165002_2.size : Int)))) = true := decide_eq_true c29
        clear c29
        simp only [Option.some.injEq, Prod.mk.injEq] at H
        obtain ⟨rfl, rfl, rfl, rfl⟩ := H
        have hnb30 := NB164_165.out
        have hnc30 := NB165_164.out
        obtain ⟨hcz31_0, hcz31_1, hcz31_2, hfz31_0, hfz31_1, hfz31_2⟩ := BK164.c3
        obtain ⟨hcz32_0, hcz32_1, hcz32_2, hfz32_0, hfz32_1, hfz32_2⟩ := BK165.c3
        go_wp2
        refine bodyPost_ret (results_ct rfl _ _ gb165 23 #[.bool false, .string (⟨#[]⟩ : ByteArray), .string (⟨#[]⟩ : ByteArray)] (0, 0) _ rfl (by (with_reducible repeat (first | refine blk_drewN ?_ _ | refine blk_drew ?_ | refine blk_alloc ?_ _)); refine blk_put (cs := #[.bool false, .string (⟨#[]⟩ : ByteArray), .string (⟨#[]⟩ : ByteArray)]) ?_ 2 _ rfl; (with_reducible repeat (first | refine blk_drewN ?_ _ | refine blk_drew ?_ | refine blk_alloc ?_ _)); refine blk_put (cs := #[.bool false, .string (⟨#[]⟩ : ByteArray), .string (⟨#[]⟩ : ByteArray)]) ?_ 1 _ rfl; (with_reducible repeat (first | refine blk_drewN ?_ _ | refine blk_drew ?_ | refine blk_alloc ?_ _)); refine blk_put (cs := #[.bool false, .string (⟨#[]⟩ : ByteArray), .string (⟨#[]⟩ : ByteArray)]) ?_ 0 _ rfl; (with_reducible repeat (first | refine blk_drewN ?_ _ | refine blk_drew ?_ | refine blk_alloc ?_ _)); exact BK165.out) Tryz.underlying23 rfl (by kernel_rfl)) rfl ?_
        exact fin_
       ·rw [if_neg c29] at H
        have c29b0 : decide (40 < (wrap64 ((a0_1.size : Int) + (x165002_2.size : Int)))) = false := decide_eq_false c29
        clear c29
        simp only [Option.some.injEq, Prod.mk.injEq] at H
        obtain ⟨rfl, rfl, rfl, rfl⟩ := H
        have hnb33 := NB164_165.out
        have hnc33 := NB165_164.out
        obtain ⟨hcz34_0, hcz34_1, hcz34_2, hfz34_0, hfz34_1, hfz34_2⟩ := BK164.c3
        obtain ⟨hcz35_0, hcz35_1, hcz35_2, hfz35_0, hfz35_1, hfz35_2⟩ := BK165.c3
        go_wp2
        refine bodyPost_ret (results_ct rfl _ _ gb165 23 #[.bool a0_0, .string a0_1, .string x165002_2] (0, 0) _ rfl (by (with_reducible repeat (first | refine blk_drewN ?_ _ | refine blk_drew ?_ | refine blk_alloc ?_ _)); refine blk_put (cs := #[.bool a0_0, .string a0_1, .string (⟨#[]⟩ : ByteArray)]) ?_ 2 _ rfl; (with_reducible repeat (first | refine blk_drewN ?_ _ | refine blk_drew ?_ | refine blk_alloc ?_ _)); refine blk_put (cs := #[.bool a0_0, .string (⟨#[]⟩ : ByteArray), .string (⟨#[]⟩ : ByteArray)]) ?_ 1 _ rfl; (with_reducible repeat (first | refine blk_drewN ?_ _ | refine blk_drew ?_ | refine blk_alloc ?_ _)); refine blk_put (cs := #[.bool false, .string (⟨#[]⟩ : ByteArray), .string (⟨#[]⟩ : ByteArray)]) ?_ 0 _ rfl; (with_reducible repeat (first | refine blk_drewN ?_ _ | refine blk_drew ?_ | refine blk_alloc ?_ _)); exact BK165.out) Tryz.underlying23 rfl (by kernel_rfl)) rfl ?_
        exact fin_
   ·rw [if_neg c24] at H
    have c24b0 : (x6_2 == 0) = false := beq_eq_false_iff_ne.mpr c24
    have c24b1 : (x6_2 != 0) = true := bne_iff_ne.mpr c24
    simp only [Option.some.injEq, Prod.mk.injEq] at H
    obtain ⟨rfl, rfl, rfl, rfl⟩ := H
    have hnb36 := NB165_164.out
    have hnc36 := NB164_165.out
    obtain ⟨hcz37_0, hcz37_1, hcz37_2, hfz37_0, hfz37_1, hfz37_2⟩ := BK165.c3
    go_wp2
    refine bodyPost_ret (results_ct rfl _ _ gb165 23 #[.bool false, .string (⟨#[]⟩ : ByteArray), .string (⟨#[]⟩ : ByteArray)] (0, 0) _ rfl (by (with_reducible repeat (first | refine blk_drewN ?_ _ | refine blk_drew ?_ | refine blk_alloc ?_ _)); refine blk_put (cs := #[.bool false, .string (⟨#[]⟩ : ByteArray), .string (⟨#[]⟩ : ByteArray)]) ?_ 2 _ rfl; (with_reducible repeat (first | refine blk_drewN ?_ _ | refine blk_drew ?_ | refine blk_alloc ?_ _)); refine blk_put (cs := #[.bool false, .string (⟨#[]⟩ : ByteArray), .string (⟨#[]⟩ : ByteArray)]) ?_ 1 _ rfl; (with_reducible repeat (first | refine blk_drewN ?_ _ | refine blk_drew ?_ | refine blk_alloc ?_ _)); refine blk_put (cs := #[.bool false, .string (⟨#[]⟩ : ByteArray), .string (⟨#[]⟩ : ByteArray)]) ?_ 0 _ rfl; (with_reducible repeat (first | refine blk_drewN ?_ _ | refine blk_drew ?_ | refine blk_alloc ?_ _)); exact BK165.out) Tryz.underlying23 rfl (by kernel_rfl)) rfl ?_
    exact fin_
attribute [local go_sem] max2_int max_two
set_option linter.unusedVariables false
set_option linter.unusedSimpArgs false
def decimal_divided.f (k : Nat) (a0_0 : Bool) (a0_1 : ByteArray) (a0_2 : ByteArray) (a1_0 : Bool) (a1_1 : ByteArray) (a1_2 : ByteArray) : Option (List Int × List Int × Int × Int) := (decimal_both.f k a0_0 a0_1 a0_2 a1_0 a1_1 a1_2).bind fun t371 => (if t371 = 0 then ((decimal_aligned.f k a0_0 a0_1 a0_2 a1_0 a1_1 a1_2).bind fun bt372 => (if (bt372.2.1.length : Int) = 0 then (some (([] : List Int), ([] : List Int), 0, 21)) else ((decimal_digits_by.f k bt372.1 bt372.2.1).bind fun bt379 => (some (bt379.1, bt379.2, bt372.2.2, 0))))) else (some (([] : List Int), ([] : List Int), 0, t371)))
set_option maxHeartbeats 8000000 in
set_option maxRecDepth 100000 in
theorem decimal_divided.calls (k : Nat) (a0_0 : Bool) (a0_1 : ByteArray) (a0_2 : ByteArray) (a1_0 : Bool) (a1_1 : ByteArray) (a1_2 : ByteArray) (r1 : List Int) (r2 : List Int) (r3 : Int) (r4 : Int) (w : World) (h : decimal_divided.f k a0_0 a0_1 a0_2 a1_0 a1_1 a1_2 = some (r1, r2, r3, r4)) :
    Calls Tryz.prog 41 #[.agg #[.bool a0_0, .string a0_1, .string a0_2], .agg #[.bool a1_0, .string a1_1, .string a1_2]] w fun e w' => ∃ v0_ v1_ : Value, e = .returned (.tuple #[v0_, v1_, .int .i64 r3, .int .i64 r4]) ∧ Kd.V (Kd.int .u8) 5 w' w.heap.size (fun k_ => (w.heap.size ≤ k_)) v0_ r1 ∧ Kd.V (Kd.int .u8) 5 w' w.heap.size (fun k_ => (w.heap.size ≤ k_)) v1_ r2 ∧ Below w.heap.size w w' := by
 have hu23 := Tryz.underlying23
 have HB := Aside0.mk (Below.refl w.heap.size w)
 unfold decimal_divided.f at h
 have H := h
 clear h
 replace H := Option.bind_eq_some_iff.mp H
 obtain ⟨t371, A30, H⟩ := H
 try dsimp only at H
 have A3 := Aside0.mk A30
 clear A30
 have HF4 := Aside0.mk H
 clear H
 go_enter Tryz.func41, Tryz.ntmps41
 go_upto_if 15 with (first | ((with_reducible refine gate_dst (N := 2) rfl ?_); refine bx_ #[.bool a0_0, .string a0_1, .string a0_2] 23 ?_; intro gb369 hg w5 hbox hb; have BK369 := Aside0.mk (hbox); have GW369 := ge_ (w := w) hg; have GE369 := ge_ (w := w) hg; replace HB := Aside0.mk (below_step hb_ hb); clear hb hbox hg) | ((with_reducible refine gate_dst (N := 3) rfl ?_); refine bx_ #[.bool a1_0, .string a1_1, .string a1_2] 23 ?_; intro gb370 hg w6 hbox hb; have BK370 := Aside0.mk (hbox); have GW370 := ge_ (w := w) hg; have GE370 := ge_ (w := w) hg; have NB369_370 := BK369.nl hg; have NB370_369 := BK369.ng hg; replace BK369 := BK369.bl hb; replace HB := Aside0.mk (below_step hb_ hb); clear hb hbox hg; have hnb7 := NB369_370.out; have hnc7 := NB370_369.out; obtain ⟨hcz8_0, hcz8_1, hcz8_2, hfz8_0, hfz8_1, hfz8_2⟩ := BK369.c3; obtain ⟨hcz9_0, hcz9_1, hcz9_2, hfz9_0, hfz9_1, hfz9_2⟩ := BK370.c3) | ((with_reducible refine gate_callee (f := 46) rfl ?_); refine gL_ (some 13) Tryz.func46 #[.agg #[.bool a0_0, .string a0_1, .string a0_2], .agg #[.bool a1_0, .string a1_1, .string a1_2]] ?_; (with_reducible refine (decimal_both.calls k a0_0 a0_1 a0_2 a1_0 a1_1 a1_2 t371 _ A3.out).mono ?_); rintro e w10 ⟨rfl, hb⟩; refine ⟨_, rfl, ?_⟩; replace BK369 := BK369.bl hb; replace BK370 := BK370.bl hb; replace HB := Aside0.mk (below_step hb_ hb)))
 (try simp only [Act.put, List.setIfInBounds_toArray, List.set_cons_zero, List.set_cons_succ])
 have H := HF4.out
 clear HF4
 by_cases c11 : t371 = 0
 ·rw [if_pos c11] at H
  have c11b0 : (t371 == 0) = true := beq_iff_eq.mpr c11
  have c11b1 : (t371 != 0) = false := bne_eq_false_iff_eq.mpr c11
  clear c11
  (first | rw [c11b0] | (simp only [i64_w, i32_w]; rw [c11b0]) | rw [c11b1] | skip)
  replace H := Option.bind_eq_some_iff.mp H
  obtain ⟨⟨t372, t375, t378⟩, A120, H⟩ := H
  try dsimp only at H
  have A12 := Aside0.mk A120
  clear A120
  have HF13 := Aside0.mk H
  clear H
  have hnb14 := NB369_370.out
  have hnc14 := NB370_369.out
  obtain ⟨hcz15_0, hcz15_1, hcz15_2, hfz15_0, hfz15_1, hfz15_2⟩ := BK369.c3
  obtain ⟨hcz16_0, hcz16_1, hcz16_2, hfz16_0, hfz16_1, hfz16_2⟩ := BK370.c3
  go_upto_if 26 with (first | ((with_reducible refine gate_callee (f := 47) rfl ?_); refine gL_ (some 20) Tryz.func47 #[.agg #[.bool a0_0, .string a0_1, .string a0_2], .agg #[.bool a1_0, .string a1_1, .string a1_2]] ?_; (with_reducible refine (decimal_aligned.calls k a0_0 a0_1 a0_2 a1_0 a1_1 a1_2 t372 t375 t378 _ A12.out).mono ?_); rintro e w17 ⟨v373, v376, rfl, ho0, ho1, hb⟩; refine ⟨_, rfl, ?_⟩; have HO374 := Aside0.mk (Kd.V_lower (Kd.V_mono (ok' := fun k_ => (w.heap.size ≤ k_) ∧ k_ ≠ gb369 ∧ k_ ≠ gb370) ho0 (fun k_ hk_ => ⟨(Nat.le_trans (below_size hb_) hk_), (Kd.freshB (g := gb369) (o := .cells #[.bool a0_0, .string a0_1, .string a0_2] 23 (0, 0)) BK369.out k_ hk_), (Kd.freshB (g := gb370) (o := .cells #[.bool a1_0, .string a1_1, .string a1_2] 23 (0, 0)) BK370.out k_ hk_)⟩)) (below_size hb_)); have HO377 := Aside0.mk (Kd.V_lower (Kd.V_mono (ok' := fun k_ => (w.heap.size ≤ k_) ∧ k_ ≠ gb369 ∧ k_ ≠ gb370) ho1 (fun k_ hk_ => ⟨(Nat.le_trans (below_size hb_) hk_), (Kd.freshB (g := gb369) (o := .cells #[.bool a0_0, .string a0_1, .string a0_2] 23 (0, 0)) BK369.out k_ hk_), (Kd.freshB (g := gb370) (o := .cells #[.bool a1_0, .string a1_1, .string a1_2] 23 (0, 0)) BK370.out k_ hk_)⟩)) (below_size hb_)); replace BK369 := BK369.bl hb; replace BK370 := BK370.bl hb; replace HB := Aside0.mk (below_step hb_ hb); (try clear ho0); (try clear ho1); obtain ⟨Ao18, co18, eo18⟩ := Kd.V_slice HO377.out; subst eo18))
  (try simp only [Act.put, List.setIfInBounds_toArray, List.set_cons_zero, List.set_cons_succ])
  have H := HF13.out
  clear HF13
  by_cases c19 : (t375.length : Int) = 0
  ·rw [if_pos c19] at H
   have c19b0 : ((t375.length : Int) == 0) = true := beq_iff_eq.mpr c19
   have c19b1 : ((t375.length : Int) != 0) = false := bne_eq_false_iff_eq.mpr c19
   clear c19
   (first | rw [c19b0] | (simp only [i64_w, i32_w]; rw [c19b0]) | rw [c19b1] | skip)
   simp only [Option.some.injEq, Prod.mk.injEq] at H
   obtain ⟨rfl, rfl, rfl, rfl⟩ := H
   go_wp2
   refine bodyPost_ret (results_list (rs := [.tmp 4, .tmp 5, .tmp 6, .tmp 7]) rfl (by simp) (.tmp (.tmp (.tmp (.tmp .nil))))) rfl ?_
   exact ⟨_, _, by first | rfl | (simp [errW_none, errW_some] <;> rfl) | (simp [*, errW_none, errW_some] <;> rfl) | (simp [bne_nil_]; done), Kd.V_nil _ _ _ _ _, Kd.V_nil _ _ _ _ _, hb_⟩
  ·rw [if_neg c19] at H
   have c19b0 : ((t375.length : Int) == 0) = false := beq_eq_false_iff_ne.mpr c19
   have c19b1 : ((t375.length : Int) != 0) = true := bne_iff_ne.mpr c19
   have c19b2 : ¬ (t375 = []) := fun h_ => c19 (by rw [h_]; rfl)
   (first | rw [c19b0] | (simp only [i64_w, i32_w]; rw [c19b0]) | rw [c19b1] | skip)
   replace H := Option.bind_eq_some_iff.mp H
   obtain ⟨⟨t379, t382⟩, A200, H⟩ := H
   try dsimp only at H
   have A20 := Aside0.mk A200
   clear A200
   simp only [Option.some.injEq, Prod.mk.injEq] at H
   obtain ⟨rfl, rfl, rfl, rfl⟩ := H
   obtain ⟨Ao21, co21, eo21⟩ := Kd.V_slice HO374.out
   subst eo21
   go_wp2_with (first | ((with_reducible refine gate_callee (f := 75) rfl ?_); refine gL_ (some 30) Tryz.func75 #[.slice Ao21 t372.length co21, .slice Ao18 t375.length co18] ?_; (with_reducible refine (decimal_digits_by.calls k _ _ t372 _ _ t375 t379 t382 _ ?side1 ?side2 ?side3 ?side4 A20.out).mono ?_); (case side1 => repeat (first | exact (Kd.V_reads' HO374.out).2.2 | (with_reducible refine Kd.C_alloc ?_ _) | (with_reducible refine Kd.C_drewN ?_ _) | (with_reducible refine Kd.C_drew ?_))); (case side2 => exact (Kd.V_reads' HO374.out).2.1); (case side3 => repeat (first | exact (Kd.V_reads' HO377.out).2.2 | (with_reducible refine Kd.C_alloc ?_ _) | (with_reducible refine Kd.C_drewN ?_ _) | (with_reducible refine Kd.C_drew ?_))); (case side4 => exact (Kd.V_reads' HO377.out).2.1); rintro e w22 ⟨v380, v383, rfl, ho0, ho1, hb⟩; refine ⟨_, rfl, ?_⟩; have HO381 := Aside0.mk (Kd.V_lower (Kd.V_mono (ok' := fun k_ => (w.heap.size ≤ k_) ∧ k_ ≠ gb369 ∧ k_ ≠ gb370) ho0 (fun k_ hk_ => ⟨(Nat.le_trans (below_size hb_) hk_), (Kd.freshB (g := gb369) (o := .cells #[.bool a0_0, .string a0_1, .string a0_2] 23 (0, 0)) BK369.out k_ hk_), (Kd.freshB (g := gb370) (o := .cells #[.bool a1_0, .string a1_1, .string a1_2] 23 (0, 0)) BK370.out k_ hk_)⟩)) (below_size hb_)); have HO384 := Aside0.mk (Kd.V_lower (Kd.V_mono (ok' := fun k_ => (w.heap.size ≤ k_) ∧ k_ ≠ gb369 ∧ k_ ≠ gb370) ho1 (fun k_ hk_ => ⟨(Nat.le_trans (below_size hb_) hk_), (Kd.freshB (g := gb369) (o := .cells #[.bool a0_0, .string a0_1, .string a0_2] 23 (0, 0)) BK369.out k_ hk_), (Kd.freshB (g := gb370) (o := .cells #[.bool a1_0, .string a1_1, .string a1_2] 23 (0, 0)) BK370.out k_ hk_)⟩)) (below_size hb_)); replace HO374 := Aside0.mk (Kd.V_below (by (with_reducible repeat (first | apply Kd.V_alloc | apply Kd.V_drewN | apply Kd.V_drew)); exact HO374.out) hb); replace HO377 := Aside0.mk (Kd.V_below (by (with_reducible repeat (first | apply Kd.V_alloc | apply Kd.V_drewN | apply Kd.V_drew)); exact HO377.out) hb); replace BK369 := BK369.bl hb; replace BK370 := BK370.bl hb; replace HB := Aside0.mk (below_step hb_ hb); (try clear ho0); (try clear ho1)))
   refine bodyPost_ret (results_list (rs := [.tmp 4, .tmp 5, .tmp 6, .tmp 7]) rfl (by simp) (.tmp (.tmp (.tmp (.tmp .nil))))) rfl ?_
   exact ⟨_, _, by first | rfl | (simp [errW_none, errW_some] <;> rfl) | (simp [*, errW_none, errW_some] <;> rfl) | (simp [bne_nil_]; done), by (with_reducible repeat (first | apply Kd.V_alloc | apply Kd.V_drewN | apply Kd.V_drew)); exact Kd.V_mono HO381.out (fun _ hk => hk.1), by (with_reducible repeat (first | apply Kd.V_alloc | apply Kd.V_drewN | apply Kd.V_drew)); exact Kd.V_mono HO384.out (fun _ hk => hk.1), hb_⟩
 ·rw [if_neg c11] at H
  have c11b0 : (t371 == 0) = false := beq_eq_false_iff_ne.mpr c11
  have c11b1 : (t371 != 0) = true := bne_iff_ne.mpr c11
  (first | rw [c11b0] | (simp only [i64_w, i32_w]; rw [c11b0]) | rw [c11b1] | skip)
  simp only [Option.some.injEq, Prod.mk.injEq] at H
  obtain ⟨rfl, rfl, rfl, rfl⟩ := H
  go_wp2
  refine bodyPost_ret (results_list (rs := [.tmp 4, .tmp 5, .tmp 6, .tmp 7]) rfl (by simp) (.tmp (.tmp (.tmp (.tmp .nil))))) rfl ?_
  exact ⟨_, _, by first | rfl | (simp [errW_none, errW_some] <;> rfl) | (simp [*, errW_none, errW_some] <;> rfl) | (simp [bne_nil_]; done), Kd.V_nil _ _ _ _ _, Kd.V_nil _ _ _ _ _, hb_⟩
attribute [local go_sem] max2_int max_two
set_option linter.unusedVariables false
set_option linter.unusedSimpArgs false
def decimal_Rem.f (k : Nat) (a0_0 : Bool) (a0_1 : ByteArray) (a0_2 : ByteArray) (a1_0 : Bool) (a1_1 : ByteArray) (a1_2 : ByteArray) : Option (Bool × ByteArray × ByteArray × Int) := (decimal_divided.f k a0_0 a0_1 a0_2 a1_0 a1_1 a1_2).bind fun bt388 => (if bt388.2.2.2 = 0 then ((decimal_made.f k a0_0 bt388.2.1 bt388.2.2.1).bind fun bt396 => (some (bt396.1, bt396.2.1, bt396.2.2.1, bt396.2.2.2))) else (some (false, (⟨#[]⟩ : ByteArray), (⟨#[]⟩ : ByteArray), bt388.2.2.2)))
set_option maxHeartbeats 8000000 in
set_option maxRecDepth 100000 in
theorem decimal_Rem.calls (k : Nat) (a0_0 : Bool) (a0_1 : ByteArray) (a0_2 : ByteArray) (a1_0 : Bool) (a1_1 : ByteArray) (a1_2 : ByteArray) (r1 : Bool) (r2 : ByteArray) (r3 : ByteArray) (r4 : Int) (w : World) (h : decimal_Rem.f k a0_0 a0_1 a0_2 a1_0 a1_1 a1_2 = some (r1, r2, r3, r4)) :
    Calls Tryz.prog 20 #[.agg #[.bool a0_0, .string a0_1, .string a0_2], .agg #[.bool a1_0, .string a1_1, .string a1_2]] w fun e w' => e = .returned (.tuple #[.agg #[.bool r1, .string r2, .string r3], .int .i64 r4]) ∧ Below w.heap.size w w' := by
 have hu23 := Tryz.underlying23
 have HB := Aside0.mk (Below.refl w.heap.size w)
 unfold decimal_Rem.f at h
 have H := h
 clear h
 replace H := Option.bind_eq_some_iff.mp H
 obtain ⟨⟨t388, t391, t394, t395⟩, A30, H⟩ := H
 try dsimp only at H
 have A3 := Aside0.mk A30
 clear A30
 have HF4 := Aside0.mk H
 clear H
 go_enter Tryz.func20, Tryz.ntmps20
 go_upto_if 19 with (first | ((with_reducible refine gate_dst (N := 2) rfl ?_); refine bx_ #[.bool a0_0, .string a0_1, .string a0_2] 23 ?_; intro gb385 hg w5 hbox hb; have BK385 := Aside0.mk (hbox); have GW385 := ge_ (w := w) hg; have GE385 := ge_ (w := w) hg; replace HB := Aside0.mk (below_step hb_ hb); clear hb hbox hg) | ((with_reducible refine gate_dst (N := 3) rfl ?_); refine bx_ #[.bool a1_0, .string a1_1, .string a1_2] 23 ?_; intro gb386 hg w6 hbox hb; have BK386 := Aside0.mk (hbox); have GW386 := ge_ (w := w) hg; have GE386 := ge_ (w := w) hg; have NB385_386 := BK385.nl hg; have NB386_385 := BK385.ng hg; replace BK385 := BK385.bl hb; replace HB := Aside0.mk (below_step hb_ hb); clear hb hbox hg) | ((with_reducible refine gate_dst (N := 4) rfl ?_); refine bx_ #[.bool false, .string (⟨#[]⟩ : ByteArray), .string (⟨#[]⟩ : ByteArray)] 23 ?_; intro gb387 hg w7 hbox hb; have BK387 := Aside0.mk (hbox); have GW387 := ge_ (w := w) hg; have GE387 := ge_ (w := w) hg; have NB385_387 := BK385.nl hg; have NB387_385 := BK385.ng hg; have NB386_387 := BK386.nl hg; have NB387_386 := BK386.ng hg; replace BK385 := BK385.bl hb; replace BK386 := BK386.bl hb; replace HB := Aside0.mk (below_step hb_ hb); clear hb hbox hg; have hnb8 := NB385_386.out; have hnc8 := NB386_385.out; have hnb9 := NB385_387.out; have hnc9 := NB387_385.out; obtain ⟨hcz10_0, hcz10_1, hcz10_2, hfz10_0, hfz10_1, hfz10_2⟩ := BK385.c3; have hnb11 := NB386_387.out; have hnc11 := NB387_386.out; obtain ⟨hcz12_0, hcz12_1, hcz12_2, hfz12_0, hfz12_1, hfz12_2⟩ := BK386.c3) | ((with_reducible refine gate_callee (f := 41) rfl ?_); refine gL_ (some 13) Tryz.func41 #[.agg #[.bool a0_0, .string a0_1, .string a0_2], .agg #[.bool a1_0, .string a1_1, .string a1_2]] ?_; (with_reducible refine (decimal_divided.calls k a0_0 a0_1 a0_2 a1_0 a1_1 a1_2 t388 t391 t394 t395 _ A3.out).mono ?_); rintro e w13 ⟨v389, v392, rfl, ho0, ho1, hb⟩; refine ⟨_, rfl, ?_⟩; have HO390 := Aside0.mk (Kd.V_lower (Kd.V_mono (ok' := fun k_ => k_ ≠ gb385 ∧ k_ ≠ gb386 ∧ k_ ≠ gb387) ho0 (fun k_ hk_ => ⟨(Kd.freshB (g := gb385) (o := .cells #[.bool a0_0, .string a0_1, .string a0_2] 23 (0, 0)) BK385.out k_ hk_), (Kd.freshB (g := gb386) (o := .cells #[.bool a1_0, .string a1_1, .string a1_2] 23 (0, 0)) BK386.out k_ hk_), (Kd.freshB (g := gb387) (o := .cells #[.bool false, .string (⟨#[]⟩ : ByteArray), .string (⟨#[]⟩ : ByteArray)] 23 (0, 0)) BK387.out k_ hk_)⟩)) (below_size hb_)); have HO393 := Aside0.mk (Kd.V_lower (Kd.V_mono (ok' := fun k_ => k_ ≠ gb385 ∧ k_ ≠ gb386 ∧ k_ ≠ gb387) ho1 (fun k_ hk_ => ⟨(Kd.freshB (g := gb385) (o := .cells #[.bool a0_0, .string a0_1, .string a0_2] 23 (0, 0)) BK385.out k_ hk_), (Kd.freshB (g := gb386) (o := .cells #[.bool a1_0, .string a1_1, .string a1_2] 23 (0, 0)) BK386.out k_ hk_), (Kd.freshB (g := gb387) (o := .cells #[.bool false, .string (⟨#[]⟩ : ByteArray), .string (⟨#[]⟩ : ByteArray)] 23 (0, 0)) BK387.out k_ hk_)⟩)) (below_size hb_)); replace BK385 := BK385.bl hb; replace BK386 := BK386.bl hb; replace BK387 := BK387.bl hb; replace HB := Aside0.mk (below_step hb_ hb); (try clear ho0); (try clear ho1)))
 (try simp only [Act.put, List.setIfInBounds_toArray, List.set_cons_zero, List.set_cons_succ])
 have H := HF4.out
 clear HF4
 by_cases c14 : t395 = 0
 ·rw [if_pos c14] at H
  have c14b0 : (t395 == 0) = true := beq_iff_eq.mpr c14
  have c14b1 : (t395 != 0) = false := bne_eq_false_iff_eq.mpr c14
  clear c14
  (first | rw [c14b0] | (simp only [i64_w, i32_w]; rw [c14b0]) | rw [c14b1] | skip)
  replace H := Option.bind_eq_some_iff.mp H
  obtain ⟨⟨t396, t397, t398, t399⟩, A150, H⟩ := H
  try dsimp only at H
  have A15 := Aside0.mk A150
  clear A150
  simp only [Option.some.injEq, Prod.mk.injEq] at H
  obtain ⟨rfl, rfl, rfl, rfl⟩ := H
  have hnb16 := NB385_386.out
  have hnc16 := NB386_385.out
  have hnb17 := NB385_387.out
  have hnc17 := NB387_385.out
  obtain ⟨hcz18_0, hcz18_1, hcz18_2, hfz18_0, hfz18_1, hfz18_2⟩ := BK385.c3
  obtain ⟨Ao19, co19, eo19⟩ := Kd.V_slice HO393.out
  subst eo19
  go_wp2_with (first | ((with_reducible refine gate_callee (f := 42) rfl ?_); refine gL_ (some 26) Tryz.func42 #[.bool a0_0, .slice Ao19 t391.length co19, .int .i64 t394] ?_; (with_reducible refine (decimal_made.calls k a0_0 _ _ t391 t394 t396 t397 t398 t399 _ ?side1 ?side2 A15.out).mono ?_); (case side1 => repeat (first | exact (Kd.V_reads' HO393.out).2.2 | (with_reducible refine Kd.C_alloc ?_ _) | (with_reducible refine Kd.C_drewN ?_ _) | (with_reducible refine Kd.C_drew ?_))); (case side2 => exact (Kd.V_reads' HO393.out).2.1); rintro e w20 ⟨rfl, hb⟩; refine ⟨_, rfl, ?_⟩; replace HO390 := Aside0.mk (Kd.V_below (by (with_reducible repeat (first | apply Kd.V_alloc | apply Kd.V_drewN | apply Kd.V_drew)); exact HO390.out) hb); replace HO393 := Aside0.mk (Kd.V_below (by (with_reducible repeat (first | apply Kd.V_alloc | apply Kd.V_drewN | apply Kd.V_drew)); exact HO393.out) hb); replace BK385 := BK385.bl hb; replace BK386 := BK386.bl hb; replace BK387 := BK387.bl hb; replace HB := Aside0.mk (below_step hb_ hb); have hnb21 := NB387_386.out; have hnc21 := NB386_387.out; obtain ⟨hcz22_0, hcz22_1, hcz22_2, hfz22_0, hfz22_1, hfz22_2⟩ := BK387.c3))
  refine bodyPost_ret (results_ct rfl _ _ gb387 23 #[.bool t396, .string t397, .string t398] (0, 0) _ rfl (by refine put3_ (cs := #[.bool false, .string (⟨#[]⟩ : ByteArray), .string (⟨#[]⟩ : ByteArray)]) ?_; exact BK387.out) Tryz.underlying23 rfl (by kernel_rfl)) rfl ?_
  exact fin_
 ·rw [if_neg c14] at H
  have c14b0 : (t395 == 0) = false := beq_eq_false_iff_ne.mpr c14
  have c14b1 : (t395 != 0) = true := bne_iff_ne.mpr c14
  (first | rw [c14b0] | (simp only [i64_w, i32_w]; rw [c14b0]) | rw [c14b1] | skip)
  simp only [Option.some.injEq, Prod.mk.injEq] at H
  obtain ⟨rfl, rfl, rfl, rfl⟩ := H
  have hnb23 := NB387_385.out
  have hnc23 := NB385_387.out
  have hnb24 := NB387_386.out
  have hnc24 := NB386_387.out
  obtain ⟨hcz25_0, hcz25_1, hcz25_2, hfz25_0, hfz25_1, hfz25_2⟩ := BK387.c3
  go_wp2
  refine bodyPost_ret (results_ct rfl _ _ gb387 23 #[.bool false, .string (⟨#[]⟩ : ByteArray), .string (⟨#[]⟩ : ByteArray)] (0, 0) _ rfl (by refine put3_ (cs := #[.bool false, .string (⟨#[]⟩ : ByteArray), .string (⟨#[]⟩ : ByteArray)]) ?_; exact BK387.out) Tryz.underlying23 rfl (by kernel_rfl)) rfl ?_
  exact fin_
attribute [local go_sem] max2_int max_two
set_option linter.unusedVariables false
set_option linter.unusedSimpArgs false
def idiomref02_divided.f (k : Nat) (a0_0 : Bool) (a0_1 : ByteArray) (a0_2 : ByteArray) (a1_0 : Bool) (a1_1 : ByteArray) (a1_2 : ByteArray) : Option (ByteArray × ByteArray × Int × Int) := (idiomref02_Check.f k a0_0 a0_1 a0_2).bind fun t444 => ((idiomref02_Check.f k a1_0 a1_1 a1_2).bind fun t445 => ((idiomref02_First.f k (([t444, t445] : List Int))).bind fun t449 => (if t449 = 0 then ((idiomref02_Nought.f k a1_0 a1_1 a1_2).bind fun t450 => (if t450 = true then (some ((⟨#[]⟩ : ByteArray), (⟨#[]⟩ : ByteArray), 0, 21)) else ((idiomref02_raised.f k a0_0 a0_1 a0_2 (mx (a0_2.size : Int) (a1_2.size : Int))).bind fun t451 => ((idiomref02_raised.f k a1_0 a1_1 a1_2 (mx (a0_2.size : Int) (a1_2.size : Int))).bind fun t452 => ((idiomref02_Over.f k t451 t452).bind fun bt453 => (some (bt453.1, bt453.2, mx (a0_2.size : Int) (a1_2.size : Int), 0))))))) else (some ((⟨#[]⟩ : ByteArray), (⟨#[]⟩ : ByteArray), 0, t449)))))
def idiomref02_divided.T7 : Bool × List (List Nat × List Nat) := (true, [([], []), ([], []), ([0, 1], [0, 1]), ([], []), ([], []), ([3, 4, 2], [3, 4]), ([2, 5, 5], [2, 5]), ([6], [6]), ([7], [7]), ([7], [7]), ([8, 6, 0, 1, 2, 3, 4, 5, 6, 7, 8], [8]), ([9, 10, 0, 1, 2, 3, 4, 5, 6, 7, 8, 9, 10], [9])])
def idiomref02_divided.B7 : List Nat := [0, 0, 3, 0, 0, 31, 63, 127, 255, 255, 511, 2047]
theorem idiomref02_divided.tab7 : rtab .any (opsOf Tryz.f44 7) = idiomref02_divided.T7 := by kernel_rfl
theorem idiomref02_divided.bits7 : waitsOk idiomref02_divided.T7.2 idiomref02_divided.B7 = true := by kernel_rfl
set_option maxHeartbeats 8000000 in
set_option maxRecDepth 100000 in
theorem idiomref02_divided.calls (k : Nat) (a0_0 : Bool) (a0_1 : ByteArray) (a0_2 : ByteArray) (a1_0 : Bool) (a1_1 : ByteArray) (a1_2 : ByteArray) (r1 : ByteArray) (r2 : ByteArray) (r3 : Int) (r4 : Int) (w : World) (h : idiomref02_divided.f k a0_0 a0_1 a0_2 a1_0 a1_1 a1_2 = some (r1, r2, r3, r4)) :
    Calls Tryz.prog 44 #[.agg #[.bool a0_0, .string a0_1, .string a0_2], .agg #[.bool a1_0, .string a1_1, .string a1_2]] w fun e w' => e = .returned (.tuple #[.string r1, .string r2, .int .i64 r3, .int .i64 r4]) ∧ Below w.heap.size w w' := by
 have hu23 := Tryz.underlying23
 have HB := Aside0.mk (Below.refl w.heap.size w)
 unfold idiomref02_divided.f at h
 have H := h
 clear h
 replace H := Option.bind_eq_some_iff.mp H
 obtain ⟨t444, A30, H⟩ := H
 try dsimp only at H
 have A3 := Aside0.mk A30
 clear A30
 replace H := Option.bind_eq_some_iff.mp H
 obtain ⟨t445, A40, H⟩ := H
 try dsimp only at H
 have A4 := Aside0.mk A40
 clear A40
 obtain ⟨y446, hy446⟩ : ∃ y_ : List Int, y_ = (([t444, t445] : List Int)) := ⟨_, rfl⟩
 rw [← hy446] at H
 have Ny446 := Aside0.mk hy446
 clear hy446
 replace H := Option.bind_eq_some_iff.mp H
 obtain ⟨t449, A50, H⟩ := H
 try dsimp only at H
 have A5 := Aside0.mk A50
 clear A50
 have HF6 := Aside0.mk H
 clear H
 go_enter Tryz.func44, Tryz.ntmps44
 try go_wp2_with (first | ((with_reducible refine gate_dst (N := 2) rfl ?_); refine bx_ #[.bool a0_0, .string a0_1, .string a0_2] 23 ?_; intro gb442 hg w7 hbox hb; have BK442 := Aside0.mk (hbox); have GW442 := ge_ (w := w) hg; have GE442 := ge_ (w := w) hg; replace HB := Aside0.mk (below_step hb_ hb); clear hb hbox hg) | ((with_reducible refine gate_dst (N := 3) rfl ?_); refine bx_ #[.bool a1_0, .string a1_1, .string a1_2] 23 ?_; intro gb443 hg w8 hbox hb; have BK443 := Aside0.mk (hbox); have GW443 := ge_ (w := w) hg; have GE443 := ge_ (w := w) hg; have NB442_443 := Aside0.mk ((by rw [hg]; exact Nat.ne_of_lt (blk_lt (g := gb442) (o := .cells #[.bool a0_0, .string a0_1, .string a0_2] 23 (0, 0)) (by (with_reducible repeat (first | refine blk_drewN ?_ _ | refine blk_drew ?_ | refine blk_alloc ?_ _)); exact BK442.out)) : gb442 ≠ gb443)); have NB443_442 := Aside0.mk ((by rw [hg]; exact Nat.ne_of_gt (blk_lt (g := gb442) (o := .cells #[.bool a0_0, .string a0_1, .string a0_2] 23 (0, 0)) (by (with_reducible repeat (first | refine blk_drewN ?_ _ | refine blk_drew ?_ | refine blk_alloc ?_ _)); exact BK442.out)) : gb443 ≠ gb442)); replace BK442 := Aside0.mk (blk_below (g := gb442) (o := .cells #[.bool a0_0, .string a0_1, .string a0_2] 23 (0, 0)) (by (with_reducible repeat (first | refine blk_drewN ?_ _ | refine blk_drew ?_ | refine blk_alloc ?_ _)); exact BK442.out) hb); replace HB := Aside0.mk (below_step hb_ hb); clear hb hbox hg))
 replace BK442 := Aside0.mk (blk_drew BK442.out)
 replace BK443 := Aside0.mk (blk_drew BK443.out)
 replace HB := Aside0.mk (below_drew1 HB.out)
 refine start_ (n := 7) (S := fun w' => w'.cell? ⟨gb442, 0, none⟩ = some (.bool a0_0) ∧ w'.cell? ⟨gb442, 1, none⟩ = some (.string a0_1) ∧ w'.cell? ⟨gb442, 2, none⟩ = some (.string a0_2) ∧ w'.cell? ⟨gb443, 0, none⟩ = some (.bool a1_0) ∧ w'.cell? ⟨gb443, 1, none⟩ = some (.string a1_1) ∧ w'.cell? ⟨gb443, 2, none⟩ = some (.string a1_2)) (ds := []) #[false, false, false, false, false, false, false] (by kernel_rfl) rfl rfl ⟨(blk_cell BK442.out 0).trans rfl, (blk_cell BK442.out 1).trans rfl, (blk_cell BK442.out 2).trans rfl, (blk_cell BK443.out 0).trans rfl, (blk_cell BK443.out 1).trans rfl, (blk_cell BK443.out 2).trans rfl⟩ (fun hHeld => ?_)
 generalize w8.drew = w9 at BK442 BK443 HB hHeld ⊢
 refine tk_ 0 (some 12) hHeld ?_
 refine tk_ 2 (some 14) hHeld ?_
 refine one_ (i := 1) (N := some 13) #[true, true, true, false, false, false, false] rfl rfl (by kernel_rfl) (by decide) (fun K hK => ?_)
 refine goes_ Tryz.func33 (by kernel_rfl) rfl #[.agg #[.bool a0_0, .string a0_1, .string a0_2]] (by rfl) rfl rfl ar_ ?_
 with_reducible refine (idiomref02_Check.calls k a0_0 a0_1 a0_2 t444 _ A3.out).mono ?_
 rintro e w10 ⟨rfl, hb⟩
 refine ⟨_, rfl, ?_⟩
 replace BK442 := Aside0.mk (blk_below (g := gb442) (o := .cells #[.bool a0_0, .string a0_1, .string a0_2] 23 (0, 0)) (by (with_reducible repeat (first | refine blk_drewN ?_ _ | refine blk_drew ?_ | refine blk_alloc ?_ _)); exact BK442.out) hb)
 replace BK443 := Aside0.mk (blk_below (g := gb443) (o := .cells #[.bool a1_0, .string a1_1, .string a1_2] 23 (0, 0)) (by (with_reducible repeat (first | refine blk_drewN ?_ _ | refine blk_drew ?_ | refine blk_alloc ?_ _)); exact BK443.out) hb)
 replace HB := Aside0.mk (below_step hb_ hb)
 (try clear hb)
 (try clear hb2)
 (try clear hk)
 (try clear hi)
 refine hK.out _ _ ⟨(blk_cell BK442.out 0).trans rfl, (blk_cell BK442.out 1).trans rfl, (blk_cell BK442.out 2).trans rfl, (blk_cell BK443.out 0).trans rfl, (blk_cell BK443.out 1).trans rfl, (blk_cell BK443.out 2).trans rfl⟩ (fun hHeld => ?_)
 clear hK K
 refine norm_ (a' := ?_) ?_ ?_
 rotate_left
 ·show Act.put _ (some 13) _ = _
  simp only [Act.put, List.setIfInBounds_toArray, List.set_cons_zero, List.set_cons_succ, i64_w, i32_w]
  rfl
 refine one_ (i := 3) (N := some 15) #[true, true, true, true, false, false, false] rfl rfl (by kernel_rfl) (by decide) (fun K hK => ?_)
 refine goes_ Tryz.func33 (by kernel_rfl) rfl #[.agg #[.bool a1_0, .string a1_1, .string a1_2]] (by rfl) rfl rfl ar_ ?_
 with_reducible refine (idiomref02_Check.calls k a1_0 a1_1 a1_2 t445 _ A4.out).mono ?_
 rintro e w11 ⟨rfl, hb⟩
 refine ⟨_, rfl, ?_⟩
 replace BK442 := Aside0.mk (blk_below (g := gb442) (o := .cells #[.bool a0_0, .string a0_1, .string a0_2] 23 (0, 0)) (by (with_reducible repeat (first | refine blk_drewN ?_ _ | refine blk_drew ?_ | refine blk_alloc ?_ _)); exact BK442.out) hb)
 replace BK443 := Aside0.mk (blk_below (g := gb443) (o := .cells #[.bool a1_0, .string a1_1, .string a1_2] 23 (0, 0)) (by (with_reducible repeat (first | refine blk_drewN ?_ _ | refine blk_drew ?_ | refine blk_alloc ?_ _)); exact BK443.out) hb)
 replace HB := Aside0.mk (below_step hb_ hb)
 (try clear hb)
 (try clear hb2)
 (try clear hk)
 (try clear hi)
 refine hK.out _ _ ⟨(blk_cell BK442.out 0).trans rfl, (blk_cell BK442.out 1).trans rfl, (blk_cell BK442.out 2).trans rfl, (blk_cell BK443.out 0).trans rfl, (blk_cell BK443.out 1).trans rfl, (blk_cell BK443.out 2).trans rfl⟩ (fun hHeld => ?_)
 clear hK K
 refine norm_ (a' := ?_) ?_ ?_
 rotate_left
 ·show Act.put _ (some 15) _ = _
  simp only [Act.put, List.setIfInBounds_toArray, List.set_cons_zero, List.set_cons_succ, i64_w, i32_w]
  rfl
 refine one_ (i := 4) (N := some 16) #[true, true, true, true, true, false, false] rfl rfl (by kernel_rfl) (by decide) (fun K hK => ?_)
 refine Kd.R_lit_step (Kd.int .i64) _ 29 ?hg (N := 16) ?hd (xs := ([t444, t445] : List Int)) (inner := [.int .i64 t444, .int .i64 t445]) (ok := fun _ => True) (okp := fun _ => True) ?hr ?hp (fun _ hk => hk) trivial (Below.refl _ _) (Nat.le_refl _) (by simp) ?_; (case hd => rfl); (case hg => rfl); (case hr => first | (go_simp; done) | (go_simp; rfl)); (case hp => exact (Reps.one (show Kd.M (Kd.int .i64) _ _ _ t444 [.int .i64 t444] from rfl) (Reps.one (show Kd.M (Kd.int .i64) _ _ _ t445 [.int .i64 t445] from rfl) (Reps.none _ _))))
 intro v447 w12 ho13 hb hg_ hnew_
 clear hg_ hnew_
 (first | rw [← Ny446.out] at ho13 | (simp only [Int.reduceToNat] at ho13; rw [← Ny446.out] at ho13))
 have HO448 := Aside0.mk (Kd.R_lower ho13 (below_size hb_))
 replace BK442 := Aside0.mk (blk_below (g := gb442) (o := .cells #[.bool a0_0, .string a0_1, .string a0_2] 23 (0, 0)) (by (with_reducible repeat (first | refine blk_drewN ?_ _ | refine blk_drew ?_ | refine blk_alloc ?_ _)); exact BK442.out) hb)
 replace BK443 := Aside0.mk (blk_below (g := gb443) (o := .cells #[.bool a1_0, .string a1_1, .string a1_2] 23 (0, 0)) (by (with_reducible repeat (first | refine blk_drewN ?_ _ | refine blk_drew ?_ | refine blk_alloc ?_ _)); exact BK443.out) hb)
 replace HB := Aside0.mk (below_step hb_ hb)
 clear hb ho13
 obtain ⟨Ao14, co14, eo14⟩ := Kd.R_slice HO448.out
 (first | subst eo14 | (injection eo14 with f1_ f2_ f3_; have f4_ := f1_.symm; have f5_ := f3_.symm; clear f1_ f2_ f3_; subst f4_; subst f5_))
 refine hK.out _ _ ⟨(blk_cell BK442.out 0).trans rfl, (blk_cell BK442.out 1).trans rfl, (blk_cell BK442.out 2).trans rfl, (blk_cell BK443.out 0).trans rfl, (blk_cell BK443.out 1).trans rfl, (blk_cell BK443.out 2).trans rfl⟩ (fun hHeld => ?_)
 clear hK K
 refine norm_ (a' := ?_) ?_ ?_
 rotate_left
 ·show Act.put _ (some 16) _ = _
  simp only [Act.put, List.setIfInBounds_toArray, List.set_cons_zero, List.set_cons_succ, i64_w, i32_w]
  rfl
 refine one_ (i := 5) (N := some 17) #[true, true, true, true, true, true, false] rfl rfl (by kernel_rfl) (by decide) (fun K hK => ?_)
 refine goes_ Tryz.func32 (by kernel_rfl) rfl #[.slice Ao14 y446.length co14] (by rfl) rfl rfl ar_ ?_
 with_reducible refine (idiomref02_First.calls k _ _ y446 t449 _ ?side1 ?side2 A5.out).mono ?_
 (case side1 => repeat (first | exact (Kd.R_reads' HO448.out).2.2 | (with_reducible refine Kd.C_alloc ?_ _) | (with_reducible refine Kd.C_drewN ?_ _) | (with_reducible refine Kd.C_drew ?_)))
 (case side2 => exact (Kd.R_reads' HO448.out).2.1)
 rintro e w' ⟨rfl, ⟨nd, rfl⟩⟩
 refine ⟨_, rfl, ?_⟩
 refine hK.out _ _ ⟨(blk_cell BK442.out 0).trans rfl, (blk_cell BK442.out 1).trans rfl, (blk_cell BK442.out 2).trans rfl, (blk_cell BK443.out 0).trans rfl, (blk_cell BK443.out 1).trans rfl, (blk_cell BK443.out 2).trans rfl⟩ (fun hHeld => ?_)
 clear hK K
 refine norm_ (a' := ?_) ?_ ?_
 rotate_left
 ·show Act.put _ (some 17) _ = _
  simp only [Act.put, List.setIfInBounds_toArray, List.set_cons_zero, List.set_cons_succ, i64_w, i32_w]
  rfl
 refine pr_ 6 (some 8) ?_
 refine done_ (by kernel_rfl) ?_
 go_upto_if 19 with (fail)
 have H := HF6.out
 clear HF6
 by_cases c15 : t449 = 0
 ·rw [if_pos c15] at H
  have c15b0 : (t449 == 0) = true := beq_iff_eq.mpr c15
  have c15b1 : (t449 != 0) = false := bne_eq_false_iff_eq.mpr c15
  clear c15
  (first | rw [c15b0] | (simp only [i64_w, i32_w]; rw [c15b0]) | rw [c15b1] | skip)
  replace H := Option.bind_eq_some_iff.mp H
  obtain ⟨t450, A160, H⟩ := H
  try dsimp only at H
  have A16 := Aside0.mk A160
  clear A160
  have HF17 := Aside0.mk H
  clear H
  have hnb18 := NB443_442.out
  have hnc18 := NB442_443.out
  obtain ⟨hcz19_0, hcz19_1, hcz19_2, hfz19_0, hfz19_1, hfz19_2⟩ := BK443.c3
  go_upto_if 22 with (first | ((with_reducible refine gate_callee (f := 63) rfl ?_); refine gL_ (some 22) Tryz.func63 #[.agg #[.bool a1_0, .string a1_1, .string a1_2]] ?_; (with_reducible refine (idiomref02_Nought.calls k a1_0 a1_1 a1_2 t450 _ A16.out).mono ?_); rintro e w20 ⟨rfl, hb⟩; refine ⟨_, rfl, ?_⟩; replace HO448 := Aside0.mk (Kd.R_below (by (with_reducible repeat (first | apply Kd.R_alloc | apply Kd.R_drewN | apply Kd.R_drew)); exact HO448.out) hb); replace BK442 := Aside0.mk (blk_below (g := gb442) (o := .cells #[.bool a0_0, .string a0_1, .string a0_2] 23 (0, 0)) (by (with_reducible repeat (first | refine blk_drewN ?_ _ | refine blk_drew ?_ | refine blk_alloc ?_ _)); exact BK442.out) hb); replace BK443 := Aside0.mk (blk_below (g := gb443) (o := .cells #[.bool a1_0, .string a1_1, .string a1_2] 23 (0, 0)) (by (with_reducible repeat (first | refine blk_drewN ?_ _ | refine blk_drew ?_ | refine blk_alloc ?_ _)); exact BK443.out) hb); replace HB := Aside0.mk (below_step hb_ hb)))
  (try simp only [Act.put, List.setIfInBounds_toArray, List.set_cons_zero, List.set_cons_succ])
  have H := HF17.out
  clear HF17
  by_cases c21 : t450 = true
  ·subst c21
   have H1 : (some ((⟨#[]⟩ : ByteArray), (⟨#[]⟩ : ByteArray), 0, 21)) = some (r1, r2, r3, r4) := by rw [if_pos rfl] at H; exact H
   clear H
   have H := H1
   clear H1
   simp only [Option.some.injEq, Prod.mk.injEq] at H
   obtain ⟨rfl, rfl, rfl, rfl⟩ := H
   go_wp2
   refine bodyPost_ret (results_list (rs := [.tmp 4, .tmp 5, .tmp 6, .tmp 7]) rfl (by simp) (.tmp (.tmp (.tmp (.tmp .nil))))) rfl ?_
   exact fin_
  ·replace c21 := Bool.eq_false_iff.mpr c21
   subst c21
   have H1 : ((idiomref02_raised.f k a0_0 a0_1 a0_2 (mx (a0_2.size : Int) (a1_2.size : Int))).bind fun t451 => ((idiomref02_raised.f k a1_0 a1_1 a1_2 (mx (a0_2.size : Int) (a1_2.size : Int))).bind fun t452 => ((idiomref02_Over.f k t451 t452).bind fun bt453 => (some (bt453.1, bt453.2, mx (a0_2.size : Int) (a1_2.size : Int), 0))))) = some (r1, r2, r3, r4) := by rw [if_neg (show ¬ (false = true) by decide)] at H; exact H
   clear H
   have H := H1
   clear H1
   obtain ⟨ji22, hji22⟩ : ∃ j_ : Int, (mx (a0_2.size : Int) (a1_2.size : Int)) = j_ := ⟨_, rfl⟩
   replace H : ((idiomref02_raised.f k a0_0 a0_1 a0_2 (ji22)).bind fun t451 => ((idiomref02_raised.f k a1_0 a1_1 a1_2 (ji22)).bind fun t452 => ((idiomref02_Over.f k t451 t452).bind fun bt453 => (some (bt453.1, bt453.2, ji22, 0))))) = some (r1, r2, r3, r4) := by first | (rw [hji22] at H; exact H) | (simp only [hji22] at H ⊢; exact H)
   (try (have hji22l : 0 ≤ ji22 := by (rw [← hji22]; unfold mx; (repeat' split) <;> omega)))
   (try (have hji22m : 0 ≤ ji22 := by omega))
   have hji22_ : (if (a0_2.size : Int) < (a1_2.size : Int) then (a1_2.size : Int) else (a0_2.size : Int)) = ji22 := hji22
   (try (have hji22n := hji22_; simp only [Int.ofNat_lt] at hji22n))
   replace H := Option.bind_eq_some_iff.mp H
   obtain ⟨t451, A230, H⟩ := H
   try dsimp only at H
   have A23 := Aside0.mk A230
   clear A230
   replace H := Option.bind_eq_some_iff.mp H
   obtain ⟨t452, A240, H⟩ := H
   try dsimp only at H
   have A24 := Aside0.mk A240
   clear A240
   replace H := Option.bind_eq_some_iff.mp H
   obtain ⟨⟨t453, t454⟩, A250, H⟩ := H
   try dsimp only at H
   have A25 := Aside0.mk A250
   clear A250
   simp only [Option.some.injEq, Prod.mk.injEq] at H
   obtain ⟨rfl, rfl, rfl, rfl⟩ := H
   have hnb26 := NB442_443.out
   have hnc26 := NB443_442.out
   obtain ⟨hcz27_0, hcz27_1, hcz27_2, hfz27_0, hfz27_1, hfz27_2⟩ := BK442.c3
   obtain ⟨hcz28_0, hcz28_1, hcz28_2, hfz28_0, hfz28_1, hfz28_2⟩ := BK443.c3
   try go_wp2
   replace HO448 := Aside0.mk (Kd.R_drew HO448.out)
   replace BK442 := Aside0.mk (blk_drew BK442.out)
   replace BK443 := Aside0.mk (blk_drew BK443.out)
   replace HB := Aside0.mk (below_drew1 HB.out)
   refine start_ (n := 12) (S := fun w' => w'.cell? ⟨gb442, 0, none⟩ = some (.bool a0_0) ∧ w'.cell? ⟨gb442, 1, none⟩ = some (.string a0_1) ∧ w'.cell? ⟨gb442, 2, none⟩ = some (.string a0_2) ∧ w'.cell? ⟨gb443, 0, none⟩ = some (.bool a1_0) ∧ w'.cell? ⟨gb443, 1, none⟩ = some (.string a1_1) ∧ w'.cell? ⟨gb443, 2, none⟩ = some (.string a1_2)) (ds := []) #[false, false, false, false, false, false, false, false, false, false, false, false] (by kernel_rfl) rfl rfl ⟨(blk_cell BK442.out 0).trans rfl, (blk_cell BK442.out 1).trans rfl, (blk_cell BK442.out 2).trans rfl, (blk_cell BK443.out 0).trans rfl, (blk_cell BK443.out 1).trans rfl, (blk_cell BK443.out 2).trans rfl⟩ (fun hHeld => ?_); refine with_tabW idiomref02_divided.tab7 idiomref02_divided.bits7 (fun HT_ HW_ => ?_)
   generalize w20.drew = w29 at HO448 BK442 BK443 HB hHeld ⊢
   refine pr_ 1 (some 32) ?_
   refine pr_ 4 (some 35) ?_
   refine tk_ 0 (some 31) hHeld ?_
   refine tk_ 3 (some 34) hHeld ?_
   refine one_ (i := 2) (N := some 33) #[true, true, true, true, true, false, false, false, false, false, false, false] rfl rfl (one_of HT_.out (by kernel_rfl)) (by decide) (fun K hK => ?_)
   refine goes_ Tryz.func57 (by kernel_rfl) rfl #[.agg #[.bool a0_0, .string a0_1, .string a0_2], .int .i64 ji22] (by rfl) rfl rfl (by (try simp only [List.map_toArray, List.map_cons, List.map_nil]); first | done | (simp only [hji22]; rfl) | rfl | (simp only [List.length_drop, List.length_take]; rfl)) ?_
   with_reducible refine (idiomref02_raised.calls k a0_0 a0_1 a0_2 ji22 t451 _ A23.out).mono ?_
   rintro e w30 ⟨rfl, hb⟩
   refine ⟨_, rfl, ?_⟩
   replace HO448 := Aside0.mk (Kd.R_below (by (with_reducible repeat (first | apply Kd.R_alloc | apply Kd.R_drewN | apply Kd.R_drew)); exact HO448.out) hb)
   replace BK442 := Aside0.mk (blk_below (g := gb442) (o := .cells #[.bool a0_0, .string a0_1, .string a0_2] 23 (0, 0)) (by (with_reducible repeat (first | refine blk_drewN ?_ _ | refine blk_drew ?_ | refine blk_alloc ?_ _)); exact BK442.out) hb)
   replace BK443 := Aside0.mk (blk_below (g := gb443) (o := .cells #[.bool a1_0, .string a1_1, .string a1_2] 23 (0, 0)) (by (with_reducible repeat (first | refine blk_drewN ?_ _ | refine blk_drew ?_ | refine blk_alloc ?_ _)); exact BK443.out) hb)
   replace HB := Aside0.mk (below_step hb_ hb)
   (try clear hb)
   (try clear hb2)
   (try clear hk)
   (try clear hi)
   refine hK.out _ _ ⟨(blk_cell BK442.out 0).trans rfl, (blk_cell BK442.out 1).trans rfl, (blk_cell BK442.out 2).trans rfl, (blk_cell BK443.out 0).trans rfl, (blk_cell BK443.out 1).trans rfl, (blk_cell BK443.out 2).trans rfl⟩ (fun hHeld => ?_)
   clear hK K
   refine norm_ (a' := ?_) ?_ ?_
   rotate_left
   ·show Act.put _ (some 33) _ = _
    simp only [Act.put, List.setIfInBounds_toArray, List.set_cons_zero, List.set_cons_succ, i64_w, i32_w]
    rfl
   refine one_ (i := 5) (N := some 36) #[true, true, true, true, true, true, false, false, false, false, false, false] rfl rfl (one_of HT_.out (by kernel_rfl)) (by decide) (fun K hK => ?_)
   refine goes_ Tryz.func57 (by kernel_rfl) rfl #[.agg #[.bool a1_0, .string a1_1, .string a1_2], .int .i64 ji22] (by rfl) rfl rfl (by (try simp only [List.map_toArray, List.map_cons, List.map_nil]); first | done | (simp only [hji22]; rfl) | rfl | (simp only [List.length_drop, List.length_take]; rfl)) ?_
   with_reducible refine (idiomref02_raised.calls k a1_0 a1_1 a1_2 ji22 t452 _ A24.out).mono ?_
   rintro e w31 ⟨rfl, hb⟩
   refine ⟨_, rfl, ?_⟩
   replace HO448 := Aside0.mk (Kd.R_below (by (with_reducible repeat (first | apply Kd.R_alloc | apply Kd.R_drewN | apply Kd.R_drew)); exact HO448.out) hb)
   replace BK442 := Aside0.mk (blk_below (g := gb442) (o := .cells #[.bool a0_0, .string a0_1, .string a0_2] 23 (0, 0)) (by (with_reducible repeat (first | refine blk_drewN ?_ _ | refine blk_drew ?_ | refine blk_alloc ?_ _)); exact BK442.out) hb)
   replace BK443 := Aside0.mk (blk_below (g := gb443) (o := .cells #[.bool a1_0, .string a1_1, .string a1_2] 23 (0, 0)) (by (with_reducible repeat (first | refine blk_drewN ?_ _ | refine blk_drew ?_ | refine blk_alloc ?_ _)); exact BK443.out) hb)
   replace HB := Aside0.mk (below_step hb_ hb)
   (try clear hb)
   (try clear hb2)
   (try clear hk)
   (try clear hi)
   refine hK.out _ _ ⟨(blk_cell BK442.out 0).trans rfl, (blk_cell BK442.out 1).trans rfl, (blk_cell BK442.out 2).trans rfl, (blk_cell BK443.out 0).trans rfl, (blk_cell BK443.out 1).trans rfl, (blk_cell BK443.out 2).trans rfl⟩ (fun hHeld => ?_)
   clear hK K
   refine norm_ (a' := ?_) ?_ ?_
   rotate_left
   ·show Act.put _ (some 36) _ = _
    simp only [Act.put, List.setIfInBounds_toArray, List.set_cons_zero, List.set_cons_succ, i64_w, i32_w]
    rfl
   refine one_ (i := 6) (N := some 37) #[true, true, true, true, true, true, true, false, false, false, false, false] rfl rfl (one_of HT_.out (by kernel_rfl)) (by decide) (fun K hK => ?_)
   refine goes_ Tryz.func77 (by kernel_rfl) rfl #[.string t451, .string t452] (by rfl) rfl rfl ar_ ?_
   with_reducible refine (idiomref02_Over.calls k t451 t452 t453 t454 _ A25.out).mono ?_
   rintro e w32 ⟨rfl, hb⟩
   refine ⟨_, rfl, ?_⟩
   replace HO448 := Aside0.mk (Kd.R_below (by (with_reducible repeat (first | apply Kd.R_alloc | apply Kd.R_drewN | apply Kd.R_drew)); exact HO448.out) hb)
   replace BK442 := Aside0.mk (blk_below (g := gb442) (o := .cells #[.bool a0_0, .string a0_1, .string a0_2] 23 (0, 0)) (by (with_reducible repeat (first | refine blk_drewN ?_ _ | refine blk_drew ?_ | refine blk_alloc ?_ _)); exact BK442.out) hb)
   replace BK443 := Aside0.mk (blk_below (g := gb443) (o := .cells #[.bool a1_0, .string a1_1, .string a1_2] 23 (0, 0)) (by (with_reducible repeat (first | refine blk_drewN ?_ _ | refine blk_drew ?_ | refine blk_alloc ?_ _)); exact BK443.out) hb)
   replace HB := Aside0.mk (below_step hb_ hb)
   (try clear hb)
   (try clear hb2)
   (try clear hk)
   (try clear hi)
   refine hK.out _ _ ⟨(blk_cell BK442.out 0).trans rfl, (blk_cell BK442.out 1).trans rfl, (blk_cell BK442.out 2).trans rfl, (blk_cell BK443.out 0).trans rfl, (blk_cell BK443.out 1).trans rfl, (blk_cell BK443.out 2).trans rfl⟩ (fun hHeld => ?_)
   clear hK K
   refine norm_ (a' := ?_) ?_ ?_
   rotate_left
   ·show Act.put _ (some 37) _ = _
    simp only [Act.put, List.setIfInBounds_toArray, List.set_cons_zero, List.set_cons_succ, i64_w, i32_w]
    rfl
   refine pr_ 7 (some 30) ?_
   refine pr_ 8 (some 38) ?_
   refine pr_ 9 (some 39) ?_
   refine pr_ 10 (some 10) ?_
   refine pr_ 11 (some 11) ?_
   refine done_ (done_of HT_.out (by kernel_rfl)) ?_
   try go_wp2
   refine bodyPost_ret (results_list (rs := [.tmp 4, .tmp 5, .tmp 6, .tmp 7]) rfl (by simp) (.tmp (.tmp (.tmp (.tmp .nil))))) rfl ?_
   exact ⟨by first | rfl | (simp [errW_none, errW_some] <;> rfl) | (simp only [← hji22]; first | rfl | (simp [errW_none, errW_some] <;> rfl)) | (simp [*, errW_none, errW_some] <;> rfl) | (simp [bne_nil_]; done), hb_⟩
 ·rw [if_neg c15] at H
  have c15b0 : (t449 == 0) = false := beq_eq_false_iff_ne.mpr c15
  have c15b1 : (t449 != 0) = true := bne_iff_ne.mpr c15
  (first | rw [c15b0] | (simp only [i64_w, i32_w]; rw [c15b0]) | rw [c15b1] | skip)
  simp only [Option.some.injEq, Prod.mk.injEq] at H
  obtain ⟨rfl, rfl, rfl, rfl⟩ := H
  go_wp2
  refine bodyPost_ret (results_list (rs := [.tmp 4, .tmp 5, .tmp 6, .tmp 7]) rfl (by simp) (.tmp (.tmp (.tmp (.tmp .nil))))) rfl ?_
  exact fin_
attribute [local go_sem] max2_int max_two
set_option linter.unusedVariables false
set_option linter.unusedSimpArgs false
def idiomref02_Rem.f (k : Nat) (a0_0 : Bool) (a0_1 : ByteArray) (a0_2 : ByteArray) (a1_0 : Bool) (a1_1 : ByteArray) (a1_2 : ByteArray) : Option (Bool × ByteArray × ByteArray × Int) := (idiomref02_divided.f k a0_0 a0_1 a0_2 a1_0 a1_1 a1_2).bind fun bt466 => (if bt466.2.2.2 = 0 then ((idiomref02_Make.f k a0_0 bt466.2.1 bt466.2.2.1).bind fun bt470 => (some (bt470.1, bt470.2.1, bt470.2.2.1, bt470.2.2.2))) else (some (false, (⟨#[]⟩ : ByteArray), (⟨#[]⟩ : ByteArray), bt466.2.2.2)))
set_option maxHeartbeats 8000000 in
set_option maxRecDepth 100000 in
theorem idiomref02_Rem.calls (k : Nat) (a0_0 : Bool) (a0_1 : ByteArray) (a0_2 : ByteArray) (a1_0 : Bool) (a1_1 : ByteArray) (a1_2 : ByteArray) (r1 : Bool) (r2 : ByteArray) (r3 : ByteArray) (r4 : Int) (w : World) (h : idiomref02_Rem.f k a0_0 a0_1 a0_2 a1_0 a1_1 a1_2 = some (r1, r2, r3, r4)) :
    Calls Tryz.prog 22 #[.agg #[.bool a0_0, .string a0_1, .string a0_2], .agg #[.bool a1_0, .string a1_1, .string a1_2]] w fun e w' => e = .returned (.tuple #[.agg #[.bool r1, .string r2, .string r3], .int .i64 r4]) ∧ Below w.heap.size w w' := by
 have hu23 := Tryz.underlying23
 have HB := Aside0.mk (Below.refl w.heap.size w)
 unfold idiomref02_Rem.f at h
 have H := h
 clear h
 replace H := Option.bind_eq_some_iff.mp H
 obtain ⟨⟨t466, t467, t468, t469⟩, A30, H⟩ := H
 try dsimp only at H
 have A3 := Aside0.mk A30
 clear A30
 have HF4 := Aside0.mk H
 clear H
 go_enter Tryz.func22, Tryz.ntmps22
 go_upto_if 19 with (first | ((with_reducible refine gate_dst (N := 2) rfl ?_); refine bx_ #[.bool a0_0, .string a0_1, .string a0_2] 23 ?_; intro gb463 hg w5 hbox hb; have BK463 := Aside0.mk (hbox); have GW463 := ge_ (w := w) hg; have GE463 := ge_ (w := w) hg; replace HB := Aside0.mk (below_step hb_ hb); clear hb hbox hg) | ((with_reducible refine gate_dst (N := 3) rfl ?_); refine bx_ #[.bool a1_0, .string a1_1, .string a1_2] 23 ?_; intro gb464 hg w6 hbox hb; have BK464 := Aside0.mk (hbox); have GW464 := ge_ (w := w) hg; have GE464 := ge_ (w := w) hg; have NB463_464 := BK463.nl hg; have NB464_463 := BK463.ng hg; replace BK463 := BK463.bl hb; replace HB := Aside0.mk (below_step hb_ hb); clear hb hbox hg) | ((with_reducible refine gate_dst (N := 4) rfl ?_); refine bx_ #[.bool false, .string (⟨#[]⟩ : ByteArray), .string (⟨#[]⟩ : ByteArray)] 23 ?_; intro gb465 hg w7 hbox hb; have BK465 := Aside0.mk (hbox); have GW465 := ge_ (w := w) hg; have GE465 := ge_ (w := w) hg; have NB463_465 := BK463.nl hg; have NB465_463 := BK463.ng hg; have NB464_465 := BK464.nl hg; have NB465_464 := BK464.ng hg; replace BK463 := BK463.bl hb; replace BK464 := BK464.bl hb; replace HB := Aside0.mk (below_step hb_ hb); clear hb hbox hg; have hnb8 := NB463_464.out; have hnc8 := NB464_463.out; have hnb9 := NB463_465.out; have hnc9 := NB465_463.out; obtain ⟨hcz10_0, hcz10_1, hcz10_2, hfz10_0, hfz10_1, hfz10_2⟩ := BK463.c3; have hnb11 := NB464_465.out; have hnc11 := NB465_464.out; obtain ⟨hcz12_0, hcz12_1, hcz12_2, hfz12_0, hfz12_1, hfz12_2⟩ := BK464.c3) | ((with_reducible refine gate_callee (f := 44) rfl ?_); refine gL_ (some 13) Tryz.func44 #[.agg #[.bool a0_0, .string a0_1, .string a0_2], .agg #[.bool a1_0, .string a1_1, .string a1_2]] ?_; (with_reducible refine (idiomref02_divided.calls k a0_0 a0_1 a0_2 a1_0 a1_1 a1_2 t466 t467 t468 t469 _ A3.out).mono ?_); rintro e w13 ⟨rfl, hb⟩; refine ⟨_, rfl, ?_⟩; replace BK463 := BK463.bl hb; replace BK464 := BK464.bl hb; replace BK465 := BK465.bl hb; replace HB := Aside0.mk (below_step hb_ hb)))
 (try simp only [Act.put, List.setIfInBounds_toArray, List.set_cons_zero, List.set_cons_succ])
 have H := HF4.out
 clear HF4
 by_cases c14 : t469 = 0
 ·rw [if_pos c14] at H
  have c14b0 : (t469 == 0) = true := beq_iff_eq.mpr c14
  have c14b1 : (t469 != 0) = false := bne_eq_false_iff_eq.mpr c14
  clear c14
  (first | rw [c14b0] | (simp only [i64_w, i32_w]; rw [c14b0]) | rw [c14b1] | skip)
  replace H := Option.bind_eq_some_iff.mp H
  obtain ⟨⟨t470, t471, t472, t473⟩, A150, H⟩ := H
  try dsimp only at H
  have A15 := Aside0.mk A150
  clear A150
  simp only [Option.some.injEq, Prod.mk.injEq] at H
  obtain ⟨rfl, rfl, rfl, rfl⟩ := H
  have hnb16 := NB463_464.out
  have hnc16 := NB464_463.out
  have hnb17 := NB463_465.out
  have hnc17 := NB465_463.out
  obtain ⟨hcz18_0, hcz18_1, hcz18_2, hfz18_0, hfz18_1, hfz18_2⟩ := BK463.c3
  go_wp2_with (first | ((with_reducible refine gate_callee (f := 45) rfl ?_); refine gL_ (some 26) Tryz.func45 #[.bool a0_0, .string t467, .int .i64 t468] ?_; (with_reducible refine (idiomref02_Make.calls k a0_0 t467 t468 t470 t471 t472 t473 _ A15.out).mono ?_); rintro e w19 ⟨rfl, hb⟩; refine ⟨_, rfl, ?_⟩; replace BK463 := BK463.bl hb; replace BK464 := BK464.bl hb; replace BK465 := BK465.bl hb; replace HB := Aside0.mk (below_step hb_ hb); have hnb20 := NB465_464.out; have hnc20 := NB464_465.out; obtain ⟨hcz21_0, hcz21_1, hcz21_2, hfz21_0, hfz21_1, hfz21_2⟩ := BK465.c3))
  refine bodyPost_ret (results_ct rfl _ _ gb465 23 #[.bool t470, .string t471, .string t472] (0, 0) _ rfl (by refine put3_ (cs := #[.bool false, .string (⟨#[]⟩ : ByteArray), .string (⟨#[]⟩ : ByteArray)]) ?_; exact BK465.out) Tryz.underlying23 rfl (by kernel_rfl)) rfl ?_
  exact fin_
 ·rw [if_neg c14] at H
  have c14b0 : (t469 == 0) = false := beq_eq_false_iff_ne.mpr c14
  have c14b1 : (t469 != 0) = true := bne_iff_ne.mpr c14
  (first | rw [c14b0] | (simp only [i64_w, i32_w]; rw [c14b0]) | rw [c14b1] | skip)
  simp only [Option.some.injEq, Prod.mk.injEq] at H
  obtain ⟨rfl, rfl, rfl, rfl⟩ := H
  have hnb22 := NB465_463.out
  have hnc22 := NB463_465.out
  have hnb23 := NB465_464.out
  have hnc23 := NB464_465.out
  obtain ⟨hcz24_0, hcz24_1, hcz24_2, hfz24_0, hfz24_1, hfz24_2⟩ := BK465.c3
  go_wp2
  refine bodyPost_ret (results_ct rfl _ _ gb465 23 #[.bool false, .string (⟨#[]⟩ : ByteArray), .string (⟨#[]⟩ : ByteArray)] (0, 0) _ rfl (by refine put3_ (cs := #[.bool false, .string (⟨#[]⟩ : ByteArray), .string (⟨#[]⟩ : ByteArray)]) ?_; exact BK465.out) Tryz.underlying23 rfl (by kernel_rfl)) rfl ?_
  exact fin_
end Go.Proofs.YtihjcaglhjepdaaGreatDoor.P
namespace Go.Proofs
open Go.Shelf
def Tryz.laysM171_ren : Go.Shelf.Ren := ⟨fun | 171 => 18 | 243 => 40 | 246 => 74 | 283 => 90 | 284 => 91 | 285 => 92 | 286 => 93 | 129 => 103 | 317 => 102 | 318 => 104 | 319 => 105 | 320 => 106 | 337 => 113 | 338 => 114 | n => n, fun | 3 => 3 | 9 => 9 | 2 => 2 | 4 => 4 | 171 => 117 | 0 => 0 | 53 => 113 | 37 => 62 | 5 => 5 | 173 => 120 | 212 => 130 | 51 => 110 | 20 => 20 | 213 => 131 | 46 => 88 | 232 => 143 | 233 => 144 | n => n, fun | 17 => 0 | 18 => 4 | 19 => 5 | n => n⟩
theorem Tryz.laysM171 : Go.Proofs.LaysM.n171 Tryz.prog Tryz.laysM171_ren := {
  mixed := by kernel_rfl
  f129 := Tryz.func103.trans (congrArg some (by kernel_rfl))
  f171 := Tryz.func18.trans (congrArg some (by kernel_rfl))
  f243 := Tryz.func40.trans (congrArg some (by kernel_rfl))
  f246 := Tryz.func74.trans (congrArg some (by kernel_rfl))
  f283 := Tryz.func90.trans (congrArg some (by kernel_rfl))
  f284 := Tryz.func91.trans (congrArg some (by kernel_rfl))
  f285 := Tryz.func92.trans (congrArg some (by kernel_rfl))
  f286 := Tryz.func93.trans (congrArg some (by kernel_rfl))
  f317 := Tryz.func102.trans (congrArg some (by kernel_rfl))
  f318 := Tryz.func104.trans (congrArg some (by kernel_rfl))
  f319 := Tryz.func105.trans (congrArg some (by kernel_rfl))
  f320 := Tryz.func106.trans (congrArg some (by kernel_rfl))
  f337 := Tryz.func113.trans (congrArg some (by kernel_rfl))
  f338 := Tryz.func114.trans (congrArg some (by kernel_rfl))
  t0 := Tryz.underlying0
  a0 := Tryz.isAgg0
  z0 := Tryz.sizeOf0
  v0 := Tryz.zeroValue0
  t2 := Tryz.underlying2
  a2 := Tryz.isAgg2
  z2 := Tryz.sizeOf2
  v2 := Tryz.zeroValue2
  t3 := Tryz.underlying3
  a3 := Tryz.isAgg3
  z3 := Tryz.sizeOf3
  v3 := Tryz.zeroValue3
  t4 := Tryz.underlying4
  a4 := Tryz.isAgg4
  z4 := Tryz.sizeOf4
  v4 := Tryz.zeroValue4
  t5 := Tryz.underlying5
  a5 := Tryz.isAgg5
  z5 := Tryz.sizeOf5
  v5 := Tryz.zeroValue5
  t9 := Tryz.underlying9
  a9 := Tryz.isAgg9
  z9 := Tryz.sizeOf9
  v9 := Tryz.zeroValue9
  t20 := Tryz.underlying20
  a20 := Tryz.isAgg20
  z20 := Tryz.sizeOf20
  v20 := Tryz.zeroValue20
  t37 := Tryz.underlying62
  a37 := Tryz.isAgg62
  z37 := Tryz.sizeOf62
  v37 := Tryz.zeroValue62
  t46 := Tryz.underlying88
  a46 := Tryz.isAgg88
  z46 := Tryz.sizeOf88
  v46 := Tryz.zeroValue88
  t51 := Tryz.underlying110
  a51 := Tryz.isAgg110
  z51 := Tryz.sizeOf110
  v51 := Tryz.zeroValue110
  t53 := Tryz.underlying113
  a53 := Tryz.isAgg113
  z53 := Tryz.sizeOf113
  v53 := Tryz.zeroValue113
  t171 := Tryz.underlying117
  a171 := Tryz.isAgg117
  z171 := Tryz.sizeOf117
  v171 := Tryz.zeroValue117
  t173 := Tryz.underlying120
  a173 := Tryz.isAgg120
  z173 := Tryz.sizeOf120
  v173 := Tryz.zeroValue120
  t212 := Tryz.underlying130
  a212 := Tryz.isAgg130
  z212 := Tryz.sizeOf130
  v212 := Tryz.zeroValue130
  t213 := Tryz.underlying131
  a213 := Tryz.isAgg131
  z213 := Tryz.sizeOf131
  t232 := Tryz.underlying143
  a232 := Tryz.isAgg143
  z232 := Tryz.sizeOf143
  v232 := Tryz.zeroValue143
  t233 := Tryz.underlying144
  a233 := Tryz.isAgg144
  z233 := Tryz.sizeOf144
  v233 := Tryz.zeroValue144
  g17 := by kernel_rfl
  g18 := by kernel_rfl
  g19 := by kernel_rfl
  i0 := by kernel_rfl
  i2 := by kernel_rfl
  i3 := by kernel_rfl
  i4 := by kernel_rfl
  i5 := by kernel_rfl
  i9 := by kernel_rfl
  i20 := by kernel_rfl
  i37 := by kernel_rfl
  i46 := by kernel_rfl
  i51 := by kernel_rfl
  i53 := by kernel_rfl
  i171 := by kernel_rfl
  i173 := by kernel_rfl
  i212 := by kernel_rfl
  i232 := by kernel_rfl
  i233 := by kernel_rfl
  m17 := by kernel_rfl
  m18 := by kernel_rfl
  m19 := by kernel_rfl }
open Go.RowKit Go.Sort Go.Lib in
theorem Tryz.strconv_Itoa (n : Int) (h0 : -9223372036854775808 ≤ n) (h1 : n ≤ 9223372036854775807) (w : World) (htab : Lib.TabIs Tryz.prog w "internal/strconv.uint64pow10" .u64 Lib.pow10Tab) :
    Calls Tryz.prog 18 #[.int .i64 n] w fun e w' => e = .returned (.string ⟨(Lib.itoa n).toArray⟩) ∧ ∃ k os, w' = grow (w.drewN k) os := Any.strconv_Itoa Tryz.laysM171 n h0 h1 w htab
end Go.Proofs
namespace Go.Proofs.YtihjcaglhjepdaaGreatDoor.P
open Go.RowKit Go.Proofs.YtihjcaglhjepdaaGreatDoorW.PrintWords Go.Proofs.YtihjcaglhjepdaaGreatDoorW.PrintLast Go.Proofs.YtihjcaglhjepdaaGreatDoorW.PrintMore
def TB (w : World) : Prop := Lib.TabIs Tryz.prog w "internal/strconv.uint64pow10" .u64 Lib.pow10Tab
theorem TB.below {w w' : World} (h : TB w) (hb : Below w.heap.size w w') : TB w' := by
 unfold TB Lib.TabIs World.var? at *
 cases hg : (Tryz.prog).globalNamed "internal/strconv.uint64pow10" with
 | none => simp [hg] at h
 | some g =>
  simp only [hg, Option.bind_some] at h ⊢
  have hlt : g < w.heap.size := by
   rcases Nat.lt_or_ge g w.heap.size with h' | h'
   ·exact h'
   ·rw [Array.getElem?_eq_none h'] at h; simp at h
  rw [hb.block g hlt]
  exact h
def strconv_Itoa.f (a0 : Int) : Option ByteArray :=
  if -9223372036854775808 ≤ a0 ∧ a0 ≤ 9223372036854775807 then some ⟨(Lib.itoa a0).toArray⟩ else none
theorem strconv_Itoa.calls (a0 : Int) (r : ByteArray) (w : World) (ht : TB w) (h : strconv_Itoa.f a0 = some r) :
    Calls Tryz.prog 18 #[.int .i64 a0] w fun e w' => e = .returned (.string r) ∧ Below w.heap.size w w' := by
 unfold strconv_Itoa.f at h
 split at h
 ·rename_i hc
  obtain ⟨h0, h1⟩ := hc
  obtain rfl := Option.some.inj h
  refine (Tryz.strconv_Itoa a0 h0 h1 w ht).mono ?_
  rintro e w' ⟨rfl, k, os, rfl⟩
  refine ⟨rfl, (pw_below_drewN (Below.refl _ w) k).trans ⟨rfl, rfl, rfl, by simp [Sort.grow], fun g hg => ?_⟩⟩
  have hg' : g < (w.drewN k).heap.size := hg
  show ((w.drewN k).heap ++ os)[g]? = _
  rw [Array.getElem?_append_left hg']
 ·cases h
attribute [local go_sem] max2_int max_two
set_option linter.unusedVariables false
set_option linter.unusedSimpArgs false
theorem eqA23 (d : Nat) (w : World) (x0 y0 : Bool) (x1 y1 : ByteArray) (x2 y2 : ByteArray) :
    (Op.equalIn (d + 2) 23 (.agg #[.bool x0, .string x1, .string x2]) (.agg #[.bool y0, .string y1, .string y2])).run Tryz.prog w = .ok (x0 == y0 && (x1.toList == y1.toList && (x2.toList == y2.toList))) w := by
 refine eqA_of Tryz.underlying23 (by kernel_rfl) ?_
 refine eqf_cons (by rfl) (by go_simp; rfl) (by go_simp; rfl) (by go_simp) ?_
 refine eqf_cons (by rfl) (by go_simp; rfl) (by go_simp; rfl) (by go_simp) ?_
 exact eqf_last (by rfl) (by go_simp; rfl) (by go_simp; rfl) (by go_simp)
attribute [local go_sem] max2_int max_two
set_option linter.unusedVariables false
set_option linter.unusedSimpArgs false
theorem eqA25 (d : Nat) (w : World) (x0 y0 : Bool) (x1 y1 : ByteArray) (x2 y2 : ByteArray) (x3 y3 : ByteArray) (x4 y4 : Int) (x5 y5 : Int) (x6 y6 : ByteArray) (x7 y7 : ByteArray) (x8 y8 : Int) :
    (Op.equalIn (d + 3) 25 (.agg #[.bool x0, .string x1, .string x2, .string x3, .int .i64 x4, .int .i64 x5, .string x6, .string x7, .int .i64 x8]) (.agg #[.bool y0, .string y1, .string y2, .string y3, .int .i64 y4, .int .i64 y5, .string y6, .string y7, .int .i64 y8])).run Tryz.prog w = .ok ((x0 == y0 && (x1.toList == y1.toList && (x2.toList == y2.toList))) && (x3.toList == y3.toList && (x4 == y4 && (x5 == y5 && (x6.toList == y6.toList && (x7.toList == y7.toList && (x8 == y8))))))) w := by
 refine eqA_of Tryz.underlying25 (by kernel_rfl) ?_
 refine eqf_cons (by rfl) (by go_simp) (by go_simp) (eqA23 (d + 0) w _ _ _ _ _ _) ?_
 refine eqf_cons (by rfl) (by go_simp; rfl) (by go_simp; rfl) (by go_simp) ?_
 refine eqf_cons (by rfl) (by go_simp; rfl) (by go_simp; rfl) (by go_simp) ?_
 refine eqf_cons (by rfl) (by go_simp; rfl) (by go_simp; rfl) (by go_simp) ?_
 refine eqf_cons (by rfl) (by go_simp; rfl) (by go_simp; rfl) (by go_simp) ?_
 refine eqf_cons (by rfl) (by go_simp; rfl) (by go_simp; rfl) (by go_simp) ?_
 exact eqf_last (by rfl) (by go_simp; rfl) (by go_simp; rfl) (by go_simp)
attribute [local go_sem] max2_int max_two
set_option linter.unusedVariables false
set_option linter.unusedSimpArgs false
def operand_whole.f (k : Nat) (a0 : ByteArray) : Option (ByteArray) := (strings_TrimLeft.f k a0 (⟨#[48]⟩ : ByteArray)).bind fun t118 => (if t118.toList = ([] : List UInt8) then (some (⟨#[48]⟩ : ByteArray)) else (some t118))
theorem operand_whole.mono : ∀ a0 k, LeO (operand_whole.f k a0) (operand_whole.f (k + 1) a0) := by
 intro a0 k
 unfold operand_whole.f
 repeat' first
   | (with_reducible exact strings_TrimLeft.mono _ _ _)
   | (with_reducible exact LeO.refl _)
   | (with_reducible exact LeO.none _)
   | (with_reducible refine LeO.ite ?_ ?_)
   | (with_reducible refine LeO.bind ?_ (fun _ => ?_))
   | exact strings_TrimLeft.mono _ _ _
   | exact LeO.none _
   | refine LeO.ite ?_ ?_
   | refine LeO.bind ?_ (fun _ => ?_)
set_option maxHeartbeats 8000000 in
set_option maxRecDepth 100000 in
theorem operand_whole.calls (k : Nat) (a0 : ByteArray) (r : ByteArray) (w : World) (h : operand_whole.f k a0 = some r) :
    Calls Tryz.prog 31 #[.string a0] w fun e w' => e = .returned (.string r) ∧ Below w.heap.size w w' := by
 have HB := Aside0.mk (Below.refl w.heap.size w)
 unfold operand_whole.f at h
 have H := h
 clear h
 replace H := Option.bind_eq_some_iff.mp H
 obtain ⟨t118, A20, H⟩ := H
 try dsimp only at H
 have A2 := Aside0.mk A20
 clear A20
 have HF3 := Aside0.mk H
 clear H
 go_enter Tryz.func31, Tryz.ntmps31
 go_upto_if 6 with (first | ((with_reducible refine gate_callee (f := 62) rfl ?_); refine gL_ (some 4) Tryz.func62 #[.string a0, .string (⟨#[48]⟩ : ByteArray)] ?_; (with_reducible refine (strings_TrimLeft.calls k a0 (⟨#[48]⟩ : ByteArray) t118 _ A2.out).mono ?_); rintro e w4 ⟨rfl, hb⟩; refine ⟨_, rfl, ?_⟩; replace HB := Aside0.mk (below_step hb_ hb)))
 (try simp only [Act.put, List.setIfInBounds_toArray, List.set_cons_zero, List.set_cons_succ])
 have H := HF3.out
 clear HF3
 by_cases c5 : t118.toList = ([] : List UInt8)
 ·rw [if_pos c5] at H
  have c5b0 : (t118.toList == ([] : List UInt8)) = true := beq_iff_eq.mpr c5
  have c5b1 : (t118.toList != ([] : List UInt8)) = false := bne_eq_false_iff_eq.mpr c5
  clear c5
  (first | rw [c5b0] | (simp only [i64_w, i32_w]; rw [c5b0]) | rw [c5b1] | rw [(by rw [← c5b0]; cases t118.toList <;> rfl : t118.toList.isEmpty = true)] | skip)
  obtain rfl := Option.some.inj H
  go_wp2
  go_ret
  exact fin_
 ·rw [if_neg c5] at H
  have c5b0 : (t118.toList == ([] : List UInt8)) = false := beq_eq_false_iff_ne.mpr c5
  have c5b1 : (t118.toList != ([] : List UInt8)) = true := bne_iff_ne.mpr c5
  (first | rw [c5b0] | (simp only [i64_w, i32_w]; rw [c5b0]) | rw [c5b1] | rw [(by rw [← c5b0]; cases t118.toList <;> rfl : t118.toList.isEmpty = false)] | skip)
  obtain rfl := Option.some.inj H
  go_wp2
  go_ret
  exact fin_
end Go.Proofs.YtihjcaglhjepdaaGreatDoor.P
