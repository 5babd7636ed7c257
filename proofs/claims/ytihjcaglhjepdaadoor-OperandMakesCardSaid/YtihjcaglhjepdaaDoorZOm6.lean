/- A part of the proof. -/
import Derived.Test.YtihjcaglhjepdaaDoorZOm5
import Derived.Test.YtihjcaglhjepdaaDoorTie
import Derived.Test.YtihjcaglhjepdaaDoorCards
import Derived.WalkKit
import Derived.ProofKit
import Derived.OpenShut
import Derived.ShutString
import Derived.ChangeOld
import Derived.Below
import Derived.SizedLaws
import Derived.LaidMore
import Derived.Lay
import Derived.SevenTiedAt
import Derived.Stop.Joined
import Derived.Lib.SmallJoins
import Derived.Lib.LaidTab
import Derived.LaidSub
namespace Go.Proofs.YtihjcaglhjepdaaDoor.R
open Go.ChangeShapes Go.WideShapes Go.ChangeAt Go.RowKit
open Go.ChangeMaps (open_string shut_string)
open Go.Joins (open_agg3 shut_agg3)
set_option linter.unusedVariables false
theorem own : ownKnob Tryd.prog.godebug = none := by kernel_rfl
section
variable {H : Type} {enc : TypeId × Value → H} {w : World} {base : Nat} {spare : Nat → Bool} {held : Bool}
set_option maxRecDepth 100000 in
theorem open_dec {r : Reach} {b0 : Nat} {v : Value} {d : DataW H} {p : List MemPlace} (hv : Value.okWide Tryd.prog w r b0 23 v) (h : DataW.Trod enc Tryd.prog w base spare held 23 v d p) :
    ∃ (n : Bool) (a b : ByteArray), v = .agg #[.bool n, .string a, .string b] ∧ d = .agg [.lit (.bool n), .lit (.string a.data.toList), .lit (.string b.data.toList)] ∧ p = [] ∧ a.size ≤ maxLen ∧ b.size ≤ maxLen := by
  obtain ⟨v0, v1, v2, y0, y1, y2, n, rfl, rfl, rfl, h0, h1, h2⟩ := open_agg3 Tryd.underlying23 (by kernel_rfl) (by kernel_rfl) hv h
  obtain ⟨b0, e0, rfl⟩ := DataW.trod_bool Tryd.underlying4 h0
  obtain ⟨s1, e1, rfl, z1⟩ := DataW.trod_string Tryd.underlying9 h1
  obtain ⟨s2, e2, rfl, z2⟩ := DataW.trod_string Tryd.underlying9 h2
  simp only [List.cons.injEq, and_true] at e0 e1 e2
  subst e0 e1 e2
  exact ⟨b0, s1, s2, rfl, rfl, rfl, z1, z2⟩
set_option maxRecDepth 100000 in
theorem shut_dec (n : Bool) (a b : ByteArray) (ha : a.size ≤ maxLen) (hb : b.size ≤ maxLen) :
    DataW.Trod enc Tryd.prog w base spare held 23 (.agg #[.bool n, .string a, .string b]) (.agg [.lit (.bool n), .lit (.string a.data.toList), .lit (.string b.data.toList)]) [] :=
  shut_agg3 Tryd.underlying23 (by kernel_rfl) (by kernel_rfl) (shut_bool Tryd.underlying4 n) (shut_string Tryd.underlying9 ha) (shut_string Tryd.underlying9 hb)
theorem mem_all {l : List Nat} (h : l.all (· ≤ reachBytes) = true) {n : Nat} (hn : n ∈ l) : n ≤ reachBytes := by
  have := List.all_eq_true.1 h n hn
  simpa using this
theorem sized_dec {ts : List TypeId} {ds : List (DataW H)} (h : (DataW.weightsEach Tryd.prog ts ds).all (· ≤ reachBytes) = true) {j : Nat} {n : Bool} {a b : ByteArray} (ht : ts[j]? = some 23)
    (hd : ds[j]? = some (.agg [.lit (.bool n), .lit (.string a.data.toList), .lit (.string b.data.toList)])) : a.size ≤ reachBytes ∧ b.size ≤ reachBytes := by
  have key : ∀ m ∈ DataW.weights Tryd.prog 23 (.agg [.lit (.bool n), .lit (.string a.data.toList), .lit (.string b.data.toList)] : DataW H), m ≤ reachBytes :=
    fun m hm => mem_all h (DataW.weights_mem_each ht hd m hm)
  have ha : a.data.toList.length = a.size := by rw [Array.length_toList]; rfl
  have hb : b.data.toList.length = b.size := by rw [Array.length_toList]; rfl
  rw [← ha, ← hb]
  constructor
  · exact key _ (by simp [DataW.weights, DataW.weightsEach, Tryd.underlying23])
  · exact key _ (by simp [DataW.weights, DataW.weightsEach, Tryd.underlying23])
theorem reach_fit : reachBytes ≤ 1000000000000000000 := by decide
end
end Go.Proofs.YtihjcaglhjepdaaDoor.R
namespace Go.Proofs.YtihjcaglhjepdaaDoor.R
open Go.ChangeShapes Go.WideShapes Go.ChangeAt Go.RowKit Go.Deep
open Go.ChangeMaps (open_string shut_string)
set_option linter.unusedVariables false
set_option linter.unusedSimpArgs false
theorem array9 {α : Type} {cs : Array α} (h : cs.size = 9) : ∃ c0 c1 c2 c3 c4 c5 c6 c7 c8, cs = #[c0, c1, c2, c3, c4, c5, c6, c7, c8] := by
  obtain ⟨l⟩ := cs
  match l, h with
  | [c0, c1, c2, c3, c4, c5, c6, c7, c8], _ => exact ⟨c0, c1, c2, c3, c4, c5, c6, c7, c8, rfl⟩
section
variable {H : Type} {enc : TypeId × Value → H} {w : World} {base : Nat} {spare : Nat → Bool} {held : Bool}
def opsV (n : Bool) (a b i : ByteArray) (v u : Int) (f t : ByteArray) (e : Int) : Value := .agg #[.bool n, .string a, .string b, .string i, .int .i64 v, .int .i64 u, .string f, .string t, .int .i64 e]
def opsD (n : Bool) (a b i : ByteArray) (v u : Int) (f t : ByteArray) (e : Int) : DataW H := .agg [.agg [.lit (.bool n), .lit (.string a.data.toList), .lit (.string b.data.toList)], .lit (.string i.data.toList), .lit (.int .i64 v), .lit (.int .i64 u), .lit (.string f.data.toList), .lit (.string t.data.toList), .lit (.int .i64 e)]
set_option maxRecDepth 100000 in
theorem open_ops {r : Reach} {b0 : Nat} {x : Value} {d : DataW H} {p : List MemPlace} (hv : Value.okWide Tryd.prog w r b0 45 x) (h : DataW.Trod enc Tryd.prog w base spare held 45 x d p) :
    ∃ (n : Bool) (a b i : ByteArray) (v u : Int) (f t : ByteArray) (e : Int), x = opsV n a b i v u f t e ∧ d = opsD n a b i v u f t e ∧ p = [] ∧ a.size ≤ maxLen ∧ b.size ≤ maxLen ∧ i.size ≤ maxLen ∧ (Lit.int .i64 v).wf = true ∧ (Lit.int .i64 u).wf = true ∧ f.size ≤ maxLen ∧ t.size ≤ maxLen ∧ (Lit.int .i64 e).wf = true := by
  obtain ⟨cs, rfl, hsz⟩ := okWide_struct Tryd.underlying45 hv
  obtain ⟨c0, c1, c2, c3, c4, c5, c6, c7, c8, rfl⟩ := array9 (hsz.trans (by kernel_rfl))
  obtain ⟨fuel, hf⟩ := h
  obtain ⟨xs, n, _, hx, _, hlen, hf⟩ := DataW.trod_struct Tryd.underlying45 hf
  have k23 : Tryd.prog.cellsOf 23 = 3 := by kernel_rfl
  have k9 : Tryd.prog.cellsOf 9 = 1 := by kernel_rfl
  have k3 : Tryd.prog.cellsOf 3 = 1 := by kernel_rfl
  match xs, hlen with
  | [y0, y1, y2, y3, y4, y5, y6], _ =>
    have g0 := hf 0 _ rfl
    have g1 := hf 1 _ rfl
    have g2 := hf 2 _ rfl
    have g3 := hf 3 _ rfl
    have g4 := hf 4 _ rfl
    have g5 := hf 5 _ rfl
    have g6 := hf 6 _ rfl
    simp [Value.cells, k23, k9, k3] at g0 g1 g2 g3 g4 g5 g6
    obtain ⟨z0, z1, z2, m, hz, _, q0, q1, q2⟩ := trod_struct3 Tryd.underlying23 g0
    simp [k9, show Tryd.prog.cellsOf 4 = 1 by kernel_rfl] at q0 q1 q2
    obtain ⟨n0, e0, rfl⟩ := DataW.trod_bool Tryd.underlying4 q0
    obtain ⟨s1, e1, rfl, j1⟩ := DataW.trod_string Tryd.underlying9 q1
    obtain ⟨s2, e2, rfl, j2⟩ := DataW.trod_string Tryd.underlying9 q2
    obtain ⟨s3, e3, rfl, j3⟩ := DataW.trod_string Tryd.underlying9 g1
    obtain ⟨i4, e4, rfl, j4⟩ := DataW.trod_int Tryd.underlying3 g2
    obtain ⟨i5, e5, rfl, j5⟩ := DataW.trod_int Tryd.underlying3 g3
    obtain ⟨s6, e6, rfl, j6⟩ := DataW.trod_string Tryd.underlying9 g4
    obtain ⟨s7, e7, rfl, j7⟩ := DataW.trod_string Tryd.underlying9 g5
    obtain ⟨i8, e8, rfl, j8⟩ := DataW.trod_int Tryd.underlying3 g6
    simp only [List.cons.injEq, and_true] at e0 e1 e2 e3 e4 e5 e6 e7 e8
    subst e0 e1 e2 e3 e4 e5 e6 e7 e8 hz
    simp only [Prod.mk.injEq, List.map_cons, List.map_nil, List.flatMap_cons, List.flatMap_nil, List.append_nil] at hx
    exact ⟨n0, s1, s2, s3, i4, i5, s6, s7, i8, rfl, hx.1, hx.2, j1, j2, j3, j4, j5, j6, j7, j8⟩
set_option maxRecDepth 100000 in
theorem shut_ops {n : Bool} {a b i : ByteArray} {v u : Int} {f t : ByteArray} {e : Int} (ha : a.size ≤ maxLen) (hb : b.size ≤ maxLen) (hi : i.size ≤ maxLen) (hv : (Lit.int .i64 v).wf = true) (hu : (Lit.int .i64 u).wf = true) (hf : f.size ≤ maxLen) (ht : t.size ≤ maxLen) (he : (Lit.int .i64 e).wf = true) :
    DataW.Trod enc Tryd.prog w base spare held 45 (opsV n a b i v u f t e) (opsD n a b i v u f t e) [] := by
  obtain ⟨k0, t0⟩ := shut_dec (enc := enc) (w := w) (base := base) (spare := spare) (held := held) n a b ha hb
  obtain ⟨k1, t1⟩ := shut_string (enc := enc) (w := w) (base := base) (sp := spare) (held := held) Tryd.underlying9 hi
  obtain ⟨k2, t2⟩ := shut_int (enc := enc) (w := w) (base := base) (spare := spare) (held := held) Tryd.underlying3 hv
  obtain ⟨k3, t3⟩ := shut_int (enc := enc) (w := w) (base := base) (spare := spare) (held := held) Tryd.underlying3 hu
  obtain ⟨k4, t4⟩ := shut_string (enc := enc) (w := w) (base := base) (sp := spare) (held := held) Tryd.underlying9 hf
  obtain ⟨k5, t5⟩ := shut_string (enc := enc) (w := w) (base := base) (sp := spare) (held := held) Tryd.underlying9 ht
  obtain ⟨k6, t6⟩ := shut_int (enc := enc) (w := w) (base := base) (spare := spare) (held := held) Tryd.underlying3 he
  have c23 : Tryd.prog.cellsOf 23 = 3 := by kernel_rfl
  have c9 : Tryd.prog.cellsOf 9 = 1 := by kernel_rfl
  have c3 : Tryd.prog.cellsOf 3 = 1 := by kernel_rfl
  have u0 := DataW.trod_le (show k0 ≤ k0 + k1 + k2 + k3 + k4 + k5 + k6 by omega) t0
  have u1 := DataW.trod_le (show k1 ≤ k0 + k1 + k2 + k3 + k4 + k5 + k6 by omega) t1
  have u2 := DataW.trod_le (show k2 ≤ k0 + k1 + k2 + k3 + k4 + k5 + k6 by omega) t2
  have u3 := DataW.trod_le (show k3 ≤ k0 + k1 + k2 + k3 + k4 + k5 + k6 by omega) t3
  have u4 := DataW.trod_le (show k4 ≤ k0 + k1 + k2 + k3 + k4 + k5 + k6 by omega) t4
  have u5 := DataW.trod_le (show k5 ≤ k0 + k1 + k2 + k3 + k4 + k5 + k6 by omega) t5
  have u6 := DataW.trod_le (show k6 ≤ k0 + k1 + k2 + k3 + k4 + k5 + k6 by omega) t6
  simp only [Value.cells] at u0 u1 u2 u3 u4 u5 u6
  refine ⟨k0 + k1 + k2 + k3 + k4 + k5 + k6 + 1, ?_⟩
  have := trod_struct_mk (enc := enc) (w := w) (base := base) (spare := spare) (held := held) (n := k0 + k1 + k2 + k3 + k4 + k5 + k6) (cs := [.bool n, .string a, .string b, .string i, .int .i64 v, .int .i64 u, .string f, .string t, .int .i64 e]) (xs := [_, _, _, _, _, _, _]) Tryd.underlying45
    (by kernel_rfl) (by
      simp [c23, c9, c3, u0, u1, u2, u3, u4, u5, u6]
      exact ⟨rfl, rfl, rfl, rfl, rfl, rfl, rfl⟩)
  exact this
theorem sized_ops {ts : List TypeId} {ds : List (DataW H)} (h : (DataW.weightsEach Tryd.prog ts ds).all (· ≤ reachBytes) = true) {j : Nat} {n : Bool} {a b i : ByteArray} {v u : Int} {f t : ByteArray} {e : Int} (ht : ts[j]? = some 45)
    (hd : ds[j]? = some (opsD n a b i v u f t e)) : a.size ≤ reachBytes ∧ b.size ≤ reachBytes ∧ i.size ≤ reachBytes ∧ f.size ≤ reachBytes ∧ t.size ≤ reachBytes := by
  have key : ∀ m ∈ DataW.weights Tryd.prog 45 (opsD n a b i v u f t e : DataW H), m ≤ reachBytes := fun m hm => mem_all h (DataW.weights_mem_each ht hd m hm)
  have sz : ∀ s : ByteArray, s.data.toList.length = s.size := fun s => by rw [Array.length_toList]; rfl
  rw [← sz a, ← sz b, ← sz i, ← sz f, ← sz t]
  refine ⟨key _ ?_, key _ ?_, key _ ?_, key _ ?_, key _ ?_⟩ <;> simp [opsD, DataW.weights, DataW.weightsEach, Tryd.underlying45, Tryd.underlying23]
end
end Go.Proofs.YtihjcaglhjepdaaDoor.R
namespace Go.Proofs.YtihjcaglhjepdaaDoor.ROperandMakes
open Go.ChangeShapes Go.WideShapes Go.ChangeAt Go.RowKit
open Go.ChangeMaps (open_string shut_string)
set_option linter.unusedVariables false
theorem tab_of {W : World} (h : laidMetH Tryd.prog Rows.operandMakesRow.laid W) : Lib.TabIs Tryd.prog W "internal/strconv.uint64pow10" .u64 Lib.pow10Tab := by
  have h1 := laidMetH.filter (fun x => x.1 == "internal/strconv.uint64pow10") h
  have e : (Rows.operandMakesRow.laid.filter fun x => x.1 == "internal/strconv.uint64pow10") = [("internal/strconv.uint64pow10", Lib.tabData .u64 Lib.pow10Tab)] := by kernel_rfl
  rw [e, MakeChecks.laidMetH_plain _ _ _ (by kernel_rfl)] at h1
  exact Lib.tabIs_of_head (g := 3) (t := 155) (e := 132) (n := 20) (by kernel_rfl) (by kernel_rfl) (by kernel_rfl) (by kernel_rfl) (by kernel_rfl) (by kernel_rfl) h1
set_option maxRecDepth 100000 in
theorem lifted (os : Os) (started : os.Started) (H : Type) (enc : TypeId × Value → H) :
    ReturnsInHanded {} Tryd.checked os 10 .any (fun w args => (Rows.operandMakesSpec.pre enc Tryd.prog Tryd.f10 Rows.operandMakesRow.domain false w args ∧ laidMetH Tryd.prog Rows.operandMakesRow.laid w) ∧ sizedMet enc Tryd.prog Tryd.f10 (OpenSpec.ofChange Rows.operandMakesSpec) false w args)
      (Rows.operandMakesSpec.post enc Tryd.prog Tryd.f10 false true false false) := by
  refine returnsInHanded_of_change_and (C := Tryd.checked) (X := fun w _ => laidMetH Tryd.prog Rows.operandMakesRow.laid w) (fun _ _ _ hh h => h.of_heap hh) R.own started (by kernel_rfl) Tryd.func10
    (ChangeSpec.witness_shaped (enc := enc) (C := Tryd.checked) (os := os) (X := fun w _ => laidMetH Tryd.prog Rows.operandMakesRow.laid w) false (World.laidAll Tryd.prog os Rows.operandMakesRow.laid) #[.agg #[.bool false, .string ByteArray.empty, .string ByteArray.empty], .int .i64 0, .agg #[.bool false, .string ByteArray.empty, .string ByteArray.empty, .string ByteArray.empty, .int .i64 0, .int .i64 0, .string ByteArray.empty, .string ByteArray.empty, .int .i64 0]] 8 (World.laidAll_os _ _ _)
      (World.shaped_of_ZipB (by kernel_rfl) (by kernel_rfl)) (by kernel_rfl) (by kernel_rfl) (by kernel_rfl)
      (by rw [MakeChecks.laidMetH_plain _ _ _ (by kernel_rfl)]; exact laidMet_laidAll _ (by kernel_rfl) (by kernel_rfl))) ?_
  intro W base args ds gs before hval0 hW hcnd hsz0 hx1_ hx2_
  have hsz : (DataW.weightsEach Tryd.prog (Tryd.f10.params.toList ++ Rows.operandMakesSpec.plain.varTypes Tryd.prog) (ds ++ gs)).all (· ≤ reachBytes) = true := hsz0
  have hval : ∀ (j : Nat) t v, Tryd.f10.params[j]? = some t → args[j]? = some v → Value.okWide Tryd.prog W .any base t v := hval0
  have hW' := hW
  obtain ⟨p, q, hA0, hV, rfl, hfz, hnd⟩ := hW
  have hA : DataW.TrodAll enc Tryd.prog W 0 (fun _ => true) true Tryd.f10.params.toList args.toList ds p := hA0
  rw [Tryd.params10] at hA hval hsz
  obtain ⟨v0, vs0, d0, ds0, p0, q0, hargs, rfl, rfl, h0, r0⟩ := trodAll_cons hA
  obtain ⟨v1, vs1, d1, ds1, p1, q1, rfl, rfl, rfl, h1, r1⟩ := trodAll_cons r0
  obtain ⟨v2, vs2, d2, ds2, p2, q2, rfl, rfl, rfl, h2, r2⟩ := trodAll_cons r1
  obtain ⟨rfl, rfl, rfl⟩ := trodAll_nil r2
  obtain rfl : args = #[v0, v1, v2] := by cases args; simp_all
  obtain ⟨rfl, rfl⟩ := trodVars_none hV
  obtain ⟨n0, a0, b0, rfl, rfl, rfl, ya0, yb0⟩ := R.open_dec (hval 0 23 v0 rfl rfl) h0
  obtain ⟨a1, rfl, rfl, rfl, w1⟩ := open_int Tryd.underlying3 (hval 1 3 v1 rfl rfl) h1
  obtain ⟨n2, a2, b2, i2, v2_, u2, f2, t2, e2, rfl, rfl, rfl, ya2, yb2, yi2, yv2, yu2, yf2, yt2, ye2⟩ := R.open_ops (hval 2 45 v2 rfl rfl) h2
  have z0 := R.sized_dec hsz (j := 0) rfl rfl
  have z2 := R.sized_ops hsz (j := 2) (n := n2) (v := v2_) (u := u2) (e := e2) rfl rfl
  clear hA0 hval0 hsz0 hsz
  obtain ⟨k, hk⟩ := Q.makes_law n0 a0 b0 a1 n2 a2 b2 i2 v2_ u2 f2 t2 e2 (Nat.le_trans z0.1 R.reach_fit) (Nat.le_trans z0.2 R.reach_fit) w1 (Nat.le_trans z2.1 R.reach_fit) (Nat.le_trans z2.2.1 R.reach_fit) (Nat.le_trans z2.2.2.1 R.reach_fit) yv2 yu2 (Nat.le_trans z2.2.2.2.1 R.reach_fit) (Nat.le_trans z2.2.2.2.2 R.reach_fit) ye2
  have htb : P.TB W := by first | exact tab_of hx1_ | exact tab_of hx2_ | exact tab_of hx1_.1 | exact tab_of hx1_.2
  refine (P.idiomlaw04_OperandMakes.calls k n0 a0 b0 a1 n2 a2 b2 i2 v2_ u2 f2 t2 e2 true W htb hk).mono fun e W' ⟨he, bel⟩ => ?_
  subst he
  exact ⟨_, rfl, _, _, _, [], _, [], hW', trodAll_mk1 (shut_bool Tryd.underlying4 _), (trodAll_cons_mk (R.shut_dec n0 a0 b0 ya0 yb0) (trodAll_cons_mk (shut_int Tryd.underlying3 w1) (trodAll_cons_mk (R.shut_ops ya2 yb2 yi2 yv2 yu2 yf2 yt2 ye2) trodAll_mk0))), rfl, bel.frame _, fun h => by cases h⟩
theorem over : Rows.OperandMakesSaid :=
  OpenClaim.holds_of_wide 10 Tryd.f10 rfl rfl rfl rfl rfl rfl rfl ⟨rfl, rfl, rfl, rfl, rfl⟩ rfl rfl rfl rfl rfl (by kernel_rfl) Tryd.func10 (by kernel_rfl)
    (of_decide_eq_true (by kernel_rfl)) (by unfold Func.isWrapper; first | (rw [if_pos (by decide +kernel)]; kernel_rfl) | (rw [if_neg (by decide +kernel)]; exact ⟨rfl, rfl⟩))
    (fun os started H enc _ => lifted os started H enc)
end Go.Proofs.YtihjcaglhjepdaaDoor.ROperandMakes
namespace Go.Proofs.YtihjcaglhjepdaaDoor
theorem operandMakes_holds : Rows.OperandMakesCardSaid :=
  Claim7.holds_tied_plain_at .later [] [.data, .data, .data, .data, .pinned] true (true, "dafd8735d843c9a93ae20bf10737f61b362ff45b2b916e64999ae59b55174d13") false ROperandMakes.over (fun _ h => by cases h) (by kernel_rfl) (fun _ h => by cases h) operandMakes_row_tie rfl ⟨rfl, rfl⟩ (by kernel_rfl) rfl
    (fun f fn hf hfn => by
      obtain rfl : f = 10 := Option.some.inj ((show Tryd.prog.funcNamed "idiom/idiomlaw04.OperandMakes" = some 10 by kernel_rfl).symm.trans hf) |>.symm
      obtain rfl : fn = Tryd.f10 := (Option.some.inj (Tryd.func10.symm.trans hfn)).symm
      exact ⟨by kernel_rfl, fun j t ht => by
        rw [Tryd.params10] at ht
        have hm : t ∈ [23, 3, 45] := by simpa using Array.mem_of_getElem? ht
        have hall : ([23, 3, 45].all fun u => !Tryd.prog.wantsStandIn u) = true := by kernel_rfl
        exact (show Tryd.prog.wantsStandIn t = false by simpa using List.all_eq_true.1 hall t hm)⟩)
    (by kernel_rfl)
#print axioms operandMakes_holds
end Go.Proofs.YtihjcaglhjepdaaDoor
