/- A part of the proof. -/
import Derived.Test.YtihjcaglhjepdaaDoorZOp4
import Derived.Test.YtihjcaglhjepdaaDoorTie
import Derived.Test.YtihjcaglhjepdaaDoorCards
import Derived.WalkKit
import Derived.ProofKit
import Derived.OpenShut
import Derived.ShutString
import Derived.ChangeOld
import Derived.Below
import Derived.SizedLaws
import Derived.LaidMore
import Derived.Lay
import Derived.SevenTiedAt
import Derived.Stop.Joined
import Derived.Lib.SmallJoins
import Derived.Lib.LaidTab
import Derived.LaidSub
namespace Go.Proofs.YtihjcaglhjepdaaDoor.R
open Go.ChangeShapes Go.WideShapes Go.ChangeAt Go.RowKit
open Go.ChangeMaps (open_string shut_string)
open Go.Joins (open_agg3 shut_agg3)
set_option linter.unusedVariables false
theorem own : ownKnob Tryd.prog.godebug = none := by kernel_rfl
section
variable {H : Type} {enc : TypeId × Value → H} {w : World} {base : Nat} {spare : Nat → Bool} {held : Bool}
set_option maxRecDepth 100000 in
theorem open_dec {r : Reach} {b0 : Nat} {v : Value} {d : DataW H} {p : List MemPlace} (hv : Value.okWide Tryd.prog w r b0 23 v) (h : DataW.Trod enc Tryd.prog w base spare held 23 v d p) :
    ∃ (n : Bool) (a b : ByteArray), v = .agg #[.bool n, .string a, .string b] ∧ d = .agg [.lit (.bool n), .lit (.string a.data.toList), .lit (.string b.data.toList)] ∧ p = [] ∧ a.size ≤ maxLen ∧ b.size ≤ maxLen := by
  obtain ⟨v0, v1, v2, y0, y1, y2, n, rfl, rfl, rfl, h0, h1, h2⟩ := open_agg3 Tryd.underlying23 (by kernel_rfl) (by kernel_rfl) hv h
  obtain ⟨b0, e0, rfl⟩ := DataW.trod_bool Tryd.underlying4 h0
  obtain ⟨s1, e1, rfl, z1⟩ := DataW.trod_string Tryd.underlying9 h1
  obtain ⟨s2, e2, rfl, z2⟩ := DataW.trod_string Tryd.underlying9 h2
  simp only [List.cons.injEq, and_true] at e0 e1 e2
  subst e0 e1 e2
  exact ⟨b0, s1, s2, rfl, rfl, rfl, z1, z2⟩
set_option maxRecDepth 100000 in
theorem shut_dec (n : Bool) (a b : ByteArray) (ha : a.size ≤ maxLen) (hb : b.size ≤ maxLen) :
    DataW.Trod enc Tryd.prog w base spare held 23 (.agg #[.bool n, .string a, .string b]) (.agg [.lit (.bool n), .lit (.string a.data.toList), .lit (.string b.data.toList)]) [] :=
  shut_agg3 Tryd.underlying23 (by kernel_rfl) (by kernel_rfl) (shut_bool Tryd.underlying4 n) (shut_string Tryd.underlying9 ha) (shut_string Tryd.underlying9 hb)
theorem mem_all {l : List Nat} (h : l.all (· ≤ reachBytes) = true) {n : Nat} (hn : n ∈ l) : n ≤ reachBytes := by
  have := List.all_eq_true.1 h n hn
  simpa using this
theorem sized_dec {ts : List TypeId} {ds : List (DataW H)} (h : (DataW.weightsEach Tryd.prog ts ds).all (· ≤ reachBytes) = true) {j : Nat} {n : Bool} {a b : ByteArray} (ht : ts[j]? = some 23)
    (hd : ds[j]? = some (.agg [.lit (.bool n), .lit (.string a.data.toList), .lit (.string b.data.toList)])) : a.size ≤ reachBytes ∧ b.size ≤ reachBytes := by
  have key : ∀ m ∈ DataW.weights Tryd.prog 23 (.agg [.lit (.bool n), .lit (.string a.data.toList), .lit (.string b.data.toList)] : DataW H), m ≤ reachBytes :=
    fun m hm => mem_all h (DataW.weights_mem_each ht hd m hm)
  have ha : a.data.toList.length = a.size := by rw [Array.length_toList]; rfl
  have hb : b.data.toList.length = b.size := by rw [Array.length_toList]; rfl
  rw [← ha, ← hb]
  constructor
  · exact key _ (by simp [DataW.weights, DataW.weightsEach, Tryd.underlying23])
  · exact key _ (by simp [DataW.weights, DataW.weightsEach, Tryd.underlying23])
theorem reach_fit : reachBytes ≤ 1000000000000000000 := by decide
end
end Go.Proofs.YtihjcaglhjepdaaDoor.R
namespace Go.Proofs.YtihjcaglhjepdaaDoor.ROperandParts
open Go.ChangeShapes Go.WideShapes Go.ChangeAt Go.RowKit
open Go.ChangeMaps (open_string shut_string)
set_option linter.unusedVariables false
theorem tab_of {W : World} (h : laidMetH Tryd.prog Rows.operandPartsRow.laid W) : Lib.TabIs Tryd.prog W "internal/strconv.uint64pow10" .u64 Lib.pow10Tab := by
  have h1 := laidMetH.filter (fun x => x.1 == "internal/strconv.uint64pow10") h
  have e : (Rows.operandPartsRow.laid.filter fun x => x.1 == "internal/strconv.uint64pow10") = [("internal/strconv.uint64pow10", Lib.tabData .u64 Lib.pow10Tab)] := by kernel_rfl
  rw [e, MakeChecks.laidMetH_plain _ _ _ (by kernel_rfl)] at h1
  exact Lib.tabIs_of_head (g := 3) (t := 155) (e := 132) (n := 20) (by kernel_rfl) (by kernel_rfl) (by kernel_rfl) (by kernel_rfl) (by kernel_rfl) (by kernel_rfl) h1
set_option maxRecDepth 100000 in
theorem lifted (os : Os) (started : os.Started) (H : Type) (enc : TypeId × Value → H) :
    ReturnsInHanded {} Tryd.checked os 12 .any (fun w args => (Rows.operandPartsSpec.pre enc Tryd.prog Tryd.f12 Rows.operandPartsRow.domain false w args ∧ laidMetH Tryd.prog Rows.operandPartsRow.laid w) ∧ sizedMet enc Tryd.prog Tryd.f12 (OpenSpec.ofChange Rows.operandPartsSpec) false w args)
      (Rows.operandPartsSpec.post enc Tryd.prog Tryd.f12 false true false false) := by
  refine returnsInHanded_of_change_and (C := Tryd.checked) (X := fun w _ => laidMetH Tryd.prog Rows.operandPartsRow.laid w) (fun _ _ _ hh h => h.of_heap hh) R.own started (by kernel_rfl) Tryd.func12
    (ChangeSpec.witness_shaped (enc := enc) (C := Tryd.checked) (os := os) (X := fun w _ => laidMetH Tryd.prog Rows.operandPartsRow.laid w) false (World.laidAll Tryd.prog os Rows.operandPartsRow.laid) #[.agg #[.bool false, .string ByteArray.empty, .string ByteArray.empty], .int .i64 0] 8 (World.laidAll_os _ _ _)
      (World.shaped_of_ZipB (by kernel_rfl) (by kernel_rfl)) (by kernel_rfl) (by kernel_rfl) (by kernel_rfl)
      (by rw [MakeChecks.laidMetH_plain _ _ _ (by kernel_rfl)]; exact laidMet_laidAll _ (by kernel_rfl) (by kernel_rfl))) ?_
  intro W base args ds gs before hval0 hW hcnd hsz0 hx1_ hx2_
  have hsz : (DataW.weightsEach Tryd.prog (Tryd.f12.params.toList ++ Rows.operandPartsSpec.plain.varTypes Tryd.prog) (ds ++ gs)).all (· ≤ reachBytes) = true := hsz0
  have hval : ∀ (j : Nat) t v, Tryd.f12.params[j]? = some t → args[j]? = some v → Value.okWide Tryd.prog W .any base t v := hval0
  have hW' := hW
  obtain ⟨p, q, hA0, hV, rfl, hfz, hnd⟩ := hW
  have hA : DataW.TrodAll enc Tryd.prog W 0 (fun _ => true) true Tryd.f12.params.toList args.toList ds p := hA0
  rw [Tryd.params12] at hA hval hsz
  obtain ⟨v0, vs0, d0, ds0, p0, q0, hargs, rfl, rfl, h0, r0⟩ := trodAll_cons hA
  obtain ⟨v1, vs1, d1, ds1, p1, q1, rfl, rfl, rfl, h1, r1⟩ := trodAll_cons r0
  obtain ⟨rfl, rfl, rfl⟩ := trodAll_nil r1
  obtain rfl : args = #[v0, v1] := by cases args; simp_all
  obtain ⟨rfl, rfl⟩ := trodVars_none hV
  obtain ⟨n0, a0, b0, rfl, rfl, rfl, ya0, yb0⟩ := R.open_dec (hval 0 23 v0 rfl rfl) h0
  obtain ⟨a1, rfl, rfl, rfl, w1⟩ := open_int Tryd.underlying3 (hval 1 3 v1 rfl rfl) h1
  have z0 := R.sized_dec hsz (j := 0) rfl rfl
  clear hA0 hval0 hsz0 hsz
  obtain ⟨k, hk⟩ := Q.parts_law n0 a0 b0 a1 (Nat.le_trans z0.1 R.reach_fit) (Nat.le_trans z0.2 R.reach_fit) w1
  have htb : P.TB W := by first | exact tab_of hx1_ | exact tab_of hx2_ | exact tab_of hx1_.1 | exact tab_of hx1_.2
  refine (P.idiomlaw04_OperandParts.calls k n0 a0 b0 a1 true W htb hk).mono fun e W' ⟨he, bel⟩ => ?_
  subst he
  exact ⟨_, rfl, _, _, _, [], _, [], hW', trodAll_mk1 (shut_bool Tryd.underlying4 _), (trodAll_cons_mk (R.shut_dec n0 a0 b0 ya0 yb0) (trodAll_cons_mk (shut_int Tryd.underlying3 w1) trodAll_mk0)), rfl, bel.frame _, fun h => by cases h⟩
theorem over : Rows.OperandPartsSaid :=
  OpenClaim.holds_of_wide 12 Tryd.f12 rfl rfl rfl rfl rfl rfl rfl ⟨rfl, rfl, rfl, rfl, rfl⟩ rfl rfl rfl rfl rfl (by kernel_rfl) Tryd.func12 (by kernel_rfl)
    (of_decide_eq_true (by kernel_rfl)) (by unfold Func.isWrapper; first | (rw [if_pos (by decide +kernel)]; kernel_rfl) | (rw [if_neg (by decide +kernel)]; exact ⟨rfl, rfl⟩))
    (fun os started H enc _ => lifted os started H enc)
end Go.Proofs.YtihjcaglhjepdaaDoor.ROperandParts
namespace Go.Proofs.YtihjcaglhjepdaaDoor
theorem operandParts_holds : Rows.OperandPartsCardSaid :=
  Claim7.holds_tied_plain_at .later [] [.data, .data, .data, .data, .pinned] true (true, "dafd8735d843c9a93ae20bf10737f61b362ff45b2b916e64999ae59b55174d13") false ROperandParts.over (fun _ h => by cases h) (by kernel_rfl) (fun _ h => by cases h) operandParts_row_tie rfl ⟨rfl, rfl⟩ (by kernel_rfl) rfl
    (fun f fn hf hfn => by
      obtain rfl : f = 12 := Option.some.inj ((show Tryd.prog.funcNamed "idiom/idiomlaw04.OperandParts" = some 12 by kernel_rfl).symm.trans hf) |>.symm
      obtain rfl : fn = Tryd.f12 := (Option.some.inj (Tryd.func12.symm.trans hfn)).symm
      exact ⟨by kernel_rfl, fun j t ht => by
        rw [Tryd.params12] at ht
        have hm : t ∈ [23, 3] := by simpa using Array.mem_of_getElem? ht
        have hall : ([23, 3].all fun u => !Tryd.prog.wantsStandIn u) = true := by kernel_rfl
        exact (show Tryd.prog.wantsStandIn t = false by simpa using List.all_eq_true.1 hall t hm)⟩)
    (by kernel_rfl)
#print axioms operandParts_holds
end Go.Proofs.YtihjcaglhjepdaaDoor
