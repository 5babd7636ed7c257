/- A part of the proof. -/
import Derived.Test.YtihjcaglhjepdaaGreatDoorZOh5
import Derived.Test.YtihjcaglhjepdaaGreatDoorTie
import Derived.Test.YtihjcaglhjepdaaGreatDoorCards
import Derived.WalkKit
import Derived.ProofKit
import Derived.OpenShut
import Derived.ShutString
import Derived.ChangeOld
import Derived.Below
import Derived.SizedLaws
import Derived.LaidMore
import Derived.Lay
import Derived.SevenTiedAt
import Derived.Stop.Joined
import Derived.Lib.SmallJoins
import Derived.Deep.SlicePairs
import Derived.Carry
import Derived.Lib.LaidTab
import Derived.LaidSub
namespace Go.Proofs.YtihjcaglhjepdaaGreatDoor.R
open Go.ChangeShapes Go.WideShapes Go.ChangeAt Go.RowKit
open Go.ChangeMaps (open_string shut_string)
open Go.Joins (open_agg3 shut_agg3)
set_option linter.unusedVariables false
theorem own : ownKnob Tryz.prog.godebug = none := by kernel_rfl
section
variable {H : Type} {enc : TypeId × Value → H} {w : World} {base : Nat} {spare : Nat → Bool} {held : Bool}
set_option maxRecDepth 100000 in
theorem open_dec {r : Reach} {b0 : Nat} {v : Value} {d : DataW H} {p : List MemPlace} (hv : Value.okWide Tryz.prog w r b0 23 v) (h : DataW.Trod enc Tryz.prog w base spare held 23 v d p) :
    ∃ (n : Bool) (a b : ByteArray), v = .agg #[.bool n, .string a, .string b] ∧ d = .agg [.lit (.bool n), .lit (.string a.data.toList), .lit (.string b.data.toList)] ∧ p = [] ∧ a.size ≤ maxLen ∧ b.size ≤ maxLen := by
 obtain ⟨v0, v1, v2, y0, y1, y2, n, rfl, rfl, rfl, h0, h1, h2⟩ := open_agg3 Tryz.underlying23 (by kernel_rfl) (by kernel_rfl) hv h
 obtain ⟨b0, e0, rfl⟩ := DataW.trod_bool Tryz.underlying4 h0
 obtain ⟨s1, e1, rfl, z1⟩ := DataW.trod_string Tryz.underlying9 h1
 obtain ⟨s2, e2, rfl, z2⟩ := DataW.trod_string Tryz.underlying9 h2
 simp only [List.cons.injEq, and_true] at e0 e1 e2
 subst e0 e1 e2
 exact ⟨b0, s1, s2, rfl, rfl, rfl, z1, z2⟩
set_option maxRecDepth 100000 in
theorem shut_dec (n : Bool) (a b : ByteArray) (ha : a.size ≤ maxLen) (hb : b.size ≤ maxLen) :
    DataW.Trod enc Tryz.prog w base spare held 23 (.agg #[.bool n, .string a, .string b]) (.agg [.lit (.bool n), .lit (.string a.data.toList), .lit (.string b.data.toList)]) [] :=
  shut_agg3 Tryz.underlying23 (by kernel_rfl) (by kernel_rfl) (shut_bool Tryz.underlying4 n) (shut_string Tryz.underlying9 ha) (shut_string Tryz.underlying9 hb)
theorem mem_all {l : List Nat} (h : l.all (· ≤ reachBytes) = true) {n : Nat} (hn : n ∈ l) : n ≤ reachBytes := by
 have := List.all_eq_true.1 h n hn
 simpa using this
theorem sized_dec {ts : List TypeId} {ds : List (DataW H)} (h : (DataW.weightsEach Tryz.prog ts ds).all (· ≤ reachBytes) = true) {j : Nat} {n : Bool} {a b : ByteArray} (ht : ts[j]? = some 23)
    (hd : ds[j]? = some (.agg [.lit (.bool n), .lit (.string a.data.toList), .lit (.string b.data.toList)])) : a.size ≤ reachBytes ∧ b.size ≤ reachBytes := by
 have key : ∀ m ∈ DataW.weights Tryz.prog 23 (.agg [.lit (.bool n), .lit (.string a.data.toList), .lit (.string b.data.toList)] : DataW H), m ≤ reachBytes :=
  fun m hm => mem_all h (DataW.weights_mem_each ht hd m hm)
 have ha : a.data.toList.length = a.size := by rw [Array.length_toList]; rfl
 have hb : b.data.toList.length = b.size := by rw [Array.length_toList]; rfl
 rw [← ha, ← hb]
 constructor
 ·exact key _ (by simp [DataW.weights, DataW.weightsEach, Tryz.underlying23])
 ·exact key _ (by simp [DataW.weights, DataW.weightsEach, Tryz.underlying23])
theorem reach_fit : reachBytes ≤ 1000000000000000000 := by decide
end
end Go.Proofs.YtihjcaglhjepdaaGreatDoor.R
namespace Go.Proofs.YtihjcaglhjepdaaGreatDoor.R
open Go.ChangeShapes Go.WideShapes Go.ChangeAt Go.RowKit Go.Deep Go.Proofs.YtihjcaglhjepdaaGreatDoorW.PrintWords Go.Proofs.YtihjcaglhjepdaaGreatDoor.P
set_option linter.unusedVariables false
set_option linter.unusedSimpArgs false
theorem laidOut : laidOutB Tryz.prog = true := by kernel_rfl
theorem array5 {α : Type} {cs : Array α} (h : cs.size = 5) : ∃ c0 c1 c2 c3 c4, cs = #[c0, c1, c2, c3, c4] := by
  obtain ⟨l⟩ := cs
  match l, h with
  | [c0, c1, c2, c3, c4], _ => exact ⟨c0, c1, c2, c3, c4, rfl⟩
section
variable {H : Type} {enc : TypeId × Value → H} {w : World} {base : Nat} {spare : Nat → Bool} {held : Bool}
def spanD (s : S48) : DataW H := .agg [.lit (.string s.f0.data.toList), .lit (.string s.f1.data.toList)]
theorem choose_le {α : Type} [Inhabited α] {n : Nat} {p : Nat → α → Prop} (h : ∀ i, i < n → ∃ x, p i x) : ∃ f : Nat → α, ∀ i, i < n → p i (f i) := choose_lt h
set_option maxRecDepth 100000 in
theorem open_spans {fuel : Nat} {cs : List Value} {x : DataW H × List MemPlace} (h : DataW.trod enc Tryz.prog w base spare held fuel 26 cs = some x) :
    ∃ (A : Option Addr) (l : List S48) (c : Nat) (D : DataW H), cs = [.slice A l.length c] ∧ l.length ≤ c ∧ Kd.C k48 w A l.length l ∧ x.1 = D ∧ ((D = .nil ∧ l = []) ∨ ∃ sp, D = .slice (l.map spanD) sp) := by
  rcases open_slice_pairs Tryz.underlying26 Tryz.underlying48 (by kernel_rfl) rfl rfl (by kernel_rfl) (by kernel_rfl) h with ⟨rfl, rfl⟩ | ⟨a, len, cap, m, n, V0, V1, D0, D1, P0, P1, rfl, hb, hl, hm, hmm, rfl, hx⟩
  · exact ⟨none, [], 0, .nil, rfl, by simp, ⟨rfl, by simp, fun h => absurd h (by simp)⟩, rfl, .inl ⟨rfl, rfl⟩⟩
  · have hlm : len ≤ m := by rw [hmm]; split <;> omega
    have each : ∀ i, i < len → ∃ s : S48, V0 i = .string s.f0 ∧ V1 i = .string s.f1 ∧ D0 i = .lit (.string s.f0.data.toList) ∧ D1 i = .lit (.string s.f1.data.toList) := by
      intro i hi
      obtain ⟨_, _, h0, h1⟩ := hx i (by omega)
      obtain ⟨s0, e0, f0, _⟩ := DataW.trod_string Tryz.underlying9 h0
      obtain ⟨s1, e1, f1, _⟩ := DataW.trod_string Tryz.underlying9 h1
      simp only [List.cons.injEq, and_true] at e0 e1
      exact ⟨⟨s0, s1⟩, e0, e1, (Prod.mk.inj f0).1, (Prod.mk.inj f1).1⟩
    haveI : Inhabited S48 := ⟨⟨ByteArray.empty, ByteArray.empty⟩⟩
    obtain ⟨q, hq⟩ := choose_le each
    have hlen : ((List.range len).map q).length = len := by simp
    have hmax : maxLen ≤ 9223372036854775807 := by decide
    refine ⟨some a, (List.range len).map q, cap, _, by rw [hlen], by rw [hlen]; exact hl, ⟨rfl, by rw [hlen]; omega, fun _ => ⟨a, rfl, ?_⟩⟩, rfl, .inr ⟨(List.range (m - len)).map fun j => .agg [D0 (len + j), D1 (len + j)], ?_⟩⟩
    · intro j p hp
      rw [List.getElem?_map] at hp
      obtain ⟨i, hi, rfl⟩ := Option.map_eq_some_iff.1 hp
      rw [List.getElem?_range] at hi
      · obtain rfl := Option.some.inj hi
        have hj : j < len := by
          by_cases h : j < len
          · exact h
          · rw [List.getElem?_eq_none (by simp; omega)] at hp; cases hp
        obtain ⟨c0, c1, _, _⟩ := hx j (by omega)
        refine ⟨[.string (q j).f0, .string (q j).f1], rfl, k48_mk w (q j), ?_⟩
        intro i u hu
        have sz : k48.sz = 2 := rfl
        rw [sz]
        match i, hu with
        | 0, hu => simp at hu; subst hu; rw [Nat.add_zero, c0, (hq j hj).1]
        | 1, hu => simp at hu; subst hu; rw [c1, (hq j hj).2.1]
        | i + 2, hu => simp at hu
      · by_cases h : j < len
        · exact h
        · rw [List.getElem?_eq_none (by simp; omega)] at hp; cases hp
    · rw [List.map_map]
      suffices e : (List.range len).map (fun i => (DataW.agg [D0 i, D1 i] : DataW H)) = (List.range len).map (spanD ∘ q) by
        show DataW.slice _ _ = _
        rw [e]
      apply List.map_congr_left
      intro i hi
      have hi' := List.mem_range.1 hi
      show _ = spanD (q i)
      rw [(hq i hi').2.2.1, (hq i hi').2.2.2]; rfl
def relD (o m : ByteArray) (nt wi : Bool) (D : DataW H) : DataW H := .agg [.lit (.string o.data.toList), .lit (.string m.data.toList), .lit (.bool nt), .lit (.bool wi), D]
set_option maxRecDepth 100000 in
theorem open_rel {r : Reach} {b0 : Nat} {x : Value} {d : DataW H} {p : List MemPlace} (hv : Value.okWide Tryz.prog w r b0 28 x) (h : DataW.Trod enc Tryz.prog w base spare held 28 x d p) :
    ∃ (o m : ByteArray) (nt wi : Bool) (A : Option Addr) (l : List S48) (c : Nat) (D : DataW H), x = .agg #[.string o, .string m, .bool nt, .bool wi, .slice A l.length c] ∧ d = relD o m nt wi D ∧ Kd.C k48 w A l.length l ∧ l.length ≤ c ∧
      o.size ≤ maxLen ∧ m.size ≤ maxLen ∧ ((D = .nil ∧ l = []) ∨ ∃ sp, D = .slice (l.map spanD) sp) := by
  obtain ⟨cs, rfl, hsz⟩ := okWide_struct Tryz.underlying28 hv
  obtain ⟨c0, c1, c2, c3, c4, rfl⟩ := array5 (hsz.trans (by kernel_rfl))
  obtain ⟨fuel, hf⟩ := h
  obtain ⟨xs, n, _, hx, _, hlen, hf⟩ := DataW.trod_struct Tryz.underlying28 hf
  have k9 : Tryz.prog.cellsOf 9 = 1 := by kernel_rfl
  have k4 : Tryz.prog.cellsOf 4 = 1 := by kernel_rfl
  have k52 : Tryz.prog.cellsOf 26 = 1 := by kernel_rfl
  match xs, hlen with
  | [y0, y1, y2, y3, y4], _ =>
    have g0 := hf 0 _ rfl
    have g1 := hf 1 _ rfl
    have g2 := hf 2 _ rfl
    have g3 := hf 3 _ rfl
    have g4 := hf 4 _ rfl
    simp [Value.cells, k9, k4, k52] at g0 g1 g2 g3 g4
    obtain ⟨s0, e0, rfl, j0⟩ := DataW.trod_string Tryz.underlying9 g0
    obtain ⟨s1, e1, rfl, j1⟩ := DataW.trod_string Tryz.underlying9 g1
    obtain ⟨b2, e2, rfl⟩ := DataW.trod_bool Tryz.underlying4 g2
    obtain ⟨b3, e3, rfl⟩ := DataW.trod_bool Tryz.underlying4 g3
    obtain ⟨A, l, c, D, e4, hc, hC, hD, hE⟩ := open_spans g4
    simp only [List.cons.injEq, and_true] at e0 e1 e2 e3 e4
    subst e0 e1 e2 e3 e4
    simp only [Prod.mk.injEq, List.map_cons, List.map_nil] at hx
    refine ⟨s0, s1, b2, b3, A, l, c, D, rfl, ?_, hC, hc, j0, j1, hE⟩
    rw [hx.1, hD]; rfl
theorem weights_all {P : Program} {t : TypeId} : ∀ {ds : List (DataW H)} {d : DataW H}, d ∈ ds → ∀ n ∈ d.weights P t, n ∈ DataW.weightsAll P t ds
  | e :: ds, d, hd, n, hn => by
    rw [DataW.weightsAll]
    rcases List.mem_cons.1 hd with rfl | hd
    · exact List.mem_append_left _ hn
    · exact List.mem_append_right _ (weights_all hd n hn)
theorem sized_rel {ts : List TypeId} {ds : List (DataW H)} (h : (DataW.weightsEach Tryz.prog ts ds).all (· ≤ reachBytes) = true) {j : Nat} {o m : ByteArray} {nt wi : Bool} {l : List S48} {D : DataW H} (ht : ts[j]? = some 28)
    (hd : ds[j]? = some (relD o m nt wi D)) (hE : (D = .nil ∧ l = []) ∨ ∃ sp, D = .slice (l.map spanD) sp) : o.size ≤ reachBytes ∧ m.size ≤ reachBytes ∧ (∀ s ∈ l, s.f0.size ≤ reachBytes ∧ s.f1.size ≤ reachBytes) ∧ l.length < 4398046511104 := by
  have key : ∀ k ∈ DataW.weights Tryz.prog 28 (relD o m nt wi D : DataW H), k ≤ reachBytes := fun k hk => mem_all h (DataW.weights_mem_each ht hd k hk)
  have sz : ∀ s : ByteArray, s.data.toList.length = s.size := fun s => by rw [Array.length_toList]; rfl
  have hD : ∀ k ∈ DataW.weights Tryz.prog 26 D, k ≤ reachBytes := fun k hk => key k (by simp [relD, DataW.weights, DataW.weightsEach, Tryz.underlying28]; exact .inr (.inr hk))
  refine ⟨by rw [← sz o]; exact key _ (by simp [relD, DataW.weights, DataW.weightsEach, Tryz.underlying28]), by rw [← sz m]; exact key _ (by simp [relD, DataW.weights, DataW.weightsEach, Tryz.underlying28]), ?_, ?_⟩
  · intro s hs
    rcases hE with ⟨_, rfl⟩ | ⟨sp, rfl⟩
    · cases hs
    · have hw : ∀ k ∈ DataW.weights Tryz.prog 48 (spanD s : DataW H), k ≤ reachBytes := by
        intro k hk
        refine hD k ?_
        rw [DataW.weights, Tryz.underlying26]
        exact List.mem_cons_of_mem _ (List.mem_append_left _ (weights_all (List.mem_map.2 ⟨s, hs, rfl⟩) k hk))
      rw [← sz s.f0, ← sz s.f1]
      exact ⟨hw _ (by simp [spanD, DataW.weights, DataW.weightsEach, Tryz.underlying48]), hw _ (by simp [spanD, DataW.weights, DataW.weightsEach, Tryz.underlying48])⟩
  · rcases hE with ⟨_, rfl⟩ | ⟨sp, rfl⟩
    · decide
    · have hw := hD ((( l.map spanD : List (DataW H)).length + sp.length) * Tryz.prog.bytesOf 48) (by rw [DataW.weights, Tryz.underlying26]; exact List.mem_cons_self)
      have b : Tryz.prog.bytesOf 48 = 32 := by kernel_rfl
      rw [b, List.length_map] at hw
      have := reachBytes_lt
      omega
end
end Go.Proofs.YtihjcaglhjepdaaGreatDoor.R
namespace Go.Proofs.YtihjcaglhjepdaaGreatDoor.ROperandShown
open Go.ChangeShapes Go.WideShapes Go.ChangeAt Go.RowKit
open Go.ChangeMaps (open_string shut_string)
set_option linter.unusedVariables false
theorem tab_of {W : World} (h : laidMetH Tryz.prog Rows.operandShownRow.laid W) : Lib.TabIs Tryz.prog W "internal/strconv.uint64pow10" .u64 Lib.pow10Tab := by
 have h1 := laidMetH.filter (fun x => x.1 == "internal/strconv.uint64pow10") h
 have e : (Rows.operandShownRow.laid.filter fun x => x.1 == "internal/strconv.uint64pow10") = [("internal/strconv.uint64pow10", Lib.tabData .u64 Lib.pow10Tab)] := by kernel_rfl
 rw [e, MakeChecks.laidMetH_plain _ _ _ (by kernel_rfl)] at h1
 exact Lib.tabIs_of_head (g := 0) (t := 130) (e := 113) (n := 20) (by kernel_rfl) (by kernel_rfl) (by kernel_rfl) (by kernel_rfl) (by kernel_rfl) (by kernel_rfl) h1
set_option maxRecDepth 100000 in
theorem lifted (os : Os) (started : os.Started) (H : Type) (enc : TypeId × Value → H) :
    ReturnsInHanded {} Tryz.checked os 4 .any (fun w args => (Rows.operandShownSpec.pre enc Tryz.prog Tryz.f4 Rows.operandShownRow.domain false w args ∧ laidMetH Tryz.prog Rows.operandShownRow.laid w) ∧ sizedMet enc Tryz.prog Tryz.f4 (OpenSpec.ofChange Rows.operandShownSpec) false w args)
      (Rows.operandShownSpec.post enc Tryz.prog Tryz.f4 false true false false) := by
  refine returnsInHanded_of_change_and (C := Tryz.checked) (X := fun w _ => laidMetH Tryz.prog Rows.operandShownRow.laid w) (fun _ _ _ hh h => h.of_heap hh) R.own started (by kernel_rfl) Tryz.func4
    (ChangeSpec.witness_shaped (enc := enc) (C := Tryz.checked) (os := os) (X := fun w _ => laidMetH Tryz.prog Rows.operandShownRow.laid w) false (World.laidAll Tryz.prog os Rows.operandShownRow.laid) #[.agg #[.bool false, .string ByteArray.empty, .string ByteArray.empty], .int .i64 0, .string ByteArray.empty, .agg #[.string ByteArray.empty, .string ByteArray.empty, .bool false, .bool false, .slice none 0 0]] 8 (World.laidAll_os _ _ _)
      (World.shaped_of_ZipB (by kernel_rfl) (by kernel_rfl)) (by kernel_rfl) (by kernel_rfl) (by kernel_rfl)
      (by rw [MakeChecks.laidMetH_plain _ _ _ (by kernel_rfl)]; exact laidMet_laidAll _ (by kernel_rfl) (by kernel_rfl))) ?_
  intro W base args ds gs before hval0 hW hcnd hsz0 hx1_ hx2_
  have hsz : (DataW.weightsEach Tryz.prog (Tryz.f4.params.toList ++ Rows.operandShownSpec.plain.varTypes Tryz.prog) (ds ++ gs)).all (· ≤ reachBytes) = true := hsz0
  have hval : ∀ (j : Nat) t v, Tryz.f4.params[j]? = some t → args[j]? = some v → Value.okWide Tryz.prog W .any base t v := hval0
  have hW' := hW
  obtain ⟨p, q, hA0, hV, rfl, hfz, hnd⟩ := hW
  have hA : DataW.TrodAll enc Tryz.prog W 0 (fun _ => true) true Tryz.f4.params.toList args.toList ds p := hA0
  rw [Tryz.params4] at hA hval hsz
  obtain ⟨v0, vs0, d0, ds0, p0, q0, hargs, rfl, rfl, h0, r0⟩ := trodAll_cons hA
  obtain ⟨v1, vs1, d1, ds1, p1, q1, rfl, rfl, rfl, h1, r1⟩ := trodAll_cons r0
  obtain ⟨v2, vs2, d2, ds2, p2, q2, rfl, rfl, rfl, h2, r2⟩ := trodAll_cons r1
  obtain ⟨v3, vs3, d3, ds3, p3, q3, rfl, rfl, rfl, h3, r3⟩ := trodAll_cons r2
  obtain ⟨rfl, rfl, rfl⟩ := trodAll_nil r3
  obtain rfl : args = #[v0, v1, v2, v3] := by cases args; simp_all
  obtain ⟨rfl, rfl⟩ := trodVars_none hV
  obtain ⟨n0, a0, b0, rfl, rfl, rfl, ya0, yb0⟩ := R.open_dec (hval 0 23 v0 rfl rfl) h0
  obtain ⟨a1, rfl, rfl, rfl, w1⟩ := open_int Tryz.underlying3 (hval 1 3 v1 rfl rfl) h1
  obtain ⟨a2, rfl, rfl, rfl, y2⟩ := open_string Tryz.underlying9 (hval 2 9 v2 rfl rfl) h2
  obtain ⟨o3, m3, x3, y3, A3, l3, c3, D3, rfl, rfl, hC3, hc3, yo3, ym3, hE3⟩ := R.open_rel (hval 3 28 v3 rfl rfl) h3
  have lt3 : ∀ x ∈ p3, x.block < W.heap.size := by obtain ⟨m_, hm_⟩ := h3; exact DataW.trod_lt m_ _ _ _ hm_
  have z0 := R.sized_dec hsz (j := 0) rfl rfl
  have z2 := sized_string hsz (j := 2) (t := 9) rfl rfl
  rw [Array.length_toList] at z2
  have z3 := R.sized_rel hsz (j := 3) (o := o3) (m := m3) (nt := x3) (wi := y3) rfl rfl hE3
  clear hA0 hval0 hsz0 hsz
  obtain ⟨k, hk⟩ := Q.shown_law n0 a0 b0 a1 a2 o3 m3 x3 y3 l3 (Nat.le_trans z0.1 R.reach_fit) (Nat.le_trans z0.2 R.reach_fit) w1 (Nat.le_trans z2 R.reach_fit) (Nat.le_trans z3.1 R.reach_fit) (Nat.le_trans z3.2.1 R.reach_fit) (fun s hs => ⟨Nat.le_trans (z3.2.2.1 s hs).1 R.reach_fit, Nat.le_trans (z3.2.2.1 s hs).2 R.reach_fit⟩) z3.2.2.2
  have htb : P.TB W := by first | exact tab_of hx1_ | exact tab_of hx2_ | exact tab_of hx1_.1 | exact tab_of hx1_.2
  refine (P.idiomlaw04_OperandShown.calls k n0 a0 b0 a1 a2 o3 m3 x3 y3 A3 c3 l3 true W htb hC3 hc3 hk).mono fun e W' ⟨he, bel⟩ => ?_
  subst he
  exact ⟨_, rfl, _, _, _, [], _, [], hW', trodAll_mk1 (shut_bool Tryz.underlying4 _), (trodAll_cons_mk (R.shut_dec n0 a0 b0 ya0 yb0) (trodAll_cons_mk (shut_int Tryz.underlying3 w1) (trodAll_cons_mk (shut_string Tryz.underlying9 y2) (trodAll_cons_mk (Below.trod R.laidOut (by kernel_rfl) (of_decide_eq_true (by kernel_rfl)) h3 bel lt3) trodAll_mk0)))), rfl, bel.frame _, fun h => by cases h⟩
theorem over : Rows.OperandShownSaid :=
  OpenClaim.holds_of_wide 4 Tryz.f4 rfl rfl rfl rfl rfl rfl rfl ⟨rfl, rfl, rfl, rfl, rfl⟩ rfl rfl rfl rfl rfl (by kernel_rfl) Tryz.func4 (by kernel_rfl)
    (of_decide_eq_true (by kernel_rfl)) (by unfold Func.isWrapper; first | (rw [if_pos (by decide +kernel)]; kernel_rfl) | (rw [if_neg (by decide +kernel)]; exact ⟨rfl, rfl⟩))
    (fun os started H enc _ => lifted os started H enc)
end Go.Proofs.YtihjcaglhjepdaaGreatDoor.ROperandShown
namespace Go.Proofs.YtihjcaglhjepdaaGreatDoor
theorem operandShown_holds : Rows.OperandShownCardSaid :=
  Claim7.holds_tied_plain_at .later [] [.data, .data, .data, .data, .pinned] true (true, "debe88fe0d07a34935456634d49096aa61e72d5a63d776972970660b73be279f") false ROperandShown.over (fun _ h => by cases h) (by kernel_rfl) (fun _ h => by cases h) operandShown_row_tie rfl ⟨rfl, rfl⟩ (by kernel_rfl) rfl
    (fun f fn hf hfn => by
      obtain rfl : f = 4 := Option.some.inj ((show Tryz.prog.funcNamed "idiom/idiomlaw04.OperandShown" = some 4 by kernel_rfl).symm.trans hf) |>.symm
      obtain rfl : fn = Tryz.f4 := (Option.some.inj (Tryz.func4.symm.trans hfn)).symm
      exact ⟨by kernel_rfl, fun j t ht => by
        rw [Tryz.params4] at ht
        have hm : t ∈ [23, 3, 9, 28] := by simpa using Array.mem_of_getElem? ht
        have hall : ([23, 3, 9, 28].all fun u => !Tryz.prog.wantsStandIn u) = true := by kernel_rfl
        exact (show Tryz.prog.wantsStandIn t = false by simpa using List.all_eq_true.1 hall t hm)⟩)
    (by kernel_rfl)
#print axioms operandShown_holds
end Go.Proofs.YtihjcaglhjepdaaGreatDoor
