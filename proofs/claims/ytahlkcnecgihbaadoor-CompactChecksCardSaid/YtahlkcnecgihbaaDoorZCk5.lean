/- A part of the proof. -/
import Derived.Test.YtahlkcnecgihbaaDoorZCk4
import Derived.Test.YtahlkcnecgihbaaDoorTie
import Derived.Test.YtahlkcnecgihbaaDoorCards
import Derived.WalkKit
import Derived.ProofKit
import Derived.OpenShut
import Derived.ShutString
import Derived.ChangeOld
import Derived.Below
import Derived.SizedLaws
import Derived.LaidMore
import Derived.Lay
import Derived.SevenTiedAt
import Derived.Stop.Joined
import Derived.Lib.SmallJoins
import Derived.Deep.SlicePairs
import Derived.Carry
namespace Go.Proofs.YtahlkcnecgihbaaDoor.R
open Go.ChangeShapes Go.WideShapes Go.ChangeAt Go.RowKit
open Go.ChangeMaps (open_string shut_string)
open Go.Joins (open_agg3 shut_agg3)
set_option linter.unusedVariables false
theorem own : ownKnob Tryd.prog.godebug = none := by kernel_rfl
section
variable {H : Type} {enc : TypeId × Value → H} {w : World} {base : Nat} {spare : Nat → Bool} {held : Bool}
theorem mem_all {l : List Nat} (h : l.all (· ≤ reachBytes) = true) {n : Nat} (hn : n ∈ l) : n ≤ reachBytes := by
  have := List.all_eq_true.1 h n hn
  simpa using this
end
end Go.Proofs.YtahlkcnecgihbaaDoor.R
namespace Go.Proofs.YtahlkcnecgihbaaDoor.R
open Go.ChangeShapes Go.WideShapes Go.ChangeAt Go.RowKit Go.Deep Go.Proofs.YtahlkcnecgihbaaDoorW.PrintWords Go.Proofs.YtahlkcnecgihbaaDoor.P
set_option linter.unusedVariables false
set_option linter.unusedSimpArgs false
theorem laidOut : laidOutB Tryd.prog = true := by kernel_rfl
section
variable {H : Type} {enc : TypeId × Value → H} {w : World} {base : Nat} {spare : Nat → Bool} {held : Bool}
def rowD (s : S27) : DataW H := .agg [.lit (.int .i64 s.f0), .lit (.int .i64 s.f1), .lit (.int .i64 s.f2), .lit (.string s.f3.data.toList), .lit (.string s.f4.data.toList)]
def rowW (s : S27) : Prop := (Lit.int .i64 s.f0).wf = true ∧ (Lit.int .i64 s.f1).wf = true ∧ (Lit.int .i64 s.f2).wf = true
theorem choose_le {α : Type} [Inhabited α] {n : Nat} {p : Nat → α → Prop} (h : ∀ i, i < n → ∃ x, p i x) : ∃ f : Nat → α, ∀ i, i < n → p i (f i) := choose_lt h
set_option maxRecDepth 100000 in
theorem open_rows {fuel : Nat} {cs : List Value} {x : DataW H × List MemPlace} (h : DataW.trod enc Tryd.prog w base spare held fuel 22 cs = some x) :
    ∃ (A : Option Addr) (l : List S27) (c : Nat) (D : DataW H), cs = [.slice A l.length c] ∧ l.length ≤ c ∧ Kd.C k27 w A l.length l ∧ x.1 = D ∧ (∀ s ∈ l, rowW s) ∧ ((D = .nil ∧ l = []) ∨ ∃ sp, D = .slice (l.map rowD) sp) := by
  have k9 : Tryd.prog.cellsOf 9 = 1 := by kernel_rfl
  have k4 : Tryd.prog.cellsOf 3 = 1 := by kernel_rfl
  have kr : Tryd.prog.cellsOf 27 = 5 := by kernel_rfl
  rcases open_slice Tryd.underlying22 h with ⟨rfl, rfl⟩ | ⟨a, len, cap, m, n, D, Pl, rfl, hb, hl, hm, hmm, rfl, hx⟩
  · exact ⟨none, [], 0, .nil, rfl, by simp, ⟨rfl, by simp, fun h => absurd h (by simp)⟩, rfl, (fun s hs => by cases hs), .inl ⟨rfl, rfl⟩⟩
  · have hlm : len ≤ m := by rw [hmm]; split <;> omega
    have each : ∀ i, i < len → ∃ s : S27, (∀ j u, ([.int .i64 s.f0, .int .i64 s.f1, .int .i64 s.f2, .string s.f3, .string s.f4] : List Value)[j]? = some u → w.cell? (a.add (i * 5 + j)) = some u) ∧ D i = rowD s ∧ rowW s := by
      intro i hi
      obtain ⟨cs', h1, h2⟩ := hx i (by omega)
      rw [kr] at h1
      obtain ⟨_, hlen, hcell⟩ := World.cells?_some h1
      obtain ⟨xs, n', _, hxx, _, hxl, hf⟩ := DataW.trod_struct Tryd.underlying27 h2
      match xs, hxl, cs', hlen with
      | [y0, y1, y2, y3, y4], _, [v0, v1, v2, v3, v4], _ =>
        have g0 := hf 0 _ rfl
        have g1 := hf 1 _ rfl
        have g2 := hf 2 _ rfl
        have g3 := hf 3 _ rfl
        have g4 := hf 4 _ rfl
        simp [k9, k4] at g0 g1 g2 g3 g4
        obtain ⟨i0, e0, rfl, j0⟩ := DataW.trod_int Tryd.underlying3 g0
        obtain ⟨i1, e1, rfl, j1⟩ := DataW.trod_int Tryd.underlying3 g1
        obtain ⟨i2, e2, rfl, j2⟩ := DataW.trod_int Tryd.underlying3 g2
        obtain ⟨s3, e3, rfl, _⟩ := DataW.trod_string Tryd.underlying9 g3
        obtain ⟨s4, e4, rfl, _⟩ := DataW.trod_string Tryd.underlying9 g4
        simp only [List.cons.injEq, and_true] at e0 e1 e2 e3 e4
        subst e0 e1 e2 e3 e4
        simp only [Prod.mk.injEq, List.map_cons, List.map_nil] at hxx
        refine ⟨⟨i0, i1, i2, s3, s4⟩, ?_, hxx.1, j0, j1, j2⟩
        intro j u hu
        have hj : j < 5 := by
          have := (List.getElem?_eq_some_iff.1 hu).1
          simpa using this
        have e := hcell j hj
        rw [Go.Deep.add_add] at e
        rw [e]; exact hu
    haveI : Inhabited S27 := ⟨⟨0, 0, 0, ByteArray.empty, ByteArray.empty⟩⟩
    obtain ⟨q, hq⟩ := choose_le each
    have hlen : ((List.range len).map q).length = len := by simp
    have hmax : maxLen ≤ 9223372036854775807 := by decide
    refine ⟨some a, (List.range len).map q, cap, _, by rw [hlen], by rw [hlen]; exact hl, ⟨rfl, by rw [hlen]; omega, fun _ => ⟨a, rfl, ?_⟩⟩, rfl, ?_, .inr ⟨(List.range (m - len)).map fun j => D (len + j), ?_⟩⟩
    · intro j p hp
      rw [List.getElem?_map] at hp
      obtain ⟨i, hi, rfl⟩ := Option.map_eq_some_iff.1 hp
      have hj : j < len := by
        by_cases h : j < len
        · exact h
        · rw [List.getElem?_eq_none (by simp; omega)] at hi; cases hi
      rw [List.getElem?_range hj] at hi
      obtain rfl := Option.some.inj hi
      refine ⟨[.int .i64 (q j).f0, .int .i64 (q j).f1, .int .i64 (q j).f2, .string (q j).f3, .string (q j).f4], rfl, k27_mk w (q j), ?_⟩
      intro i u hu
      have sz : k27.sz = 5 := rfl
      rw [sz]
      exact (hq j hj).1 i u hu
    · intro s hs
      obtain ⟨i, hi, rfl⟩ := List.mem_map.1 hs
      exact (hq i (List.mem_range.1 hi)).2.2
    · rw [List.map_map]
      show DataW.slice _ _ = _
      congr 1
      apply List.map_congr_left
      intro i hi
      exact (hq i (List.mem_range.1 hi)).2.1
set_option maxRecDepth 100000 in
theorem open_rowsv {r : Reach} {b0 : Nat} {x : Value} {d : DataW H} {p : List MemPlace} (hv : Value.okWide Tryd.prog w r b0 22 x) (h : DataW.Trod enc Tryd.prog w base spare held 22 x d p) :
    ∃ (A : Option Addr) (l : List S27) (c : Nat), x = .slice A l.length c ∧ l.length ≤ c ∧ Kd.C k27 w A l.length l ∧ (∀ s ∈ l, rowW s) ∧ ((d = .nil ∧ l = []) ∨ ∃ sp, d = .slice (l.map rowD) sp) := by
  obtain ⟨a, len, cap, rfl⟩ := okWide_slice Tryd.underlying22 hv
  obtain ⟨fuel, hf⟩ := h
  obtain ⟨A, l, c, D, e, hc, hC, hD, hW, hE⟩ := open_rows hf
  have e' : Value.slice a len cap = .slice A l.length c := by
    have e1 : [Value.slice a len cap] = [.slice A l.length c] := e
    exact (List.cons.inj e1).1
  have hD' : d = D := hD
  subst hD'
  exact ⟨A, l, c, e', hc, hC, hW, hE⟩
theorem weights_all {P : Program} {t : TypeId} : ∀ {ds : List (DataW H)} {d : DataW H}, d ∈ ds → ∀ n ∈ d.weights P t, n ∈ DataW.weightsAll P t ds
  | e :: ds, d, hd, n, hn => by
    rw [DataW.weightsAll]
    rcases List.mem_cons.1 hd with rfl | hd
    · exact List.mem_append_left _ hn
    · exact List.mem_append_right _ (weights_all hd n hn)
theorem sized_rows {ts : List TypeId} {ds : List (DataW H)} (h : (DataW.weightsEach Tryd.prog ts ds).all (· ≤ reachBytes) = true) {j : Nat} {l : List S27} {D : DataW H} (ht : ts[j]? = some 22)
    (hd : ds[j]? = some D) (hE : (D = .nil ∧ l = []) ∨ ∃ sp, D = .slice (l.map rowD) sp) : (∀ s ∈ l, s.f3.size ≤ reachBytes ∧ s.f4.size ≤ reachBytes) ∧ l.length < 2513169434916 := by
  have hD : ∀ k ∈ DataW.weights Tryd.prog 22 D, k ≤ reachBytes := fun k hk => mem_all h (DataW.weights_mem_each ht hd k hk)
  have sz : ∀ s : ByteArray, s.data.toList.length = s.size := fun s => by rw [Array.length_toList]; rfl
  refine ⟨?_, ?_⟩
  · intro s hs
    rcases hE with ⟨_, rfl⟩ | ⟨sp, rfl⟩
    · cases hs
    · have hw : ∀ k ∈ DataW.weights Tryd.prog 27 (rowD s : DataW H), k ≤ reachBytes := by
        intro k hk
        refine hD k ?_
        rw [DataW.weights, Tryd.underlying22]
        exact List.mem_cons_of_mem _ (List.mem_append_left _ (weights_all (List.mem_map.2 ⟨s, hs, rfl⟩) k hk))
      rw [← sz s.f3, ← sz s.f4]
      exact ⟨hw _ (by simp [rowD, DataW.weights, DataW.weightsEach, Tryd.underlying27]), hw _ (by simp [rowD, DataW.weights, DataW.weightsEach, Tryd.underlying27])⟩
  · rcases hE with ⟨_, rfl⟩ | ⟨sp, rfl⟩
    · decide
    · have hw := hD ((( l.map rowD : List (DataW H)).length + sp.length) * Tryd.prog.bytesOf 27) (by rw [DataW.weights, Tryd.underlying22]; exact List.mem_cons_self)
      have b : Tryd.prog.bytesOf 27 = 56 := by kernel_rfl
      rw [b, List.length_map] at hw
      have e : reachBytes = 140737488351232 := by decide
      omega
end
end Go.Proofs.YtahlkcnecgihbaaDoor.R
namespace Go.Proofs.YtahlkcnecgihbaaDoor.RCompactChecks
open Go.ChangeShapes Go.WideShapes Go.ChangeAt Go.RowKit
open Go.ChangeMaps (open_string shut_string)
set_option linter.unusedVariables false
set_option maxRecDepth 100000 in
theorem lifted (os : Os) (started : os.Started) (H : Type) (enc : TypeId × Value → H) :
    ReturnsInHanded {} Tryd.checked os 3 .any (fun w args => (Rows.compactChecksSpec.pre enc Tryd.prog Tryd.f3 Rows.compactChecksRow.domain false w args ∧ laidMetH Tryd.prog Rows.compactChecksRow.laid w) ∧ sizedMet enc Tryd.prog Tryd.f3 (OpenSpec.ofChange Rows.compactChecksSpec) false w args)
      (Rows.compactChecksSpec.post enc Tryd.prog Tryd.f3 false true false false) := by
  refine returnsInHanded_of_change_and (C := Tryd.checked) (X := fun w _ => laidMetH Tryd.prog Rows.compactChecksRow.laid w) (fun _ _ _ hh h => h.of_heap hh) R.own started (by kernel_rfl) Tryd.func3
    (ChangeSpec.witness_shaped (enc := enc) (C := Tryd.checked) (os := os) (X := fun w _ => laidMetH Tryd.prog Rows.compactChecksRow.laid w) false (World.laidAll Tryd.prog os Rows.compactChecksRow.laid) #[.slice none 0 0] 8 (World.laidAll_os _ _ _)
      (World.shaped_of_ZipB (by kernel_rfl) (by kernel_rfl)) (by kernel_rfl) (by kernel_rfl) (by kernel_rfl)
      (by rw [MakeChecks.laidMetH_plain _ _ _ (by kernel_rfl)]; exact laidMet_laidAll _ (by kernel_rfl) (by kernel_rfl))) ?_
  intro W base args ds gs before hval0 hW hcnd hsz0 hx1_ hx2_
  have hsz : (DataW.weightsEach Tryd.prog (Tryd.f3.params.toList ++ Rows.compactChecksSpec.plain.varTypes Tryd.prog) (ds ++ gs)).all (· ≤ reachBytes) = true := hsz0
  have hval : ∀ (j : Nat) t v, Tryd.f3.params[j]? = some t → args[j]? = some v → Value.okWide Tryd.prog W .any base t v := hval0
  have hW' := hW
  obtain ⟨p, q, hA0, hV, rfl, hfz, hnd⟩ := hW
  have hA : DataW.TrodAll enc Tryd.prog W 0 (fun _ => true) true Tryd.f3.params.toList args.toList ds p := hA0
  rw [Tryd.params3] at hA hval hsz
  obtain ⟨v0, vs0, d0, ds0, p0, q0, hargs, rfl, rfl, h0, r0⟩ := trodAll_cons hA
  obtain ⟨rfl, rfl, rfl⟩ := trodAll_nil r0
  obtain rfl : args = #[v0] := by cases args; simp_all
  obtain ⟨rfl, rfl⟩ := trodVars_none hV
  obtain ⟨A0, l0, c0, rfl, hc0, hC0, hW0, hE0⟩ := R.open_rowsv (hval 0 22 v0 rfl rfl) h0
  have lt0 : ∀ x ∈ p0, x.block < W.heap.size := by obtain ⟨m_, hm_⟩ := h0; exact DataW.trod_lt m_ _ _ _ hm_
  have z0 := R.sized_rows hsz (j := 0) rfl rfl hE0
  clear hA0 hval0 hsz0 hsz
  obtain ⟨k, hk⟩ := Q.checks_law l0 z0.2
  refine (P.idiomlaw11_CompactChecks.calls k A0 c0 l0 true W hC0 hc0 hk).mono fun e W' ⟨he, bel⟩ => ?_
  subst he
  exact ⟨_, rfl, _, _, _, [], _, [], hW', trodAll_mk1 (shut_bool Tryd.underlying4 _), (trodAll_cons_mk (Below.trod R.laidOut (by kernel_rfl) (of_decide_eq_true (by kernel_rfl)) h0 bel lt0) trodAll_mk0), rfl, bel.frame _, fun h => by cases h⟩
theorem over : Rows.CompactChecksSaid :=
  OpenClaim.holds_of_wide 3 Tryd.f3 rfl rfl rfl rfl rfl rfl rfl ⟨rfl, rfl, rfl, rfl, rfl⟩ rfl rfl rfl rfl rfl (by kernel_rfl) Tryd.func3 (by kernel_rfl)
    (of_decide_eq_true (by kernel_rfl)) (by unfold Func.isWrapper; first | (rw [if_pos (by decide +kernel)]; kernel_rfl) | (rw [if_neg (by decide +kernel)]; exact ⟨rfl, rfl⟩))
    (fun os started H enc _ => lifted os started H enc)
end Go.Proofs.YtahlkcnecgihbaaDoor.RCompactChecks
namespace Go.Proofs.YtahlkcnecgihbaaDoor
theorem compactChecks_holds : Rows.CompactChecksCardSaid :=
  Claim7.holds_tied_plain_at .later [] [.data, .pinned] true (true, "910eecc6c5c35cff6a7bb0bd850e31386c4afd4acb084258bfa3352df6b4ab35") false RCompactChecks.over (fun _ h => by cases h) (by kernel_rfl) (fun _ h => by cases h) compactChecks_row_tie rfl ⟨rfl, rfl⟩ (by kernel_rfl) rfl
    (fun f fn hf hfn => by
      obtain rfl : f = 3 := Option.some.inj ((show Tryd.prog.funcNamed "idiom/idiomlaw11.CompactChecks" = some 3 by kernel_rfl).symm.trans hf) |>.symm
      obtain rfl : fn = Tryd.f3 := (Option.some.inj (Tryd.func3.symm.trans hfn)).symm
      exact ⟨by kernel_rfl, fun j t ht => by
        rw [Tryd.params3] at ht
        have hm : t ∈ [22] := by simpa using Array.mem_of_getElem? ht
        have hall : ([22].all fun u => !Tryd.prog.wantsStandIn u) = true := by kernel_rfl
        exact (show Tryd.prog.wantsStandIn t = false by simpa using List.all_eq_true.1 hall t hm)⟩)
    (by kernel_rfl)
#print axioms compactChecks_holds
end Go.Proofs.YtahlkcnecgihbaaDoor
