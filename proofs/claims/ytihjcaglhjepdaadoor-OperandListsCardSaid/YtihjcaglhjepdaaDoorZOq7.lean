/- A part of the proof. -/
import Derived.Test.YtihjcaglhjepdaaDoorZOq6
import Derived.Test.YtihjcaglhjepdaaDoorTie
import Derived.Test.YtihjcaglhjepdaaDoorCards
import Derived.WalkKit
import Derived.ProofKit
import Derived.OpenShut
import Derived.ShutString
import Derived.ChangeOld
import Derived.Below
import Derived.SizedLaws
import Derived.LaidMore
import Derived.Lay
import Derived.SevenTiedAt
import Derived.Stop.Joined
import Derived.Lib.SmallJoins
import Derived.Deep.SlicePairs
import Derived.Carry
import Derived.Lib.LaidTab
import Derived.LaidSub
namespace Go.Proofs.YtihjcaglhjepdaaDoor.R
open Go.ChangeShapes Go.WideShapes Go.ChangeAt Go.RowKit
open Go.ChangeMaps (open_string shut_string)
open Go.Joins (open_agg3 shut_agg3)
set_option linter.unusedVariables false
theorem own : ownKnob Tryd.prog.godebug = none := by kernel_rfl
section
variable {H : Type} {enc : TypeId × Value → H} {w : World} {base : Nat} {spare : Nat → Bool} {held : Bool}
set_option maxRecDepth 100000 in
theorem shut_dec (n : Bool) (a b : ByteArray) (ha : a.size ≤ maxLen) (hb : b.size ≤ maxLen) :
    DataW.Trod enc Tryd.prog w base spare held 23 (.agg #[.bool n, .string a, .string b]) (.agg [.lit (.bool n), .lit (.string a.data.toList), .lit (.string b.data.toList)]) [] :=
  shut_agg3 Tryd.underlying23 (by kernel_rfl) (by kernel_rfl) (shut_bool Tryd.underlying4 n) (shut_string Tryd.underlying9 ha) (shut_string Tryd.underlying9 hb)
theorem mem_all {l : List Nat} (h : l.all (· ≤ reachBytes) = true) {n : Nat} (hn : n ∈ l) : n ≤ reachBytes := by
 have := List.all_eq_true.1 h n hn
 simpa using this
theorem reach_fit : reachBytes ≤ 1000000000000000000 := by decide
end
end Go.Proofs.YtihjcaglhjepdaaDoor.R
namespace Go.Proofs.YtihjcaglhjepdaaDoor.R
open Go.ChangeShapes Go.WideShapes Go.ChangeAt Go.RowKit Go.Deep
open Go.ChangeMaps (open_string shut_string)
set_option linter.unusedVariables false
set_option linter.unusedSimpArgs false
theorem array9 {α : Type} {cs : Array α} (h : cs.size = 9) : ∃ c0 c1 c2 c3 c4 c5 c6 c7 c8, cs = #[c0, c1, c2, c3, c4, c5, c6, c7, c8] := by
  obtain ⟨l⟩ := cs
  match l, h with
  | [c0, c1, c2, c3, c4, c5, c6, c7, c8], _ => exact ⟨c0, c1, c2, c3, c4, c5, c6, c7, c8, rfl⟩
section
variable {H : Type} {enc : TypeId × Value → H} {w : World} {base : Nat} {spare : Nat → Bool} {held : Bool}
def opsV (n : Bool) (a b i : ByteArray) (v u : Int) (f t : ByteArray) (e : Int) : Value := .agg #[.bool n, .string a, .string b, .string i, .int .i64 v, .int .i64 u, .string f, .string t, .int .i64 e]
def opsD (n : Bool) (a b i : ByteArray) (v u : Int) (f t : ByteArray) (e : Int) : DataW H := .agg [.agg [.lit (.bool n), .lit (.string a.data.toList), .lit (.string b.data.toList)], .lit (.string i.data.toList), .lit (.int .i64 v), .lit (.int .i64 u), .lit (.string f.data.toList), .lit (.string t.data.toList), .lit (.int .i64 e)]
set_option maxRecDepth 100000 in
theorem open_ops {r : Reach} {b0 : Nat} {x : Value} {d : DataW H} {p : List MemPlace} (hv : Value.okWide Tryd.prog w r b0 45 x) (h : DataW.Trod enc Tryd.prog w base spare held 45 x d p) :
    ∃ (n : Bool) (a b i : ByteArray) (v u : Int) (f t : ByteArray) (e : Int), x = opsV n a b i v u f t e ∧ d = opsD n a b i v u f t e ∧ p = [] ∧ a.size ≤ maxLen ∧ b.size ≤ maxLen ∧ i.size ≤ maxLen ∧ (Lit.int .i64 v).wf = true ∧ (Lit.int .i64 u).wf = true ∧ f.size ≤ maxLen ∧ t.size ≤ maxLen ∧ (Lit.int .i64 e).wf = true := by
  obtain ⟨cs, rfl, hsz⟩ := okWide_struct Tryd.underlying45 hv
  obtain ⟨c0, c1, c2, c3, c4, c5, c6, c7, c8, rfl⟩ := array9 (hsz.trans (by kernel_rfl))
  obtain ⟨fuel, hf⟩ := h
  obtain ⟨xs, n, _, hx, _, hlen, hf⟩ := DataW.trod_struct Tryd.underlying45 hf
  have k23 : Tryd.prog.cellsOf 23 = 3 := by kernel_rfl
  have k9 : Tryd.prog.cellsOf 9 = 1 := by kernel_rfl
  have k3 : Tryd.prog.cellsOf 3 = 1 := by kernel_rfl
  match xs, hlen with
  | [y0, y1, y2, y3, y4, y5, y6], _ =>
    have g0 := hf 0 _ rfl
    have g1 := hf 1 _ rfl
    have g2 := hf 2 _ rfl
    have g3 := hf 3 _ rfl
    have g4 := hf 4 _ rfl
    have g5 := hf 5 _ rfl
    have g6 := hf 6 _ rfl
    simp [Value.cells, k23, k9, k3] at g0 g1 g2 g3 g4 g5 g6
    obtain ⟨z0, z1, z2, m, hz, _, q0, q1, q2⟩ := trod_struct3 Tryd.underlying23 g0
    simp [k9, show Tryd.prog.cellsOf 4 = 1 by kernel_rfl] at q0 q1 q2
    obtain ⟨n0, e0, rfl⟩ := DataW.trod_bool Tryd.underlying4 q0
    obtain ⟨s1, e1, rfl, j1⟩ := DataW.trod_string Tryd.underlying9 q1
    obtain ⟨s2, e2, rfl, j2⟩ := DataW.trod_string Tryd.underlying9 q2
    obtain ⟨s3, e3, rfl, j3⟩ := DataW.trod_string Tryd.underlying9 g1
    obtain ⟨i4, e4, rfl, j4⟩ := DataW.trod_int Tryd.underlying3 g2
    obtain ⟨i5, e5, rfl, j5⟩ := DataW.trod_int Tryd.underlying3 g3
    obtain ⟨s6, e6, rfl, j6⟩ := DataW.trod_string Tryd.underlying9 g4
    obtain ⟨s7, e7, rfl, j7⟩ := DataW.trod_string Tryd.underlying9 g5
    obtain ⟨i8, e8, rfl, j8⟩ := DataW.trod_int Tryd.underlying3 g6
    simp only [List.cons.injEq, and_true] at e0 e1 e2 e3 e4 e5 e6 e7 e8
    subst e0 e1 e2 e3 e4 e5 e6 e7 e8 hz
    simp only [Prod.mk.injEq, List.map_cons, List.map_nil, List.flatMap_cons, List.flatMap_nil, List.append_nil] at hx
    exact ⟨n0, s1, s2, s3, i4, i5, s6, s7, i8, rfl, hx.1, hx.2, j1, j2, j3, j4, j5, j6, j7, j8⟩
set_option maxRecDepth 100000 in
theorem shut_ops {n : Bool} {a b i : ByteArray} {v u : Int} {f t : ByteArray} {e : Int} (ha : a.size ≤ maxLen) (hb : b.size ≤ maxLen) (hi : i.size ≤ maxLen) (hv : (Lit.int .i64 v).wf = true) (hu : (Lit.int .i64 u).wf = true) (hf : f.size ≤ maxLen) (ht : t.size ≤ maxLen) (he : (Lit.int .i64 e).wf = true) :
    DataW.Trod enc Tryd.prog w base spare held 45 (opsV n a b i v u f t e) (opsD n a b i v u f t e) [] := by
  obtain ⟨k0, t0⟩ := shut_dec (enc := enc) (w := w) (base := base) (spare := spare) (held := held) n a b ha hb
  obtain ⟨k1, t1⟩ := shut_string (enc := enc) (w := w) (base := base) (sp := spare) (held := held) Tryd.underlying9 hi
  obtain ⟨k2, t2⟩ := shut_int (enc := enc) (w := w) (base := base) (spare := spare) (held := held) Tryd.underlying3 hv
  obtain ⟨k3, t3⟩ := shut_int (enc := enc) (w := w) (base := base) (spare := spare) (held := held) Tryd.underlying3 hu
  obtain ⟨k4, t4⟩ := shut_string (enc := enc) (w := w) (base := base) (sp := spare) (held := held) Tryd.underlying9 hf
  obtain ⟨k5, t5⟩ := shut_string (enc := enc) (w := w) (base := base) (sp := spare) (held := held) Tryd.underlying9 ht
  obtain ⟨k6, t6⟩ := shut_int (enc := enc) (w := w) (base := base) (spare := spare) (held := held) Tryd.underlying3 he
  have c23 : Tryd.prog.cellsOf 23 = 3 := by kernel_rfl
  have c9 : Tryd.prog.cellsOf 9 = 1 := by kernel_rfl
  have c3 : Tryd.prog.cellsOf 3 = 1 := by kernel_rfl
  have u0 := DataW.trod_le (show k0 ≤ k0 + k1 + k2 + k3 + k4 + k5 + k6 by omega) t0
  have u1 := DataW.trod_le (show k1 ≤ k0 + k1 + k2 + k3 + k4 + k5 + k6 by omega) t1
  have u2 := DataW.trod_le (show k2 ≤ k0 + k1 + k2 + k3 + k4 + k5 + k6 by omega) t2
  have u3 := DataW.trod_le (show k3 ≤ k0 + k1 + k2 + k3 + k4 + k5 + k6 by omega) t3
  have u4 := DataW.trod_le (show k4 ≤ k0 + k1 + k2 + k3 + k4 + k5 + k6 by omega) t4
  have u5 := DataW.trod_le (show k5 ≤ k0 + k1 + k2 + k3 + k4 + k5 + k6 by omega) t5
  have u6 := DataW.trod_le (show k6 ≤ k0 + k1 + k2 + k3 + k4 + k5 + k6 by omega) t6
  simp only [Value.cells] at u0 u1 u2 u3 u4 u5 u6
  refine ⟨k0 + k1 + k2 + k3 + k4 + k5 + k6 + 1, ?_⟩
  have := trod_struct_mk (enc := enc) (w := w) (base := base) (spare := spare) (held := held) (n := k0 + k1 + k2 + k3 + k4 + k5 + k6) (cs := [.bool n, .string a, .string b, .string i, .int .i64 v, .int .i64 u, .string f, .string t, .int .i64 e]) (xs := [_, _, _, _, _, _, _]) Tryd.underlying45
    (by kernel_rfl) (by
      simp [c23, c9, c3, u0, u1, u2, u3, u4, u5, u6]
      exact ⟨rfl, rfl, rfl, rfl, rfl, rfl, rfl⟩)
  exact this
theorem sized_ops {ts : List TypeId} {ds : List (DataW H)} (h : (DataW.weightsEach Tryd.prog ts ds).all (· ≤ reachBytes) = true) {j : Nat} {n : Bool} {a b i : ByteArray} {v u : Int} {f t : ByteArray} {e : Int} (ht : ts[j]? = some 45)
    (hd : ds[j]? = some (opsD n a b i v u f t e)) : a.size ≤ reachBytes ∧ b.size ≤ reachBytes ∧ i.size ≤ reachBytes ∧ f.size ≤ reachBytes ∧ t.size ≤ reachBytes := by
 have key : ∀ m ∈ DataW.weights Tryd.prog 45 (opsD n a b i v u f t e : DataW H), m ≤ reachBytes := fun m hm => mem_all h (DataW.weights_mem_each ht hd m hm)
 have sz : ∀ s : ByteArray, s.data.toList.length = s.size := fun s => by rw [Array.length_toList]; rfl
 rw [← sz a, ← sz b, ← sz i, ← sz f, ← sz t]
 refine ⟨key _ ?_, key _ ?_, key _ ?_, key _ ?_, key _ ?_⟩ <;> simp [opsD, DataW.weights, DataW.weightsEach, Tryd.underlying45, Tryd.underlying23]
end
end Go.Proofs.YtihjcaglhjepdaaDoor.R
namespace Go.Proofs.YtihjcaglhjepdaaDoor.R
open Go.ChangeShapes Go.WideShapes Go.ChangeAt Go.RowKit Go.Deep Go.Proofs.YtihjcaglhjepdaaDoorW.PrintWords Go.Proofs.YtihjcaglhjepdaaDoor.P
set_option linter.unusedVariables false
set_option linter.unusedSimpArgs false
theorem laidOut : laidOutB Tryd.prog = true := by kernel_rfl
theorem array5 {α : Type} {cs : Array α} (h : cs.size = 5) : ∃ c0 c1 c2 c3 c4, cs = #[c0, c1, c2, c3, c4] := by
  obtain ⟨l⟩ := cs
  match l, h with
  | [c0, c1, c2, c3, c4], _ => exact ⟨c0, c1, c2, c3, c4, rfl⟩
section
variable {H : Type} {enc : TypeId × Value → H} {w : World} {base : Nat} {spare : Nat → Bool} {held : Bool}
def spanD (s : S60) : DataW H := .agg [.lit (.string s.f0.data.toList), .lit (.string s.f1.data.toList)]
theorem choose_le {α : Type} [Inhabited α] {n : Nat} {p : Nat → α → Prop} (h : ∀ i, i < n → ∃ x, p i x) : ∃ f : Nat → α, ∀ i, i < n → p i (f i) := choose_lt h
set_option maxRecDepth 100000 in
theorem open_spans {fuel : Nat} {cs : List Value} {x : DataW H × List MemPlace} (h : DataW.trod enc Tryd.prog w base spare held fuel 52 cs = some x) :
    ∃ (A : Option Addr) (l : List S60) (c : Nat) (D : DataW H), cs = [.slice A l.length c] ∧ l.length ≤ c ∧ Kd.C k60 w A l.length l ∧ x.1 = D ∧ ((D = .nil ∧ l = []) ∨ ∃ sp, D = .slice (l.map spanD) sp) := by
  rcases open_slice_pairs Tryd.underlying52 Tryd.underlying60 (by kernel_rfl) rfl rfl (by kernel_rfl) (by kernel_rfl) h with ⟨rfl, rfl⟩ | ⟨a, len, cap, m, n, V0, V1, D0, D1, P0, P1, rfl, hb, hl, hm, hmm, rfl, hx⟩
  · exact ⟨none, [], 0, .nil, rfl, by simp, ⟨rfl, by simp, fun h => absurd h (by simp)⟩, rfl, .inl ⟨rfl, rfl⟩⟩
  · have hlm : len ≤ m := by rw [hmm]; split <;> omega
    have each : ∀ i, i < len → ∃ s : S60, V0 i = .string s.f0 ∧ V1 i = .string s.f1 ∧ D0 i = .lit (.string s.f0.data.toList) ∧ D1 i = .lit (.string s.f1.data.toList) := by
      intro i hi
      obtain ⟨_, _, h0, h1⟩ := hx i (by omega)
      obtain ⟨s0, e0, f0, _⟩ := DataW.trod_string Tryd.underlying9 h0
      obtain ⟨s1, e1, f1, _⟩ := DataW.trod_string Tryd.underlying9 h1
      simp only [List.cons.injEq, and_true] at e0 e1
      exact ⟨⟨s0, s1⟩, e0, e1, (Prod.mk.inj f0).1, (Prod.mk.inj f1).1⟩
    haveI : Inhabited S60 := ⟨⟨ByteArray.empty, ByteArray.empty⟩⟩
    obtain ⟨q, hq⟩ := choose_le each
    have hlen : ((List.range len).map q).length = len := by simp
    have hmax : maxLen ≤ 9223372036854775807 := by decide
    refine ⟨some a, (List.range len).map q, cap, _, by rw [hlen], by rw [hlen]; exact hl, ⟨rfl, by rw [hlen]; omega, fun _ => ⟨a, rfl, ?_⟩⟩, rfl, .inr ⟨(List.range (m - len)).map fun j => .agg [D0 (len + j), D1 (len + j)], ?_⟩⟩
    · intro j p hp
      rw [List.getElem?_map] at hp
      obtain ⟨i, hi, rfl⟩ := Option.map_eq_some_iff.1 hp
      rw [List.getElem?_range] at hi
      · obtain rfl := Option.some.inj hi
        have hj : j < len := by
          by_cases h : j < len
          · exact h
          · rw [List.getElem?_eq_none (by simp; omega)] at hp; cases hp
        obtain ⟨c0, c1, _, _⟩ := hx j (by omega)
        refine ⟨[.string (q j).f0, .string (q j).f1], rfl, k60_mk w (q j), ?_⟩
        intro i u hu
        have sz : k60.sz = 2 := rfl
        rw [sz]
        match i, hu with
        | 0, hu => simp at hu; subst hu; rw [Nat.add_zero, c0, (hq j hj).1]
        | 1, hu => simp at hu; subst hu; rw [c1, (hq j hj).2.1]
        | i + 2, hu => simp at hu
      · by_cases h : j < len
        · exact h
        · rw [List.getElem?_eq_none (by simp; omega)] at hp; cases hp
    · rw [List.map_map]
      suffices e : (List.range len).map (fun i => (DataW.agg [D0 i, D1 i] : DataW H)) = (List.range len).map (spanD ∘ q) by
        show DataW.slice _ _ = _
        rw [e]
      apply List.map_congr_left
      intro i hi
      have hi' := List.mem_range.1 hi
      show _ = spanD (q i)
      rw [(hq i hi').2.2.1, (hq i hi').2.2.2]; rfl
def relD (o m : ByteArray) (nt wi : Bool) (D : DataW H) : DataW H := .agg [.lit (.string o.data.toList), .lit (.string m.data.toList), .lit (.bool nt), .lit (.bool wi), D]
set_option maxRecDepth 100000 in
theorem open_rel {r : Reach} {b0 : Nat} {x : Value} {d : DataW H} {p : List MemPlace} (hv : Value.okWide Tryd.prog w r b0 54 x) (h : DataW.Trod enc Tryd.prog w base spare held 54 x d p) :
    ∃ (o m : ByteArray) (nt wi : Bool) (A : Option Addr) (l : List S60) (c : Nat) (D : DataW H), x = .agg #[.string o, .string m, .bool nt, .bool wi, .slice A l.length c] ∧ d = relD o m nt wi D ∧ Kd.C k60 w A l.length l ∧ l.length ≤ c ∧
      o.size ≤ maxLen ∧ m.size ≤ maxLen ∧ ((D = .nil ∧ l = []) ∨ ∃ sp, D = .slice (l.map spanD) sp) := by
  obtain ⟨cs, rfl, hsz⟩ := okWide_struct Tryd.underlying54 hv
  obtain ⟨c0, c1, c2, c3, c4, rfl⟩ := array5 (hsz.trans (by kernel_rfl))
  obtain ⟨fuel, hf⟩ := h
  obtain ⟨xs, n, _, hx, _, hlen, hf⟩ := DataW.trod_struct Tryd.underlying54 hf
  have k9 : Tryd.prog.cellsOf 9 = 1 := by kernel_rfl
  have k4 : Tryd.prog.cellsOf 4 = 1 := by kernel_rfl
  have k52 : Tryd.prog.cellsOf 52 = 1 := by kernel_rfl
  match xs, hlen with
  | [y0, y1, y2, y3, y4], _ =>
    have g0 := hf 0 _ rfl
    have g1 := hf 1 _ rfl
    have g2 := hf 2 _ rfl
    have g3 := hf 3 _ rfl
    have g4 := hf 4 _ rfl
    simp [Value.cells, k9, k4, k52] at g0 g1 g2 g3 g4
    obtain ⟨s0, e0, rfl, j0⟩ := DataW.trod_string Tryd.underlying9 g0
    obtain ⟨s1, e1, rfl, j1⟩ := DataW.trod_string Tryd.underlying9 g1
    obtain ⟨b2, e2, rfl⟩ := DataW.trod_bool Tryd.underlying4 g2
    obtain ⟨b3, e3, rfl⟩ := DataW.trod_bool Tryd.underlying4 g3
    obtain ⟨A, l, c, D, e4, hc, hC, hD, hE⟩ := open_spans g4
    simp only [List.cons.injEq, and_true] at e0 e1 e2 e3 e4
    subst e0 e1 e2 e3 e4
    simp only [Prod.mk.injEq, List.map_cons, List.map_nil] at hx
    refine ⟨s0, s1, b2, b3, A, l, c, D, rfl, ?_, hC, hc, j0, j1, hE⟩
    rw [hx.1, hD]; rfl
theorem weights_all {P : Program} {t : TypeId} : ∀ {ds : List (DataW H)} {d : DataW H}, d ∈ ds → ∀ n ∈ d.weights P t, n ∈ DataW.weightsAll P t ds
  | e :: ds, d, hd, n, hn => by
    rw [DataW.weightsAll]
    rcases List.mem_cons.1 hd with rfl | hd
    · exact List.mem_append_left _ hn
    · exact List.mem_append_right _ (weights_all hd n hn)
theorem sized_rel {ts : List TypeId} {ds : List (DataW H)} (h : (DataW.weightsEach Tryd.prog ts ds).all (· ≤ reachBytes) = true) {j : Nat} {o m : ByteArray} {nt wi : Bool} {l : List S60} {D : DataW H} (ht : ts[j]? = some 54)
    (hd : ds[j]? = some (relD o m nt wi D)) (hE : (D = .nil ∧ l = []) ∨ ∃ sp, D = .slice (l.map spanD) sp) : o.size ≤ reachBytes ∧ m.size ≤ reachBytes ∧ (∀ s ∈ l, s.f0.size ≤ reachBytes ∧ s.f1.size ≤ reachBytes) ∧ l.length < 4398046511104 := by
  have key : ∀ k ∈ DataW.weights Tryd.prog 54 (relD o m nt wi D : DataW H), k ≤ reachBytes := fun k hk => mem_all h (DataW.weights_mem_each ht hd k hk)
  have sz : ∀ s : ByteArray, s.data.toList.length = s.size := fun s => by rw [Array.length_toList]; rfl
  have hD : ∀ k ∈ DataW.weights Tryd.prog 52 D, k ≤ reachBytes := fun k hk => key k (by simp [relD, DataW.weights, DataW.weightsEach, Tryd.underlying54]; exact .inr (.inr hk))
  refine ⟨by rw [← sz o]; exact key _ (by simp [relD, DataW.weights, DataW.weightsEach, Tryd.underlying54]), by rw [← sz m]; exact key _ (by simp [relD, DataW.weights, DataW.weightsEach, Tryd.underlying54]), ?_, ?_⟩
  · intro s hs
    rcases hE with ⟨_, rfl⟩ | ⟨sp, rfl⟩
    · cases hs
    · have hw : ∀ k ∈ DataW.weights Tryd.prog 60 (spanD s : DataW H), k ≤ reachBytes := by
        intro k hk
        refine hD k ?_
        rw [DataW.weights, Tryd.underlying52]
        exact List.mem_cons_of_mem _ (List.mem_append_left _ (weights_all (List.mem_map.2 ⟨s, hs, rfl⟩) k hk))
      rw [← sz s.f0, ← sz s.f1]
      exact ⟨hw _ (by simp [spanD, DataW.weights, DataW.weightsEach, Tryd.underlying60]), hw _ (by simp [spanD, DataW.weights, DataW.weightsEach, Tryd.underlying60])⟩
  · rcases hE with ⟨_, rfl⟩ | ⟨sp, rfl⟩
    · decide
    · have hw := hD ((( l.map spanD : List (DataW H)).length + sp.length) * Tryd.prog.bytesOf 60) (by rw [DataW.weights, Tryd.underlying52]; exact List.mem_cons_self)
      have b : Tryd.prog.bytesOf 60 = 32 := by kernel_rfl
      rw [b, List.length_map] at hw
      have := reachBytes_lt
      omega
end
end Go.Proofs.YtihjcaglhjepdaaDoor.R
namespace Go.Proofs.YtihjcaglhjepdaaDoor.ROperandLists
open Go.ChangeShapes Go.WideShapes Go.ChangeAt Go.RowKit
open Go.ChangeMaps (open_string shut_string)
set_option linter.unusedVariables false
theorem tab_of {W : World} (h : laidMetH Tryd.prog Rows.operandListsRow.laid W) : Lib.TabIs Tryd.prog W "internal/strconv.uint64pow10" .u64 Lib.pow10Tab := by
 have h1 := laidMetH.filter (fun x => x.1 == "internal/strconv.uint64pow10") h
 have e : (Rows.operandListsRow.laid.filter fun x => x.1 == "internal/strconv.uint64pow10") = [("internal/strconv.uint64pow10", Lib.tabData .u64 Lib.pow10Tab)] := by kernel_rfl
 rw [e, MakeChecks.laidMetH_plain _ _ _ (by kernel_rfl)] at h1
 exact Lib.tabIs_of_head (g := 3) (t := 155) (e := 132) (n := 20) (by kernel_rfl) (by kernel_rfl) (by kernel_rfl) (by kernel_rfl) (by kernel_rfl) (by kernel_rfl) h1
set_option maxRecDepth 100000 in
theorem lifted (os : Os) (started : os.Started) (H : Type) (enc : TypeId × Value → H) :
    ReturnsInHanded {} Tryd.checked os 15 .any (fun w args => (Rows.operandListsSpec.pre enc Tryd.prog Tryd.f15 Rows.operandListsRow.domain false w args ∧ laidMetH Tryd.prog Rows.operandListsRow.laid w) ∧ sizedMet enc Tryd.prog Tryd.f15 (OpenSpec.ofChange Rows.operandListsSpec) false w args)
      (Rows.operandListsSpec.post enc Tryd.prog Tryd.f15 false true false false) := by
  refine returnsInHanded_of_change_and (C := Tryd.checked) (X := fun w _ => laidMetH Tryd.prog Rows.operandListsRow.laid w) (fun _ _ _ hh h => h.of_heap hh) R.own started (by kernel_rfl) Tryd.func15
    (ChangeSpec.witness_shaped (enc := enc) (C := Tryd.checked) (os := os) (X := fun w _ => laidMetH Tryd.prog Rows.operandListsRow.laid w) false (World.laidAll Tryd.prog os Rows.operandListsRow.laid) #[.agg #[.bool false, .string ByteArray.empty, .string ByteArray.empty, .string ByteArray.empty, .int .i64 0, .int .i64 0, .string ByteArray.empty, .string ByteArray.empty, .int .i64 0], .agg #[.string ByteArray.empty, .string ByteArray.empty, .bool false, .bool false, .slice none 0 0]] 8 (World.laidAll_os _ _ _)
      (World.shaped_of_ZipB (by kernel_rfl) (by kernel_rfl)) (by kernel_rfl) (by kernel_rfl) (by kernel_rfl)
      (by rw [MakeChecks.laidMetH_plain _ _ _ (by kernel_rfl)]; exact laidMet_laidAll _ (by kernel_rfl) (by kernel_rfl))) ?_
  intro W base args ds gs before hval0 hW hcnd hsz0 hx1_ hx2_
  have hsz : (DataW.weightsEach Tryd.prog (Tryd.f15.params.toList ++ Rows.operandListsSpec.plain.varTypes Tryd.prog) (ds ++ gs)).all (· ≤ reachBytes) = true := hsz0
  have hval : ∀ (j : Nat) t v, Tryd.f15.params[j]? = some t → args[j]? = some v → Value.okWide Tryd.prog W .any base t v := hval0
  have hW' := hW
  obtain ⟨p, q, hA0, hV, rfl, hfz, hnd⟩ := hW
  have hA : DataW.TrodAll enc Tryd.prog W 0 (fun _ => true) true Tryd.f15.params.toList args.toList ds p := hA0
  rw [Tryd.params15] at hA hval hsz
  obtain ⟨v0, vs0, d0, ds0, p0, q0, hargs, rfl, rfl, h0, r0⟩ := trodAll_cons hA
  obtain ⟨v1, vs1, d1, ds1, p1, q1, rfl, rfl, rfl, h1, r1⟩ := trodAll_cons r0
  obtain ⟨rfl, rfl, rfl⟩ := trodAll_nil r1
  obtain rfl : args = #[v0, v1] := by cases args; simp_all
  obtain ⟨rfl, rfl⟩ := trodVars_none hV
  obtain ⟨n0, a0, b0, i0, v0_, u0, f0, t0, e0, rfl, rfl, rfl, ya0, yb0, yi0, yv0, yu0, yf0, yt0, ye0⟩ := R.open_ops (hval 0 45 v0 rfl rfl) h0
  obtain ⟨o1, m1, x1, y1, A1, l1, c1, D1, rfl, rfl, hC1, hc1, yo1, ym1, hE1⟩ := R.open_rel (hval 1 54 v1 rfl rfl) h1
  have lt1 : ∀ x ∈ p1, x.block < W.heap.size := by obtain ⟨m_, hm_⟩ := h1; exact DataW.trod_lt m_ _ _ _ hm_
  have z0 := R.sized_ops hsz (j := 0) (n := n0) (v := v0_) (u := u0) (e := e0) rfl rfl
  have z1 := R.sized_rel hsz (j := 1) (o := o1) (m := m1) (nt := x1) (wi := y1) rfl rfl hE1
  clear hA0 hval0 hsz0 hsz
  obtain ⟨k, hk⟩ := Q.lists_law n0 a0 b0 i0 v0_ u0 f0 t0 e0 o1 m1 x1 y1 l1 (Nat.le_trans z0.1 R.reach_fit) (Nat.le_trans z0.2.1 R.reach_fit) (Nat.le_trans z0.2.2.1 R.reach_fit) yv0 yu0 (Nat.le_trans z0.2.2.2.1 R.reach_fit) (Nat.le_trans z0.2.2.2.2 R.reach_fit) ye0 (Nat.le_trans z1.1 R.reach_fit) (Nat.le_trans z1.2.1 R.reach_fit) (fun s hs => ⟨Nat.le_trans (z1.2.2.1 s hs).1 R.reach_fit, Nat.le_trans (z1.2.2.1 s hs).2 R.reach_fit⟩) z1.2.2.2
  have htb : P.TB W := by first | exact tab_of hx1_ | exact tab_of hx2_ | exact tab_of hx1_.1 | exact tab_of hx1_.2
  refine (P.idiomlaw04_OperandLists.calls k n0 a0 b0 i0 v0_ u0 f0 t0 e0 o1 m1 x1 y1 A1 c1 l1 true W htb hC1 hc1 hk).mono fun e W' ⟨he, bel⟩ => ?_
  subst he
  exact ⟨_, rfl, _, _, _, [], _, [], hW', trodAll_mk1 (shut_bool Tryd.underlying4 _), (trodAll_cons_mk (R.shut_ops ya0 yb0 yi0 yv0 yu0 yf0 yt0 ye0) (trodAll_cons_mk (Below.trod R.laidOut (by kernel_rfl) (of_decide_eq_true (by kernel_rfl)) h1 bel lt1) trodAll_mk0)), rfl, bel.frame _, fun h => by cases h⟩
theorem over : Rows.OperandListsSaid :=
  OpenClaim.holds_of_wide 15 Tryd.f15 rfl rfl rfl rfl rfl rfl rfl ⟨rfl, rfl, rfl, rfl, rfl⟩ rfl rfl rfl rfl rfl (by kernel_rfl) Tryd.func15 (by kernel_rfl)
    (of_decide_eq_true (by kernel_rfl)) (by unfold Func.isWrapper; first | (rw [if_pos (by decide +kernel)]; kernel_rfl) | (rw [if_neg (by decide +kernel)]; exact ⟨rfl, rfl⟩))
    (fun os started H enc _ => lifted os started H enc)
end Go.Proofs.YtihjcaglhjepdaaDoor.ROperandLists
namespace Go.Proofs.YtihjcaglhjepdaaDoor
theorem operandLists_holds : Rows.OperandListsCardSaid :=
  Claim7.holds_tied_plain_at .later [] [.data, .data, .data, .data, .pinned] true (true, "dafd8735d843c9a93ae20bf10737f61b362ff45b2b916e64999ae59b55174d13") false ROperandLists.over (fun _ h => by cases h) (by kernel_rfl) (fun _ h => by cases h) operandLists_row_tie rfl ⟨rfl, rfl⟩ (by kernel_rfl) rfl
    (fun f fn hf hfn => by
      obtain rfl : f = 15 := Option.some.inj ((show Tryd.prog.funcNamed "idiom/idiomlaw04.OperandLists" = some 15 by kernel_rfl).symm.trans hf) |>.symm
      obtain rfl : fn = Tryd.f15 := (Option.some.inj (Tryd.func15.symm.trans hfn)).symm
      exact ⟨by kernel_rfl, fun j t ht => by
        rw [Tryd.params15] at ht
        have hm : t ∈ [45, 54] := by simpa using Array.mem_of_getElem? ht
        have hall : ([45, 54].all fun u => !Tryd.prog.wantsStandIn u) = true := by kernel_rfl
        exact (show Tryd.prog.wantsStandIn t = false by simpa using List.all_eq_true.1 hall t hm)⟩)
    (by kernel_rfl)
#print axioms operandLists_holds
end Go.Proofs.YtihjcaglhjepdaaDoor
