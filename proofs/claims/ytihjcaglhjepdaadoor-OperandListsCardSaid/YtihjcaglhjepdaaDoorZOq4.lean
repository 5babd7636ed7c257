/- A part of the proof. Part 5 of 8; its texts were written by programs, some out of the kit's print. -/
import Derived.Test.YtihjcaglhjepdaaDoorZOq3
namespace Go.Proofs.YtihjcaglhjepdaaDoor.P
open Go.RowKit Go.Proofs.YtihjcaglhjepdaaDoorW.PrintWords Go.Proofs.YtihjcaglhjepdaaDoorW.PrintLast Go.Proofs.YtihjcaglhjepdaaDoorW.PrintMore
attribute [local go_sem] max2_int max_two
set_option linter.unusedVariables false
set_option linter.unusedSimpArgs false
set_option maxHeartbeats 8000000 in
set_option maxRecDepth 100000 in
def idiomlaw04_OperandLists.calls_r1_s : PSigma fun T2 : Prop => idiomlaw04_OperandLists.Kept T2 → (idiomlaw04_OperandLists.calls_r0_s.1) := by
  apply PSigma.mk
  case snd =>
   intro hrest2
   intro k a0_0 a0_1 a0_2 a0_3 a0_4 a0_5 a0_6 a0_7 a0_8 a1_0 a1_1 a1_2 a1_3 A1_4 c1_4 l1_4 r w hu45 hu54 hu23 hu60 HR1_4 HC1_4 HTB z0_1 gb1226 w5 GW1226 GE1226 gb1227 w6 GW1227 GE1227 NB1226_1227 LB1226_1227 NB1227_1226 w7 hb A3 t1229 t1230 t1231 t1232 t1233 A9 t1236 t1237 t1238 t1239 t1240 A10 t1243 t1244 t1245 t1246 t1247 A11 t1253 t1254 t1255 t1256 t1257 A12 t1260 t1261 A13 t1262 t1263 A14 t1264 t1265 A15 HC16 z0_2 z0_3 z0_4 HT_ HW_ w17 BK1226 BK1227 HB hHeld hJ1_3_5_6_7_8 hJ1_3_5_6_7 hJ1_3_5_6_8 hJ1_3_5_7_8 hJ1_3_6_7_8 hJ1_3_5_6 hJ1_3_5_7 hJ1_3_5_8 hJ1_3_6_7 hJ1_3_6_8 hJ1_3_7_8 hJ1_6_7_8 hJ1_3_5 hJ1_3_6 hJ1_3_7 hJ1_3_8 hJ1_6_7
   refine join_ (σ := Value × Nat × Nat) 6 #[true, true, true, false, true, false, true, false, true, false, false, false] (fun s_ => [(28, .agg #[.string t1229, .string t1230, .bool t1231, .bool t1232, s_.1]), (5, .pointer (some ⟨s_.2.1, 0, none⟩)), (7, .pointer (some ⟨s_.2.2, 0, none⟩))]) (fun s_ w' => (w'.cell? ⟨gb1227, 0, none⟩ = some (.string a1_0) ∧ w'.cell? ⟨gb1227, 1, none⟩ = some (.string a1_1) ∧ w'.cell? ⟨gb1227, 2, none⟩ = some (.bool a1_2) ∧ w'.cell? ⟨gb1227, 3, none⟩ = some (.bool a1_3) ∧ w'.cell? ⟨gb1227, 4, none⟩ = some (.slice A1_4 l1_4.length c1_4)) ∧ Aside0 (Kd.R k60 60 w' w.heap.size (fun _ => True) s_.1 t1233) ∧ Aside0 (w'.heap[gb1226]? = some (.cells #[.bool a0_0, .string a0_1, .string a0_2, .string a0_3, .int .i64 a0_4, .int .i64 a0_5, .string a0_6, .string a0_7, .int .i64 a0_8] 45 (0, 0))) ∧ Aside0 (w'.heap[gb1227]? = some (.cells #[.string a1_0, .string a1_1, .bool a1_2, .bool a1_3, .slice A1_4 l1_4.length c1_4] 54 (0, 0))) ∧ Aside0 (w'.heap[s_.2.1]? = some (.cells #[.string (⟨#[]⟩ : ByteArray), .string (⟨#[]⟩ : ByteArray), .bool false, .bool false, .slice none 0 0] 54 (0, 0))) ∧ Aside0 (w'.heap[s_.2.2]? = some (.cells #[.string (⟨#[]⟩ : ByteArray), .string (⟨#[]⟩ : ByteArray), .bool false, .bool false, .slice none 0 0] 54 (0, 0))) ∧ Aside0 (w.heap.size ≤ s_.2.1) ∧ Aside0 (w.heap.size ≤ s_.2.1) ∧ Aside0 (gb1226 < s_.2.1) ∧ Aside0 (s_.2.1 ≠ gb1226) ∧ Aside0 (gb1227 < s_.2.1) ∧ Aside0 (s_.2.1 ≠ gb1227) ∧ Aside0 (s_.2.2 ≠ s_.2.1) ∧ Aside0 (s_.2.1 ≠ s_.2.2) ∧ Aside0 (w.heap.size ≤ s_.2.2) ∧ Aside0 (w.heap.size ≤ s_.2.2) ∧ Aside0 (gb1226 < s_.2.2) ∧ Aside0 (s_.2.2 ≠ gb1226) ∧ Aside0 (gb1227 < s_.2.2) ∧ Aside0 (s_.2.2 ≠ gb1227) ∧ Aside0 (Below w.heap.size w w')) ?_ ?_
   rotate_left
   ·intro hJ1_6_8
    refine join_ (σ := Value × Nat × Nat) 6 #[true, true, true, false, true, false, false, true, true, false, false, false] (fun s_ => [(28, .agg #[.string t1229, .string t1230, .bool t1231, .bool t1232, s_.1]), (6, .pointer (some ⟨s_.2.1, 0, none⟩)), (7, .pointer (some ⟨s_.2.2, 0, none⟩))]) (fun s_ w' => (w'.cell? ⟨gb1227, 0, none⟩ = some (.string a1_0) ∧ w'.cell? ⟨gb1227, 1, none⟩ = some (.string a1_1) ∧ w'.cell? ⟨gb1227, 2, none⟩ = some (.bool a1_2) ∧ w'.cell? ⟨gb1227, 3, none⟩ = some (.bool a1_3) ∧ w'.cell? ⟨gb1227, 4, none⟩ = some (.slice A1_4 l1_4.length c1_4)) ∧ Aside0 (Kd.R k60 60 w' w.heap.size (fun _ => True) s_.1 t1233) ∧ Aside0 (w'.heap[gb1226]? = some (.cells #[.bool a0_0, .string a0_1, .string a0_2, .string a0_3, .int .i64 a0_4, .int .i64 a0_5, .string a0_6, .string a0_7, .int .i64 a0_8] 45 (0, 0))) ∧ Aside0 (w'.heap[gb1227]? = some (.cells #[.string a1_0, .string a1_1, .bool a1_2, .bool a1_3, .slice A1_4 l1_4.length c1_4] 54 (0, 0))) ∧ Aside0 (w'.heap[s_.2.1]? = some (.cells #[.string (⟨#[]⟩ : ByteArray), .string (⟨#[]⟩ : ByteArray), .bool false, .bool false, .slice none 0 0] 54 (0, 0))) ∧ Aside0 (w'.heap[s_.2.2]? = some (.cells #[.string (⟨#[]⟩ : ByteArray), .string (⟨#[]⟩ : ByteArray), .bool false, .bool false, .slice none 0 0] 54 (0, 0))) ∧ Aside0 (w.heap.size ≤ s_.2.1) ∧ Aside0 (w.heap.size ≤ s_.2.1) ∧ Aside0 (gb1226 < s_.2.1) ∧ Aside0 (s_.2.1 ≠ gb1226) ∧ Aside0 (gb1227 < s_.2.1) ∧ Aside0 (s_.2.1 ≠ gb1227) ∧ Aside0 (s_.2.2 ≠ s_.2.1) ∧ Aside0 (s_.2.1 ≠ s_.2.2) ∧ Aside0 (w.heap.size ≤ s_.2.2) ∧ Aside0 (w.heap.size ≤ s_.2.2) ∧ Aside0 (gb1226 < s_.2.2) ∧ Aside0 (s_.2.2 ≠ gb1226) ∧ Aside0 (gb1227 < s_.2.2) ∧ Aside0 (s_.2.2 ≠ gb1227) ∧ Aside0 (Below w.heap.size w w')) ?_ ?_
    rotate_left
    ·intro hJ1_7_8
     refine join_ (σ := Nat × Nat × Nat) 6 #[true, false, true, false, true, false, true, true, true, false, false, false] (fun s_ => [(5, .pointer (some ⟨s_.1, 0, none⟩)), (6, .pointer (some ⟨s_.2.1, 0, none⟩)), (7, .pointer (some ⟨s_.2.2, 0, none⟩))]) (fun s_ w' => (w'.cell? ⟨gb1227, 0, none⟩ = some (.string a1_0) ∧ w'.cell? ⟨gb1227, 1, none⟩ = some (.string a1_1) ∧ w'.cell? ⟨gb1227, 2, none⟩ = some (.bool a1_2) ∧ w'.cell? ⟨gb1227, 3, none⟩ = some (.bool a1_3) ∧ w'.cell? ⟨gb1227, 4, none⟩ = some (.slice A1_4 l1_4.length c1_4)) ∧ Aside0 (w'.heap[gb1226]? = some (.cells #[.bool a0_0, .string a0_1, .string a0_2, .string a0_3, .int .i64 a0_4, .int .i64 a0_5, .string a0_6, .string a0_7, .int .i64 a0_8] 45 (0, 0))) ∧ Aside0 (w'.heap[gb1227]? = some (.cells #[.string a1_0, .string a1_1, .bool a1_2, .bool a1_3, .slice A1_4 l1_4.length c1_4] 54 (0, 0))) ∧ Aside0 (w'.heap[s_.1]? = some (.cells #[.string (⟨#[]⟩ : ByteArray), .string (⟨#[]⟩ : ByteArray), .bool false, .bool false, .slice none 0 0] 54 (0, 0))) ∧ Aside0 (w'.heap[s_.2.1]? = some (.cells #[.string (⟨#[]⟩ : ByteArray), .string (⟨#[]⟩ : ByteArray), .bool false, .bool false, .slice none 0 0] 54 (0, 0))) ∧ Aside0 (w'.heap[s_.2.2]? = some (.cells #[.string (⟨#[]⟩ : ByteArray), .string (⟨#[]⟩ : ByteArray), .bool false, .bool false, .slice none 0 0] 54 (0, 0))) ∧ Aside0 (w.heap.size ≤ s_.1) ∧ Aside0 (w.heap.size ≤ s_.1) ∧ Aside0 (gb1226 < s_.1) ∧ Aside0 (s_.1 ≠ gb1226) ∧ Aside0 (gb1227 < s_.1) ∧ Aside0 (s_.1 ≠ gb1227) ∧ Aside0 (s_.2.1 ≠ s_.1) ∧ Aside0 (s_.1 ≠ s_.2.1) ∧ Aside0 (s_.2.2 ≠ s_.1) ∧ Aside0 (s_.1 ≠ s_.2.2) ∧ Aside0 (w.heap.size ≤ s_.2.1) ∧ Aside0 (w.heap.size ≤ s_.2.1) ∧ Aside0 (gb1226 < s_.2.1) ∧ Aside0 (s_.2.1 ≠ gb1226) ∧ Aside0 (gb1227 < s_.2.1) ∧ Aside0 (s_.2.1 ≠ gb1227) ∧ Aside0 (s_.2.2 ≠ s_.2.1) ∧ Aside0 (s_.2.1 ≠ s_.2.2) ∧ Aside0 (w.heap.size ≤ s_.2.2) ∧ Aside0 (w.heap.size ≤ s_.2.2) ∧ Aside0 (gb1226 < s_.2.2) ∧ Aside0 (s_.2.2 ≠ gb1226) ∧ Aside0 (gb1227 < s_.2.2) ∧ Aside0 (s_.2.2 ≠ gb1227) ∧ Aside0 (Below w.heap.size w w')) ?_ ?_
     rotate_left
     ·intro hJ6_7_8
      refine join_ (σ := Value × Value) 7 #[true, true, true, true, true, false, false, false, false, false, false, false] (fun s_ => [(28, .agg #[.string t1229, .string t1230, .bool t1231, .bool t1232, s_.1]), (30, .agg #[.string t1236, .string t1237, .bool t1238, .bool t1239, s_.2])]) (fun s_ w' => (w'.cell? ⟨gb1227, 0, none⟩ = some (.string a1_0) ∧ w'.cell? ⟨gb1227, 1, none⟩ = some (.string a1_1) ∧ w'.cell? ⟨gb1227, 2, none⟩ = some (.bool a1_2) ∧ w'.cell? ⟨gb1227, 3, none⟩ = some (.bool a1_3) ∧ w'.cell? ⟨gb1227, 4, none⟩ = some (.slice A1_4 l1_4.length c1_4)) ∧ Aside0 (Kd.R k60 60 w' w.heap.size (fun k_ => some k_ ≠ (s_.2 : Value).ownBlock) s_.1 t1233) ∧ Aside0 (Kd.R k60 60 w' w.heap.size (fun k_ => some k_ ≠ (s_.1 : Value).ownBlock) s_.2 t1240) ∧ Aside0 (w'.heap[gb1226]? = some (.cells #[.bool a0_0, .string a0_1, .string a0_2, .string a0_3, .int .i64 a0_4, .int .i64 a0_5, .string a0_6, .string a0_7, .int .i64 a0_8] 45 (0, 0))) ∧ Aside0 (w'.heap[gb1227]? = some (.cells #[.string a1_0, .string a1_1, .bool a1_2, .bool a1_3, .slice A1_4 l1_4.length c1_4] 54 (0, 0))) ∧ Aside0 (Below w.heap.size w w')) ?_ ?_
      rotate_left
      ·intro hJ1_3
       refine join_ (σ := Value × Nat) 7 #[true, true, true, false, true, false, true, false, false, false, false, false] (fun s_ => [(28, .agg #[.string t1229, .string t1230, .bool t1231, .bool t1232, s_.1]), (5, .pointer (some ⟨s_.2, 0, none⟩))]) (fun s_ w' => (w'.cell? ⟨gb1227, 0, none⟩ = some (.string a1_0) ∧ w'.cell? ⟨gb1227, 1, none⟩ = some (.string a1_1) ∧ w'.cell? ⟨gb1227, 2, none⟩ = some (.bool a1_2) ∧ w'.cell? ⟨gb1227, 3, none⟩ = some (.bool a1_3) ∧ w'.cell? ⟨gb1227, 4, none⟩ = some (.slice A1_4 l1_4.length c1_4)) ∧ Aside0 (Kd.R k60 60 w' w.heap.size (fun _ => True) s_.1 t1233) ∧ Aside0 (w'.heap[gb1226]? = some (.cells #[.bool a0_0, .string a0_1, .string a0_2, .string a0_3, .int .i64 a0_4, .int .i64 a0_5, .string a0_6, .string a0_7, .int .i64 a0_8] 45 (0, 0))) ∧ Aside0 (w'.heap[gb1227]? = some (.cells #[.string a1_0, .string a1_1, .bool a1_2, .bool a1_3, .slice A1_4 l1_4.length c1_4] 54 (0, 0))) ∧ Aside0 (w'.heap[s_.2]? = some (.cells #[.string (⟨#[]⟩ : ByteArray), .string (⟨#[]⟩ : ByteArray), .bool false, .bool false, .slice none 0 0] 54 (0, 0))) ∧ Aside0 (w.heap.size ≤ s_.2) ∧ Aside0 (w.heap.size ≤ s_.2) ∧ Aside0 (gb1226 < s_.2) ∧ Aside0 (s_.2 ≠ gb1226) ∧ Aside0 (gb1227 < s_.2) ∧ Aside0 (s_.2 ≠ gb1227) ∧ Aside0 (Below w.heap.size w w')) ?_ ?_
       rotate_left
       ·intro hJ1_6
        refine join_ (σ := Value × Nat) 7 #[true, true, true, false, true, false, false, true, false, false, false, false] (fun s_ => [(28, .agg #[.string t1229, .string t1230, .bool t1231, .bool t1232, s_.1]), (6, .pointer (some ⟨s_.2, 0, none⟩))]) (fun s_ w' => (w'.cell? ⟨gb1227, 0, none⟩ = some (.string a1_0) ∧ w'.cell? ⟨gb1227, 1, none⟩ = some (.string a1_1) ∧ w'.cell? ⟨gb1227, 2, none⟩ = some (.bool a1_2) ∧ w'.cell? ⟨gb1227, 3, none⟩ = some (.bool a1_3) ∧ w'.cell? ⟨gb1227, 4, none⟩ = some (.slice A1_4 l1_4.length c1_4)) ∧ Aside0 (Kd.R k60 60 w' w.heap.size (fun _ => True) s_.1 t1233) ∧ Aside0 (w'.heap[gb1226]? = some (.cells #[.bool a0_0, .string a0_1, .string a0_2, .string a0_3, .int .i64 a0_4, .int .i64 a0_5, .string a0_6, .string a0_7, .int .i64 a0_8] 45 (0, 0))) ∧ Aside0 (w'.heap[gb1227]? = some (.cells #[.string a1_0, .string a1_1, .bool a1_2, .bool a1_3, .slice A1_4 l1_4.length c1_4] 54 (0, 0))) ∧ Aside0 (w'.heap[s_.2]? = some (.cells #[.string (⟨#[]⟩ : ByteArray), .string (⟨#[]⟩ : ByteArray), .bool false, .bool false, .slice none 0 0] 54 (0, 0))) ∧ Aside0 (w.heap.size ≤ s_.2) ∧ Aside0 (w.heap.size ≤ s_.2) ∧ Aside0 (gb1226 < s_.2) ∧ Aside0 (s_.2 ≠ gb1226) ∧ Aside0 (gb1227 < s_.2) ∧ Aside0 (s_.2 ≠ gb1227) ∧ Aside0 (Below w.heap.size w w')) ?_ ?_
        rotate_left
        ·intro hJ1_7
         refine join_ (σ := Value × Nat) 7 #[true, true, true, false, true, false, false, false, true, false, false, false] (fun s_ => [(28, .agg #[.string t1229, .string t1230, .bool t1231, .bool t1232, s_.1]), (7, .pointer (some ⟨s_.2, 0, none⟩))]) (fun s_ w' => (w'.cell? ⟨gb1227, 0, none⟩ = some (.string a1_0) ∧ w'.cell? ⟨gb1227, 1, none⟩ = some (.string a1_1) ∧ w'.cell? ⟨gb1227, 2, none⟩ = some (.bool a1_2) ∧ w'.cell? ⟨gb1227, 3, none⟩ = some (.bool a1_3) ∧ w'.cell? ⟨gb1227, 4, none⟩ = some (.slice A1_4 l1_4.length c1_4)) ∧ Aside0 (Kd.R k60 60 w' w.heap.size (fun _ => True) s_.1 t1233) ∧ Aside0 (w'.heap[gb1226]? = some (.cells #[.bool a0_0, .string a0_1, .string a0_2, .string a0_3, .int .i64 a0_4, .int .i64 a0_5, .string a0_6, .string a0_7, .int .i64 a0_8] 45 (0, 0))) ∧ Aside0 (w'.heap[gb1227]? = some (.cells #[.string a1_0, .string a1_1, .bool a1_2, .bool a1_3, .slice A1_4 l1_4.length c1_4] 54 (0, 0))) ∧ Aside0 (w'.heap[s_.2]? = some (.cells #[.string (⟨#[]⟩ : ByteArray), .string (⟨#[]⟩ : ByteArray), .bool false, .bool false, .slice none 0 0] 54 (0, 0))) ∧ Aside0 (w.heap.size ≤ s_.2) ∧ Aside0 (w.heap.size ≤ s_.2) ∧ Aside0 (gb1226 < s_.2) ∧ Aside0 (s_.2 ≠ gb1226) ∧ Aside0 (gb1227 < s_.2) ∧ Aside0 (s_.2 ≠ gb1227) ∧ Aside0 (Below w.heap.size w w')) ?_ ?_
         rotate_left
         ·intro hJ1_8
          refine ?rest
          case rest =>
           revert k a0_0 a0_1 a0_2 a0_3 a0_4 a0_5 a0_6 a0_7 a0_8 a1_0 a1_1 a1_2 a1_3 A1_4 c1_4 l1_4 r w hu45 hu54 hu23 hu60 HR1_4 HC1_4 HTB z0_1 gb1226 w5 GW1226 GE1226 gb1227 w6 GW1227 GE1227 NB1226_1227 LB1226_1227 NB1227_1226 w7 hb A3 t1229 t1230 t1231 t1232 t1233 A9 t1236 t1237 t1238 t1239 t1240 A10 t1243 t1244 t1245 t1246 t1247 A11 t1253 t1254 t1255 t1256 t1257 A12 t1260 t1261 A13 t1262 t1263 A14 t1264 t1265 A15 HC16 z0_2 z0_3 z0_4 HT_ HW_ w17 BK1226 BK1227 HB hHeld hJ1_3_5_6_7_8 hJ1_3_5_6_7 hJ1_3_5_6_8 hJ1_3_5_7_8 hJ1_3_6_7_8 hJ1_3_5_6 hJ1_3_5_7 hJ1_3_5_8 hJ1_3_6_7 hJ1_3_6_8 hJ1_3_7_8 hJ1_6_7_8 hJ1_3_5 hJ1_3_6 hJ1_3_7 hJ1_3_8 hJ1_6_7 hJ1_6_8 hJ1_7_8 hJ6_7_8 hJ1_3 hJ1_6 hJ1_7 hJ1_8
           exact hrest2.out
         ·skip
          clear BK1226 BK1227 HB
          rintro ⟨v1234, gb1252⟩ w20 h
          try dsimp only at h
          obtain ⟨hHeld, HO1235, BK1226, BK1227, BK1252, GW1252, GE1252, LB1226_1252, NB1252_1226, LB1227_1252, NB1252_1227, HB⟩ := h
          have NB1226_1252 := ne_ LB1226_1252
          have NB1227_1252 := ne_ LB1227_1252
          refine norm_ (a' := ?_) ?_ ?_
          rotate_left
          ·simp only [putAll, Act.put, List.setIfInBounds_toArray, List.set_cons_zero, List.set_cons_succ]
           rfl
          refine three_ (i := 3) (j := 6) (k := 7) (Ni := some 30) (Nj := some 5) (Nk := some 6) #[true, true, true, true, true, false, false, false, true, false, false, false] #[true, true, true, false, true, false, true, false, true, false, false, false] #[true, true, true, false, true, false, false, true, true, false, false, false] rfl rfl rfl rfl rfl rfl (three_of HT_.out (by kernel_rfl)) (by decide) (by decide) (by decide) (fun K hK => ?_) (fun K hK => ?_) (fun K hK => ?_)
          ·skip
           refine goes_ Tryd.func51 (by kernel_rfl) rfl #[.agg #[.string a1_0, .string a1_1, .bool a1_2, .bool a1_3, .slice A1_4 l1_4.length c1_4]] (by rfl) rfl rfl ar_ ?_
           with_reducible refine (idiomlaw04_copied.calls a1_0 a1_1 a1_2 a1_3 _ _ l1_4 t1236 t1237 t1238 t1239 t1240 _ ?side1 ?side2 A10.out).mono ?_
           (case side1 => repeat (first | exact (Kd.C_below HR1_4.out HB.out) | (with_reducible refine Kd.C_alloc ?_ _) | (with_reducible refine Kd.C_drewN ?_ _) | (with_reducible refine Kd.C_drew ?_)))
           (case side2 => exact HC1_4.out)
           rintro e w21 ⟨v1241, rfl, ho0, hb⟩
           refine ⟨_, rfl, ?_⟩
           have HO1242 := Aside0.mk (Kd.R_lower (Kd.R_new' ho0 (Kd.R_lt HO1235.out)) (below_size hb_))
           replace HO1235 := Aside0.mk (Kd.R_elder' HO1235.out (Kd.R_base ho0) hb)
           replace BK1226 := BK1226.bl hb
           replace BK1227 := BK1227.bl hb
           replace BK1252 := BK1252.bl hb
           replace HB := Aside0.mk (below_step hb_ hb)
           (try clear hb)
           (try clear hb2)
           (try clear hk)
           (try clear hi)
           (try clear ho0)
           refine hK.out _ _ (h5_ BK1227) (fun hHeld => ?_)
           clear hK K
           refine norm_ (a' := ?_) ?_ ?_
           rotate_left
           ·show Act.put _ (some 30) _ = _
            simp only [Act.put, List.setIfInBounds_toArray, List.set_cons_zero, List.set_cons_succ, i64_w, i32_w]
            rfl
           exact norm_ nm_ (hJ1_3_8 (v1234, v1241, gb1252) _ ⟨hHeld, ⟨by (with_reducible repeat (first | apply Kd.R_alloc | apply Kd.R_drewN | apply Kd.R_drew)); exact Kd.R_mono HO1235.out (fun _ hk => hk.2)⟩, ⟨by (with_reducible repeat (first | apply Kd.R_alloc | apply Kd.R_drewN | apply Kd.R_drew)); exact Kd.R_mono HO1242.out (fun _ hk => hk.2)⟩, BK1226, BK1227, BK1252, GW1252, GE1252, LB1226_1252, NB1252_1226, LB1227_1252, NB1252_1227, ⟨hb_⟩⟩)
          ·skip
           refine bs_ 5 #[.string (⟨#[]⟩ : ByteArray), .string (⟨#[]⟩ : ByteArray), .bool false, .bool false, .slice none 0 0] (t := 54) ?_
           intro gb1250 hg w21 hbox hb
           have BK1250 := Aside0.mk (hbox)
           have GW1250 := Aside0.mk ((by rw [hg]; exact (below_size hb_) : w.heap.size ≤ gb1250))
           have GE1250 := Aside0.mk ((by rw [hg]; exact (below_size hb_) : w.heap.size ≤ gb1250))
           have NB1226_1250 := BK1226.nl hg; have LB1226_1250 := lt_ BK1226 hg
           have NB1250_1226 := BK1226.ng hg
           have NB1227_1250 := BK1227.nl hg; have LB1227_1250 := lt_ BK1227 hg
           have NB1250_1227 := BK1227.ng hg
           have NB1252_1250 := BK1252.nl hg; have LB1252_1250 := lt_ BK1252 hg
           have NB1250_1252 := BK1252.ng hg
           replace HO1235 := bw_ HO1235 hb
           replace BK1226 := BK1226.bl hb
           replace BK1227 := BK1227.bl hb
           replace BK1252 := BK1252.bl hb
           replace HB := Aside0.mk (below_step hb_ hb)
           clear hb hbox hg
           refine hK.out _ _ (h5_ BK1227) (fun hHeld => ?_)
           clear hK K
           refine norm_ (a' := ?_) ?_ ?_
           rotate_left
           ·show Act.put _ (some 5) _ = _
            simp only [Act.put, List.setIfInBounds_toArray, List.set_cons_zero, List.set_cons_succ, i64_w, i32_w]
            rfl
           exact norm_ nm_ (hJ1_6_8 (v1234, gb1250, gb1252) _ ⟨hHeld, HO1235, BK1226, BK1227, BK1250, BK1252, GW1250, GE1250, LB1226_1250, NB1250_1226, LB1227_1250, NB1250_1227, NB1252_1250, NB1250_1252, GW1252, GE1252, LB1226_1252, NB1252_1226, LB1227_1252, NB1252_1227, ⟨hb_⟩⟩)
          ·skip
           refine bs_ 6 #[.string (⟨#[]⟩ : ByteArray), .string (⟨#[]⟩ : ByteArray), .bool false, .bool false, .slice none 0 0] (t := 54) ?_
           intro gb1251 hg w21 hbox hb
           have BK1251 := Aside0.mk (hbox)
           have GW1251 := Aside0.mk ((by rw [hg]; exact (below_size hb_) : w.heap.size ≤ gb1251))
           have GE1251 := Aside0.mk ((by rw [hg]; exact (below_size hb_) : w.heap.size ≤ gb1251))
           have NB1226_1251 := BK1226.nl hg; have LB1226_1251 := lt_ BK1226 hg
           have NB1251_1226 := BK1226.ng hg
           have NB1227_1251 := BK1227.nl hg; have LB1227_1251 := lt_ BK1227 hg
           have NB1251_1227 := BK1227.ng hg
           have NB1252_1251 := BK1252.nl hg; have LB1252_1251 := lt_ BK1252 hg
           have NB1251_1252 := BK1252.ng hg
           replace HO1235 := bw_ HO1235 hb
           replace BK1226 := BK1226.bl hb
           replace BK1227 := BK1227.bl hb
           replace BK1252 := BK1252.bl hb
           replace HB := Aside0.mk (below_step hb_ hb)
           clear hb hbox hg
           refine hK.out _ _ (h5_ BK1227) (fun hHeld => ?_)
           clear hK K
           refine norm_ (a' := ?_) ?_ ?_
           rotate_left
           ·show Act.put _ (some 6) _ = _
            simp only [Act.put, List.setIfInBounds_toArray, List.set_cons_zero, List.set_cons_succ, i64_w, i32_w]
            rfl
           exact norm_ nm_ (hJ1_7_8 (v1234, gb1251, gb1252) _ ⟨hHeld, HO1235, BK1226, BK1227, BK1251, BK1252, GW1251, GE1251, LB1226_1251, NB1251_1226, LB1227_1251, NB1251_1227, NB1252_1251, NB1251_1252, GW1252, GE1252, LB1226_1252, NB1252_1226, LB1227_1252, NB1252_1227, ⟨hb_⟩⟩)
        ·skip
         clear BK1226 BK1227 HB
         rintro ⟨v1234, gb1251⟩ w20 h
         try dsimp only at h
         obtain ⟨hHeld, HO1235, BK1226, BK1227, BK1251, GW1251, GE1251, LB1226_1251, NB1251_1226, LB1227_1251, NB1251_1227, HB⟩ := h
         have NB1226_1251 := ne_ LB1226_1251
         have NB1227_1251 := ne_ LB1227_1251
         refine norm_ (a' := ?_) ?_ ?_
         rotate_left
         ·simp only [putAll, Act.put, List.setIfInBounds_toArray, List.set_cons_zero, List.set_cons_succ]
          rfl
         refine three_ (i := 3) (j := 6) (k := 8) (Ni := some 30) (Nj := some 5) (Nk := some 7) #[true, true, true, true, true, false, false, true, false, false, false, false] #[true, true, true, false, true, false, true, true, false, false, false, false] #[true, true, true, false, true, false, false, true, true, false, false, false] rfl rfl rfl rfl rfl rfl (three_of HT_.out (by kernel_rfl)) (by decide) (by decide) (by decide) (fun K hK => ?_) (fun K hK => ?_) (fun K hK => ?_)
         ·skip
          refine goes_ Tryd.func51 (by kernel_rfl) rfl #[.agg #[.string a1_0, .string a1_1, .bool a1_2, .bool a1_3, .slice A1_4 l1_4.length c1_4]] (by rfl) rfl rfl ar_ ?_
          with_reducible refine (idiomlaw04_copied.calls a1_0 a1_1 a1_2 a1_3 _ _ l1_4 t1236 t1237 t1238 t1239 t1240 _ ?side1 ?side2 A10.out).mono ?_
          (case side1 => repeat (first | exact (Kd.C_below HR1_4.out HB.out) | (with_reducible refine Kd.C_alloc ?_ _) | (with_reducible refine Kd.C_drewN ?_ _) | (with_reducible refine Kd.C_drew ?_)))
          (case side2 => exact HC1_4.out)
          rintro e w21 ⟨v1241, rfl, ho0, hb⟩
          refine ⟨_, rfl, ?_⟩
          have HO1242 := Aside0.mk (Kd.R_lower (Kd.R_new' ho0 (Kd.R_lt HO1235.out)) (below_size hb_))
          replace HO1235 := Aside0.mk (Kd.R_elder' HO1235.out (Kd.R_base ho0) hb)
          replace BK1226 := BK1226.bl hb
          replace BK1227 := BK1227.bl hb
          replace BK1251 := BK1251.bl hb
          replace HB := Aside0.mk (below_step hb_ hb)
          (try clear hb)
          (try clear hb2)
          (try clear hk)
          (try clear hi)
          (try clear ho0)
          refine hK.out _ _ (h5_ BK1227) (fun hHeld => ?_)
          clear hK K
          refine norm_ (a' := ?_) ?_ ?_
          rotate_left
          ·show Act.put _ (some 30) _ = _
           simp only [Act.put, List.setIfInBounds_toArray, List.set_cons_zero, List.set_cons_succ, i64_w, i32_w]
           rfl
          exact norm_ nm_ (hJ1_3_7 (v1234, v1241, gb1251) _ ⟨hHeld, ⟨by (with_reducible repeat (first | apply Kd.R_alloc | apply Kd.R_drewN | apply Kd.R_drew)); exact Kd.R_mono HO1235.out (fun _ hk => hk.2)⟩, ⟨by (with_reducible repeat (first | apply Kd.R_alloc | apply Kd.R_drewN | apply Kd.R_drew)); exact Kd.R_mono HO1242.out (fun _ hk => hk.2)⟩, BK1226, BK1227, BK1251, GW1251, GE1251, LB1226_1251, NB1251_1226, LB1227_1251, NB1251_1227, ⟨hb_⟩⟩)
         ·skip
          refine bs_ 5 #[.string (⟨#[]⟩ : ByteArray), .string (⟨#[]⟩ : ByteArray), .bool false, .bool false, .slice none 0 0] (t := 54) ?_
          intro gb1250 hg w21 hbox hb
          have BK1250 := Aside0.mk (hbox)
          have GW1250 := Aside0.mk ((by rw [hg]; exact (below_size hb_) : w.heap.size ≤ gb1250))
          have GE1250 := Aside0.mk ((by rw [hg]; exact (below_size hb_) : w.heap.size ≤ gb1250))
          have NB1226_1250 := BK1226.nl hg; have LB1226_1250 := lt_ BK1226 hg
          have NB1250_1226 := BK1226.ng hg
          have NB1227_1250 := BK1227.nl hg; have LB1227_1250 := lt_ BK1227 hg
          have NB1250_1227 := BK1227.ng hg
          have NB1251_1250 := BK1251.nl hg; have LB1251_1250 := lt_ BK1251 hg
          have NB1250_1251 := BK1251.ng hg
          replace HO1235 := bw_ HO1235 hb
          replace BK1226 := BK1226.bl hb
          replace BK1227 := BK1227.bl hb
          replace BK1251 := BK1251.bl hb
          replace HB := Aside0.mk (below_step hb_ hb)
          clear hb hbox hg
          refine hK.out _ _ (h5_ BK1227) (fun hHeld => ?_)
          clear hK K
          refine norm_ (a' := ?_) ?_ ?_
          rotate_left
          ·show Act.put _ (some 5) _ = _
           simp only [Act.put, List.setIfInBounds_toArray, List.set_cons_zero, List.set_cons_succ, i64_w, i32_w]
           rfl
          exact norm_ nm_ (hJ1_6_7 (v1234, gb1250, gb1251) _ ⟨hHeld, HO1235, BK1226, BK1227, BK1250, BK1251, GW1250, GE1250, LB1226_1250, NB1250_1226, LB1227_1250, NB1250_1227, NB1251_1250, NB1250_1251, GW1251, GE1251, LB1226_1251, NB1251_1226, LB1227_1251, NB1251_1227, ⟨hb_⟩⟩)
         ·skip
          refine bs_ 7 #[.string (⟨#[]⟩ : ByteArray), .string (⟨#[]⟩ : ByteArray), .bool false, .bool false, .slice none 0 0] (t := 54) ?_
          intro gb1252 hg w21 hbox hb
          have BK1252 := Aside0.mk (hbox)
          have GW1252 := Aside0.mk ((by rw [hg]; exact (below_size hb_) : w.heap.size ≤ gb1252))
          have GE1252 := Aside0.mk ((by rw [hg]; exact (below_size hb_) : w.heap.size ≤ gb1252))
          have NB1226_1252 := BK1226.nl hg; have LB1226_1252 := lt_ BK1226 hg
          have NB1252_1226 := BK1226.ng hg
          have NB1227_1252 := BK1227.nl hg; have LB1227_1252 := lt_ BK1227 hg
          have NB1252_1227 := BK1227.ng hg
          have NB1251_1252 := BK1251.nl hg; have LB1251_1252 := lt_ BK1251 hg
          have NB1252_1251 := BK1251.ng hg
          replace HO1235 := bw_ HO1235 hb
          replace BK1226 := BK1226.bl hb
          replace BK1227 := BK1227.bl hb
          replace BK1251 := BK1251.bl hb
          replace HB := Aside0.mk (below_step hb_ hb)
          clear hb hbox hg
          refine hK.out _ _ (h5_ BK1227) (fun hHeld => ?_)
          clear hK K
          refine norm_ (a' := ?_) ?_ ?_
          rotate_left
          ·show Act.put _ (some 7) _ = _
           simp only [Act.put, List.setIfInBounds_toArray, List.set_cons_zero, List.set_cons_succ, i64_w, i32_w]
           rfl
          exact norm_ nm_ (hJ1_7_8 (v1234, gb1251, gb1252) _ ⟨hHeld, HO1235, BK1226, BK1227, BK1251, BK1252, GW1251, GE1251, LB1226_1251, NB1251_1226, LB1227_1251, NB1251_1227, NB1252_1251, NB1251_1252, GW1252, GE1252, LB1226_1252, NB1252_1226, LB1227_1252, NB1252_1227, ⟨hb_⟩⟩)
       ·skip
        clear BK1226 BK1227 HB
        rintro ⟨v1234, gb1250⟩ w20 h
        try dsimp only at h
        obtain ⟨hHeld, HO1235, BK1226, BK1227, BK1250, GW1250, GE1250, LB1226_1250, NB1250_1226, LB1227_1250, NB1250_1227, HB⟩ := h
        have NB1226_1250 := ne_ LB1226_1250
        have NB1227_1250 := ne_ LB1227_1250
        refine norm_ (a' := ?_) ?_ ?_
        rotate_left
        ·simp only [putAll, Act.put, List.setIfInBounds_toArray, List.set_cons_zero, List.set_cons_succ]
         rfl
        refine three_ (i := 3) (j := 7) (k := 8) (Ni := some 30) (Nj := some 6) (Nk := some 7) #[true, true, true, true, true, false, true, false, false, false, false, false] #[true, true, true, false, true, false, true, true, false, false, false, false] #[true, true, true, false, true, false, true, false, true, false, false, false] rfl rfl rfl rfl rfl rfl (three_of HT_.out (by kernel_rfl)) (by decide) (by decide) (by decide) (fun K hK => ?_) (fun K hK => ?_) (fun K hK => ?_)
        ·skip
         refine goes_ Tryd.func51 (by kernel_rfl) rfl #[.agg #[.string a1_0, .string a1_1, .bool a1_2, .bool a1_3, .slice A1_4 l1_4.length c1_4]] (by rfl) rfl rfl ar_ ?_
         with_reducible refine (idiomlaw04_copied.calls a1_0 a1_1 a1_2 a1_3 _ _ l1_4 t1236 t1237 t1238 t1239 t1240 _ ?side1 ?side2 A10.out).mono ?_
         (case side1 => repeat (first | exact (Kd.C_below HR1_4.out HB.out) | (with_reducible refine Kd.C_alloc ?_ _) | (with_reducible refine Kd.C_drewN ?_ _) | (with_reducible refine Kd.C_drew ?_)))
         (case side2 => exact HC1_4.out)
         rintro e w21 ⟨v1241, rfl, ho0, hb⟩
         refine ⟨_, rfl, ?_⟩
         have HO1242 := Aside0.mk (Kd.R_lower (Kd.R_new' ho0 (Kd.R_lt HO1235.out)) (below_size hb_))
         replace HO1235 := Aside0.mk (Kd.R_elder' HO1235.out (Kd.R_base ho0) hb)
         replace BK1226 := BK1226.bl hb
         replace BK1227 := BK1227.bl hb
         replace BK1250 := BK1250.bl hb
         replace HB := Aside0.mk (below_step hb_ hb)
         (try clear hb)
         (try clear hb2)
         (try clear hk)
         (try clear hi)
         (try clear ho0)
         refine hK.out _ _ (h5_ BK1227) (fun hHeld => ?_)
         clear hK K
         refine norm_ (a' := ?_) ?_ ?_
         rotate_left
         ·show Act.put _ (some 30) _ = _
          simp only [Act.put, List.setIfInBounds_toArray, List.set_cons_zero, List.set_cons_succ, i64_w, i32_w]
          rfl
         exact norm_ nm_ (hJ1_3_6 (v1234, v1241, gb1250) _ ⟨hHeld, ⟨by (with_reducible repeat (first | apply Kd.R_alloc | apply Kd.R_drewN | apply Kd.R_drew)); exact Kd.R_mono HO1235.out (fun _ hk => hk.2)⟩, ⟨by (with_reducible repeat (first | apply Kd.R_alloc | apply Kd.R_drewN | apply Kd.R_drew)); exact Kd.R_mono HO1242.out (fun _ hk => hk.2)⟩, BK1226, BK1227, BK1250, GW1250, GE1250, LB1226_1250, NB1250_1226, LB1227_1250, NB1250_1227, ⟨hb_⟩⟩)
        ·skip
         refine bs_ 6 #[.string (⟨#[]⟩ : ByteArray), .string (⟨#[]⟩ : ByteArray), .bool false, .bool false, .slice none 0 0] (t := 54) ?_
         intro gb1251 hg w21 hbox hb
         have BK1251 := Aside0.mk (hbox)
         have GW1251 := Aside0.mk ((by rw [hg]; exact (below_size hb_) : w.heap.size ≤ gb1251))
         have GE1251 := Aside0.mk ((by rw [hg]; exact (below_size hb_) : w.heap.size ≤ gb1251))
         have NB1226_1251 := BK1226.nl hg; have LB1226_1251 := lt_ BK1226 hg
         have NB1251_1226 := BK1226.ng hg
         have NB1227_1251 := BK1227.nl hg; have LB1227_1251 := lt_ BK1227 hg
         have NB1251_1227 := BK1227.ng hg
         have NB1250_1251 := BK1250.nl hg; have LB1250_1251 := lt_ BK1250 hg
         have NB1251_1250 := BK1250.ng hg
         replace HO1235 := bw_ HO1235 hb
         replace BK1226 := BK1226.bl hb
         replace BK1227 := BK1227.bl hb
         replace BK1250 := BK1250.bl hb
         replace HB := Aside0.mk (below_step hb_ hb)
         clear hb hbox hg
         refine hK.out _ _ (h5_ BK1227) (fun hHeld => ?_)
         clear hK K
         refine norm_ (a' := ?_) ?_ ?_
         rotate_left
         ·show Act.put _ (some 6) _ = _
          simp only [Act.put, List.setIfInBounds_toArray, List.set_cons_zero, List.set_cons_succ, i64_w, i32_w]
          rfl
         exact norm_ nm_ (hJ1_6_7 (v1234, gb1250, gb1251) _ ⟨hHeld, HO1235, BK1226, BK1227, BK1250, BK1251, GW1250, GE1250, LB1226_1250, NB1250_1226, LB1227_1250, NB1250_1227, NB1251_1250, NB1250_1251, GW1251, GE1251, LB1226_1251, NB1251_1226, LB1227_1251, NB1251_1227, ⟨hb_⟩⟩)
        ·skip
         refine bs_ 7 #[.string (⟨#[]⟩ : ByteArray), .string (⟨#[]⟩ : ByteArray), .bool false, .bool false, .slice none 0 0] (t := 54) ?_
         intro gb1252 hg w21 hbox hb
         have BK1252 := Aside0.mk (hbox)
         have GW1252 := Aside0.mk ((by rw [hg]; exact (below_size hb_) : w.heap.size ≤ gb1252))
         have GE1252 := Aside0.mk ((by rw [hg]; exact (below_size hb_) : w.heap.size ≤ gb1252))
         have NB1226_1252 := BK1226.nl hg; have LB1226_1252 := lt_ BK1226 hg
         have NB1252_1226 := BK1226.ng hg
         have NB1227_1252 := BK1227.nl hg; have LB1227_1252 := lt_ BK1227 hg
         have NB1252_1227 := BK1227.ng hg
         have NB1250_1252 := BK1250.nl hg; have LB1250_1252 := lt_ BK1250 hg
         have NB1252_1250 := BK1250.ng hg
         replace HO1235 := bw_ HO1235 hb
         replace BK1226 := BK1226.bl hb
         replace BK1227 := BK1227.bl hb
         replace BK1250 := BK1250.bl hb
         replace HB := Aside0.mk (below_step hb_ hb)
         clear hb hbox hg
         refine hK.out _ _ (h5_ BK1227) (fun hHeld => ?_)
         clear hK K
         refine norm_ (a' := ?_) ?_ ?_
         rotate_left
         ·show Act.put _ (some 7) _ = _
          simp only [Act.put, List.setIfInBounds_toArray, List.set_cons_zero, List.set_cons_succ, i64_w, i32_w]
          rfl
         exact norm_ nm_ (hJ1_6_8 (v1234, gb1250, gb1252) _ ⟨hHeld, HO1235, BK1226, BK1227, BK1250, BK1252, GW1250, GE1250, LB1226_1250, NB1250_1226, LB1227_1250, NB1250_1227, NB1252_1250, NB1250_1252, GW1252, GE1252, LB1226_1252, NB1252_1226, LB1227_1252, NB1252_1227, ⟨hb_⟩⟩)
      ·skip
       clear BK1226 BK1227 HB
       rintro ⟨v1234, v1241⟩ w20 h
       try dsimp only at h
       obtain ⟨hHeld, HO1235, HO1242, BK1226, BK1227, HB⟩ := h
       refine norm_ (a' := ?_) ?_ ?_
       rotate_left
       ·simp only [putAll, Act.put, List.setIfInBounds_toArray, List.set_cons_zero, List.set_cons_succ]
        rfl
       refine four_ (i := 5) (j := 6) (k := 7) (m := 8) (Ni := some 32) (Nj := some 5) (Nk := some 6) (Nm := some 7) #[true, true, true, true, true, true, false, false, false, false, false, false] #[true, true, true, true, true, false, true, false, false, false, false, false] #[true, true, true, true, true, false, false, true, false, false, false, false] #[true, true, true, true, true, false, false, false, true, false, false, false] rfl rfl rfl rfl rfl rfl rfl rfl (four_of HT_.out (by kernel_rfl)) (by decide) (by decide) (by decide) (by decide) (fun K hK => ?_) (fun K hK => ?_) (fun K hK => ?_) (fun K hK => ?_)
       ·skip
        refine goes_ Tryd.func51 (by kernel_rfl) rfl #[.agg #[.string a1_0, .string a1_1, .bool a1_2, .bool a1_3, .slice A1_4 l1_4.length c1_4]] (by rfl) rfl rfl ar_ ?_
        with_reducible refine (idiomlaw04_copied.calls a1_0 a1_1 a1_2 a1_3 _ _ l1_4 t1243 t1244 t1245 t1246 t1247 _ ?side1 ?side2 A11.out).mono ?_
        (case side1 => repeat (first | exact (Kd.C_below HR1_4.out HB.out) | (with_reducible refine Kd.C_alloc ?_ _) | (with_reducible refine Kd.C_drewN ?_ _) | (with_reducible refine Kd.C_drew ?_)))
        (case side2 => exact HC1_4.out)
        rintro e w21 ⟨v1248, rfl, ho0, hb⟩
        refine ⟨_, rfl, ?_⟩
        have HO1249 := Aside0.mk (Kd.R_lower (Kd.R_new' (Kd.R_new' ho0 (Kd.R_lt HO1235.out)) (Kd.R_lt HO1242.out)) (below_size hb_))
        replace HO1235 := Aside0.mk (Kd.R_elder' HO1235.out (Kd.R_base ho0) hb)
        replace HO1242 := Aside0.mk (Kd.R_elder' HO1242.out (Kd.R_base ho0) hb)
        replace BK1226 := BK1226.bl hb
        replace BK1227 := BK1227.bl hb
        replace HB := Aside0.mk (below_step hb_ hb)
        (try clear hb)
        (try clear hb2)
        (try clear hk)
        (try clear hi)
        (try clear ho0)
        refine hK.out _ _ (h5_ BK1227) (fun hHeld => ?_)
        clear hK K
        refine norm_ (a' := ?_) ?_ ?_
        rotate_left
        ·show Act.put _ (some 32) _ = _
         simp only [Act.put, List.setIfInBounds_toArray, List.set_cons_zero, List.set_cons_succ, i64_w, i32_w]
         rfl
        exact norm_ nm_ (hJ1_3_5 (v1234, v1241, v1248) _ ⟨hHeld, HO1235, HO1242, ⟨by (with_reducible repeat (first | apply Kd.R_alloc | apply Kd.R_drewN | apply Kd.R_drew)); exact Kd.R_mono HO1249.out (fun _ hk => ⟨hk.1.2, hk.2⟩)⟩, BK1226, BK1227, ⟨hb_⟩⟩)
       ·skip
        refine bs_ 5 #[.string (⟨#[]⟩ : ByteArray), .string (⟨#[]⟩ : ByteArray), .bool false, .bool false, .slice none 0 0] (t := 54) ?_
        intro gb1250 hg w21 hbox hb
        have BK1250 := Aside0.mk (hbox)
        have GW1250 := Aside0.mk ((by rw [hg]; exact (below_size hb_) : w.heap.size ≤ gb1250))
        have GE1250 := Aside0.mk ((by rw [hg]; exact (below_size hb_) : w.heap.size ≤ gb1250))
        have NB1226_1250 := BK1226.nl hg; have LB1226_1250 := lt_ BK1226 hg
        have NB1250_1226 := BK1226.ng hg
        have NB1227_1250 := BK1227.nl hg; have LB1227_1250 := lt_ BK1227 hg
        have NB1250_1227 := BK1227.ng hg
        replace HO1235 := bw_ HO1235 hb
        replace HO1242 := bw_ HO1242 hb
        replace BK1226 := BK1226.bl hb
        replace BK1227 := BK1227.bl hb
        replace HB := Aside0.mk (below_step hb_ hb)
        clear hb hbox hg
        refine hK.out _ _ (h5_ BK1227) (fun hHeld => ?_)
        clear hK K
        refine norm_ (a' := ?_) ?_ ?_
        rotate_left
        ·show Act.put _ (some 5) _ = _
         simp only [Act.put, List.setIfInBounds_toArray, List.set_cons_zero, List.set_cons_succ, i64_w, i32_w]
         rfl
        exact norm_ nm_ (hJ1_3_6 (v1234, v1241, gb1250) _ ⟨hHeld, HO1235, HO1242, BK1226, BK1227, BK1250, GW1250, GE1250, LB1226_1250, NB1250_1226, LB1227_1250, NB1250_1227, ⟨hb_⟩⟩)
       ·skip
        refine bs_ 6 #[.string (⟨#[]⟩ : ByteArray), .string (⟨#[]⟩ : ByteArray), .bool false, .bool false, .slice none 0 0] (t := 54) ?_
        intro gb1251 hg w21 hbox hb
        have BK1251 := Aside0.mk (hbox)
        have GW1251 := Aside0.mk ((by rw [hg]; exact (below_size hb_) : w.heap.size ≤ gb1251))
        have GE1251 := Aside0.mk ((by rw [hg]; exact (below_size hb_) : w.heap.size ≤ gb1251))
        have NB1226_1251 := BK1226.nl hg; have LB1226_1251 := lt_ BK1226 hg
        have NB1251_1226 := BK1226.ng hg
        have NB1227_1251 := BK1227.nl hg; have LB1227_1251 := lt_ BK1227 hg
        have NB1251_1227 := BK1227.ng hg
        replace HO1235 := bw_ HO1235 hb
        replace HO1242 := bw_ HO1242 hb
        replace BK1226 := BK1226.bl hb
        replace BK1227 := BK1227.bl hb
        replace HB := Aside0.mk (below_step hb_ hb)
        clear hb hbox hg
        refine hK.out _ _ (h5_ BK1227) (fun hHeld => ?_)
        clear hK K
        refine norm_ (a' := ?_) ?_ ?_
        rotate_left
        ·show Act.put _ (some 6) _ = _
         simp only [Act.put, List.setIfInBounds_toArray, List.set_cons_zero, List.set_cons_succ, i64_w, i32_w]
         rfl
        exact norm_ nm_ (hJ1_3_7 (v1234, v1241, gb1251) _ ⟨hHeld, HO1235, HO1242, BK1226, BK1227, BK1251, GW1251, GE1251, LB1226_1251, NB1251_1226, LB1227_1251, NB1251_1227, ⟨hb_⟩⟩)
       ·skip
        refine bs_ 7 #[.string (⟨#[]⟩ : ByteArray), .string (⟨#[]⟩ : ByteArray), .bool false, .bool false, .slice none 0 0] (t := 54) ?_
        intro gb1252 hg w21 hbox hb
        have BK1252 := Aside0.mk (hbox)
        have GW1252 := Aside0.mk ((by rw [hg]; exact (below_size hb_) : w.heap.size ≤ gb1252))
        have GE1252 := Aside0.mk ((by rw [hg]; exact (below_size hb_) : w.heap.size ≤ gb1252))
        have NB1226_1252 := BK1226.nl hg; have LB1226_1252 := lt_ BK1226 hg
        have NB1252_1226 := BK1226.ng hg
        have NB1227_1252 := BK1227.nl hg; have LB1227_1252 := lt_ BK1227 hg
        have NB1252_1227 := BK1227.ng hg
        replace HO1235 := bw_ HO1235 hb
        replace HO1242 := bw_ HO1242 hb
        replace BK1226 := BK1226.bl hb
        replace BK1227 := BK1227.bl hb
        replace HB := Aside0.mk (below_step hb_ hb)
        clear hb hbox hg
        refine hK.out _ _ (h5_ BK1227) (fun hHeld => ?_)
        clear hK K
        refine norm_ (a' := ?_) ?_ ?_
        rotate_left
        ·show Act.put _ (some 7) _ = _
         simp only [Act.put, List.setIfInBounds_toArray, List.set_cons_zero, List.set_cons_succ, i64_w, i32_w]
         rfl
        exact norm_ nm_ (hJ1_3_8 (v1234, v1241, gb1252) _ ⟨hHeld, HO1235, HO1242, BK1226, BK1227, BK1252, GW1252, GE1252, LB1226_1252, NB1252_1226, LB1227_1252, NB1252_1227, ⟨hb_⟩⟩)
     ·skip
      clear BK1226 BK1227 HB
      rintro ⟨gb1250, gb1251, gb1252⟩ w21 h
      try dsimp only at h
      obtain ⟨hHeld, BK1226, BK1227, BK1250, BK1251, BK1252, GW1250, GE1250, LB1226_1250, NB1250_1226, LB1227_1250, NB1250_1227, NB1251_1250, NB1250_1251, NB1252_1250, NB1250_1252, GW1251, GE1251, LB1226_1251, NB1251_1226, LB1227_1251, NB1251_1227, NB1252_1251, NB1251_1252, GW1252, GE1252, LB1226_1252, NB1252_1226, LB1227_1252, NB1252_1227, HB⟩ := h
      have NB1226_1250 := ne_ LB1226_1250
      have NB1227_1250 := ne_ LB1227_1250
      have NB1226_1251 := ne_ LB1226_1251
      have NB1227_1251 := ne_ LB1227_1251
      have NB1226_1252 := ne_ LB1226_1252
      have NB1227_1252 := ne_ LB1227_1252
      refine norm_ (a' := ?_) ?_ ?_
      rotate_left
      ·simp only [putAll, Act.put, List.setIfInBounds_toArray, List.set_cons_zero, List.set_cons_succ]
       rfl
      refine one_ (i := 1) (N := some 28) #[true, true, true, false, true, false, true, true, true, false, false, false] rfl rfl (one_of HT_.out (by kernel_rfl)) (by decide) (fun K hK => ?_)
      refine goes_ Tryd.func51 (by kernel_rfl) rfl #[.agg #[.string a1_0, .string a1_1, .bool a1_2, .bool a1_3, .slice A1_4 l1_4.length c1_4]] (by rfl) rfl rfl ar_ ?_
      with_reducible refine (idiomlaw04_copied.calls a1_0 a1_1 a1_2 a1_3 _ _ l1_4 t1229 t1230 t1231 t1232 t1233 _ ?side1 ?side2 A9.out).mono ?_
      (case side1 => repeat (first | exact (Kd.C_below HR1_4.out HB.out) | (with_reducible refine Kd.C_alloc ?_ _) | (with_reducible refine Kd.C_drewN ?_ _) | (with_reducible refine Kd.C_drew ?_)))
      (case side2 => exact HC1_4.out)
      rintro e w22 ⟨v1234, rfl, ho0, hb⟩
      refine ⟨_, rfl, ?_⟩
      have HO1235 := Aside0.mk (Kd.R_lower ho0 (below_size hb_))
      replace BK1226 := BK1226.bl hb
      replace BK1227 := BK1227.bl hb
      replace BK1250 := BK1250.bl hb
      replace BK1251 := BK1251.bl hb
      replace BK1252 := BK1252.bl hb
      replace HB := Aside0.mk (below_step hb_ hb)
      (try clear hb)
      (try clear hb2)
      (try clear hk)
      (try clear hi)
      (try clear ho0)
      refine hK.out _ _ (h5_ BK1227) (fun hHeld => ?_)
      clear hK K
      refine norm_ (a' := ?_) ?_ ?_
      rotate_left
      ·show Act.put _ (some 28) _ = _
       simp only [Act.put, List.setIfInBounds_toArray, List.set_cons_zero, List.set_cons_succ, i64_w, i32_w]
       rfl
      exact norm_ nm_ (hJ1_6_7_8 (v1234, gb1250, gb1251, gb1252) _ ⟨hHeld, HO1235, BK1226, BK1227, BK1250, BK1251, BK1252, GW1250, GE1250, LB1226_1250, NB1250_1226, LB1227_1250, NB1250_1227, NB1251_1250, NB1250_1251, NB1252_1250, NB1250_1252, GW1251, GE1251, LB1226_1251, NB1251_1226, LB1227_1251, NB1251_1227, NB1252_1251, NB1251_1252, GW1252, GE1252, LB1226_1252, NB1252_1226, LB1227_1252, NB1252_1227, ⟨hb_⟩⟩)
    ·skip
     clear BK1226 BK1227 HB
     rintro ⟨v1234, gb1251, gb1252⟩ w21 h
     try dsimp only at h
     obtain ⟨hHeld, HO1235, BK1226, BK1227, BK1251, BK1252, GW1251, GE1251, LB1226_1251, NB1251_1226, LB1227_1251, NB1251_1227, NB1252_1251, NB1251_1252, GW1252, GE1252, LB1226_1252, NB1252_1226, LB1227_1252, NB1252_1227, HB⟩ := h
     have NB1226_1251 := ne_ LB1226_1251
     have NB1227_1251 := ne_ LB1227_1251
     have NB1226_1252 := ne_ LB1226_1252
     have NB1227_1252 := ne_ LB1227_1252
     refine norm_ (a' := ?_) ?_ ?_
     rotate_left
     ·simp only [putAll, Act.put, List.setIfInBounds_toArray, List.set_cons_zero, List.set_cons_succ]
      rfl
     refine two_ (i := 3) (j := 6) (Ni := some 30) (Nj := some 5) #[true, true, true, true, true, false, false, true, true, false, false, false] #[true, true, true, false, true, false, true, true, true, false, false, false] rfl rfl rfl rfl (two_of HT_.out (by kernel_rfl)) (by decide) (by decide) (fun K hK => ?_) (fun K hK => ?_)
     ·skip
      refine goes_ Tryd.func51 (by kernel_rfl) rfl #[.agg #[.string a1_0, .string a1_1, .bool a1_2, .bool a1_3, .slice A1_4 l1_4.length c1_4]] (by rfl) rfl rfl ar_ ?_
      with_reducible refine (idiomlaw04_copied.calls a1_0 a1_1 a1_2 a1_3 _ _ l1_4 t1236 t1237 t1238 t1239 t1240 _ ?side1 ?side2 A10.out).mono ?_
      (case side1 => repeat (first | exact (Kd.C_below HR1_4.out HB.out) | (with_reducible refine Kd.C_alloc ?_ _) | (with_reducible refine Kd.C_drewN ?_ _) | (with_reducible refine Kd.C_drew ?_)))
      (case side2 => exact HC1_4.out)
      rintro e w22 ⟨v1241, rfl, ho0, hb⟩
      refine ⟨_, rfl, ?_⟩
      have HO1242 := Aside0.mk (Kd.R_lower (Kd.R_new' ho0 (Kd.R_lt HO1235.out)) (below_size hb_))
      replace HO1235 := Aside0.mk (Kd.R_elder' HO1235.out (Kd.R_base ho0) hb)
      replace BK1226 := BK1226.bl hb
      replace BK1227 := BK1227.bl hb
      replace BK1251 := BK1251.bl hb
      replace BK1252 := BK1252.bl hb
      replace HB := Aside0.mk (below_step hb_ hb)
      (try clear hb)
      (try clear hb2)
      (try clear hk)
      (try clear hi)
      (try clear ho0)
      refine hK.out _ _ (h5_ BK1227) (fun hHeld => ?_)
      clear hK K
      refine norm_ (a' := ?_) ?_ ?_
      rotate_left
      ·show Act.put _ (some 30) _ = _
       simp only [Act.put, List.setIfInBounds_toArray, List.set_cons_zero, List.set_cons_succ, i64_w, i32_w]
       rfl
      exact norm_ nm_ (hJ1_3_7_8 (v1234, v1241, gb1251, gb1252) _ ⟨hHeld, ⟨by (with_reducible repeat (first | apply Kd.R_alloc | apply Kd.R_drewN | apply Kd.R_drew)); exact Kd.R_mono HO1235.out (fun _ hk => hk.2)⟩, ⟨by (with_reducible repeat (first | apply Kd.R_alloc | apply Kd.R_drewN | apply Kd.R_drew)); exact Kd.R_mono HO1242.out (fun _ hk => hk.2)⟩, BK1226, BK1227, BK1251, BK1252, GW1251, GE1251, LB1226_1251, NB1251_1226, LB1227_1251, NB1251_1227, NB1252_1251, NB1251_1252, GW1252, GE1252, LB1226_1252, NB1252_1226, LB1227_1252, NB1252_1227, ⟨hb_⟩⟩)
     ·skip
      refine bs_ 5 #[.string (⟨#[]⟩ : ByteArray), .string (⟨#[]⟩ : ByteArray), .bool false, .bool false, .slice none 0 0] (t := 54) ?_
      intro gb1250 hg w22 hbox hb
      have BK1250 := Aside0.mk (hbox)
      have GW1250 := Aside0.mk ((by rw [hg]; exact (below_size hb_) : w.heap.size ≤ gb1250))
      have GE1250 := Aside0.mk ((by rw [hg]; exact (below_size hb_) : w.heap.size ≤ gb1250))
      have NB1226_1250 := BK1226.nl hg; have LB1226_1250 := lt_ BK1226 hg
      have NB1250_1226 := BK1226.ng hg
      have NB1227_1250 := BK1227.nl hg; have LB1227_1250 := lt_ BK1227 hg
      have NB1250_1227 := BK1227.ng hg
      have NB1251_1250 := BK1251.nl hg; have LB1251_1250 := lt_ BK1251 hg
      have NB1250_1251 := BK1251.ng hg
      have NB1252_1250 := BK1252.nl hg; have LB1252_1250 := lt_ BK1252 hg
      have NB1250_1252 := BK1252.ng hg
      replace HO1235 := bw_ HO1235 hb
      replace BK1226 := BK1226.bl hb
      replace BK1227 := BK1227.bl hb
      replace BK1251 := BK1251.bl hb
      replace BK1252 := BK1252.bl hb
      replace HB := Aside0.mk (below_step hb_ hb)
      clear hb hbox hg
      refine hK.out _ _ (h5_ BK1227) (fun hHeld => ?_)
      clear hK K
      refine norm_ (a' := ?_) ?_ ?_
      rotate_left
      ·show Act.put _ (some 5) _ = _
       simp only [Act.put, List.setIfInBounds_toArray, List.set_cons_zero, List.set_cons_succ, i64_w, i32_w]
       rfl
      exact norm_ nm_ (hJ1_6_7_8 (v1234, gb1250, gb1251, gb1252) _ ⟨hHeld, HO1235, BK1226, BK1227, BK1250, BK1251, BK1252, GW1250, GE1250, LB1226_1250, NB1250_1226, LB1227_1250, NB1250_1227, NB1251_1250, NB1250_1251, NB1252_1250, NB1250_1252, GW1251, GE1251, LB1226_1251, NB1251_1226, LB1227_1251, NB1251_1227, NB1252_1251, NB1251_1252, GW1252, GE1252, LB1226_1252, NB1252_1226, LB1227_1252, NB1252_1227, ⟨hb_⟩⟩)
   ·skip
    clear BK1226 BK1227 HB
    rintro ⟨v1234, gb1250, gb1252⟩ w21 h
    try dsimp only at h
    obtain ⟨hHeld, HO1235, BK1226, BK1227, BK1250, BK1252, GW1250, GE1250, LB1226_1250, NB1250_1226, LB1227_1250, NB1250_1227, NB1252_1250, NB1250_1252, GW1252, GE1252, LB1226_1252, NB1252_1226, LB1227_1252, NB1252_1227, HB⟩ := h
    have NB1226_1250 := ne_ LB1226_1250
    have NB1227_1250 := ne_ LB1227_1250
    have NB1226_1252 := ne_ LB1226_1252
    have NB1227_1252 := ne_ LB1227_1252
    refine norm_ (a' := ?_) ?_ ?_
    rotate_left
    ·simp only [putAll, Act.put, List.setIfInBounds_toArray, List.set_cons_zero, List.set_cons_succ]
     rfl
    refine two_ (i := 3) (j := 7) (Ni := some 30) (Nj := some 6) #[true, true, true, true, true, false, true, false, true, false, false, false] #[true, true, true, false, true, false, true, true, true, false, false, false] rfl rfl rfl rfl (two_of HT_.out (by kernel_rfl)) (by decide) (by decide) (fun K hK => ?_) (fun K hK => ?_)
    ·skip
     refine goes_ Tryd.func51 (by kernel_rfl) rfl #[.agg #[.string a1_0, .string a1_1, .bool a1_2, .bool a1_3, .slice A1_4 l1_4.length c1_4]] (by rfl) rfl rfl ar_ ?_
     with_reducible refine (idiomlaw04_copied.calls a1_0 a1_1 a1_2 a1_3 _ _ l1_4 t1236 t1237 t1238 t1239 t1240 _ ?side1 ?side2 A10.out).mono ?_
     (case side1 => repeat (first | exact (Kd.C_below HR1_4.out HB.out) | (with_reducible refine Kd.C_alloc ?_ _) | (with_reducible refine Kd.C_drewN ?_ _) | (with_reducible refine Kd.C_drew ?_)))
     (case side2 => exact HC1_4.out)
     rintro e w22 ⟨v1241, rfl, ho0, hb⟩
     refine ⟨_, rfl, ?_⟩
     have HO1242 := Aside0.mk (Kd.R_lower (Kd.R_new' ho0 (Kd.R_lt HO1235.out)) (below_size hb_))
     replace HO1235 := Aside0.mk (Kd.R_elder' HO1235.out (Kd.R_base ho0) hb)
     replace BK1226 := BK1226.bl hb
     replace BK1227 := BK1227.bl hb
     replace BK1250 := BK1250.bl hb
     replace BK1252 := BK1252.bl hb
     replace HB := Aside0.mk (below_step hb_ hb)
     (try clear hb)
     (try clear hb2)
     (try clear hk)
     (try clear hi)
     (try clear ho0)
     refine hK.out _ _ (h5_ BK1227) (fun hHeld => ?_)
     clear hK K
     refine norm_ (a' := ?_) ?_ ?_
     rotate_left
     ·show Act.put _ (some 30) _ = _
      simp only [Act.put, List.setIfInBounds_toArray, List.set_cons_zero, List.set_cons_succ, i64_w, i32_w]
      rfl
     exact norm_ nm_ (hJ1_3_6_8 (v1234, v1241, gb1250, gb1252) _ ⟨hHeld, ⟨by (with_reducible repeat (first | apply Kd.R_alloc | apply Kd.R_drewN | apply Kd.R_drew)); exact Kd.R_mono HO1235.out (fun _ hk => hk.2)⟩, ⟨by (with_reducible repeat (first | apply Kd.R_alloc | apply Kd.R_drewN | apply Kd.R_drew)); exact Kd.R_mono HO1242.out (fun _ hk => hk.2)⟩, BK1226, BK1227, BK1250, BK1252, GW1250, GE1250, LB1226_1250, NB1250_1226, LB1227_1250, NB1250_1227, NB1252_1250, NB1250_1252, GW1252, GE1252, LB1226_1252, NB1252_1226, LB1227_1252, NB1252_1227, ⟨hb_⟩⟩)
    ·skip
     refine bs_ 6 #[.string (⟨#[]⟩ : ByteArray), .string (⟨#[]⟩ : ByteArray), .bool false, .bool false, .slice none 0 0] (t := 54) ?_
     intro gb1251 hg w22 hbox hb
     have BK1251 := Aside0.mk (hbox)
     have GW1251 := Aside0.mk ((by rw [hg]; exact (below_size hb_) : w.heap.size ≤ gb1251))
     have GE1251 := Aside0.mk ((by rw [hg]; exact (below_size hb_) : w.heap.size ≤ gb1251))
     have NB1226_1251 := BK1226.nl hg; have LB1226_1251 := lt_ BK1226 hg
     have NB1251_1226 := BK1226.ng hg
     have NB1227_1251 := BK1227.nl hg; have LB1227_1251 := lt_ BK1227 hg
     have NB1251_1227 := BK1227.ng hg
     have NB1250_1251 := BK1250.nl hg; have LB1250_1251 := lt_ BK1250 hg
     have NB1251_1250 := BK1250.ng hg
     have NB1252_1251 := BK1252.nl hg; have LB1252_1251 := lt_ BK1252 hg
     have NB1251_1252 := BK1252.ng hg
     replace HO1235 := bw_ HO1235 hb
     replace BK1226 := BK1226.bl hb
     replace BK1227 := BK1227.bl hb
     replace BK1250 := BK1250.bl hb
     replace BK1252 := BK1252.bl hb
     replace HB := Aside0.mk (below_step hb_ hb)
     clear hb hbox hg
     refine hK.out _ _ (h5_ BK1227) (fun hHeld => ?_)
     clear hK K
     refine norm_ (a' := ?_) ?_ ?_
     rotate_left
     ·show Act.put _ (some 6) _ = _
      simp only [Act.put, List.setIfInBounds_toArray, List.set_cons_zero, List.set_cons_succ, i64_w, i32_w]
      rfl
     exact norm_ nm_ (hJ1_6_7_8 (v1234, gb1250, gb1251, gb1252) _ ⟨hHeld, HO1235, BK1226, BK1227, BK1250, BK1251, BK1252, GW1250, GE1250, LB1226_1250, NB1250_1226, LB1227_1250, NB1250_1227, NB1251_1250, NB1250_1251, NB1252_1250, NB1250_1252, GW1251, GE1251, LB1226_1251, NB1251_1226, LB1227_1251, NB1251_1227, NB1252_1251, NB1251_1252, GW1252, GE1252, LB1226_1252, NB1252_1226, LB1227_1252, NB1252_1227, ⟨hb_⟩⟩)
set_option maxHeartbeats 8000000 in
set_option maxRecDepth 100000 in
theorem idiomlaw04_OperandLists.calls_r2 : idiomlaw04_OperandLists.calls_r1_s.1 := by
  intro k a0_0 a0_1 a0_2 a0_3 a0_4 a0_5 a0_6 a0_7 a0_8 a1_0 a1_1 a1_2 a1_3 A1_4 c1_4 l1_4 r w hu45 hu54 hu23 hu60 HR1_4 HC1_4 HTB z0_1 gb1226 w5 GW1226 GE1226 gb1227 w6 GW1227 GE1227 NB1226_1227 LB1226_1227 NB1227_1226 w7 hb A3 t1229 t1230 t1231 t1232 t1233 A9 t1236 t1237 t1238 t1239 t1240 A10 t1243 t1244 t1245 t1246 t1247 A11 t1253 t1254 t1255 t1256 t1257 A12 t1260 t1261 A13 t1262 t1263 A14 t1264 t1265 A15 HC16 z0_2 z0_3 z0_4 HT_ HW_ w17 BK1226 BK1227 HB hHeld hJ1_3_5_6_7_8 hJ1_3_5_6_7 hJ1_3_5_6_8 hJ1_3_5_7_8 hJ1_3_6_7_8 hJ1_3_5_6 hJ1_3_5_7 hJ1_3_5_8 hJ1_3_6_7 hJ1_3_6_8 hJ1_3_7_8 hJ1_6_7_8 hJ1_3_5 hJ1_3_6 hJ1_3_7 hJ1_3_8 hJ1_6_7 hJ1_6_8 hJ1_7_8 hJ6_7_8 hJ1_3 hJ1_6 hJ1_7 hJ1_8
  refine join_ (σ := Nat × Nat) 7 #[true, false, true, false, true, false, true, true, false, false, false, false] (fun s_ => [(5, .pointer (some ⟨s_.1, 0, none⟩)), (6, .pointer (some ⟨s_.2, 0, none⟩))]) (fun s_ w' => (w'.cell? ⟨gb1227, 0, none⟩ = some (.string a1_0) ∧ w'.cell? ⟨gb1227, 1, none⟩ = some (.string a1_1) ∧ w'.cell? ⟨gb1227, 2, none⟩ = some (.bool a1_2) ∧ w'.cell? ⟨gb1227, 3, none⟩ = some (.bool a1_3) ∧ w'.cell? ⟨gb1227, 4, none⟩ = some (.slice A1_4 l1_4.length c1_4)) ∧ Aside0 (w'.heap[gb1226]? = some (.cells #[.bool a0_0, .string a0_1, .string a0_2, .string a0_3, .int .i64 a0_4, .int .i64 a0_5, .string a0_6, .string a0_7, .int .i64 a0_8] 45 (0, 0))) ∧ Aside0 (w'.heap[gb1227]? = some (.cells #[.string a1_0, .string a1_1, .bool a1_2, .bool a1_3, .slice A1_4 l1_4.length c1_4] 54 (0, 0))) ∧ Aside0 (w'.heap[s_.1]? = some (.cells #[.string (⟨#[]⟩ : ByteArray), .string (⟨#[]⟩ : ByteArray), .bool false, .bool false, .slice none 0 0] 54 (0, 0))) ∧ Aside0 (w'.heap[s_.2]? = some (.cells #[.string (⟨#[]⟩ : ByteArray), .string (⟨#[]⟩ : ByteArray), .bool false, .bool false, .slice none 0 0] 54 (0, 0))) ∧ Aside0 (w.heap.size ≤ s_.1) ∧ Aside0 (w.heap.size ≤ s_.1) ∧ Aside0 (gb1226 < s_.1) ∧ Aside0 (s_.1 ≠ gb1226) ∧ Aside0 (gb1227 < s_.1) ∧ Aside0 (s_.1 ≠ gb1227) ∧ Aside0 (s_.2 ≠ s_.1) ∧ Aside0 (s_.1 ≠ s_.2) ∧ Aside0 (w.heap.size ≤ s_.2) ∧ Aside0 (w.heap.size ≤ s_.2) ∧ Aside0 (gb1226 < s_.2) ∧ Aside0 (s_.2 ≠ gb1226) ∧ Aside0 (gb1227 < s_.2) ∧ Aside0 (s_.2 ≠ gb1227) ∧ Aside0 (Below w.heap.size w w')) ?_ ?_
  rotate_left
  ·intro hJ6_7
   refine join_ (σ := Nat × Nat) 7 #[true, false, true, false, true, false, true, false, true, false, false, false] (fun s_ => [(5, .pointer (some ⟨s_.1, 0, none⟩)), (7, .pointer (some ⟨s_.2, 0, none⟩))]) (fun s_ w' => (w'.cell? ⟨gb1227, 0, none⟩ = some (.string a1_0) ∧ w'.cell? ⟨gb1227, 1, none⟩ = some (.string a1_1) ∧ w'.cell? ⟨gb1227, 2, none⟩ = some (.bool a1_2) ∧ w'.cell? ⟨gb1227, 3, none⟩ = some (.bool a1_3) ∧ w'.cell? ⟨gb1227, 4, none⟩ = some (.slice A1_4 l1_4.length c1_4)) ∧ Aside0 (w'.heap[gb1226]? = some (.cells #[.bool a0_0, .string a0_1, .string a0_2, .string a0_3, .int .i64 a0_4, .int .i64 a0_5, .string a0_6, .string a0_7, .int .i64 a0_8] 45 (0, 0))) ∧ Aside0 (w'.heap[gb1227]? = some (.cells #[.string a1_0, .string a1_1, .bool a1_2, .bool a1_3, .slice A1_4 l1_4.length c1_4] 54 (0, 0))) ∧ Aside0 (w'.heap[s_.1]? = some (.cells #[.string (⟨#[]⟩ : ByteArray), .string (⟨#[]⟩ : ByteArray), .bool false, .bool false, .slice none 0 0] 54 (0, 0))) ∧ Aside0 (w'.heap[s_.2]? = some (.cells #[.string (⟨#[]⟩ : ByteArray), .string (⟨#[]⟩ : ByteArray), .bool false, .bool false, .slice none 0 0] 54 (0, 0))) ∧ Aside0 (w.heap.size ≤ s_.1) ∧ Aside0 (w.heap.size ≤ s_.1) ∧ Aside0 (gb1226 < s_.1) ∧ Aside0 (s_.1 ≠ gb1226) ∧ Aside0 (gb1227 < s_.1) ∧ Aside0 (s_.1 ≠ gb1227) ∧ Aside0 (s_.2 ≠ s_.1) ∧ Aside0 (s_.1 ≠ s_.2) ∧ Aside0 (w.heap.size ≤ s_.2) ∧ Aside0 (w.heap.size ≤ s_.2) ∧ Aside0 (gb1226 < s_.2) ∧ Aside0 (s_.2 ≠ gb1226) ∧ Aside0 (gb1227 < s_.2) ∧ Aside0 (s_.2 ≠ gb1227) ∧ Aside0 (Below w.heap.size w w')) ?_ ?_
   rotate_left
   ·intro hJ6_8
    refine join_ (σ := Nat × Nat) 7 #[true, false, true, false, true, false, false, true, true, false, false, false] (fun s_ => [(6, .pointer (some ⟨s_.1, 0, none⟩)), (7, .pointer (some ⟨s_.2, 0, none⟩))]) (fun s_ w' => (w'.cell? ⟨gb1227, 0, none⟩ = some (.string a1_0) ∧ w'.cell? ⟨gb1227, 1, none⟩ = some (.string a1_1) ∧ w'.cell? ⟨gb1227, 2, none⟩ = some (.bool a1_2) ∧ w'.cell? ⟨gb1227, 3, none⟩ = some (.bool a1_3) ∧ w'.cell? ⟨gb1227, 4, none⟩ = some (.slice A1_4 l1_4.length c1_4)) ∧ Aside0 (w'.heap[gb1226]? = some (.cells #[.bool a0_0, .string a0_1, .string a0_2, .string a0_3, .int .i64 a0_4, .int .i64 a0_5, .string a0_6, .string a0_7, .int .i64 a0_8] 45 (0, 0))) ∧ Aside0 (w'.heap[gb1227]? = some (.cells #[.string a1_0, .string a1_1, .bool a1_2, .bool a1_3, .slice A1_4 l1_4.length c1_4] 54 (0, 0))) ∧ Aside0 (w'.heap[s_.1]? = some (.cells #[.string (⟨#[]⟩ : ByteArray), .string (⟨#[]⟩ : ByteArray), .bool false, .bool false, .slice none 0 0] 54 (0, 0))) ∧ Aside0 (w'.heap[s_.2]? = some (.cells #[.string (⟨#[]⟩ : ByteArray), .string (⟨#[]⟩ : ByteArray), .bool false, .bool false, .slice none 0 0] 54 (0, 0))) ∧ Aside0 (w.heap.size ≤ s_.1) ∧ Aside0 (w.heap.size ≤ s_.1) ∧ Aside0 (gb1226 < s_.1) ∧ Aside0 (s_.1 ≠ gb1226) ∧ Aside0 (gb1227 < s_.1) ∧ Aside0 (s_.1 ≠ gb1227) ∧ Aside0 (s_.2 ≠ s_.1) ∧ Aside0 (s_.1 ≠ s_.2) ∧ Aside0 (w.heap.size ≤ s_.2) ∧ Aside0 (w.heap.size ≤ s_.2) ∧ Aside0 (gb1226 < s_.2) ∧ Aside0 (s_.2 ≠ gb1226) ∧ Aside0 (gb1227 < s_.2) ∧ Aside0 (s_.2 ≠ gb1227) ∧ Aside0 (Below w.heap.size w w')) ?_ ?_
    rotate_left
    ·intro hJ7_8
     refine join_ (σ := Value) 8 #[true, true, true, false, true, false, false, false, false, false, false, false] (fun s_ => [(28, .agg #[.string t1229, .string t1230, .bool t1231, .bool t1232, s_])]) (fun s_ w' => (w'.cell? ⟨gb1227, 0, none⟩ = some (.string a1_0) ∧ w'.cell? ⟨gb1227, 1, none⟩ = some (.string a1_1) ∧ w'.cell? ⟨gb1227, 2, none⟩ = some (.bool a1_2) ∧ w'.cell? ⟨gb1227, 3, none⟩ = some (.bool a1_3) ∧ w'.cell? ⟨gb1227, 4, none⟩ = some (.slice A1_4 l1_4.length c1_4)) ∧ Aside0 (Kd.R k60 60 w' w.heap.size (fun _ => True) s_ t1233) ∧ Aside0 (w'.heap[gb1226]? = some (.cells #[.bool a0_0, .string a0_1, .string a0_2, .string a0_3, .int .i64 a0_4, .int .i64 a0_5, .string a0_6, .string a0_7, .int .i64 a0_8] 45 (0, 0))) ∧ Aside0 (w'.heap[gb1227]? = some (.cells #[.string a1_0, .string a1_1, .bool a1_2, .bool a1_3, .slice A1_4 l1_4.length c1_4] 54 (0, 0))) ∧ Aside0 (Below w.heap.size w w')) ?_ ?_
     rotate_left
     ·intro hJ1
      refine join_ (σ := Nat) 8 #[true, false, true, false, true, false, true, false, false, false, false, false] (fun s_ => [(5, .pointer (some ⟨s_, 0, none⟩))]) (fun s_ w' => (w'.cell? ⟨gb1227, 0, none⟩ = some (.string a1_0) ∧ w'.cell? ⟨gb1227, 1, none⟩ = some (.string a1_1) ∧ w'.cell? ⟨gb1227, 2, none⟩ = some (.bool a1_2) ∧ w'.cell? ⟨gb1227, 3, none⟩ = some (.bool a1_3) ∧ w'.cell? ⟨gb1227, 4, none⟩ = some (.slice A1_4 l1_4.length c1_4)) ∧ Aside0 (w'.heap[gb1226]? = some (.cells #[.bool a0_0, .string a0_1, .string a0_2, .string a0_3, .int .i64 a0_4, .int .i64 a0_5, .string a0_6, .string a0_7, .int .i64 a0_8] 45 (0, 0))) ∧ Aside0 (w'.heap[gb1227]? = some (.cells #[.string a1_0, .string a1_1, .bool a1_2, .bool a1_3, .slice A1_4 l1_4.length c1_4] 54 (0, 0))) ∧ Aside0 (w'.heap[s_]? = some (.cells #[.string (⟨#[]⟩ : ByteArray), .string (⟨#[]⟩ : ByteArray), .bool false, .bool false, .slice none 0 0] 54 (0, 0))) ∧ Aside0 (w.heap.size ≤ s_) ∧ Aside0 (w.heap.size ≤ s_) ∧ Aside0 (gb1226 < s_) ∧ Aside0 (s_ ≠ gb1226) ∧ Aside0 (gb1227 < s_) ∧ Aside0 (s_ ≠ gb1227) ∧ Aside0 (Below w.heap.size w w')) ?_ ?_
      rotate_left
      ·intro hJ6
       refine join_ (σ := Nat) 8 #[true, false, true, false, true, false, false, true, false, false, false, false] (fun s_ => [(6, .pointer (some ⟨s_, 0, none⟩))]) (fun s_ w' => (w'.cell? ⟨gb1227, 0, none⟩ = some (.string a1_0) ∧ w'.cell? ⟨gb1227, 1, none⟩ = some (.string a1_1) ∧ w'.cell? ⟨gb1227, 2, none⟩ = some (.bool a1_2) ∧ w'.cell? ⟨gb1227, 3, none⟩ = some (.bool a1_3) ∧ w'.cell? ⟨gb1227, 4, none⟩ = some (.slice A1_4 l1_4.length c1_4)) ∧ Aside0 (w'.heap[gb1226]? = some (.cells #[.bool a0_0, .string a0_1, .string a0_2, .string a0_3, .int .i64 a0_4, .int .i64 a0_5, .string a0_6, .string a0_7, .int .i64 a0_8] 45 (0, 0))) ∧ Aside0 (w'.heap[gb1227]? = some (.cells #[.string a1_0, .string a1_1, .bool a1_2, .bool a1_3, .slice A1_4 l1_4.length c1_4] 54 (0, 0))) ∧ Aside0 (w'.heap[s_]? = some (.cells #[.string (⟨#[]⟩ : ByteArray), .string (⟨#[]⟩ : ByteArray), .bool false, .bool false, .slice none 0 0] 54 (0, 0))) ∧ Aside0 (w.heap.size ≤ s_) ∧ Aside0 (w.heap.size ≤ s_) ∧ Aside0 (gb1226 < s_) ∧ Aside0 (s_ ≠ gb1226) ∧ Aside0 (gb1227 < s_) ∧ Aside0 (s_ ≠ gb1227) ∧ Aside0 (Below w.heap.size w w')) ?_ ?_
       rotate_left
       ·intro hJ7
        refine join_ (σ := Nat) 8 #[true, false, true, false, true, false, false, false, true, false, false, false] (fun s_ => [(7, .pointer (some ⟨s_, 0, none⟩))]) (fun s_ w' => (w'.cell? ⟨gb1227, 0, none⟩ = some (.string a1_0) ∧ w'.cell? ⟨gb1227, 1, none⟩ = some (.string a1_1) ∧ w'.cell? ⟨gb1227, 2, none⟩ = some (.bool a1_2) ∧ w'.cell? ⟨gb1227, 3, none⟩ = some (.bool a1_3) ∧ w'.cell? ⟨gb1227, 4, none⟩ = some (.slice A1_4 l1_4.length c1_4)) ∧ Aside0 (w'.heap[gb1226]? = some (.cells #[.bool a0_0, .string a0_1, .string a0_2, .string a0_3, .int .i64 a0_4, .int .i64 a0_5, .string a0_6, .string a0_7, .int .i64 a0_8] 45 (0, 0))) ∧ Aside0 (w'.heap[gb1227]? = some (.cells #[.string a1_0, .string a1_1, .bool a1_2, .bool a1_3, .slice A1_4 l1_4.length c1_4] 54 (0, 0))) ∧ Aside0 (w'.heap[s_]? = some (.cells #[.string (⟨#[]⟩ : ByteArray), .string (⟨#[]⟩ : ByteArray), .bool false, .bool false, .slice none 0 0] 54 (0, 0))) ∧ Aside0 (w.heap.size ≤ s_) ∧ Aside0 (w.heap.size ≤ s_) ∧ Aside0 (gb1226 < s_) ∧ Aside0 (s_ ≠ gb1226) ∧ Aside0 (gb1227 < s_) ∧ Aside0 (s_ ≠ gb1227) ∧ Aside0 (Below w.heap.size w w')) ?_ ?_
        rotate_left
        ·intro hJ8
         refine four_ (i := 1) (j := 6) (k := 7) (m := 8) (Ni := some 28) (Nj := some 5) (Nk := some 6) (Nm := some 7) #[true, true, true, false, true, false, false, false, false, false, false, false] #[true, false, true, false, true, false, true, false, false, false, false, false] #[true, false, true, false, true, false, false, true, false, false, false, false] #[true, false, true, false, true, false, false, false, true, false, false, false] rfl rfl rfl rfl rfl rfl rfl rfl (four_of HT_.out (by kernel_rfl)) (by decide) (by decide) (by decide) (by decide) (fun K hK => ?_) (fun K hK => ?_) (fun K hK => ?_) (fun K hK => ?_)
         ·skip
          refine goes_ Tryd.func51 (by kernel_rfl) rfl #[.agg #[.string a1_0, .string a1_1, .bool a1_2, .bool a1_3, .slice A1_4 l1_4.length c1_4]] (by rfl) rfl rfl ar_ ?_
          with_reducible refine (idiomlaw04_copied.calls a1_0 a1_1 a1_2 a1_3 _ _ l1_4 t1229 t1230 t1231 t1232 t1233 _ ?side1 ?side2 A9.out).mono ?_
          (case side1 => repeat (first | exact (Kd.C_below HR1_4.out HB.out) | (with_reducible refine Kd.C_alloc ?_ _) | (with_reducible refine Kd.C_drewN ?_ _) | (with_reducible refine Kd.C_drew ?_)))
          (case side2 => exact HC1_4.out)
          rintro e w18 ⟨v1234, rfl, ho0, hb⟩
          refine ⟨_, rfl, ?_⟩
          have HO1235 := Aside0.mk (Kd.R_lower ho0 (below_size hb_))
          replace BK1226 := BK1226.bl hb
          replace BK1227 := BK1227.bl hb
          replace HB := Aside0.mk (below_step hb_ hb)
          (try clear hb)
          (try clear hb2)
          (try clear hk)
          (try clear hi)
          (try clear ho0)
          refine hK.out _ _ (h5_ BK1227) (fun hHeld => ?_)
          clear hK K
          refine norm_ (a' := ?_) ?_ ?_
          rotate_left
          ·show Act.put _ (some 28) _ = _
           simp only [Act.put, List.setIfInBounds_toArray, List.set_cons_zero, List.set_cons_succ, i64_w, i32_w]
           rfl
          exact norm_ nm_ (hJ1 (v1234) _ ⟨hHeld, HO1235, BK1226, BK1227, ⟨hb_⟩⟩)
         ·skip
          refine bs_ 5 #[.string (⟨#[]⟩ : ByteArray), .string (⟨#[]⟩ : ByteArray), .bool false, .bool false, .slice none 0 0] (t := 54) ?_
          intro gb1250 hg w18 hbox hb
          have BK1250 := Aside0.mk (hbox)
          have GW1250 := Aside0.mk ((by rw [hg]; exact (below_size hb_) : w.heap.size ≤ gb1250))
          have GE1250 := Aside0.mk ((by rw [hg]; exact (below_size hb_) : w.heap.size ≤ gb1250))
          have NB1226_1250 := BK1226.nl hg; have LB1226_1250 := lt_ BK1226 hg
          have NB1250_1226 := BK1226.ng hg
          have NB1227_1250 := BK1227.nl hg; have LB1227_1250 := lt_ BK1227 hg
          have NB1250_1227 := BK1227.ng hg
          replace BK1226 := BK1226.bl hb
          replace BK1227 := BK1227.bl hb
          replace HB := Aside0.mk (below_step hb_ hb)
          clear hb hbox hg
          refine hK.out _ _ (h5_ BK1227) (fun hHeld => ?_)
          clear hK K
          refine norm_ (a' := ?_) ?_ ?_
          rotate_left
          ·show Act.put _ (some 5) _ = _
           simp only [Act.put, List.setIfInBounds_toArray, List.set_cons_zero, List.set_cons_succ, i64_w, i32_w]
           rfl
          exact norm_ nm_ (hJ6 (gb1250) _ ⟨hHeld, BK1226, BK1227, BK1250, GW1250, GE1250, LB1226_1250, NB1250_1226, LB1227_1250, NB1250_1227, ⟨hb_⟩⟩)
         ·skip
          refine bs_ 6 #[.string (⟨#[]⟩ : ByteArray), .string (⟨#[]⟩ : ByteArray), .bool false, .bool false, .slice none 0 0] (t := 54) ?_
          intro gb1251 hg w18 hbox hb
          have BK1251 := Aside0.mk (hbox)
          have GW1251 := Aside0.mk ((by rw [hg]; exact (below_size hb_) : w.heap.size ≤ gb1251))
          have GE1251 := Aside0.mk ((by rw [hg]; exact (below_size hb_) : w.heap.size ≤ gb1251))
          have NB1226_1251 := BK1226.nl hg; have LB1226_1251 := lt_ BK1226 hg
          have NB1251_1226 := BK1226.ng hg
          have NB1227_1251 := BK1227.nl hg; have LB1227_1251 := lt_ BK1227 hg
          have NB1251_1227 := BK1227.ng hg
          replace BK1226 := BK1226.bl hb
          replace BK1227 := BK1227.bl hb
          replace HB := Aside0.mk (below_step hb_ hb)
          clear hb hbox hg
          refine hK.out _ _ (h5_ BK1227) (fun hHeld => ?_)
          clear hK K
          refine norm_ (a' := ?_) ?_ ?_
          rotate_left
          ·show Act.put _ (some 6) _ = _
           simp only [Act.put, List.setIfInBounds_toArray, List.set_cons_zero, List.set_cons_succ, i64_w, i32_w]
           rfl
          exact norm_ nm_ (hJ7 (gb1251) _ ⟨hHeld, BK1226, BK1227, BK1251, GW1251, GE1251, LB1226_1251, NB1251_1226, LB1227_1251, NB1251_1227, ⟨hb_⟩⟩)
         ·skip
          refine bs_ 7 #[.string (⟨#[]⟩ : ByteArray), .string (⟨#[]⟩ : ByteArray), .bool false, .bool false, .slice none 0 0] (t := 54) ?_
          intro gb1252 hg w18 hbox hb
          have BK1252 := Aside0.mk (hbox)
          have GW1252 := Aside0.mk ((by rw [hg]; exact (below_size hb_) : w.heap.size ≤ gb1252))
          have GE1252 := Aside0.mk ((by rw [hg]; exact (below_size hb_) : w.heap.size ≤ gb1252))
          have NB1226_1252 := BK1226.nl hg; have LB1226_1252 := lt_ BK1226 hg
          have NB1252_1226 := BK1226.ng hg
          have NB1227_1252 := BK1227.nl hg; have LB1227_1252 := lt_ BK1227 hg
          have NB1252_1227 := BK1227.ng hg
          replace BK1226 := BK1226.bl hb
          replace BK1227 := BK1227.bl hb
          replace HB := Aside0.mk (below_step hb_ hb)
          clear hb hbox hg
          refine hK.out _ _ (h5_ BK1227) (fun hHeld => ?_)
          clear hK K
          refine norm_ (a' := ?_) ?_ ?_
          rotate_left
          ·show Act.put _ (some 7) _ = _
           simp only [Act.put, List.setIfInBounds_toArray, List.set_cons_zero, List.set_cons_succ, i64_w, i32_w]
           rfl
          exact norm_ nm_ (hJ8 (gb1252) _ ⟨hHeld, BK1226, BK1227, BK1252, GW1252, GE1252, LB1226_1252, NB1252_1226, LB1227_1252, NB1252_1227, ⟨hb_⟩⟩)
        ·skip
         clear BK1226 BK1227 HB
         rintro gb1252 w19 h
         try dsimp only at h
         obtain ⟨hHeld, BK1226, BK1227, BK1252, GW1252, GE1252, LB1226_1252, NB1252_1226, LB1227_1252, NB1252_1227, HB⟩ := h
         have NB1226_1252 := ne_ LB1226_1252
         have NB1227_1252 := ne_ LB1227_1252
         refine norm_ (a' := ?_) ?_ ?_
         rotate_left
         ·simp only [putAll, Act.put, List.setIfInBounds_toArray, List.set_cons_zero, List.set_cons_succ]
          rfl
         refine three_ (i := 1) (j := 6) (k := 7) (Ni := some 28) (Nj := some 5) (Nk := some 6) #[true, true, true, false, true, false, false, false, true, false, false, false] #[true, false, true, false, true, false, true, false, true, false, false, false] #[true, false, true, false, true, false, false, true, true, false, false, false] rfl rfl rfl rfl rfl rfl (three_of HT_.out (by kernel_rfl)) (by decide) (by decide) (by decide) (fun K hK => ?_) (fun K hK => ?_) (fun K hK => ?_)
         ·skip
          refine goes_ Tryd.func51 (by kernel_rfl) rfl #[.agg #[.string a1_0, .string a1_1, .bool a1_2, .bool a1_3, .slice A1_4 l1_4.length c1_4]] (by rfl) rfl rfl ar_ ?_
          with_reducible refine (idiomlaw04_copied.calls a1_0 a1_1 a1_2 a1_3 _ _ l1_4 t1229 t1230 t1231 t1232 t1233 _ ?side1 ?side2 A9.out).mono ?_
          (case side1 => repeat (first | exact (Kd.C_below HR1_4.out HB.out) | (with_reducible refine Kd.C_alloc ?_ _) | (with_reducible refine Kd.C_drewN ?_ _) | (with_reducible refine Kd.C_drew ?_)))
          (case side2 => exact HC1_4.out)
          rintro e w20 ⟨v1234, rfl, ho0, hb⟩
          refine ⟨_, rfl, ?_⟩
          have HO1235 := Aside0.mk (Kd.R_lower ho0 (below_size hb_))
          replace BK1226 := BK1226.bl hb
          replace BK1227 := BK1227.bl hb
          replace BK1252 := BK1252.bl hb
          replace HB := Aside0.mk (below_step hb_ hb)
          (try clear hb)
          (try clear hb2)
          (try clear hk)
          (try clear hi)
          (try clear ho0)
          refine hK.out _ _ (h5_ BK1227) (fun hHeld => ?_)
          clear hK K
          refine norm_ (a' := ?_) ?_ ?_
          rotate_left
          ·show Act.put _ (some 28) _ = _
           simp only [Act.put, List.setIfInBounds_toArray, List.set_cons_zero, List.set_cons_succ, i64_w, i32_w]
           rfl
          exact norm_ nm_ (hJ1_8 (v1234, gb1252) _ ⟨hHeld, HO1235, BK1226, BK1227, BK1252, GW1252, GE1252, LB1226_1252, NB1252_1226, LB1227_1252, NB1252_1227, ⟨hb_⟩⟩)
         ·skip
          refine bs_ 5 #[.string (⟨#[]⟩ : ByteArray), .string (⟨#[]⟩ : ByteArray), .bool false, .bool false, .slice none 0 0] (t := 54) ?_
          intro gb1250 hg w20 hbox hb
          have BK1250 := Aside0.mk (hbox)
          have GW1250 := Aside0.mk ((by rw [hg]; exact (below_size hb_) : w.heap.size ≤ gb1250))
          have GE1250 := Aside0.mk ((by rw [hg]; exact (below_size hb_) : w.heap.size ≤ gb1250))
          have NB1226_1250 := BK1226.nl hg; have LB1226_1250 := lt_ BK1226 hg
          have NB1250_1226 := BK1226.ng hg
          have NB1227_1250 := BK1227.nl hg; have LB1227_1250 := lt_ BK1227 hg
          have NB1250_1227 := BK1227.ng hg
          have NB1252_1250 := BK1252.nl hg; have LB1252_1250 := lt_ BK1252 hg
          have NB1250_1252 := BK1252.ng hg
          replace BK1226 := BK1226.bl hb
          replace BK1227 := BK1227.bl hb
          replace BK1252 := BK1252.bl hb
          replace HB := Aside0.mk (below_step hb_ hb)
          clear hb hbox hg
          refine hK.out _ _ (h5_ BK1227) (fun hHeld => ?_)
          clear hK K
          refine norm_ (a' := ?_) ?_ ?_
          rotate_left
          ·show Act.put _ (some 5) _ = _
           simp only [Act.put, List.setIfInBounds_toArray, List.set_cons_zero, List.set_cons_succ, i64_w, i32_w]
           rfl
          exact norm_ nm_ (hJ6_8 (gb1250, gb1252) _ ⟨hHeld, BK1226, BK1227, BK1250, BK1252, GW1250, GE1250, LB1226_1250, NB1250_1226, LB1227_1250, NB1250_1227, NB1252_1250, NB1250_1252, GW1252, GE1252, LB1226_1252, NB1252_1226, LB1227_1252, NB1252_1227, ⟨hb_⟩⟩)
         ·skip
          refine bs_ 6 #[.string (⟨#[]⟩ : ByteArray), .string (⟨#[]⟩ : ByteArray), .bool false, .bool false, .slice none 0 0] (t := 54) ?_
          intro gb1251 hg w20 hbox hb
          have BK1251 := Aside0.mk (hbox)
          have GW1251 := Aside0.mk ((by rw [hg]; exact (below_size hb_) : w.heap.size ≤ gb1251))
          have GE1251 := Aside0.mk ((by rw [hg]; exact (below_size hb_) : w.heap.size ≤ gb1251))
          have NB1226_1251 := BK1226.nl hg; have LB1226_1251 := lt_ BK1226 hg
          have NB1251_1226 := BK1226.ng hg
          have NB1227_1251 := BK1227.nl hg; have LB1227_1251 := lt_ BK1227 hg
          have NB1251_1227 := BK1227.ng hg
          have NB1252_1251 := BK1252.nl hg; have LB1252_1251 := lt_ BK1252 hg
          have NB1251_1252 := BK1252.ng hg
          replace BK1226 := BK1226.bl hb
          replace BK1227 := BK1227.bl hb
          replace BK1252 := BK1252.bl hb
          replace HB := Aside0.mk (below_step hb_ hb)
          clear hb hbox hg
          refine hK.out _ _ (h5_ BK1227) (fun hHeld => ?_)
          clear hK K
          refine norm_ (a' := ?_) ?_ ?_
          rotate_left
          ·show Act.put _ (some 6) _ = _
           simp only [Act.put, List.setIfInBounds_toArray, List.set_cons_zero, List.set_cons_succ, i64_w, i32_w]
           rfl
          exact norm_ nm_ (hJ7_8 (gb1251, gb1252) _ ⟨hHeld, BK1226, BK1227, BK1251, BK1252, GW1251, GE1251, LB1226_1251, NB1251_1226, LB1227_1251, NB1251_1227, NB1252_1251, NB1251_1252, GW1252, GE1252, LB1226_1252, NB1252_1226, LB1227_1252, NB1252_1227, ⟨hb_⟩⟩)
       ·skip
        clear BK1226 BK1227 HB
        rintro gb1251 w19 h
        try dsimp only at h
        obtain ⟨hHeld, BK1226, BK1227, BK1251, GW1251, GE1251, LB1226_1251, NB1251_1226, LB1227_1251, NB1251_1227, HB⟩ := h
        have NB1226_1251 := ne_ LB1226_1251
        have NB1227_1251 := ne_ LB1227_1251
        refine norm_ (a' := ?_) ?_ ?_
        rotate_left
        ·simp only [putAll, Act.put, List.setIfInBounds_toArray, List.set_cons_zero, List.set_cons_succ]
         rfl
        refine three_ (i := 1) (j := 6) (k := 8) (Ni := some 28) (Nj := some 5) (Nk := some 7) #[true, true, true, false, true, false, false, true, false, false, false, false] #[true, false, true, false, true, false, true, true, false, false, false, false] #[true, false, true, false, true, false, false, true, true, false, false, false] rfl rfl rfl rfl rfl rfl (three_of HT_.out (by kernel_rfl)) (by decide) (by decide) (by decide) (fun K hK => ?_) (fun K hK => ?_) (fun K hK => ?_)
        ·skip
         refine goes_ Tryd.func51 (by kernel_rfl) rfl #[.agg #[.string a1_0, .string a1_1, .bool a1_2, .bool a1_3, .slice A1_4 l1_4.length c1_4]] (by rfl) rfl rfl ar_ ?_
         with_reducible refine (idiomlaw04_copied.calls a1_0 a1_1 a1_2 a1_3 _ _ l1_4 t1229 t1230 t1231 t1232 t1233 _ ?side1 ?side2 A9.out).mono ?_
         (case side1 => repeat (first | exact (Kd.C_below HR1_4.out HB.out) | (with_reducible refine Kd.C_alloc ?_ _) | (with_reducible refine Kd.C_drewN ?_ _) | (with_reducible refine Kd.C_drew ?_)))
         (case side2 => exact HC1_4.out)
         rintro e w20 ⟨v1234, rfl, ho0, hb⟩
         refine ⟨_, rfl, ?_⟩
         have HO1235 := Aside0.mk (Kd.R_lower ho0 (below_size hb_))
         replace BK1226 := BK1226.bl hb
         replace BK1227 := BK1227.bl hb
         replace BK1251 := BK1251.bl hb
         replace HB := Aside0.mk (below_step hb_ hb)
         (try clear hb)
         (try clear hb2)
         (try clear hk)
         (try clear hi)
         (try clear ho0)
         refine hK.out _ _ (h5_ BK1227) (fun hHeld => ?_)
         clear hK K
         refine norm_ (a' := ?_) ?_ ?_
         rotate_left
         ·show Act.put _ (some 28) _ = _
          simp only [Act.put, List.setIfInBounds_toArray, List.set_cons_zero, List.set_cons_succ, i64_w, i32_w]
          rfl
         exact norm_ nm_ (hJ1_7 (v1234, gb1251) _ ⟨hHeld, HO1235, BK1226, BK1227, BK1251, GW1251, GE1251, LB1226_1251, NB1251_1226, LB1227_1251, NB1251_1227, ⟨hb_⟩⟩)
        ·skip
         refine bs_ 5 #[.string (⟨#[]⟩ : ByteArray), .string (⟨#[]⟩ : ByteArray), .bool false, .bool false, .slice none 0 0] (t := 54) ?_
         intro gb1250 hg w20 hbox hb
         have BK1250 := Aside0.mk (hbox)
         have GW1250 := Aside0.mk ((by rw [hg]; exact (below_size hb_) : w.heap.size ≤ gb1250))
         have GE1250 := Aside0.mk ((by rw [hg]; exact (below_size hb_) : w.heap.size ≤ gb1250))
         have NB1226_1250 := BK1226.nl hg; have LB1226_1250 := lt_ BK1226 hg
         have NB1250_1226 := BK1226.ng hg
         have NB1227_1250 := BK1227.nl hg; have LB1227_1250 := lt_ BK1227 hg
         have NB1250_1227 := BK1227.ng hg
         have NB1251_1250 := BK1251.nl hg; have LB1251_1250 := lt_ BK1251 hg
         have NB1250_1251 := BK1251.ng hg
         replace BK1226 := BK1226.bl hb
         replace BK1227 := BK1227.bl hb
         replace BK1251 := BK1251.bl hb
         replace HB := Aside0.mk (below_step hb_ hb)
         clear hb hbox hg
         refine hK.out _ _ (h5_ BK1227) (fun hHeld => ?_)
         clear hK K
         refine norm_ (a' := ?_) ?_ ?_
         rotate_left
         ·show Act.put _ (some 5) _ = _
          simp only [Act.put, List.setIfInBounds_toArray, List.set_cons_zero, List.set_cons_succ, i64_w, i32_w]
          rfl
         exact norm_ nm_ (hJ6_7 (gb1250, gb1251) _ ⟨hHeld, BK1226, BK1227, BK1250, BK1251, GW1250, GE1250, LB1226_1250, NB1250_1226, LB1227_1250, NB1250_1227, NB1251_1250, NB1250_1251, GW1251, GE1251, LB1226_1251, NB1251_1226, LB1227_1251, NB1251_1227, ⟨hb_⟩⟩)
        ·skip
         refine bs_ 7 #[.string (⟨#[]⟩ : ByteArray), .string (⟨#[]⟩ : ByteArray), .bool false, .bool false, .slice none 0 0] (t := 54) ?_
         intro gb1252 hg w20 hbox hb
         have BK1252 := Aside0.mk (hbox)
         have GW1252 := Aside0.mk ((by rw [hg]; exact (below_size hb_) : w.heap.size ≤ gb1252))
         have GE1252 := Aside0.mk ((by rw [hg]; exact (below_size hb_) : w.heap.size ≤ gb1252))
         have NB1226_1252 := BK1226.nl hg; have LB1226_1252 := lt_ BK1226 hg
         have NB1252_1226 := BK1226.ng hg
         have NB1227_1252 := BK1227.nl hg; have LB1227_1252 := lt_ BK1227 hg
         have NB1252_1227 := BK1227.ng hg
         have NB1251_1252 := BK1251.nl hg; have LB1251_1252 := lt_ BK1251 hg
         have NB1252_1251 := BK1251.ng hg
         replace BK1226 := BK1226.bl hb
         replace BK1227 := BK1227.bl hb
         replace BK1251 := BK1251.bl hb
         replace HB := Aside0.mk (below_step hb_ hb)
         clear hb hbox hg
         refine hK.out _ _ (h5_ BK1227) (fun hHeld => ?_)
         clear hK K
         refine norm_ (a' := ?_) ?_ ?_
         rotate_left
         ·show Act.put _ (some 7) _ = _
          simp only [Act.put, List.setIfInBounds_toArray, List.set_cons_zero, List.set_cons_succ, i64_w, i32_w]
          rfl
         exact norm_ nm_ (hJ7_8 (gb1251, gb1252) _ ⟨hHeld, BK1226, BK1227, BK1251, BK1252, GW1251, GE1251, LB1226_1251, NB1251_1226, LB1227_1251, NB1251_1227, NB1252_1251, NB1251_1252, GW1252, GE1252, LB1226_1252, NB1252_1226, LB1227_1252, NB1252_1227, ⟨hb_⟩⟩)
      ·skip
       clear BK1226 BK1227 HB
       rintro gb1250 w19 h
       try dsimp only at h
       obtain ⟨hHeld, BK1226, BK1227, BK1250, GW1250, GE1250, LB1226_1250, NB1250_1226, LB1227_1250, NB1250_1227, HB⟩ := h
       have NB1226_1250 := ne_ LB1226_1250
       have NB1227_1250 := ne_ LB1227_1250
       refine norm_ (a' := ?_) ?_ ?_
       rotate_left
       ·simp only [putAll, Act.put, List.setIfInBounds_toArray, List.set_cons_zero, List.set_cons_succ]
        rfl
       refine three_ (i := 1) (j := 7) (k := 8) (Ni := some 28) (Nj := some 6) (Nk := some 7) #[true, true, true, false, true, false, true, false, false, false, false, false] #[true, false, true, false, true, false, true, true, false, false, false, false] #[true, false, true, false, true, false, true, false, true, false, false, false] rfl rfl rfl rfl rfl rfl (three_of HT_.out (by kernel_rfl)) (by decide) (by decide) (by decide) (fun K hK => ?_) (fun K hK => ?_) (fun K hK => ?_)
       ·skip
        refine goes_ Tryd.func51 (by kernel_rfl) rfl #[.agg #[.string a1_0, .string a1_1, .bool a1_2, .bool a1_3, .slice A1_4 l1_4.length c1_4]] (by rfl) rfl rfl ar_ ?_
        with_reducible refine (idiomlaw04_copied.calls a1_0 a1_1 a1_2 a1_3 _ _ l1_4 t1229 t1230 t1231 t1232 t1233 _ ?side1 ?side2 A9.out).mono ?_
        (case side1 => repeat (first | exact (Kd.C_below HR1_4.out HB.out) | (with_reducible refine Kd.C_alloc ?_ _) | (with_reducible refine Kd.C_drewN ?_ _) | (with_reducible refine Kd.C_drew ?_)))
        (case side2 => exact HC1_4.out)
        rintro e w20 ⟨v1234, rfl, ho0, hb⟩
        refine ⟨_, rfl, ?_⟩
        have HO1235 := Aside0.mk (Kd.R_lower ho0 (below_size hb_))
        replace BK1226 := BK1226.bl hb
        replace BK1227 := BK1227.bl hb
        replace BK1250 := BK1250.bl hb
        replace HB := Aside0.mk (below_step hb_ hb)
        (try clear hb)
        (try clear hb2)
        (try clear hk)
        (try clear hi)
        (try clear ho0)
        refine hK.out _ _ (h5_ BK1227) (fun hHeld => ?_)
        clear hK K
        refine norm_ (a' := ?_) ?_ ?_
        rotate_left
        ·show Act.put _ (some 28) _ = _
         simp only [Act.put, List.setIfInBounds_toArray, List.set_cons_zero, List.set_cons_succ, i64_w, i32_w]
         rfl
        exact norm_ nm_ (hJ1_6 (v1234, gb1250) _ ⟨hHeld, HO1235, BK1226, BK1227, BK1250, GW1250, GE1250, LB1226_1250, NB1250_1226, LB1227_1250, NB1250_1227, ⟨hb_⟩⟩)
       ·skip
        refine bs_ 6 #[.string (⟨#[]⟩ : ByteArray), .string (⟨#[]⟩ : ByteArray), .bool false, .bool false, .slice none 0 0] (t := 54) ?_
        intro gb1251 hg w20 hbox hb
        have BK1251 := Aside0.mk (hbox)
        have GW1251 := Aside0.mk ((by rw [hg]; exact (below_size hb_) : w.heap.size ≤ gb1251))
        have GE1251 := Aside0.mk ((by rw [hg]; exact (below_size hb_) : w.heap.size ≤ gb1251))
        have NB1226_1251 := BK1226.nl hg; have LB1226_1251 := lt_ BK1226 hg
        have NB1251_1226 := BK1226.ng hg
        have NB1227_1251 := BK1227.nl hg; have LB1227_1251 := lt_ BK1227 hg
        have NB1251_1227 := BK1227.ng hg
        have NB1250_1251 := BK1250.nl hg; have LB1250_1251 := lt_ BK1250 hg
        have NB1251_1250 := BK1250.ng hg
        replace BK1226 := BK1226.bl hb
        replace BK1227 := BK1227.bl hb
        replace BK1250 := BK1250.bl hb
        replace HB := Aside0.mk (below_step hb_ hb)
        clear hb hbox hg
        refine hK.out _ _ (h5_ BK1227) (fun hHeld => ?_)
        clear hK K
        refine norm_ (a' := ?_) ?_ ?_
        rotate_left
        ·show Act.put _ (some 6) _ = _
         simp only [Act.put, List.setIfInBounds_toArray, List.set_cons_zero, List.set_cons_succ, i64_w, i32_w]
         rfl
        exact norm_ nm_ (hJ6_7 (gb1250, gb1251) _ ⟨hHeld, BK1226, BK1227, BK1250, BK1251, GW1250, GE1250, LB1226_1250, NB1250_1226, LB1227_1250, NB1250_1227, NB1251_1250, NB1250_1251, GW1251, GE1251, LB1226_1251, NB1251_1226, LB1227_1251, NB1251_1227, ⟨hb_⟩⟩)
       ·skip
        refine bs_ 7 #[.string (⟨#[]⟩ : ByteArray), .string (⟨#[]⟩ : ByteArray), .bool false, .bool false, .slice none 0 0] (t := 54) ?_
        intro gb1252 hg w20 hbox hb
        have BK1252 := Aside0.mk (hbox)
        have GW1252 := Aside0.mk ((by rw [hg]; exact (below_size hb_) : w.heap.size ≤ gb1252))
        have GE1252 := Aside0.mk ((by rw [hg]; exact (below_size hb_) : w.heap.size ≤ gb1252))
        have NB1226_1252 := BK1226.nl hg; have LB1226_1252 := lt_ BK1226 hg
        have NB1252_1226 := BK1226.ng hg
        have NB1227_1252 := BK1227.nl hg; have LB1227_1252 := lt_ BK1227 hg
        have NB1252_1227 := BK1227.ng hg
        have NB1250_1252 := BK1250.nl hg; have LB1250_1252 := lt_ BK1250 hg
        have NB1252_1250 := BK1250.ng hg
        replace BK1226 := BK1226.bl hb
        replace BK1227 := BK1227.bl hb
        replace BK1250 := BK1250.bl hb
        replace HB := Aside0.mk (below_step hb_ hb)
        clear hb hbox hg
        refine hK.out _ _ (h5_ BK1227) (fun hHeld => ?_)
        clear hK K
        refine norm_ (a' := ?_) ?_ ?_
        rotate_left
        ·show Act.put _ (some 7) _ = _
         simp only [Act.put, List.setIfInBounds_toArray, List.set_cons_zero, List.set_cons_succ, i64_w, i32_w]
         rfl
        exact norm_ nm_ (hJ6_8 (gb1250, gb1252) _ ⟨hHeld, BK1226, BK1227, BK1250, BK1252, GW1250, GE1250, LB1226_1250, NB1250_1226, LB1227_1250, NB1250_1227, NB1252_1250, NB1250_1252, GW1252, GE1252, LB1226_1252, NB1252_1226, LB1227_1252, NB1252_1227, ⟨hb_⟩⟩)
     ·skip
      clear BK1226 BK1227 HB
      rintro v1234 w19 h
      try dsimp only at h
      obtain ⟨hHeld, HO1235, BK1226, BK1227, HB⟩ := h
      refine norm_ (a' := ?_) ?_ ?_
      rotate_left
      ·simp only [putAll, Act.put, List.setIfInBounds_toArray, List.set_cons_zero, List.set_cons_succ]
       rfl
      refine four_ (i := 3) (j := 6) (k := 7) (m := 8) (Ni := some 30) (Nj := some 5) (Nk := some 6) (Nm := some 7) #[true, true, true, true, true, false, false, false, false, false, false, false] #[true, true, true, false, true, false, true, false, false, false, false, false] #[true, true, true, false, true, false, false, true, false, false, false, false] #[true, true, true, false, true, false, false, false, true, false, false, false] rfl rfl rfl rfl rfl rfl rfl rfl (four_of HT_.out (by kernel_rfl)) (by decide) (by decide) (by decide) (by decide) (fun K hK => ?_) (fun K hK => ?_) (fun K hK => ?_) (fun K hK => ?_)
      ·skip
       refine goes_ Tryd.func51 (by kernel_rfl) rfl #[.agg #[.string a1_0, .string a1_1, .bool a1_2, .bool a1_3, .slice A1_4 l1_4.length c1_4]] (by rfl) rfl rfl ar_ ?_
       with_reducible refine (idiomlaw04_copied.calls a1_0 a1_1 a1_2 a1_3 _ _ l1_4 t1236 t1237 t1238 t1239 t1240 _ ?side1 ?side2 A10.out).mono ?_
       (case side1 => repeat (first | exact (Kd.C_below HR1_4.out HB.out) | (with_reducible refine Kd.C_alloc ?_ _) | (with_reducible refine Kd.C_drewN ?_ _) | (with_reducible refine Kd.C_drew ?_)))
       (case side2 => exact HC1_4.out)
       rintro e w20 ⟨v1241, rfl, ho0, hb⟩
       refine ⟨_, rfl, ?_⟩
       have HO1242 := Aside0.mk (Kd.R_lower (Kd.R_new' ho0 (Kd.R_lt HO1235.out)) (below_size hb_))
       replace HO1235 := Aside0.mk (Kd.R_elder' HO1235.out (Kd.R_base ho0) hb)
       replace BK1226 := BK1226.bl hb
       replace BK1227 := BK1227.bl hb
       replace HB := Aside0.mk (below_step hb_ hb)
       (try clear hb)
       (try clear hb2)
       (try clear hk)
       (try clear hi)
       (try clear ho0)
       refine hK.out _ _ (h5_ BK1227) (fun hHeld => ?_)
       clear hK K
       refine norm_ (a' := ?_) ?_ ?_
       rotate_left
       ·show Act.put _ (some 30) _ = _
        simp only [Act.put, List.setIfInBounds_toArray, List.set_cons_zero, List.set_cons_succ, i64_w, i32_w]
        rfl
       exact norm_ nm_ (hJ1_3 (v1234, v1241) _ ⟨hHeld, ⟨by (with_reducible repeat (first | apply Kd.R_alloc | apply Kd.R_drewN | apply Kd.R_drew)); exact Kd.R_mono HO1235.out (fun _ hk => hk.2)⟩, ⟨by (with_reducible repeat (first | apply Kd.R_alloc | apply Kd.R_drewN | apply Kd.R_drew)); exact Kd.R_mono HO1242.out (fun _ hk => hk.2)⟩, BK1226, BK1227, ⟨hb_⟩⟩)
      ·skip
       refine bs_ 5 #[.string (⟨#[]⟩ : ByteArray), .string (⟨#[]⟩ : ByteArray), .bool false, .bool false, .slice none 0 0] (t := 54) ?_
       intro gb1250 hg w20 hbox hb
       have BK1250 := Aside0.mk (hbox)
       have GW1250 := Aside0.mk ((by rw [hg]; exact (below_size hb_) : w.heap.size ≤ gb1250))
       have GE1250 := Aside0.mk ((by rw [hg]; exact (below_size hb_) : w.heap.size ≤ gb1250))
       have NB1226_1250 := BK1226.nl hg; have LB1226_1250 := lt_ BK1226 hg
       have NB1250_1226 := BK1226.ng hg
       have NB1227_1250 := BK1227.nl hg; have LB1227_1250 := lt_ BK1227 hg
       have NB1250_1227 := BK1227.ng hg
       replace HO1235 := bw_ HO1235 hb
       replace BK1226 := BK1226.bl hb
       replace BK1227 := BK1227.bl hb
       replace HB := Aside0.mk (below_step hb_ hb)
       clear hb hbox hg
       refine hK.out _ _ (h5_ BK1227) (fun hHeld => ?_)
       clear hK K
       refine norm_ (a' := ?_) ?_ ?_
       rotate_left
       ·show Act.put _ (some 5) _ = _
        simp only [Act.put, List.setIfInBounds_toArray, List.set_cons_zero, List.set_cons_succ, i64_w, i32_w]
        rfl
       exact norm_ nm_ (hJ1_6 (v1234, gb1250) _ ⟨hHeld, HO1235, BK1226, BK1227, BK1250, GW1250, GE1250, LB1226_1250, NB1250_1226, LB1227_1250, NB1250_1227, ⟨hb_⟩⟩)
      ·skip
       refine bs_ 6 #[.string (⟨#[]⟩ : ByteArray), .string (⟨#[]⟩ : ByteArray), .bool false, .bool false, .slice none 0 0] (t := 54) ?_
       intro gb1251 hg w20 hbox hb
       have BK1251 := Aside0.mk (hbox)
       have GW1251 := Aside0.mk ((by rw [hg]; exact (below_size hb_) : w.heap.size ≤ gb1251))
       have GE1251 := Aside0.mk ((by rw [hg]; exact (below_size hb_) : w.heap.size ≤ gb1251))
       have NB1226_1251 := BK1226.nl hg; have LB1226_1251 := lt_ BK1226 hg
       have NB1251_1226 := BK1226.ng hg
       have NB1227_1251 := BK1227.nl hg; have LB1227_1251 := lt_ BK1227 hg
       have NB1251_1227 := BK1227.ng hg
       replace HO1235 := bw_ HO1235 hb
       replace BK1226 := BK1226.bl hb
       replace BK1227 := BK1227.bl hb
       replace HB := Aside0.mk (below_step hb_ hb)
       clear hb hbox hg
       refine hK.out _ _ (h5_ BK1227) (fun hHeld => ?_)
       clear hK K
       refine norm_ (a' := ?_) ?_ ?_
       rotate_left
       ·show Act.put _ (some 6) _ = _
        simp only [Act.put, List.setIfInBounds_toArray, List.set_cons_zero, List.set_cons_succ, i64_w, i32_w]
        rfl
       exact norm_ nm_ (hJ1_7 (v1234, gb1251) _ ⟨hHeld, HO1235, BK1226, BK1227, BK1251, GW1251, GE1251, LB1226_1251, NB1251_1226, LB1227_1251, NB1251_1227, ⟨hb_⟩⟩)
      ·skip
       refine bs_ 7 #[.string (⟨#[]⟩ : ByteArray), .string (⟨#[]⟩ : ByteArray), .bool false, .bool false, .slice none 0 0] (t := 54) ?_
       intro gb1252 hg w20 hbox hb
       have BK1252 := Aside0.mk (hbox)
       have GW1252 := Aside0.mk ((by rw [hg]; exact (below_size hb_) : w.heap.size ≤ gb1252))
       have GE1252 := Aside0.mk ((by rw [hg]; exact (below_size hb_) : w.heap.size ≤ gb1252))
       have NB1226_1252 := BK1226.nl hg; have LB1226_1252 := lt_ BK1226 hg
       have NB1252_1226 := BK1226.ng hg
       have NB1227_1252 := BK1227.nl hg; have LB1227_1252 := lt_ BK1227 hg
       have NB1252_1227 := BK1227.ng hg
       replace HO1235 := bw_ HO1235 hb
       replace BK1226 := BK1226.bl hb
       replace BK1227 := BK1227.bl hb
       replace HB := Aside0.mk (below_step hb_ hb)
       clear hb hbox hg
       refine hK.out _ _ (h5_ BK1227) (fun hHeld => ?_)
       clear hK K
       refine norm_ (a' := ?_) ?_ ?_
       rotate_left
       ·show Act.put _ (some 7) _ = _
        simp only [Act.put, List.setIfInBounds_toArray, List.set_cons_zero, List.set_cons_succ, i64_w, i32_w]
        rfl
       exact norm_ nm_ (hJ1_8 (v1234, gb1252) _ ⟨hHeld, HO1235, BK1226, BK1227, BK1252, GW1252, GE1252, LB1226_1252, NB1252_1226, LB1227_1252, NB1252_1227, ⟨hb_⟩⟩)
    ·skip
     clear BK1226 BK1227 HB
     rintro ⟨gb1251, gb1252⟩ w20 h
     try dsimp only at h
     obtain ⟨hHeld, BK1226, BK1227, BK1251, BK1252, GW1251, GE1251, LB1226_1251, NB1251_1226, LB1227_1251, NB1251_1227, NB1252_1251, NB1251_1252, GW1252, GE1252, LB1226_1252, NB1252_1226, LB1227_1252, NB1252_1227, HB⟩ := h
     have NB1226_1251 := ne_ LB1226_1251
     have NB1227_1251 := ne_ LB1227_1251
     have NB1226_1252 := ne_ LB1226_1252
     have NB1227_1252 := ne_ LB1227_1252
     refine norm_ (a' := ?_) ?_ ?_
     rotate_left
     ·simp only [putAll, Act.put, List.setIfInBounds_toArray, List.set_cons_zero, List.set_cons_succ]
      rfl
     refine two_ (i := 1) (j := 6) (Ni := some 28) (Nj := some 5) #[true, true, true, false, true, false, false, true, true, false, false, false] #[true, false, true, false, true, false, true, true, true, false, false, false] rfl rfl rfl rfl (two_of HT_.out (by kernel_rfl)) (by decide) (by decide) (fun K hK => ?_) (fun K hK => ?_)
     ·skip
      refine goes_ Tryd.func51 (by kernel_rfl) rfl #[.agg #[.string a1_0, .string a1_1, .bool a1_2, .bool a1_3, .slice A1_4 l1_4.length c1_4]] (by rfl) rfl rfl ar_ ?_
      with_reducible refine (idiomlaw04_copied.calls a1_0 a1_1 a1_2 a1_3 _ _ l1_4 t1229 t1230 t1231 t1232 t1233 _ ?side1 ?side2 A9.out).mono ?_
      (case side1 => repeat (first | exact (Kd.C_below HR1_4.out HB.out) | (with_reducible refine Kd.C_alloc ?_ _) | (with_reducible refine Kd.C_drewN ?_ _) | (with_reducible refine Kd.C_drew ?_)))
      (case side2 => exact HC1_4.out)
      rintro e w21 ⟨v1234, rfl, ho0, hb⟩
      refine ⟨_, rfl, ?_⟩
      have HO1235 := Aside0.mk (Kd.R_lower ho0 (below_size hb_))
      replace BK1226 := BK1226.bl hb
      replace BK1227 := BK1227.bl hb
      replace BK1251 := BK1251.bl hb
      replace BK1252 := BK1252.bl hb
      replace HB := Aside0.mk (below_step hb_ hb)
      (try clear hb)
      (try clear hb2)
      (try clear hk)
      (try clear hi)
      (try clear ho0)
      refine hK.out _ _ (h5_ BK1227) (fun hHeld => ?_)
      clear hK K
      refine norm_ (a' := ?_) ?_ ?_
      rotate_left
      ·show Act.put _ (some 28) _ = _
       simp only [Act.put, List.setIfInBounds_toArray, List.set_cons_zero, List.set_cons_succ, i64_w, i32_w]
       rfl
      exact norm_ nm_ (hJ1_7_8 (v1234, gb1251, gb1252) _ ⟨hHeld, HO1235, BK1226, BK1227, BK1251, BK1252, GW1251, GE1251, LB1226_1251, NB1251_1226, LB1227_1251, NB1251_1227, NB1252_1251, NB1251_1252, GW1252, GE1252, LB1226_1252, NB1252_1226, LB1227_1252, NB1252_1227, ⟨hb_⟩⟩)
     ·skip
      refine bs_ 5 #[.string (⟨#[]⟩ : ByteArray), .string (⟨#[]⟩ : ByteArray), .bool false, .bool false, .slice none 0 0] (t := 54) ?_
      intro gb1250 hg w21 hbox hb
      have BK1250 := Aside0.mk (hbox)
      have GW1250 := Aside0.mk ((by rw [hg]; exact (below_size hb_) : w.heap.size ≤ gb1250))
      have GE1250 := Aside0.mk ((by rw [hg]; exact (below_size hb_) : w.heap.size ≤ gb1250))
      have NB1226_1250 := BK1226.nl hg; have LB1226_1250 := lt_ BK1226 hg
      have NB1250_1226 := BK1226.ng hg
      have NB1227_1250 := BK1227.nl hg; have LB1227_1250 := lt_ BK1227 hg
      have NB1250_1227 := BK1227.ng hg
      have NB1251_1250 := BK1251.nl hg; have LB1251_1250 := lt_ BK1251 hg
      have NB1250_1251 := BK1251.ng hg
      have NB1252_1250 := BK1252.nl hg; have LB1252_1250 := lt_ BK1252 hg
      have NB1250_1252 := BK1252.ng hg
      replace BK1226 := BK1226.bl hb
      replace BK1227 := BK1227.bl hb
      replace BK1251 := BK1251.bl hb
      replace BK1252 := BK1252.bl hb
      replace HB := Aside0.mk (below_step hb_ hb)
      clear hb hbox hg
      refine hK.out _ _ (h5_ BK1227) (fun hHeld => ?_)
      clear hK K
      refine norm_ (a' := ?_) ?_ ?_
      rotate_left
      ·show Act.put _ (some 5) _ = _
       simp only [Act.put, List.setIfInBounds_toArray, List.set_cons_zero, List.set_cons_succ, i64_w, i32_w]
       rfl
      exact norm_ nm_ (hJ6_7_8 (gb1250, gb1251, gb1252) _ ⟨hHeld, BK1226, BK1227, BK1250, BK1251, BK1252, GW1250, GE1250, LB1226_1250, NB1250_1226, LB1227_1250, NB1250_1227, NB1251_1250, NB1250_1251, NB1252_1250, NB1250_1252, GW1251, GE1251, LB1226_1251, NB1251_1226, LB1227_1251, NB1251_1227, NB1252_1251, NB1251_1252, GW1252, GE1252, LB1226_1252, NB1252_1226, LB1227_1252, NB1252_1227, ⟨hb_⟩⟩)
   ·skip
    clear BK1226 BK1227 HB
    rintro ⟨gb1250, gb1252⟩ w20 h
    try dsimp only at h
    obtain ⟨hHeld, BK1226, BK1227, BK1250, BK1252, GW1250, GE1250, LB1226_1250, NB1250_1226, LB1227_1250, NB1250_1227, NB1252_1250, NB1250_1252, GW1252, GE1252, LB1226_1252, NB1252_1226, LB1227_1252, NB1252_1227, HB⟩ := h
    have NB1226_1250 := ne_ LB1226_1250
    have NB1227_1250 := ne_ LB1227_1250
    have NB1226_1252 := ne_ LB1226_1252
    have NB1227_1252 := ne_ LB1227_1252
    refine norm_ (a' := ?_) ?_ ?_
    rotate_left
    ·simp only [putAll, Act.put, List.setIfInBounds_toArray, List.set_cons_zero, List.set_cons_succ]
     rfl
    refine two_ (i := 1) (j := 7) (Ni := some 28) (Nj := some 6) #[true, true, true, false, true, false, true, false, true, false, false, false] #[true, false, true, false, true, false, true, true, true, false, false, false] rfl rfl rfl rfl (two_of HT_.out (by kernel_rfl)) (by decide) (by decide) (fun K hK => ?_) (fun K hK => ?_)
    ·skip
     refine goes_ Tryd.func51 (by kernel_rfl) rfl #[.agg #[.string a1_0, .string a1_1, .bool a1_2, .bool a1_3, .slice A1_4 l1_4.length c1_4]] (by rfl) rfl rfl ar_ ?_
     with_reducible refine (idiomlaw04_copied.calls a1_0 a1_1 a1_2 a1_3 _ _ l1_4 t1229 t1230 t1231 t1232 t1233 _ ?side1 ?side2 A9.out).mono ?_
     (case side1 => repeat (first | exact (Kd.C_below HR1_4.out HB.out) | (with_reducible refine Kd.C_alloc ?_ _) | (with_reducible refine Kd.C_drewN ?_ _) | (with_reducible refine Kd.C_drew ?_)))
     (case side2 => exact HC1_4.out)
     rintro e w21 ⟨v1234, rfl, ho0, hb⟩
     refine ⟨_, rfl, ?_⟩
     have HO1235 := Aside0.mk (Kd.R_lower ho0 (below_size hb_))
     replace BK1226 := BK1226.bl hb
     replace BK1227 := BK1227.bl hb
     replace BK1250 := BK1250.bl hb
     replace BK1252 := BK1252.bl hb
     replace HB := Aside0.mk (below_step hb_ hb)
     (try clear hb)
     (try clear hb2)
     (try clear hk)
     (try clear hi)
     (try clear ho0)
     refine hK.out _ _ (h5_ BK1227) (fun hHeld => ?_)
     clear hK K
     refine norm_ (a' := ?_) ?_ ?_
     rotate_left
     ·show Act.put _ (some 28) _ = _
      simp only [Act.put, List.setIfInBounds_toArray, List.set_cons_zero, List.set_cons_succ, i64_w, i32_w]
      rfl
     exact norm_ nm_ (hJ1_6_8 (v1234, gb1250, gb1252) _ ⟨hHeld, HO1235, BK1226, BK1227, BK1250, BK1252, GW1250, GE1250, LB1226_1250, NB1250_1226, LB1227_1250, NB1250_1227, NB1252_1250, NB1250_1252, GW1252, GE1252, LB1226_1252, NB1252_1226, LB1227_1252, NB1252_1227, ⟨hb_⟩⟩)
    ·skip
     refine bs_ 6 #[.string (⟨#[]⟩ : ByteArray), .string (⟨#[]⟩ : ByteArray), .bool false, .bool false, .slice none 0 0] (t := 54) ?_
     intro gb1251 hg w21 hbox hb
     have BK1251 := Aside0.mk (hbox)
     have GW1251 := Aside0.mk ((by rw [hg]; exact (below_size hb_) : w.heap.size ≤ gb1251))
     have GE1251 := Aside0.mk ((by rw [hg]; exact (below_size hb_) : w.heap.size ≤ gb1251))
     have NB1226_1251 := BK1226.nl hg; have LB1226_1251 := lt_ BK1226 hg
     have NB1251_1226 := BK1226.ng hg
     have NB1227_1251 := BK1227.nl hg; have LB1227_1251 := lt_ BK1227 hg
     have NB1251_1227 := BK1227.ng hg
     have NB1250_1251 := BK1250.nl hg; have LB1250_1251 := lt_ BK1250 hg
     have NB1251_1250 := BK1250.ng hg
     have NB1252_1251 := BK1252.nl hg; have LB1252_1251 := lt_ BK1252 hg
     have NB1251_1252 := BK1252.ng hg
     replace BK1226 := BK1226.bl hb
     replace BK1227 := BK1227.bl hb
     replace BK1250 := BK1250.bl hb
     replace BK1252 := BK1252.bl hb
     replace HB := Aside0.mk (below_step hb_ hb)
     clear hb hbox hg
     refine hK.out _ _ (h5_ BK1227) (fun hHeld => ?_)
     clear hK K
     refine norm_ (a' := ?_) ?_ ?_
     rotate_left
     ·show Act.put _ (some 6) _ = _
      simp only [Act.put, List.setIfInBounds_toArray, List.set_cons_zero, List.set_cons_succ, i64_w, i32_w]
      rfl
     exact norm_ nm_ (hJ6_7_8 (gb1250, gb1251, gb1252) _ ⟨hHeld, BK1226, BK1227, BK1250, BK1251, BK1252, GW1250, GE1250, LB1226_1250, NB1250_1226, LB1227_1250, NB1250_1227, NB1251_1250, NB1250_1251, NB1252_1250, NB1250_1252, GW1251, GE1251, LB1226_1251, NB1251_1226, LB1227_1251, NB1251_1227, NB1252_1251, NB1251_1252, GW1252, GE1252, LB1226_1252, NB1252_1226, LB1227_1252, NB1252_1227, ⟨hb_⟩⟩)
  ·skip
   clear BK1226 BK1227 HB
   rintro ⟨gb1250, gb1251⟩ w20 h
   try dsimp only at h
   obtain ⟨hHeld, BK1226, BK1227, BK1250, BK1251, GW1250, GE1250, LB1226_1250, NB1250_1226, LB1227_1250, NB1250_1227, NB1251_1250, NB1250_1251, GW1251, GE1251, LB1226_1251, NB1251_1226, LB1227_1251, NB1251_1227, HB⟩ := h
   have NB1226_1250 := ne_ LB1226_1250
   have NB1227_1250 := ne_ LB1227_1250
   have NB1226_1251 := ne_ LB1226_1251
   have NB1227_1251 := ne_ LB1227_1251
   refine norm_ (a' := ?_) ?_ ?_
   rotate_left
   ·simp only [putAll, Act.put, List.setIfInBounds_toArray, List.set_cons_zero, List.set_cons_succ]
    rfl
   refine two_ (i := 1) (j := 8) (Ni := some 28) (Nj := some 7) #[true, true, true, false, true, false, true, true, false, false, false, false] #[true, false, true, false, true, false, true, true, true, false, false, false] rfl rfl rfl rfl (two_of HT_.out (by kernel_rfl)) (by decide) (by decide) (fun K hK => ?_) (fun K hK => ?_)
   ·skip
    refine goes_ Tryd.func51 (by kernel_rfl) rfl #[.agg #[.string a1_0, .string a1_1, .bool a1_2, .bool a1_3, .slice A1_4 l1_4.length c1_4]] (by rfl) rfl rfl ar_ ?_
    with_reducible refine (idiomlaw04_copied.calls a1_0 a1_1 a1_2 a1_3 _ _ l1_4 t1229 t1230 t1231 t1232 t1233 _ ?side1 ?side2 A9.out).mono ?_
    (case side1 => repeat (first | exact (Kd.C_below HR1_4.out HB.out) | (with_reducible refine Kd.C_alloc ?_ _) | (with_reducible refine Kd.C_drewN ?_ _) | (with_reducible refine Kd.C_drew ?_)))
    (case side2 => exact HC1_4.out)
    rintro e w21 ⟨v1234, rfl, ho0, hb⟩
    refine ⟨_, rfl, ?_⟩
    have HO1235 := Aside0.mk (Kd.R_lower ho0 (below_size hb_))
    replace BK1226 := BK1226.bl hb
    replace BK1227 := BK1227.bl hb
    replace BK1250 := BK1250.bl hb
    replace BK1251 := BK1251.bl hb
    replace HB := Aside0.mk (below_step hb_ hb)
    (try clear hb)
    (try clear hb2)
    (try clear hk)
    (try clear hi)
    (try clear ho0)
    refine hK.out _ _ (h5_ BK1227) (fun hHeld => ?_)
    clear hK K
    refine norm_ (a' := ?_) ?_ ?_
    rotate_left
    ·show Act.put _ (some 28) _ = _
     simp only [Act.put, List.setIfInBounds_toArray, List.set_cons_zero, List.set_cons_succ, i64_w, i32_w]
     rfl
    exact norm_ nm_ (hJ1_6_7 (v1234, gb1250, gb1251) _ ⟨hHeld, HO1235, BK1226, BK1227, BK1250, BK1251, GW1250, GE1250, LB1226_1250, NB1250_1226, LB1227_1250, NB1250_1227, NB1251_1250, NB1250_1251, GW1251, GE1251, LB1226_1251, NB1251_1226, LB1227_1251, NB1251_1227, ⟨hb_⟩⟩)
   ·skip
    refine bs_ 7 #[.string (⟨#[]⟩ : ByteArray), .string (⟨#[]⟩ : ByteArray), .bool false, .bool false, .slice none 0 0] (t := 54) ?_
    intro gb1252 hg w21 hbox hb
    have BK1252 := Aside0.mk (hbox)
    have GW1252 := Aside0.mk ((by rw [hg]; exact (below_size hb_) : w.heap.size ≤ gb1252))
    have GE1252 := Aside0.mk ((by rw [hg]; exact (below_size hb_) : w.heap.size ≤ gb1252))
    have NB1226_1252 := BK1226.nl hg; have LB1226_1252 := lt_ BK1226 hg
    have NB1252_1226 := BK1226.ng hg
    have NB1227_1252 := BK1227.nl hg; have LB1227_1252 := lt_ BK1227 hg
    have NB1252_1227 := BK1227.ng hg
    have NB1250_1252 := BK1250.nl hg; have LB1250_1252 := lt_ BK1250 hg
    have NB1252_1250 := BK1250.ng hg
    have NB1251_1252 := BK1251.nl hg; have LB1251_1252 := lt_ BK1251 hg
    have NB1252_1251 := BK1251.ng hg
    replace BK1226 := BK1226.bl hb
    replace BK1227 := BK1227.bl hb
    replace BK1250 := BK1250.bl hb
    replace BK1251 := BK1251.bl hb
    replace HB := Aside0.mk (below_step hb_ hb)
    clear hb hbox hg
    refine hK.out _ _ (h5_ BK1227) (fun hHeld => ?_)
    clear hK K
    refine norm_ (a' := ?_) ?_ ?_
    rotate_left
    ·show Act.put _ (some 7) _ = _
     simp only [Act.put, List.setIfInBounds_toArray, List.set_cons_zero, List.set_cons_succ, i64_w, i32_w]
     rfl
    exact norm_ nm_ (hJ6_7_8 (gb1250, gb1251, gb1252) _ ⟨hHeld, BK1226, BK1227, BK1250, BK1251, BK1252, GW1250, GE1250, LB1226_1250, NB1250_1226, LB1227_1250, NB1250_1227, NB1251_1250, NB1250_1251, NB1252_1250, NB1250_1252, GW1251, GE1251, LB1226_1251, NB1251_1226, LB1227_1251, NB1251_1227, NB1252_1251, NB1251_1252, GW1252, GE1252, LB1226_1252, NB1252_1226, LB1227_1252, NB1252_1227, ⟨hb_⟩⟩)
theorem idiomlaw04_OperandLists.calls_r1 : idiomlaw04_OperandLists.calls_r0_s.1 := idiomlaw04_OperandLists.calls_r1_s.2 ⟨idiomlaw04_OperandLists.calls_r2⟩
theorem idiomlaw04_OperandLists.calls_r0 : idiomlaw04_OperandLists.calls_all_s.1 := idiomlaw04_OperandLists.calls_r0_s.2 ⟨idiomlaw04_OperandLists.calls_r1⟩
set_option maxHeartbeats 8000000 in
set_option maxRecDepth 100000 in
def idiomlaw04_OperandLists.calls_r3_s : PSigma fun T4 : Prop => idiomlaw04_OperandLists.Kept T4 → (idiomlaw04_OperandLists.calls_all_s.2.1) := by
  apply PSigma.mk
  case snd =>
   intro hrest4
   intro k a0_0 a0_1 a0_2 a0_3 a0_4 a0_5 a0_6 a0_7 a0_8 a1_0 a1_1 a1_2 a1_3 A1_4 c1_4 l1_4 r w hu45 hu54 hu23 hu60 HR1_4 HC1_4 HTB z3_1 gb1226 w5 GW1226 GE1226 gb1227 w6 GW1227 GE1227 NB1226_1227 LB1226_1227 NB1227_1226 w7 z3_2 A3 t1229 t1230 t1231 t1232 t1233 A9 t1236 t1237 t1238 t1239 t1240 A10 t1243 t1244 t1245 t1246 t1247 A11 t1253 t1254 t1255 t1256 t1257 A12 t1260 t1261 A13 t1262 t1263 A14 t1264 t1265 A15 z3_3 z3_4 z3_5 w17 z3_6 gb1250 gb1251 gb1252 w24 z3_7 GW1250 GE1250 LB1226_1250 NB1250_1226 LB1227_1250 NB1250_1227 NB1251_1250 NB1250_1251 NB1252_1250 NB1250_1252 GW1251 GE1251 LB1226_1251 NB1251_1226 LB1227_1251 NB1251_1227 NB1252_1251 NB1251_1252 GW1252 GE1252 LB1226_1252 NB1252_1226 LB1227_1252 NB1252_1227 NB1226_1250 NB1227_1250 NB1226_1251 NB1227_1251 NB1226_1252 NB1227_1252 Ao29 co29 Ao35 co35 Ao41 co41 z3_8 z3_9 z3_10 w43 hnb44 hnc44 hnb45 hnc45 hnb46 hnc46 hnb47 hnc47 hnb49 hnc49 hnb50 hnc50 hnb51 hnc51 hnb53 hnc53 hnb54 hnc54 w56 HT_ HW_ w57 z3_11 w58 Ao59 co59 z3_12 w60 hHeld hnb61 hnc61 w64 z3_13 w67 hb HO1235 HO1242 HO1249 HO1259 BK1226 BK1227 BK1250 BK1251 BK1252 HB z3_14 z3_15 z3_16 z3_17 wc u25 u26 u27 u28 u29 u30 u31 u32 u33 u34 u35 u36 u37 u38 u39 u40 u41 u42 u43 u44 u45 u46 u47 u48 u49 u50 u51 u52 u53 u54 u55 u56 u57 u58 u59 u60 u61 u62 u63 u64 u65 u66 u67 u68 u69 u70 u71 u72 u73 u74 u75 u76 u77 u78 u79 u80 u81 u82 u83 u84 u85 u86 u87 u88 u89 u90 u91 u92 u93 u94 u95 u96 u97 u98 u99 u100 u101 u102 u103 u104 u105 u106 u107 u108 u109 u110 u111 u112 u113 u114 u115 u116 u117 u118 u119 u120 u121 u122 u123 u124 u125 u126 u127 u128 u129 u130 u131 u132 u133 u134 u135 u136 u137 u138 u139 u140 u141 u142 u143 u144 u145 u146 u147 u148 u149 u150 u151 u152 u153 u154 u155 u156 u157 u158 u159 u160 u161 u162 u163 u164 u165 u166 u167 u168 u169 u170 u171 u172 u173 u174 u175 u176 u177 u178 u179 hcut
   obtain ⟨kq, x65_15, rfl, HA, HJ15, HO_1251004, HO_1252004, HO_1253004, BK1226, BK1227, BK1250, BK1251, BK1252, HB⟩ := hcut
   cases kq with
   | zero => exact absurd HA.out (by simp [idiomlaw04_OperandLists.j0])
   | succ kj15 =>
    have H := HA.out
    clear HA
    simp only [idiomlaw04_OperandLists.j0] at H
    by_cases c69 : x65_15 = true
    ·subst c69
     have H1 : (some false) = some r := by rw [if_pos rfl] at H; exact H
     clear H
     have H := H1
     clear H1
     obtain rfl := Option.some.inj H
     go_wp2
     go_ret
     exact fin_
    ·replace c69 := Bool.eq_false_iff.mpr c69
     subst c69
     have H1 : (if t1261 = 0 then (if (t1260 == t1262) = true then (idiomlaw04_OperandLists.j1 kj15 t1260 t1264 true a0_0 a0_1 a0_2 a0_3 a0_4 a0_5 a0_6 a0_7 a0_8 a1_0 a1_1 a1_2 a1_3 l1_4 t1229 t1230 false false t1233) else (if t1260 = true then (idiomlaw04_OperandLists.j1 kj15 t1260 t1264 (!t1264) a0_0 a0_1 a0_2 a0_3 a0_4 a0_5 a0_6 a0_7 a0_8 a1_0 a1_1 a1_2 a1_3 l1_4 t1229 t1230 false false t1233) else (idiomlaw04_OperandLists.j1 kj15 t1260 t1264 false a0_0 a0_1 a0_2 a0_3 a0_4 a0_5 a0_6 a0_7 a0_8 a1_0 a1_1 a1_2 a1_3 l1_4 t1229 t1230 false false t1233))) else (if t1260 = true then (some false) else (if t1262 = true then (some false) else (some (!t1264))))) = some r := by rw [if_neg (show ¬ (false = true) by decide)] at H; exact H
     clear H
     have H := H1
     clear H1
     by_cases c70 : t1261 = 0
     ·rw [if_pos c70] at H
      have c70b0 : (t1261 == 0) = true := beq_iff_eq.mpr c70
      have c70b1 : (t1261 != 0) = false := bne_eq_false_iff_eq.mpr c70
      clear c70
      have HC71 := Aside0.mk H
      clear H
      go_upto_region 14 with (fail)
      go_cut [87] (fun v87 wc => ∃ (kq : Nat) (x87_70 : Bool), v87 = .bool x87_70 ∧ Aside0 (idiomlaw04_OperandLists.j1 kq t1260 t1264 x87_70 a0_0 a0_1 a0_2 a0_3 a0_4 a0_5 a0_6 a0_7 a0_8 a1_0 a1_1 a1_2 a1_3 l1_4 t1229 t1230 false false t1233 = some r) ∧ Aside0 (kq ≤ kj15) ∧ Aside0 (Kd.R k60 60 wc w.heap.size (fun k_ => some k_ ≠ ((.slice Ao35 t1240.length co35) : Value).ownBlock ∧ some k_ ≠ ((.slice Ao41 t1247.length co41) : Value).ownBlock) (.slice Ao29 t1233.length co29) t1233) ∧ Aside0 (Kd.R k60 60 wc w.heap.size (fun k_ => some k_ ≠ ((.slice Ao29 t1233.length co29) : Value).ownBlock ∧ some k_ ≠ ((.slice Ao41 t1247.length co41) : Value).ownBlock) (.slice Ao35 t1240.length co35) t1240) ∧ Aside0 (Kd.R k60 60 wc w.heap.size (fun k_ => some k_ ≠ ((.slice Ao29 t1233.length co29) : Value).ownBlock ∧ some k_ ≠ ((.slice Ao35 t1240.length co35) : Value).ownBlock) (.slice Ao41 t1247.length co41) t1247) ∧ Aside0 (wc.heap[gb1226]? = some (.cells #[.bool a0_0, .string a0_1, .string a0_2, .string a0_3, .int .i64 a0_4, .int .i64 a0_5, .string a0_6, .string a0_7, .int .i64 a0_8] 45 (0, 0))) ∧ Aside0 (wc.heap[gb1227]? = some (.cells #[.string a1_0, .string a1_1, .bool a1_2, .bool a1_3, (.slice A1_4 l1_4.length c1_4)] 54 (0, 0))) ∧ Aside0 (wc.heap[gb1250]? = some (.cells #[.string t1229, .string t1230, .bool false, .bool false, (.slice Ao29 t1233.length co29)] 54 (0, 0))) ∧ Aside0 (wc.heap[gb1251]? = some (.cells #[.string t1236, .string t1237, .bool true, .bool false, (.slice Ao35 t1240.length co35)] 54 (0, 0))) ∧ Aside0 (wc.heap[gb1252]? = some (.cells #[.string t1243, .string t1244, .bool false, .bool true, (.slice Ao41 t1247.length co41)] 54 (0, 0))) ∧ Aside0 (Below w.heap.size w wc))
      case first =>
       have H := HC71.out
       clear HC71
       by_cases c72 : (t1260 == t1262) = true
       ·rw [if_pos c72] at H
        have c72b0 : (t1260 == t1262) = true := c72
        (try (have c72b1 : decide (t1260 = t1262) = true := by simpa using c72))
        (try (have c72b2 : (t1260 == t1262) = true := by simpa using c72))
        clear c72
        (first | rw [c72b0] | (simp only [i64_w, i32_w]; rw [c72b0]) | rw [c72b1] | skip)
        have H' := Aside0.mk H
        clear H
        go_wp2
        go_meet
        case rel => exact ⟨_, (true), (by first | rfl | (simp; done) | (simp [*]; done)), H', ⟨by have := HJ15.out; first | exact Nat.le_refl _ | omega⟩, ⟨by (with_reducible repeat (first | apply Kd.R_alloc | apply Kd.R_drewN | apply Kd.R_drew)); exact HO_1251004.out⟩, ⟨by (with_reducible repeat (first | apply Kd.R_alloc | apply Kd.R_drewN | apply Kd.R_drew)); exact HO_1252004.out⟩, ⟨by (with_reducible repeat (first | apply Kd.R_alloc | apply Kd.R_drewN | apply Kd.R_drew)); exact HO_1253004.out⟩, ⟨by exact BK1226.out⟩, ⟨by exact BK1227.out⟩, ⟨by exact BK1250.out⟩, ⟨by exact BK1251.out⟩, ⟨by exact BK1252.out⟩, ⟨hb_⟩⟩
       ·rw [if_neg c72] at H
        have c72b0 : (t1260 == t1262) = false := by simpa using c72
        (try (have c72b1 : decide (t1260 = t1262) = false := by simpa using c72))
        (try (have c72b2 : (t1260 == t1262) = false := by simpa using c72))
        (try (have c72b3 : ¬ (t1260 = t1262) := by simpa using c72))
        clear c72
        (first | rw [c72b0] | (simp only [i64_w, i32_w]; rw [c72b0]) | rw [c72b1] | skip)
        by_cases c73 : t1260 = true
        ·subst c73
         have H1 : (idiomlaw04_OperandLists.j1 kj15 true t1264 (!t1264) a0_0 a0_1 a0_2 a0_3 a0_4 a0_5 a0_6 a0_7 a0_8 a1_0 a1_1 a1_2 a1_3 l1_4 t1229 t1230 false false t1233) = some r := by rw [if_pos rfl] at H; exact H
         clear H
         have H := H1
         clear H1
         have H' := Aside0.mk H
         clear H
         go_wp2
         go_meet
         case rel => exact ⟨_, (!t1264), (by first | rfl | (simp; done) | (simp [*]; done)), H', ⟨by have := HJ15.out; first | exact Nat.le_refl _ | omega⟩, ⟨by (with_reducible repeat (first | apply Kd.R_alloc | apply Kd.R_drewN | apply Kd.R_drew)); exact HO_1251004.out⟩, ⟨by (with_reducible repeat (first | apply Kd.R_alloc | apply Kd.R_drewN | apply Kd.R_drew)); exact HO_1252004.out⟩, ⟨by (with_reducible repeat (first | apply Kd.R_alloc | apply Kd.R_drewN | apply Kd.R_drew)); exact HO_1253004.out⟩, ⟨by exact BK1226.out⟩, ⟨by exact BK1227.out⟩, ⟨by exact BK1250.out⟩, ⟨by exact BK1251.out⟩, ⟨by exact BK1252.out⟩, ⟨hb_⟩⟩
        ·replace c73 := Bool.eq_false_iff.mpr c73
         subst c73
         have H1 : (idiomlaw04_OperandLists.j1 kj15 false t1264 false a0_0 a0_1 a0_2 a0_3 a0_4 a0_5 a0_6 a0_7 a0_8 a1_0 a1_1 a1_2 a1_3 l1_4 t1229 t1230 false false t1233) = some r := by rw [if_neg (show ¬ (false = true) by decide)] at H; exact H
         clear H
         have H := H1
         clear H1
         have H' := Aside0.mk H
         clear H
         go_wp2
         go_meet
         case rel => exact ⟨_, (false), (by first | rfl | (simp; done) | (simp [*]; done)), H', ⟨by have := HJ15.out; first | exact Nat.le_refl _ | omega⟩, ⟨by (with_reducible repeat (first | apply Kd.R_alloc | apply Kd.R_drewN | apply Kd.R_drew)); exact HO_1251004.out⟩, ⟨by (with_reducible repeat (first | apply Kd.R_alloc | apply Kd.R_drewN | apply Kd.R_drew)); exact HO_1252004.out⟩, ⟨by (with_reducible repeat (first | apply Kd.R_alloc | apply Kd.R_drewN | apply Kd.R_drew)); exact HO_1253004.out⟩, ⟨by exact BK1226.out⟩, ⟨by exact BK1227.out⟩, ⟨by exact BK1250.out⟩, ⟨by exact BK1251.out⟩, ⟨by exact BK1252.out⟩, ⟨hb_⟩⟩
      case rest =>
       clear HC71
       (try clear c69); (try clear c70); (try clear c70b0); (try clear c70b1); (try clear hcz48_0); (try clear hcz48_1); (try clear hcz48_2); (try clear hcz48_3); (try clear hcz48_4); (try clear hcz52_0); (try clear hcz52_1); (try clear hcz52_2); (try clear hcz52_3); (try clear hcz52_4); (try clear hcz55_0); (try clear hcz55_1); (try clear hcz55_2); (try clear hcz55_3); (try clear hcz55_4); (try clear hcz62_0); (try clear hcz62_1); (try clear hcz62_2); (try clear hcz62_3); (try clear hcz62_4); (try clear hcz62_5); (try clear hcz62_6); (try clear hcz62_7); (try clear hcz62_8); (try clear hcz63_0); (try clear hcz63_1); (try clear hcz63_2); (try clear hcz63_3); (try clear hcz63_4); (try clear hcz65_0); (try clear hcz65_1); (try clear hcz65_2); (try clear hcz65_3); (try clear hcz65_4); (try clear hcz65_5); (try clear hcz65_6); (try clear hcz65_7); (try clear hcz65_8); (try clear hcz66_0); (try clear hcz66_1); (try clear hcz66_2); (try clear hcz66_3); (try clear hcz66_4); (try clear hfz48_0); (try clear hfz48_1); (try clear hfz48_2); (try clear hfz48_3); (try clear hfz48_4); (try clear hfz52_0); (try clear hfz52_1); (try clear hfz52_2); (try clear hfz52_3); (try clear hfz52_4); (try clear hfz55_0); (try clear hfz55_1); (try clear hfz55_2); (try clear hfz55_3); (try clear hfz55_4); (try clear hfz62_0); (try clear hfz62_1); (try clear hfz62_2); (try clear hfz62_3); (try clear hfz62_4); (try clear hfz62_5); (try clear hfz62_6); (try clear hfz62_7); (try clear hfz62_8); (try clear hfz63_0); (try clear hfz63_1); (try clear hfz63_2); (try clear hfz63_3); (try clear hfz63_4); (try clear hfz65_0); (try clear hfz65_1); (try clear hfz65_2); (try clear hfz65_3); (try clear hfz65_4); (try clear hfz65_5); (try clear hfz65_6); (try clear hfz65_7); (try clear hfz65_8); (try clear hfz66_0); (try clear hfz66_1); (try clear hfz66_2); (try clear hfz66_3); (try clear hfz66_4)
       rename_i z4_1 z4_2 z4_3 z4_4 z4_5 z4_6 z4_7 z4_8 z4_9 z4_10 z4_11 z4_12 z4_13 z4_14 z4_15 z4_16 z4_17 z4_18 z4_19 z4_20 z4_21 z4_22 z4_23 z4_24 z4_25 z4_26 z4_27 z4_28 z4_29 z4_30 z4_31 z4_32 z4_33 z4_34 z4_35 z4_36 z4_37 z4_38 z4_39 z4_40 z4_41 z4_42 z4_43 z4_44 z4_45 z4_46 z4_47 z4_48 z4_49 z4_50 z4_51 z4_52 z4_53 z4_54 z4_55 z4_56 z4_57 z4_58 z4_59 z4_60 z4_61 z4_62 z4_63 z4_64 z4_65 z4_66 z4_67 z4_68 z4_69 z4_70 z4_71 z4_72 z4_73 z4_74 z4_75 z4_76 z4_77 z4_78 z4_79 z4_80 z4_81 z4_82 z4_83 z4_84 z4_85 z4_86 z4_87 z4_88 z4_89 z4_90 z4_91 z4_92 z4_93 z4_94 z4_95 z4_96 z4_97 z4_98 z4_99 z4_100 z4_101 z4_102 z4_103 z4_104 z4_105 z4_106 z4_107 z4_108 z4_109 z4_110 z4_111 z4_112 z4_113 z4_114 z4_115 z4_116 z4_117 z4_118 z4_119 z4_120 z4_121 z4_122 z4_123 z4_124 z4_125 z4_126 z4_127 z4_128 z4_129 z4_130 z4_131 z4_132 z4_133 z4_134 z4_135 z4_136 z4_137 z4_138 z4_139 z4_140 z4_141 z4_142 z4_143 z4_144 z4_145 z4_146 z4_147 z4_148 z4_149 z4_150 z4_151 z4_152 z4_153 z4_154 z4_155 z4_156 z4_157 z4_158 z4_159 z4_160 z4_161 z4_162 z4_163 z4_164 z4_165
       revert k a0_0 a0_1 a0_2 a0_3 a0_4 a0_5 a0_6 a0_7 a0_8 a1_0 a1_1 a1_2 a1_3 A1_4 c1_4 l1_4 r w hu45 hu54 hu23 hu60 HR1_4 HC1_4 HTB z3_1 gb1226 w5 GW1226 GE1226 gb1227 w6 GW1227 GE1227 NB1226_1227 LB1226_1227 NB1227_1226 w7 z3_2 A3 t1229 t1230 t1231 t1232 t1233 A9 t1236 t1237 t1238 t1239 t1240 A10 t1243 t1244 t1245 t1246 t1247 A11 t1253 t1254 t1255 t1256 t1257 A12 t1260 t1261 A13 t1262 t1263 A14 t1264 t1265 A15 z3_3 z3_4 z3_5 w17 z3_6 gb1250 gb1251 gb1252 w24 z3_7 GW1250 GE1250 LB1226_1250 NB1250_1226 LB1227_1250 NB1250_1227 NB1251_1250 NB1250_1251 NB1252_1250 NB1250_1252 GW1251 GE1251 LB1226_1251 NB1251_1226 LB1227_1251 NB1251_1227 NB1252_1251 NB1251_1252 GW1252 GE1252 LB1226_1252 NB1252_1226 LB1227_1252 NB1252_1227 NB1226_1250 NB1227_1250 NB1226_1251 NB1227_1251 NB1226_1252 NB1227_1252 Ao29 co29 Ao35 co35 Ao41 co41 z3_8 z3_9 z3_10 w43 hnb44 hnc44 hnb45 hnc45 hnb46 hnc46 hnb47 hnc47 hnb49 hnc49 hnb50 hnc50 hnb51 hnc51 hnb53 hnc53 hnb54 hnc54 w56 HT_ HW_ w57 z3_11 w58 Ao59 co59 z3_12 w60 hHeld hnb61 hnc61 w64 z3_13 w67 hb HO1235 HO1242 HO1249 HO1259 z4_1 z4_2 z4_3 z4_4 z4_5 z4_6 z4_7 z4_8 z4_9 z4_10 z4_11 z4_12 z4_13 z4_14 z4_15 z4_16 z4_17 z4_18 z4_19 z4_20 z4_21 z4_22 z4_23 z4_24 z4_25 z4_26 z4_27 z4_28 z4_29 z4_30 z4_31 z4_32 z4_33 z4_34 z4_35 z4_36 z4_37 z4_38 z4_39 z4_40 z4_41 z4_42 z4_43 z4_44 z4_45 z4_46 z4_47 z4_48 z4_49 z4_50 z4_51 z4_52 z4_53 z4_54 z4_55 z4_56 z4_57 z4_58 z4_59 z4_60 z4_61 z4_62 z4_63 z4_64 z4_65 z4_66 z4_67 z4_68 z4_69 z4_70 z4_71 z4_72 z4_73 z4_74 z4_75 z4_76 z4_77 z4_78 z4_79 z4_80 z4_81 z4_82 z4_83 z4_84 z4_85 z4_86 z4_87 z4_88 z4_89 z4_90 z4_91 z4_92 z4_93 z4_94 z4_95 z4_96 z4_97 z4_98 z4_99 z4_100 z4_101 z4_102 z4_103 z4_104 z4_105 z4_106 z4_107 z4_108 z4_109 z4_110 z4_111 z4_112 z4_113 z4_114 z4_115 z4_116 z4_117 z4_118 z4_119 z4_120 z4_121 z4_122 z4_123 z4_124 z4_125 z4_126 z4_127 z4_128 z4_129 z4_130 z4_131 z4_132 z4_133 z4_134 z4_135 z4_136 z4_137 z4_138 z4_139 z4_140 z4_141 z4_142 z4_143 z4_144 z4_145 z4_146 z4_147 z4_148 z4_149 z4_150 z4_151 z4_152 z4_153 z4_154 z4_155 z4_156 z4_157 z4_158 z4_159 z4_160 z4_161 HO_1251004 HO_1252004 HO_1253004 BK1226 BK1227 BK1250 BK1251 BK1252 HB kj15 HJ15 z4_162 z4_163 z4_164 z4_165 wc u25 u26 u27 u28 u29 u30 u31 u32 u33 u34 u35 u36 u37 u38 u39 u40 u41 u42 u43 u44 u45 u46 u47 u48 u49 u50 u51 u52 u53 u54 u55 u56 u57 u58 u59 u60 u61 u62 u63 u64 u65 u66 u67 u68 u69 u70 u71 u72 u73 u74 u75 u76 u77 u78 u79 u80 u81 u82 u83 u84 u85 u86 u87 u88 u89 u90 u91 u92 u93 u94 u95 u96 u97 u98 u99 u100 u101 u102 u103 u104 u105 u106 u107 u108 u109 u110 u111 u112 u113 u114 u115 u116 u117 u118 u119 u120 u121 u122 u123 u124 u125 u126 u127 u128 u129 u130 u131 u132 u133 u134 u135 u136 u137 u138 u139 u140 u141 u142 u143 u144 u145 u146 u147 u148 u149 u150 u151 u152 u153 u154 u155 u156 u157 u158 u159 u160 u161 u162 u163 u164 u165 u166 u167 u168 u169 u170 u171 u172 u173 u174 u175 u176 u177 u178 u179 hcut
       exact hrest4.out
     ·rw [if_neg c70] at H
      have c70b0 : (t1261 == 0) = false := beq_eq_false_iff_ne.mpr c70
      have c70b1 : (t1261 != 0) = true := bne_iff_ne.mpr c70
      by_cases c267 : t1260 = true
      ·subst c267
       have H1 : (some false) = some r := by rw [if_pos rfl] at H; exact H
       clear H
       have H := H1
       clear H1
       obtain rfl := Option.some.inj H
       go_wp2
       go_ret
       exact fin_
      ·replace c267 := Bool.eq_false_iff.mpr c267
       subst c267
       have H1 : (if t1262 = true then (some false) else (some (!t1264))) = some r := by rw [if_neg (show ¬ (false = true) by decide)] at H; exact H
       clear H
       have H := H1
       clear H1
       by_cases c268 : t1262 = true
       ·subst c268
        have H1 : (some false) = some r := by rw [if_pos rfl] at H; exact H
        clear H
        have H := H1
        clear H1
        obtain rfl := Option.some.inj H
        go_wp2
        go_ret
        exact fin_
       ·replace c268 := Bool.eq_false_iff.mpr c268
        subst c268
        have H1 : (some (!t1264)) = some r := by rw [if_neg (show ¬ (false = true) by decide)] at H; exact H
        clear H
        have H := H1
        clear H1
        obtain rfl := Option.some.inj H
        go_wp2
        go_ret
        exact fin_
set_option maxHeartbeats 8000000 in
set_option maxRecDepth 100000 in
def idiomlaw04_OperandLists.calls_r4_s : PSigma fun T5 : Prop => idiomlaw04_OperandLists.Kept T5 → (idiomlaw04_OperandLists.calls_r3_s.1) := by
  apply PSigma.mk
  case snd =>
   intro hrest5
   intro k a0_0 a0_1 a0_2 a0_3 a0_4 a0_5 a0_6 a0_7 a0_8 a1_0 a1_1 a1_2 a1_3 A1_4 c1_4 l1_4 r w hu45 hu54 hu23 hu60 HR1_4 HC1_4 HTB z3_1 gb1226 w5 GW1226 GE1226 gb1227 w6 GW1227 GE1227 NB1226_1227 LB1226_1227 NB1227_1226 w7 z3_2 A3 t1229 t1230 t1231 t1232 t1233 A9 t1236 t1237 t1238 t1239 t1240 A10 t1243 t1244 t1245 t1246 t1247 A11 t1253 t1254 t1255 t1256 t1257 A12 t1260 t1261 A13 t1262 t1263 A14 t1264 t1265 A15 z3_3 z3_4 z3_5 w17 z3_6 gb1250 gb1251 gb1252 w24 z3_7 GW1250 GE1250 LB1226_1250 NB1250_1226 LB1227_1250 NB1250_1227 NB1251_1250 NB1250_1251 NB1252_1250 NB1250_1252 GW1251 GE1251 LB1226_1251 NB1251_1226 LB1227_1251 NB1251_1227 NB1252_1251 NB1251_1252 GW1252 GE1252 LB1226_1252 NB1252_1226 LB1227_1252 NB1252_1227 NB1226_1250 NB1227_1250 NB1226_1251 NB1227_1251 NB1226_1252 NB1227_1252 Ao29 co29 Ao35 co35 Ao41 co41 z3_8 z3_9 z3_10 w43 hnb44 hnc44 hnb45 hnc45 hnb46 hnc46 hnb47 hnc47 hnb49 hnc49 hnb50 hnc50 hnb51 hnc51 hnb53 hnc53 hnb54 hnc54 w56 HT_ HW_ w57 z3_11 w58 Ao59 co59 z3_12 w60 hHeld hnb61 hnc61 w64 z3_13 w67 hb HO1235 HO1242 HO1249 HO1259 z4_1 z4_2 z4_3 z4_4 z4_5 z4_6 z4_7 z4_8 z4_9 z4_10 z4_11 z4_12 z4_13 z4_14 z4_15 z4_16 z4_17 z4_18 z4_19 z4_20 z4_21 z4_22 z4_23 z4_24 z4_25 z4_26 z4_27 z4_28 z4_29 z4_30 z4_31 z4_32 z4_33 z4_34 z4_35 z4_36 z4_37 z4_38 z4_39 z4_40 z4_41 z4_42 z4_43 z4_44 z4_45 z4_46 z4_47 z4_48 z4_49 z4_50 z4_51 z4_52 z4_53 z4_54 z4_55 z4_56 z4_57 z4_58 z4_59 z4_60 z4_61 z4_62 z4_63 z4_64 z4_65 z4_66 z4_67 z4_68 z4_69 z4_70 z4_71 z4_72 z4_73 z4_74 z4_75 z4_76 z4_77 z4_78 z4_79 z4_80 z4_81 z4_82 z4_83 z4_84 z4_85 z4_86 z4_87 z4_88 z4_89 z4_90 z4_91 z4_92 z4_93 z4_94 z4_95 z4_96 z4_97 z4_98 z4_99 z4_100 z4_101 z4_102 z4_103 z4_104 z4_105 z4_106 z4_107 z4_108 z4_109 z4_110 z4_111 z4_112 z4_113 z4_114 z4_115 z4_116 z4_117 z4_118 z4_119 z4_120 z4_121 z4_122 z4_123 z4_124 z4_125 z4_126 z4_127 z4_128 z4_129 z4_130 z4_131 z4_132 z4_133 z4_134 z4_135 z4_136 z4_137 z4_138 z4_139 z4_140 z4_141 z4_142 z4_143 z4_144 z4_145 z4_146 z4_147 z4_148 z4_149 z4_150 z4_151 z4_152 z4_153 z4_154 z4_155 z4_156 z4_157 z4_158 z4_159 z4_160 z4_161 HO_1251004 HO_1252004 HO_1253004 BK1226 BK1227 BK1250 BK1251 BK1252 HB kj15 HJ15 z4_162 z4_163 z4_164 z4_165 wc u25 u26 u27 u28 u29 u30 u31 u32 u33 u34 u35 u36 u37 u38 u39 u40 u41 u42 u43 u44 u45 u46 u47 u48 u49 u50 u51 u52 u53 u54 u55 u56 u57 u58 u59 u60 u61 u62 u63 u64 u65 u66 u67 u68 u69 u70 u71 u72 u73 u74 u75 u76 u77 u78 u79 u80 u81 u82 u83 u84 u85 u86 u87 u88 u89 u90 u91 u92 u93 u94 u95 u96 u97 u98 u99 u100 u101 u102 u103 u104 u105 u106 u107 u108 u109 u110 u111 u112 u113 u114 u115 u116 u117 u118 u119 u120 u121 u122 u123 u124 u125 u126 u127 u128 u129 u130 u131 u132 u133 u134 u135 u136 u137 u138 u139 u140 u141 u142 u143 u144 u145 u146 u147 u148 u149 u150 u151 u152 u153 u154 u155 u156 u157 u158 u159 u160 u161 u162 u163 u164 u165 u166 u167 u168 u169 u170 u171 u172 u173 u174 u175 u176 u177 u178 u179 hcut
   obtain ⟨kq, x87_70, rfl, HA, HJ70, HO_1251004, HO_1252004, HO_1253004, BK1226, BK1227, BK1250, BK1251, BK1252, HB⟩ := hcut
   cases kq with
   | zero => exact absurd HA.out (by simp [idiomlaw04_OperandLists.j1])
   | succ kj70 =>
    have H := HA.out
    clear HA
    simp only [idiomlaw04_OperandLists.j1] at H
    by_cases c74 : x87_70 = true
    ·subst c74
     have H1 : (some false) = some r := by rw [if_pos rfl] at H; exact H
     clear H
     have H := H1
     clear H1
     obtain rfl := Option.some.inj H
     go_wp2
     go_ret
     exact fin_
    ·replace c74 := Bool.eq_false_iff.mpr c74
     subst c74
     have H1 : ((operand_Mod.f kj70 a0_0 a0_1 a0_2 a0_3 a0_4 a0_5 a0_6 a0_7 a0_8 a1_0 a1_1).bind fun bt1266 => ((decimal_Trim.f kj70 bt1266.1 bt1266.2.1 bt1266.2.2.1).bind fun bt1271 => (if bt1266.2.2.2 = 0 then (if bt1271.2.2.2 = 0 then (if t1264 = true then (idiomlaw04_OperandLists.j2 kj70 t1260 (t1260 != (bt1271.2.2.1.toList == ([] : List UInt8))) a0_0 a0_1 a0_2 a0_3 a0_4 a0_5 a0_6 a0_7 a0_8 a1_0 a1_1 a1_2 a1_3 l1_4 t1229 t1230 false false t1233) else (idiomlaw04_OperandLists.j2 kj70 t1260 false a0_0 a0_1 a0_2 a0_3 a0_4 a0_5 a0_6 a0_7 a0_8 a1_0 a1_1 a1_2 a1_3 l1_4 t1229 t1230 false false t1233)) else (idiomlaw04_OperandLists.j2 kj70 t1260 true a0_0 a0_1 a0_2 a0_3 a0_4 a0_5 a0_6 a0_7 a0_8 a1_0 a1_1 a1_2 a1_3 l1_4 t1229 t1230 false false t1233)) else (idiomlaw04_OperandLists.j2 kj70 t1260 true a0_0 a0_1 a0_2 a0_3 a0_4 a0_5 a0_6 a0_7 a0_8 a1_0 a1_1 a1_2 a1_3 l1_4 t1229 t1230 false false t1233)))) = some r := by rw [if_neg (show ¬ (false = true) by decide)] at H; exact H
     clear H
     have H := H1
     clear H1
     replace H := Option.bind_eq_some_iff.mp H
     obtain ⟨⟨t1266, t1267, t1268, t1269⟩, A750, H⟩ := H
     try dsimp only at H
     have A75 := Aside0.mk A750
     clear A750
     replace H := Option.bind_eq_some_iff.mp H
     obtain ⟨⟨t1271, t1272, t1273, t1274⟩, A760, H⟩ := H
     try dsimp only at H
     have A76 := Aside0.mk A760
     clear A760
     have HC77 := Aside0.mk H
     clear H
     have hnb78 := LB1226_1227.out
     have hnc78 := LB1226_1227.out
     have hnb79 := LB1226_1250.out
     have hnc79 := LB1226_1250.out
     have hnb80 := LB1226_1251.out
     have hnc80 := LB1226_1251.out
     have hnb81 := LB1226_1252.out
     have hnc81 := LB1226_1252.out
     have hcz82_0 : wc.cell? ⟨gb1226, 0, none⟩ = some (.bool a0_0) := (blk_cell BK1226.out 0).trans rfl
     have hcz82_1 : wc.cell? ⟨gb1226, 1, none⟩ = some (.string a0_1) := (blk_cell BK1226.out 1).trans rfl
     have hcz82_2 : wc.cell? ⟨gb1226, 2, none⟩ = some (.string a0_2) := (blk_cell BK1226.out 2).trans rfl
     have hcz82_3 : wc.cell? ⟨gb1226, 3, none⟩ = some (.string a0_3) := (blk_cell BK1226.out 3).trans rfl
     have hcz82_4 : wc.cell? ⟨gb1226, 4, none⟩ = some (.int .i64 a0_4) := (blk_cell BK1226.out 4).trans rfl
     have hcz82_5 : wc.cell? ⟨gb1226, 5, none⟩ = some (.int .i64 a0_5) := (blk_cell BK1226.out 5).trans rfl
     have hcz82_6 : wc.cell? ⟨gb1226, 6, none⟩ = some (.string a0_6) := (blk_cell BK1226.out 6).trans rfl
     have hcz82_7 : wc.cell? ⟨gb1226, 7, none⟩ = some (.string a0_7) := (blk_cell BK1226.out 7).trans rfl
     have hcz82_8 : wc.cell? ⟨gb1226, 8, none⟩ = some (.int .i64 a0_8) := (blk_cell BK1226.out 8).trans rfl
     have hfz82_0 := blk_frozen BK1226.out 0
     have hfz82_1 := blk_frozen BK1226.out 1
     have hfz82_2 := blk_frozen BK1226.out 2
     have hfz82_3 := blk_frozen BK1226.out 3
     have hfz82_4 := blk_frozen BK1226.out 4
     have hfz82_5 := blk_frozen BK1226.out 5
     have hfz82_6 := blk_frozen BK1226.out 6
     have hfz82_7 := blk_frozen BK1226.out 7
     have hfz82_8 := blk_frozen BK1226.out 8
     have hnb83 := LB1227_1250.out
     have hnc83 := LB1227_1250.out
     have hnb84 := LB1227_1251.out
     have hnc84 := LB1227_1251.out
     have hnb85 := LB1227_1252.out
     have hnc85 := LB1227_1252.out
     have hcz86_0 : wc.cell? ⟨gb1227, 0, none⟩ = some (.string a1_0) := (blk_cell BK1227.out 0).trans rfl
     have hcz86_1 : wc.cell? ⟨gb1227, 1, none⟩ = some (.string a1_1) := (blk_cell BK1227.out 1).trans rfl
     have hcz86_2 : wc.cell? ⟨gb1227, 2, none⟩ = some (.bool a1_2) := (blk_cell BK1227.out 2).trans rfl
     have hcz86_3 : wc.cell? ⟨gb1227, 3, none⟩ = some (.bool a1_3) := (blk_cell BK1227.out 3).trans rfl
     have hcz86_4 : wc.cell? ⟨gb1227, 4, none⟩ = some (.slice A1_4 l1_4.length c1_4) := (blk_cell BK1227.out 4).trans rfl
     have hfz86_0 := blk_frozen BK1227.out 0
     have hfz86_1 := blk_frozen BK1227.out 1
     have hfz86_2 := blk_frozen BK1227.out 2
     have hfz86_3 := blk_frozen BK1227.out 3
     have hfz86_4 := blk_frozen BK1227.out 4
     go_upto_region 18 with (first | ((with_reducible refine gate_callee (f := 53) rfl ?_); refine gL_ (some 94) Tryd.func53 #[.agg #[.bool a0_0, .string a0_1, .string a0_2, .string a0_3, .int .i64 a0_4, .int .i64 a0_5, .string a0_6, .string a0_7, .int .i64 a0_8], .string a1_0, .string a1_1] ?_; (with_reducible refine (operand_Mod.calls kj70 a0_0 a0_1 a0_2 a0_3 a0_4 a0_5 a0_6 a0_7 a0_8 a1_0 a1_1 t1266 t1267 t1268 t1269 _ (TB.below HTB.out hb_) A75.out).mono ?_); rintro e w87 ⟨rfl, hb⟩; refine ⟨_, rfl, ?_⟩; replace HO_1251004 := bw_ HO_1251004 hb; replace HO_1252004 := bw_ HO_1252004 hb; replace HO_1253004 := bw_ HO_1253004 hb; replace BK1226 := BK1226.bl hb; replace BK1227 := BK1227.bl hb; replace BK1250 := BK1250.bl hb; replace BK1251 := BK1251.bl hb; replace BK1252 := BK1252.bl hb; replace HB := Aside0.mk (below_step hb_ hb)) | ((with_reducible refine gate_dst (N := 14) rfl ?_); refine bx_ #[.bool false, .string (⟨#[]⟩ : ByteArray), .string (⟨#[]⟩ : ByteArray)] 23 ?_; intro gb1270 hg w88 hbox hb; have BK1270 := Aside0.mk (hbox); have GW1270 := Aside0.mk ((by rw [hg]; exact (below_size hb_) : w.heap.size ≤ gb1270)); have GE1270 := Aside0.mk ((by rw [hg]; exact (below_size hb_) : w.heap.size ≤ gb1270)); have NB1226_1270 := BK1226.nl hg; have LB1226_1270 := lt_ BK1226 hg; have NB1270_1226 := BK1226.ng hg; have NB1227_1270 := BK1227.nl hg; have LB1227_1270 := lt_ BK1227 hg; have NB1270_1227 := BK1227.ng hg; have NB1250_1270 := BK1250.nl hg; have LB1250_1270 := lt_ BK1250 hg; have NB1270_1250 := BK1250.ng hg; have NB1251_1270 := BK1251.nl hg; have LB1251_1270 := lt_ BK1251 hg; have NB1270_1251 := BK1251.ng hg; have NB1252_1270 := BK1252.nl hg; have LB1252_1270 := lt_ BK1252 hg; have NB1270_1252 := BK1252.ng hg; replace HO_1251004 := bw_ HO_1251004 hb; replace HO_1252004 := bw_ HO_1252004 hb; replace HO_1253004 := bw_ HO_1253004 hb; replace BK1226 := BK1226.bl hb; replace BK1227 := BK1227.bl hb; replace BK1250 := BK1250.bl hb; replace BK1251 := BK1251.bl hb; replace BK1252 := BK1252.bl hb; replace HB := Aside0.mk (below_step hb_ hb); clear hb hbox hg; have hnb89 := LB1226_1270.out; have hnc89 := LB1226_1270.out; have hnb90 := LB1227_1270.out; have hnc90 := LB1227_1270.out; have hnb91 := LB1250_1270.out; have hnc91 := LB1250_1270.out; have hnb92 := LB1251_1270.out; have hnc92 := LB1251_1270.out; have hnb93 := LB1252_1270.out; have hnc93 := LB1252_1270.out; obtain ⟨hcz94_0, hcz94_1, hcz94_2, hfz94_0, hfz94_1, hfz94_2⟩ := BK1270.c3) | ((with_reducible refine gate_callee (f := 40) rfl ?_); refine gL_ (some 99) Tryd.func40 #[.agg #[.bool t1266, .string t1267, .string t1268]] ?_; (with_reducible refine (decimal_Trim.calls kj70 t1266 t1267 t1268 t1271 t1272 t1273 t1274 _ A76.out).mono ?_); rintro e w95 ⟨rfl, hb⟩; refine ⟨_, rfl, ?_⟩; replace HO_1251004 := Aside0.mk (Kd.R_below (by (with_reducible repeat (first | apply Kd.R_alloc | apply Kd.R_drewN | apply Kd.R_drew)); exact (Kd.R_mono (Kd.R_far (p := ⟨gb1270, 2, none⟩) (Kd.R_far (p := ⟨gb1270, 1, none⟩) (Kd.R_far (p := ⟨gb1270, 0, none⟩) (Kd.R_types HO_1251004.out BK1270.out (by decide)) (fun _ hk => hk.2) (.bool t1266)) (fun _ hk => hk.2) (.string t1267)) (fun _ hk => hk.2) (.string t1268)) (fun _ h_ => h_.1))) hb); replace HO_1252004 := Aside0.mk (Kd.R_below (by (with_reducible repeat (first | apply Kd.R_alloc | apply Kd.R_drewN | apply Kd.R_drew)); exact (Kd.R_mono (Kd.R_far (p := ⟨gb1270, 2, none⟩) (Kd.R_far (p := ⟨gb1270, 1, none⟩) (Kd.R_far (p := ⟨gb1270, 0, none⟩) (Kd.R_types HO_1252004.out BK1270.out (by decide)) (fun _ hk => hk.2) (.bool t1266)) (fun _ hk => hk.2) (.string t1267)) (fun _ hk => hk.2) (.string t1268)) (fun _ h_ => h_.1))) hb); replace HO_1253004 := Aside0.mk (Kd.R_below (by (with_reducible repeat (first | apply Kd.R_alloc | apply Kd.R_drewN | apply Kd.R_drew)); exact (Kd.R_mono (Kd.R_far (p := ⟨gb1270, 2, none⟩) (Kd.R_far (p := ⟨gb1270, 1, none⟩) (Kd.R_far (p := ⟨gb1270, 0, none⟩) (Kd.R_types HO_1253004.out BK1270.out (by decide)) (fun _ hk => hk.2) (.bool t1266)) (fun _ hk => hk.2) (.string t1267)) (fun _ hk => hk.2) (.string t1268)) (fun _ h_ => h_.1))) hb); replace BK1226 := Aside0.mk (blk_below (g := gb1226) (o := .cells #[.bool a0_0, .string a0_1, .string a0_2, .string a0_3, .int .i64 a0_4, .int .i64 a0_5, .string a0_6, .string a0_7, .int .i64 a0_8] 45 (0, 0)) (by refine blk_far ?_ NB1226_1270.out _; refine blk_far ?_ NB1226_1270.out _; refine blk_far ?_ NB1226_1270.out _; exact BK1226.out) hb); replace BK1227 := Aside0.mk (blk_below (g := gb1227) (o := .cells #[.string a1_0, .string a1_1, .bool a1_2, .bool a1_3, .slice A1_4 l1_4.length c1_4] 54 (0, 0)) (by refine blk_far ?_ NB1227_1270.out _; refine blk_far ?_ NB1227_1270.out _; refine blk_far ?_ NB1227_1270.out _; exact BK1227.out) hb); replace BK1250 := Aside0.mk (blk_below (g := gb1250) (o := .cells #[.string t1229, .string t1230, .bool false, .bool false, .slice Ao29 t1233.length co29] 54 (0, 0)) (by refine blk_far ?_ NB1250_1270.out _; refine blk_far ?_ NB1250_1270.out _; refine blk_far ?_ NB1250_1270.out _; exact BK1250.out) hb); replace BK1251 := Aside0.mk (blk_below (g := gb1251) (o := .cells #[.string t1236, .string t1237, .bool true, .bool false, .slice Ao35 t1240.length co35] 54 (0, 0)) (by refine blk_far ?_ NB1251_1270.out _; refine blk_far ?_ NB1251_1270.out _; refine blk_far ?_ NB1251_1270.out _; exact BK1251.out) hb); replace BK1252 := Aside0.mk (blk_below (g := gb1252) (o := .cells #[.string t1243, .string t1244, .bool false, .bool true, .slice Ao41 t1247.length co41] 54 (0, 0)) (by refine blk_far ?_ NB1252_1270.out _; refine blk_far ?_ NB1252_1270.out _; refine blk_far ?_ NB1252_1270.out _; exact BK1252.out) hb); replace BK1270 := Aside0.mk (blk_below (g := gb1270) (o := .cells #[.bool t1266, .string t1267, .string t1268] 23 (0, 0)) (by refine blk_put (cs := #[.bool t1266, .string t1267, .string (⟨#[]⟩ : ByteArray)]) ?_ 2 _ rfl; refine blk_put (cs := #[.bool t1266, .string (⟨#[]⟩ : ByteArray), .string (⟨#[]⟩ : ByteArray)]) ?_ 1 _ rfl; refine blk_put (cs := #[.bool false, .string (⟨#[]⟩ : ByteArray), .string (⟨#[]⟩ : ByteArray)]) ?_ 0 _ rfl; exact BK1270.out) hb); replace HB := Aside0.mk (below_step hb_ hb)) | ((with_reducible refine gate_dst (N := 16) rfl ?_); refine bx_ #[.bool false, .string (⟨#[]⟩ : ByteArray), .string (⟨#[]⟩ : ByteArray)] 23 ?_; intro gb1275 hg w96 hbox hb; have BK1275 := Aside0.mk (hbox); have GW1275 := Aside0.mk ((by rw [hg]; exact (below_size hb_) : w.heap.size ≤ gb1275)); have GE1275 := Aside0.mk ((by rw [hg]; exact (below_size hb_) : w.heap.size ≤ gb1275)); have NB1226_1275 := BK1226.nl hg; have LB1226_1275 := lt_ BK1226 hg; have NB1275_1226 := BK1226.ng hg; have NB1227_1275 := BK1227.nl hg; have LB1227_1275 := lt_ BK1227 hg; have NB1275_1227 := BK1227.ng hg; have NB1250_1275 := BK1250.nl hg; have LB1250_1275 := lt_ BK1250 hg; have NB1275_1250 := BK1250.ng hg; have NB1251_1275 := BK1251.nl hg; have LB1251_1275 := lt_ BK1251 hg; have NB1275_1251 := BK1251.ng hg; have NB1252_1275 := BK1252.nl hg; have LB1252_1275 := lt_ BK1252 hg; have NB1275_1252 := BK1252.ng hg; have NB1270_1275 := BK1270.nl hg; have LB1270_1275 := lt_ BK1270 hg; have NB1275_1270 := BK1270.ng hg; replace HO_1251004 := bw_ HO_1251004 hb; replace HO_1252004 := bw_ HO_1252004 hb; replace HO_1253004 := bw_ HO_1253004 hb; replace BK1226 := BK1226.bl hb; replace BK1227 := BK1227.bl hb; replace BK1250 := BK1250.bl hb; replace BK1251 := BK1251.bl hb; replace BK1252 := BK1252.bl hb; replace BK1270 := BK1270.bl hb; replace HB := Aside0.mk (below_step hb_ hb); clear hb hbox hg; have hnb97 := LB1226_1275.out; have hnc97 := LB1226_1275.out; have hnb98 := LB1227_1275.out; have hnc98 := LB1227_1275.out; have hnb99 := LB1250_1275.out; have hnc99 := LB1250_1275.out; have hnb100 := LB1251_1275.out; have hnc100 := LB1251_1275.out; have hnb101 := LB1252_1275.out; have hnc101 := LB1252_1275.out; have hnb102 := LB1270_1275.out; have hnc102 := LB1270_1275.out; obtain ⟨hcz103_0, hcz103_1, hcz103_2, hfz103_0, hfz103_1, hfz103_2⟩ := BK1275.c3))
     (try simp only [Act.put, List.setIfInBounds_toArray, List.set_cons_zero, List.set_cons_succ])
     go_cut [117] (fun v117 wc => ∃ (kq : Nat) (x117_76 : Bool), v117 = .bool x117_76 ∧ Aside0 (idiomlaw04_OperandLists.j2 kq t1260 x117_76 a0_0 a0_1 a0_2 a0_3 a0_4 a0_5 a0_6 a0_7 a0_8 a1_0 a1_1 a1_2 a1_3 l1_4 t1229 t1230 false false t1233 = some r) ∧ Aside0 (kq ≤ kj70) ∧ Aside0 (Kd.R k60 60 wc w.heap.size (fun k_ => some k_ ≠ ((.slice Ao35 t1240.length co35) : Value).ownBlock ∧ some k_ ≠ ((.slice Ao41 t1247.length co41) : Value).ownBlock) (.slice Ao29 t1233.length co29) t1233) ∧ Aside0 (Kd.R k60 60 wc w.heap.size (fun k_ => some k_ ≠ ((.slice Ao29 t1233.length co29) : Value).ownBlock ∧ some k_ ≠ ((.slice Ao41 t1247.length co41) : Value).ownBlock) (.slice Ao35 t1240.length co35) t1240) ∧ Aside0 (Kd.R k60 60 wc w.heap.size (fun k_ => some k_ ≠ ((.slice Ao29 t1233.length co29) : Value).ownBlock ∧ some k_ ≠ ((.slice Ao35 t1240.length co35) : Value).ownBlock) (.slice Ao41 t1247.length co41) t1247) ∧ Aside0 (wc.heap[gb1226]? = some (.cells #[.bool a0_0, .string a0_1, .string a0_2, .string a0_3, .int .i64 a0_4, .int .i64 a0_5, .string a0_6, .string a0_7, .int .i64 a0_8] 45 (0, 0))) ∧ Aside0 (wc.heap[gb1227]? = some (.cells #[.string a1_0, .string a1_1, .bool a1_2, .bool a1_3, (.slice A1_4 l1_4.length c1_4)] 54 (0, 0))) ∧ Aside0 (wc.heap[gb1250]? = some (.cells #[.string t1229, .string t1230, .bool false, .bool false, (.slice Ao29 t1233.length co29)] 54 (0, 0))) ∧ Aside0 (wc.heap[gb1251]? = some (.cells #[.string t1236, .string t1237, .bool true, .bool false, (.slice Ao35 t1240.length co35)] 54 (0, 0))) ∧ Aside0 (wc.heap[gb1252]? = some (.cells #[.string t1243, .string t1244, .bool false, .bool true, (.slice Ao41 t1247.length co41)] 54 (0, 0))) ∧ Aside0 (wc.heap[gb1270]? = some (.cells #[.bool t1266, .string t1267, .string t1268] 23 (0, 0))) ∧ Aside0 (wc.heap[gb1275]? = some (.cells #[.bool t1271, .string t1272, .string t1273] 23 (0, 0))) ∧ Aside0 (Below w.heap.size w wc))
     case first =>
      have H := HC77.out
      clear HC77
      by_cases c104 : t1269 = 0
      ·rw [if_pos c104] at H
       have c104b0 : (t1269 == 0) = true := beq_iff_eq.mpr c104
       have c104b1 : (t1269 != 0) = false := bne_eq_false_iff_eq.mpr c104
       clear c104
       (first | rw [c104b0] | (simp only [i64_w, i32_w]; rw [c104b0]) | rw [c104b1] | skip)
       by_cases c105 : t1274 = 0
       ·rw [if_pos c105] at H
        have c105b0 : (t1274 == 0) = true := beq_iff_eq.mpr c105
        have c105b1 : (t1274 != 0) = false := bne_eq_false_iff_eq.mpr c105
        clear c105
        by_cases c106 : t1264 = true
        ·subst c106
         have H1 : (idiomlaw04_OperandLists.j2 kj70 t1260 (t1260 != (t1273.toList == ([] : List UInt8))) a0_0 a0_1 a0_2 a0_3 a0_4 a0_5 a0_6 a0_7 a0_8 a1_0 a1_1 a1_2 a1_3 l1_4 t1229 t1230 false false t1233) = some r := by rw [if_pos rfl] at H; exact H
         clear H
         have H := H1
         clear H1
         have H' := Aside0.mk H
         clear H
         have hnb107 := LB1226_1275.out
         have hnc107 := LB1226_1275.out
         have hnb108 := LB1227_1275.out
         have hnc108 := LB1227_1275.out
         have hnb109 := LB1250_1275.out
         have hnc109 := LB1250_1275.out
         have hnb110 := LB1251_1275.out
         have hnc110 := LB1251_1275.out
         have hnb111 := LB1252_1275.out
         have hnc111 := LB1252_1275.out
         have hnb112 := LB1270_1275.out
         have hnc112 := LB1270_1275.out
         obtain ⟨hcz113_0, hcz113_1, hcz113_2, hfz113_0, hfz113_1, hfz113_2⟩ := BK1275.c3
         go_wp2
         go_meet
         case rel => exact ⟨_, ((t1260 != (t1273.toList == ([] : List UInt8)))), (by first | rfl | (simp; done) | (simp [*]; done) | (simp; cases t1260 <;> cases t1273.toList.isEmpty <;> rfl)), H', ⟨by have := HJ15.out; have := HJ70.out; first | exact Nat.le_refl _ | omega⟩, ⟨by (with_reducible repeat (first | apply Kd.R_alloc | apply Kd.R_drewN | apply Kd.R_drew)); exact Kd.R_mono (Kd.R_far (p := ⟨gb1275, 2, none⟩) (Kd.R_far (p := ⟨gb1275, 1, none⟩) (Kd.R_far (p := ⟨gb1275, 0, none⟩) (Kd.R_types HO_1251004.out BK1275.out (by decide)) (fun _ hk => hk.2) (.bool t1271)) (fun _ hk => hk.2) (.string t1272)) (fun _ hk => hk.2) (.string t1273)) (fun _ hk => ⟨hk.1.1, hk.1.2⟩)⟩, ⟨by (with_reducible repeat (first | apply Kd.R_alloc | apply Kd.R_drewN | apply Kd.R_drew)); exact Kd.R_mono (Kd.R_far (p := ⟨gb1275, 2, none⟩) (Kd.R_far (p := ⟨gb1275, 1, none⟩) (Kd.R_far (p := ⟨gb1275, 0, none⟩) (Kd.R_types HO_1252004.out BK1275.out (by decide)) (fun _ hk => hk.2) (.bool t1271)) (fun _ hk => hk.2) (.string t1272)) (fun _ hk => hk.2) (.string t1273)) (fun _ hk => ⟨hk.1.1, hk.1.2⟩)⟩, ⟨by (with_reducible repeat (first | apply Kd.R_alloc | apply Kd.R_drewN | apply Kd.R_drew)); exact Kd.R_mono (Kd.R_far (p := ⟨gb1275, 2, none⟩) (Kd.R_far (p := ⟨gb1275, 1, none⟩) (Kd.R_far (p := ⟨gb1275, 0, none⟩) (Kd.R_types HO_1253004.out BK1275.out (by decide)) (fun _ hk => hk.2) (.bool t1271)) (fun _ hk => hk.2) (.string t1272)) (fun _ hk => hk.2) (.string t1273)) (fun _ hk => ⟨hk.1.1, hk.1.2⟩)⟩, ⟨by refine blk_far ?_ NB1226_1275.out _; refine blk_far ?_ NB1226_1275.out _; refine blk_far ?_ NB1226_1275.out _; exact BK1226.out⟩, ⟨by refine blk_far ?_ NB1227_1275.out _; refine blk_far ?_ NB1227_1275.out _; refine blk_far ?_ NB1227_1275.out _; exact BK1227.out⟩, ⟨by refine blk_far ?_ NB1250_1275.out _; refine blk_far ?_ NB1250_1275.out _; refine blk_far ?_ NB1250_1275.out _; exact BK1250.out⟩, ⟨by refine blk_far ?_ NB1251_1275.out _; refine blk_far ?_ NB1251_1275.out _; refine blk_far ?_ NB1251_1275.out _; exact BK1251.out⟩, ⟨by refine blk_far ?_ NB1252_1275.out _; refine blk_far ?_ NB1252_1275.out _; refine blk_far ?_ NB1252_1275.out _; exact BK1252.out⟩, ⟨by refine blk_far ?_ NB1270_1275.out _; refine blk_far ?_ NB1270_1275.out _; refine blk_far ?_ NB1270_1275.out _; exact BK1270.out⟩, ⟨by refine blk_put (cs := #[.bool t1271, .string t1272, .string (⟨#[]⟩ : ByteArray)]) ?_ 2 _ rfl; refine blk_put (cs := #[.bool t1271, .string (⟨#[]⟩ : ByteArray), .string (⟨#[]⟩ : ByteArray)]) ?_ 1 _ rfl; refine blk_put (cs := #[.bool false, .string (⟨#[]⟩ : ByteArray), .string (⟨#[]⟩ : ByteArray)]) ?_ 0 _ rfl; exact BK1275.out⟩, ⟨hb_⟩⟩
        ·replace c106 := Bool.eq_false_iff.mpr c106
         subst c106
         have H1 : (idiomlaw04_OperandLists.j2 kj70 t1260 false a0_0 a0_1 a0_2 a0_3 a0_4 a0_5 a0_6 a0_7 a0_8 a1_0 a1_1 a1_2 a1_3 l1_4 t1229 t1230 false false t1233) = some r := by rw [if_neg (show ¬ (false = true) by decide)] at H; exact H
         clear H
         have H := H1
         clear H1
         have H' := Aside0.mk H
         clear H
         go_wp2
         go_meet
         case rel => exact ⟨_, (false), (by first | rfl | (simp; done) | (simp [*]; done)), H', ⟨by have := HJ15.out; have := HJ70.out; first | exact Nat.le_refl _ | omega⟩, ⟨by (with_reducible repeat (first | apply Kd.R_alloc | apply Kd.R_drewN | apply Kd.R_drew)); exact Kd.R_mono (Kd.R_far (p := ⟨gb1275, 2, none⟩) (Kd.R_far (p := ⟨gb1275, 1, none⟩) (Kd.R_far (p := ⟨gb1275, 0, none⟩) (Kd.R_types HO_1251004.out BK1275.out (by decide)) (fun _ hk => hk.2) (.bool t1271)) (fun _ hk => hk.2) (.string t1272)) (fun _ hk => hk.2) (.string t1273)) (fun _ hk => ⟨hk.1.1, hk.1.2⟩)⟩, ⟨by (with_reducible repeat (first | apply Kd.R_alloc | apply Kd.R_drewN | apply Kd.R_drew)); exact Kd.R_mono (Kd.R_far (p := ⟨gb1275, 2, none⟩) (Kd.R_far (p := ⟨gb1275, 1, none⟩) (Kd.R_far (p := ⟨gb1275, 0, none⟩) (Kd.R_types HO_1252004.out BK1275.out (by decide)) (fun _ hk => hk.2) (.bool t1271)) (fun _ hk => hk.2) (.string t1272)) (fun _ hk => hk.2) (.string t1273)) (fun _ hk => ⟨hk.1.1, hk.1.2⟩)⟩, ⟨by (with_reducible repeat (first | apply Kd.R_alloc | apply Kd.R_drewN | apply Kd.R_drew)); exact Kd.R_mono (Kd.R_far (p := ⟨gb1275, 2, none⟩) (Kd.R_far (p := ⟨gb1275, 1, none⟩) (Kd.R_far (p := ⟨gb1275, 0, none⟩) (Kd.R_types HO_1253004.out BK1275.out (by decide)) (fun _ hk => hk.2) (.bool t1271)) (fun _ hk => hk.2) (.string t1272)) (fun _ hk => hk.2) (.string t1273)) (fun _ hk => ⟨hk.1.1, hk.1.2⟩)⟩, ⟨by refine blk_far ?_ NB1226_1275.out _; refine blk_far ?_ NB1226_1275.out _; refine blk_far ?_ NB1226_1275.out _; exact BK1226.out⟩, ⟨by refine blk_far ?_ NB1227_1275.out _; refine blk_far ?_ NB1227_1275.out _; refine blk_far ?_ NB1227_1275.out _; exact BK1227.out⟩, ⟨by refine blk_far ?_ NB1250_1275.out _; refine blk_far ?_ NB1250_1275.out _; refine blk_far ?_ NB1250_1275.out _; exact BK1250.out⟩, ⟨by refine blk_far ?_ NB1251_1275.out _; refine blk_far ?_ NB1251_1275.out _; refine blk_far ?_ NB1251_1275.out _; exact BK1251.out⟩, ⟨by refine blk_far ?_ NB1252_1275.out _; refine blk_far ?_ NB1252_1275.out _; refine blk_far ?_ NB1252_1275.out _; exact BK1252.out⟩, ⟨by refine blk_far ?_ NB1270_1275.out _; refine blk_far ?_ NB1270_1275.out _; refine blk_far ?_ NB1270_1275.out _; exact BK1270.out⟩, ⟨by refine blk_put (cs := #[.bool t1271, .string t1272, .string (⟨#[]⟩ : ByteArray)]) ?_ 2 _ rfl; refine blk_put (cs := #[.bool t1271, .string (⟨#[]⟩ : ByteArray), .string (⟨#[]⟩ : ByteArray)]) ?_ 1 _ rfl; refine blk_put (cs := #[.bool false, .string (⟨#[]⟩ : ByteArray), .string (⟨#[]⟩ : ByteArray)]) ?_ 0 _ rfl; exact BK1275.out⟩, ⟨hb_⟩⟩
       ·rw [if_neg c105] at H
        have c105b0 : (t1274 == 0) = false := beq_eq_false_iff_ne.mpr c105
        have c105b1 : (t1274 != 0) = true := bne_iff_ne.mpr c105
        have H' := Aside0.mk H
        clear H
        go_wp2
        go_meet
        case rel => exact ⟨_, (true), (by first | rfl | (simp; done) | (simp [*]; done)), H', ⟨by have := HJ15.out; have := HJ70.out; first | exact Nat.le_refl _ | omega⟩, ⟨by (with_reducible repeat (first | apply Kd.R_alloc | apply Kd.R_drewN | apply Kd.R_drew)); exact Kd.R_mono (Kd.R_far (p := ⟨gb1275, 2, none⟩) (Kd.R_far (p := ⟨gb1275, 1, none⟩) (Kd.R_far (p := ⟨gb1275, 0, none⟩) (Kd.R_types HO_1251004.out BK1275.out (by decide)) (fun _ hk => hk.2) (.bool t1271)) (fun _ hk => hk.2) (.string t1272)) (fun _ hk => hk.2) (.string t1273)) (fun _ hk => ⟨hk.1.1, hk.1.2⟩)⟩, ⟨by (with_reducible repeat (first | apply Kd.R_alloc | apply Kd.R_drewN | apply Kd.R_drew)); exact Kd.R_mono (Kd.R_far (p := ⟨gb1275, 2, none⟩) (Kd.R_far (p := ⟨gb1275, 1, none⟩) (Kd.R_far (p := ⟨gb1275, 0, none⟩) (Kd.R_types HO_1252004.out BK1275.out (by decide)) (fun _ hk => hk.2) (.bool t1271)) (fun _ hk => hk.2) (.string t1272)) (fun _ hk => hk.2) (.string t1273)) (fun _ hk => ⟨hk.1.1, hk.1.2⟩)⟩, ⟨by (with_reducible repeat (first | apply Kd.R_alloc | apply Kd.R_drewN | apply Kd.R_drew)); exact Kd.R_mono (Kd.R_far (p := ⟨gb1275, 2, none⟩) (Kd.R_far (p := ⟨gb1275, 1, none⟩) (Kd.R_far (p := ⟨gb1275, 0, none⟩) (Kd.R_types HO_1253004.out BK1275.out (by decide)) (fun _ hk => hk.2) (.bool t1271)) (fun _ hk => hk.2) (.string t1272)) (fun _ hk => hk.2) (.string t1273)) (fun _ hk => ⟨hk.1.1, hk.1.2⟩)⟩, ⟨by refine blk_far ?_ NB1226_1275.out _; refine blk_far ?_ NB1226_1275.out _; refine blk_far ?_ NB1226_1275.out _; exact BK1226.out⟩, ⟨by refine blk_far ?_ NB1227_1275.out _; refine blk_far ?_ NB1227_1275.out _; refine blk_far ?_ NB1227_1275.out _; exact BK1227.out⟩, ⟨by refine blk_far ?_ NB1250_1275.out _; refine blk_far ?_ NB1250_1275.out _; refine blk_far ?_ NB1250_1275.out _; exact BK1250.out⟩, ⟨by refine blk_far ?_ NB1251_1275.out _; refine blk_far ?_ NB1251_1275.out _; refine blk_far ?_ NB1251_1275.out _; exact BK1251.out⟩, ⟨by refine blk_far ?_ NB1252_1275.out _; refine blk_far ?_ NB1252_1275.out _; refine blk_far ?_ NB1252_1275.out _; exact BK1252.out⟩, ⟨by refine blk_far ?_ NB1270_1275.out _; refine blk_far ?_ NB1270_1275.out _; refine blk_far ?_ NB1270_1275.out _; exact BK1270.out⟩, ⟨by refine blk_put (cs := #[.bool t1271, .string t1272, .string (⟨#[]⟩ : ByteArray)]) ?_ 2 _ rfl; refine blk_put (cs := #[.bool t1271, .string (⟨#[]⟩ : ByteArray), .string (⟨#[]⟩ : ByteArray)]) ?_ 1 _ rfl; refine blk_put (cs := #[.bool false, .string (⟨#[]⟩ : ByteArray), .string (⟨#[]⟩ : ByteArray)]) ?_ 0 _ rfl; exact BK1275.out⟩, ⟨hb_⟩⟩
      ·rw [if_neg c104] at H
       have c104b0 : (t1269 == 0) = false := beq_eq_false_iff_ne.mpr c104
       have c104b1 : (t1269 != 0) = true := bne_iff_ne.mpr c104
       (first | rw [c104b0] | (simp only [i64_w, i32_w]; rw [c104b0]) | rw [c104b1] | skip)
       have H' := Aside0.mk H
       clear H
       go_wp2
       go_meet
       case rel => exact ⟨_, (true), (by first | rfl | (simp; done) | (simp [*]; done)), H', ⟨by have := HJ15.out; have := HJ70.out; first | exact Nat.le_refl _ | omega⟩, ⟨by (with_reducible repeat (first | apply Kd.R_alloc | apply Kd.R_drewN | apply Kd.R_drew)); exact Kd.R_mono (Kd.R_far (p := ⟨gb1275, 2, none⟩) (Kd.R_far (p := ⟨gb1275, 1, none⟩) (Kd.R_far (p := ⟨gb1275, 0, none⟩) (Kd.R_types HO_1251004.out BK1275.out (by decide)) (fun _ hk => hk.2) (.bool t1271)) (fun _ hk => hk.2) (.string t1272)) (fun _ hk => hk.2) (.string t1273)) (fun _ hk => ⟨hk.1.1, hk.1.2⟩)⟩, ⟨by (with_reducible repeat (first | apply Kd.R_alloc | apply Kd.R_drewN | apply Kd.R_drew)); exact Kd.R_mono (Kd.R_far (p := ⟨gb1275, 2, none⟩) (Kd.R_far (p := ⟨gb1275, 1, none⟩) (Kd.R_far (p := ⟨gb1275, 0, none⟩) (Kd.R_types HO_1252004.out BK1275.out (by decide)) (fun _ hk => hk.2) (.bool t1271)) (fun _ hk => hk.2) (.string t1272)) (fun _ hk => hk.2) (.string t1273)) (fun _ hk => ⟨hk.1.1, hk.1.2⟩)⟩, ⟨by (with_reducible repeat (first | apply Kd.R_alloc | apply Kd.R_drewN | apply Kd.R_drew)); exact Kd.R_mono (Kd.R_far (p := ⟨gb1275, 2, none⟩) (Kd.R_far (p := ⟨gb1275, 1, none⟩) (Kd.R_far (p := ⟨gb1275, 0, none⟩) (Kd.R_types HO_1253004.out BK1275.out (by decide)) (fun _ hk => hk.2) (.bool t1271)) (fun _ hk => hk.2) (.string t1272)) (fun _ hk => hk.2) (.string t1273)) (fun _ hk => ⟨hk.1.1, hk.1.2⟩)⟩, ⟨by refine blk_far ?_ NB1226_1275.out _; refine blk_far ?_ NB1226_1275.out _; refine blk_far ?_ NB1226_1275.out _; exact BK1226.out⟩, ⟨by refine blk_far ?_ NB1227_1275.out _; refine blk_far ?_ NB1227_1275.out _; refine blk_far ?_ NB1227_1275.out _; exact BK1227.out⟩, ⟨by refine blk_far ?_ NB1250_1275.out _; refine blk_far ?_ NB1250_1275.out _; refine blk_far ?_ NB1250_1275.out _; exact BK1250.out⟩, ⟨by refine blk_far ?_ NB1251_1275.out _; refine blk_far ?_ NB1251_1275.out _; refine blk_far ?_ NB1251_1275.out _; exact BK1251.out⟩, ⟨by refine blk_far ?_ NB1252_1275.out _; refine blk_far ?_ NB1252_1275.out _; refine blk_far ?_ NB1252_1275.out _; exact BK1252.out⟩, ⟨by refine blk_far ?_ NB1270_1275.out _; refine blk_far ?_ NB1270_1275.out _; refine blk_far ?_ NB1270_1275.out _; exact BK1270.out⟩, ⟨by refine blk_put (cs := #[.bool t1271, .string t1272, .string (⟨#[]⟩ : ByteArray)]) ?_ 2 _ rfl; refine blk_put (cs := #[.bool t1271, .string (⟨#[]⟩ : ByteArray), .string (⟨#[]⟩ : ByteArray)]) ?_ 1 _ rfl; refine blk_put (cs := #[.bool false, .string (⟨#[]⟩ : ByteArray), .string (⟨#[]⟩ : ByteArray)]) ?_ 0 _ rfl; exact BK1275.out⟩, ⟨hb_⟩⟩
     case rest =>
      clear HC77
      (try clear c8); (try clear c69); (try clear c70); (try clear c70b0); (try clear c70b1); (try clear c74); (try clear hcz103_0); (try clear hcz103_1); (try clear hcz103_2); (try clear hcz48_0); (try clear hcz48_1); (try clear hcz48_2); (try clear hcz48_3); (try clear hcz48_4); (try clear hcz52_0); (try clear hcz52_1); (try clear hcz52_2); (try clear hcz52_3); (try clear hcz52_4); (try clear hcz55_0); (try clear hcz55_1); (try clear hcz55_2); (try clear hcz55_3); (try clear hcz55_4); (try clear hcz62_0); (try clear hcz62_1); (try clear hcz62_2); (try clear hcz62_3); (try clear hcz62_4); (try clear hcz62_5); (try clear hcz62_6); (try clear hcz62_7); (try clear hcz62_8); (try clear hcz63_0); (try clear hcz63_1); (try clear hcz63_2); (try clear hcz63_3); (try clear hcz63_4); (try clear hcz65_0); (try clear hcz65_1); (try clear hcz65_2); (try clear hcz65_3); (try clear hcz65_4); (try clear hcz65_5); (try clear hcz65_6); (try clear hcz65_7); (try clear hcz65_8); (try clear hcz66_0); (try clear hcz66_1); (try clear hcz66_2); (try clear hcz66_3); (try clear hcz66_4); (try clear hcz82_0); (try clear hcz82_1); (try clear hcz82_2); (try clear hcz82_3); (try clear hcz82_4); (try clear hcz82_5); (try clear hcz82_6); (try clear hcz82_7); (try clear hcz82_8); (try clear hcz86_0); (try clear hcz86_1); (try clear hcz86_2); (try clear hcz86_3); (try clear hcz86_4); (try clear hcz94_0); (try clear hcz94_1); (try clear hcz94_2); (try clear hfz103_0); (try clear hfz103_1); (try clear hfz103_2); (try clear hfz48_0); (try clear hfz48_1); (try clear hfz48_2); (try clear hfz48_3); (try clear hfz48_4); (try clear hfz52_0); (try clear hfz52_1); (try clear hfz52_2); (try clear hfz52_3); (try clear hfz52_4); (try clear hfz55_0); (try clear hfz55_1); (try clear hfz55_2); (try clear hfz55_3); (try clear hfz55_4); (try clear hfz62_0); (try clear hfz62_1); (try clear hfz62_2); (try clear hfz62_3); (try clear hfz62_4); (try clear hfz62_5); (try clear hfz62_6); (try clear hfz62_7); (try clear hfz62_8); (try clear hfz63_0); (try clear hfz63_1); (try clear hfz63_2); (try clear hfz63_3); (try clear hfz63_4); (try clear hfz65_0); (try clear hfz65_1); (try clear hfz65_2); (try clear hfz65_3); (try clear hfz65_4); (try clear hfz65_5); (try clear hfz65_6); (try clear hfz65_7); (try clear hfz65_8); (try clear hfz66_0); (try clear hfz66_1); (try clear hfz66_2); (try clear hfz66_3); (try clear hfz66_4); (try clear hfz82_0); (try clear hfz82_1); (try clear hfz82_2); (try clear hfz82_3); (try clear hfz82_4); (try clear hfz82_5); (try clear hfz82_6); (try clear hfz82_7); (try clear hfz82_8); (try clear hfz86_0); (try clear hfz86_1); (try clear hfz86_2); (try clear hfz86_3); (try clear hfz86_4); (try clear hfz94_0); (try clear hfz94_1); (try clear hfz94_2)
      rename_i z5_1 z5_2 z5_3 z5_4 z5_5 z5_6 z5_7 z5_8 z5_9 z5_10 z5_11 z5_12 z5_13 z5_14 z5_15 z5_16 z5_17 z5_18 z5_19 z5_20 z5_21 z5_22 z5_23 z5_24 z5_25 z5_26 z5_27 z5_28 z5_29 z5_30 z5_31 z5_32 z5_33 z5_34 z5_35 z5_36 z5_37 z5_38 z5_39 z5_40 z5_41 z5_42 z5_43 z5_44 z5_45 z5_46 z5_47 z5_48 z5_49 z5_50 z5_51 z5_52 z5_53 z5_54 z5_55 z5_56 z5_57 z5_58 z5_59 z5_60 z5_61 z5_62 z5_63 z5_64 z5_65 z5_66 z5_67 z5_68 z5_69 z5_70 z5_71 z5_72 z5_73 z5_74 z5_75 z5_76 z5_77 z5_78 z5_79 z5_80 z5_81 z5_82 z5_83 z5_84 z5_85 z5_86 z5_87 z5_88 z5_89 z5_90 z5_91 z5_92 z5_93 z5_94 z5_95 z5_96 z5_97 z5_98 z5_99 z5_100 z5_101 z5_102 z5_103 z5_104 z5_105 z5_106 z5_107 z5_108 z5_109 z5_110 z5_111 z5_112 z5_113 z5_114 z5_115 z5_116 z5_117 z5_118 z5_119 z5_120 z5_121 z5_122 z5_123 z5_124 z5_125 z5_126 z5_127 z5_128 z5_129 z5_130 z5_131 z5_132 z5_133 z5_134 z5_135 z5_136 z5_137 z5_138 z5_139 z5_140 z5_141 z5_142 z5_143 z5_144 z5_145 z5_146 z5_147 z5_148 z5_149 z5_150 z5_151 z5_152 z5_153 z5_154 z5_155 z5_156 z5_157 z5_158 z5_159 z5_160 z5_161 z5_162 z5_163 z5_164 z5_165 z5_166 z5_167 z5_168 z5_169 z5_170
      revert k a0_0 a0_1 a0_2 a0_3 a0_4 a0_5 a0_6 a0_7 a0_8 a1_0 a1_1 a1_2 a1_3 A1_4 c1_4 l1_4 r w hu45 hu54 hu23 hu60 HR1_4 HC1_4 HTB z3_1 gb1226 w5 GW1226 GE1226 gb1227 w6 GW1227 GE1227 NB1226_1227 LB1226_1227 NB1227_1226 w7 z3_2 A3 t1229 t1230 t1231 t1232 t1233 A9 t1236 t1237 t1238 t1239 t1240 A10 t1243 t1244 t1245 t1246 t1247 A11 t1253 t1254 t1255 t1256 t1257 A12 t1260 t1261 A13 t1262 t1263 A14 t1264 t1265 A15 z3_3 z3_4 z3_5 w17 z3_6 gb1250 gb1251 gb1252 w24 z3_7 GW1250 GE1250 LB1226_1250 NB1250_1226 LB1227_1250 NB1250_1227 NB1251_1250 NB1250_1251 NB1252_1250 NB1250_1252 GW1251 GE1251 LB1226_1251 NB1251_1226 LB1227_1251 NB1251_1227 NB1252_1251 NB1251_1252 GW1252 GE1252 LB1226_1252 NB1252_1226 LB1227_1252 NB1252_1227 NB1226_1250 NB1227_1250 NB1226_1251 NB1227_1251 NB1226_1252 NB1227_1252 Ao29 co29 Ao35 co35 Ao41 co41 z3_8 z3_9 z3_10 w43 hnb44 hnc44 hnb45 hnc45 hnb46 hnc46 hnb47 hnc47 hnb49 hnc49 hnb50 hnc50 hnb51 hnc51 hnb53 hnc53 hnb54 hnc54 w56 HT_ HW_ w57 z3_11 w58 Ao59 co59 z3_12 w60 hHeld hnb61 hnc61 w64 z3_13 w67 z5_1 HO1235 HO1242 HO1249 HO1259 z4_1 z4_2 z4_3 z4_4 z4_5 z4_6 z4_7 z4_8 z4_9 z4_10 z4_11 z4_12 z4_13 z4_14 z4_15 z4_16 z4_17 z4_18 z4_19 z4_20 z4_21 z4_22 z4_23 z4_24 z4_25 z4_26 z4_27 z4_28 z4_29 z4_30 z4_31 z4_32 z4_33 z4_34 z4_35 z4_36 z4_37 z4_38 z4_39 z4_40 z4_41 z4_42 z4_43 z4_44 z4_45 z4_46 z4_47 z4_48 z4_49 z4_50 z4_51 z4_52 z4_53 z4_54 z4_55 z4_56 z4_57 z4_58 z4_59 z4_60 z4_61 z4_62 z4_63 z4_64 z4_65 z4_66 z4_67 z4_68 z4_69 z4_70 z4_71 z4_72 z4_73 z4_74 z4_75 z4_76 z4_77 z4_78 z4_79 z4_80 z4_81 z4_82 z4_83 z4_84 z4_85 z4_86 z4_87 z4_88 z4_89 z4_90 z4_91 z4_92 z4_93 z4_94 z4_95 z4_96 z4_97 z4_98 z4_99 z4_100 z4_101 z4_102 z4_103 z4_104 z4_105 z4_106 z4_107 z4_108 z4_109 z4_110 z4_111 z4_112 z4_113 z4_114 z4_115 z4_116 z4_117 z4_118 z4_119 z4_120 z4_121 z4_122 z4_123 z4_124 z4_125 z4_126 z4_127 z4_128 z4_129 z4_130 z4_131 z4_132 z4_133 z4_134 z4_135 z4_136 z4_137 z4_138 z4_139 z4_140 z4_141 z4_142 z4_143 z4_144 z4_145 z4_146 z4_147 z4_148 z4_149 z4_150 z4_151 z4_152 z4_153 z4_154 z4_155 z4_156 z4_157 z4_158 z4_159 z4_160 z4_161 z5_2 z5_3 z5_4 z5_5 z5_6 z5_7 z5_8 z5_9 z5_10 kj15 HJ15 z5_11 z5_12 z5_13 z5_14 z5_15 z5_16 z5_17 z5_18 z5_19 z5_20 z5_21 z5_22 z5_23 z5_24 z5_25 z5_26 z5_27 z5_28 z5_29 z5_30 z5_31 z5_32 z5_33 z5_34 z5_35 z5_36 z5_37 z5_38 z5_39 z5_40 z5_41 z5_42 z5_43 z5_44 z5_45 z5_46 z5_47 z5_48 z5_49 z5_50 z5_51 z5_52 z5_53 z5_54 z5_55 z5_56 z5_57 z5_58 z5_59 z5_60 z5_61 z5_62 z5_63 z5_64 z5_65 z5_66 z5_67 z5_68 z5_69 z5_70 z5_71 z5_72 z5_73 z5_74 z5_75 z5_76 z5_77 z5_78 z5_79 z5_80 z5_81 z5_82 z5_83 z5_84 z5_85 z5_86 z5_87 z5_88 z5_89 z5_90 z5_91 z5_92 z5_93 z5_94 z5_95 z5_96 z5_97 z5_98 z5_99 z5_100 z5_101 z5_102 z5_103 z5_104 z5_105 z5_106 z5_107 z5_108 z5_109 z5_110 z5_111 z5_112 z5_113 z5_114 z5_115 z5_116 z5_117 z5_118 z5_119 z5_120 z5_121 z5_122 z5_123 z5_124 z5_125 z5_126 z5_127 z5_128 z5_129 z5_130 z5_131 z5_132 z5_133 z5_134 z5_135 z5_136 z5_137 z5_138 z5_139 z5_140 z5_141 z5_142 z5_143 z5_144 z5_145 z5_146 z5_147 z5_148 z5_149 z5_150 z5_151 z5_152 z5_153 z5_154 z5_155 z5_156 z5_157 z5_158 z5_159 z5_160 z5_161 z5_162 z5_163 z5_164 z5_165 kj70 HJ70 t1266 t1267 t1268 t1269 A75 t1271 t1272 t1273 t1274 A76 hnb78 hnc78 hnb79 hnc79 hnb80 hnc80 hnb81 hnc81 hnb83 hnc83 hnb84 hnc84 hnb85 hnc85 w87 z5_166 gb1270 w88 GW1270 GE1270 NB1226_1270 LB1226_1270 NB1270_1226 NB1227_1270 LB1227_1270 NB1270_1227 NB1250_1270 LB1250_1270 NB1270_1250 NB1251_1270 LB1251_1270 NB1270_1251 NB1252_1270 LB1252_1270 NB1270_1252 hnb89 hnc89 hnb90 hnc90 hnb91 hnc91 hnb92 hnc92 hnb93 hnc93 w95 hb gb1275 w96 BK1275 GW1275 GE1275 NB1226_1275 LB1226_1275 NB1275_1226 NB1227_1275 LB1227_1275 NB1275_1227 NB1250_1275 LB1250_1275 NB1275_1250 NB1251_1275 LB1251_1275 NB1275_1251 NB1252_1275 LB1252_1275 NB1275_1252 NB1270_1275 LB1270_1275 NB1275_1270 HO_1251004 HO_1252004 HO_1253004 BK1226 BK1227 BK1250 BK1251 BK1252 BK1270 HB hnb97 hnc97 hnb98 hnc98 hnb99 hnc99 hnb100 hnc100 hnb101 hnc101 hnb102 hnc102 z5_167 z5_168 z5_169 z5_170 wc u25 u26 u27 u28 u29 u30 u31 u32 u33 u34 u35 u36 u37 u38 u39 u40 u41 u42 u43 u44 u45 u46 u47 u48 u49 u50 u51 u52 u53 u54 u55 u56 u57 u58 u59 u60 u61 u62 u63 u64 u65 u66 u67 u68 u69 u70 u71 u72 u73 u74 u75 u76 u77 u78 u79 u80 u81 u82 u83 u84 u85 u86 u87 u88 u89 u90 u91 u92 u93 u94 u95 u96 u97 u98 u99 u100 u101 u102 u103 u104 u105 u106 u107 u108 u109 u110 u111 u112 u113 u114 u115 u116 u117 u118 u119 u120 u121 u122 u123 u124 u125 u126 u127 u128 u129 u130 u131 u132 u133 u134 u135 u136 u137 u138 u139 u140 u141 u142 u143 u144 u145 u146 u147 u148 u149 u150 u151 u152 u153 u154 u155 u156 u157 u158 u159 u160 u161 u162 u163 u164 u165 u166 u167 u168 u169 u170 u171 u172 u173 u174 u175 u176 u177 u178 u179 hcut
      exact hrest5.out
end Go.Proofs.YtihjcaglhjepdaaDoor.P
