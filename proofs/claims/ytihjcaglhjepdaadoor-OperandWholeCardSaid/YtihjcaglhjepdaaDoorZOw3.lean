/- A part of the proof. Part 4 of 6; its texts were written by programs, some out of the kit's print. -/
import Derived.Test.YtihjcaglhjepdaaDoorZOw2
namespace Go.Proofs.YtihjcaglhjepdaaDoor.P
open Go.RowKit Go.Proofs.YtihjcaglhjepdaaDoorW.PrintWords Go.Proofs.YtihjcaglhjepdaaDoorW.PrintLast Go.Proofs.YtihjcaglhjepdaaDoorW.PrintMore
attribute [local go_sem] max2_int max_two
set_option linter.unusedVariables false
set_option linter.unusedSimpArgs false
attribute [local go_sem high] eqA23 eqA45
def idiomlaw04_awake.f (k : Nat)  : Option (Bool) := (operand_Of.f k false (⟨#[49]⟩ : ByteArray) (⟨#[53, 48]⟩ : ByteArray) 0).bind fun bt1008 => ((operand_Get.f k bt1008.1 bt1008.2.1 bt1008.2.2.1 bt1008.2.2.2.1 bt1008.2.2.2.2.1 bt1008.2.2.2.2.2.1 bt1008.2.2.2.2.2.2.1 bt1008.2.2.2.2.2.2.2.1 bt1008.2.2.2.2.2.2.2.2.1 (⟨#[116]⟩ : ByteArray)).bind fun bt1019 => (if bt1008.2.2.2.2.2.2.2.2.2 = 0 then (if ((!bt1008.1 && (bt1008.2.1.toList == ([49] : List UInt8) && (bt1008.2.2.1.toList == ([53] : List UInt8)))) && (bt1008.2.2.2.1.toList == ([49] : List UInt8) && (bt1008.2.2.2.2.1 == 2 && (bt1008.2.2.2.2.2.1 == 1 && (bt1008.2.2.2.2.2.2.1.toList == ([53, 48] : List UInt8) && (bt1008.2.2.2.2.2.2.2.1.toList == ([53] : List UInt8) && (bt1008.2.2.2.2.2.2.2.2.1 == 0))))))) = true then (if bt1019.2.2.2 = 0 then (some (!bt1019.1 && (bt1019.2.1.toList == ([53] : List UInt8) && (bt1019.2.2.1.toList == ([] : List UInt8))))) else (some false)) else (some false)) else (some false)))
theorem idiomlaw04_awake.mono : ∀ k, LeO (idiomlaw04_awake.f k ) (idiomlaw04_awake.f (k + 1) ) := by
 intro  k
 unfold idiomlaw04_awake.f
 repeat' first
   | (with_reducible exact operand_Get.mono _ _ _ _ _ _ _ _ _ _ _)
   | (with_reducible exact operand_Of.mono _ _ _ _ _)
   | (with_reducible exact LeO.refl _)
   | (with_reducible exact LeO.none _)
   | (with_reducible refine LeO.ite ?_ ?_)
   | (with_reducible refine LeO.bind ?_ (fun _ => ?_))
   | exact operand_Get.mono _ _ _ _ _ _ _ _ _ _ _
   | exact operand_Of.mono _ _ _ _ _
   | exact LeO.none _
   | refine LeO.ite ?_ ?_
   | refine LeO.bind ?_ (fun _ => ?_)
set_option maxHeartbeats 8000000 in
set_option maxRecDepth 100000 in
theorem idiomlaw04_awake.calls (k : Nat)  (r : Bool) (w : World) (ht : TB w) (h : idiomlaw04_awake.f k  = some r) :
    Calls Tryd.prog 49 #[] w fun e w' => e = .returned (.bool r) ∧ Below w.heap.size w w' := by
 have hu23 := Tryd.underlying23
 have hu45 := Tryd.underlying45
 have HTB := Aside0.mk ht
 clear ht
 have HB := Aside0.mk (Below.refl w.heap.size w)
 unfold idiomlaw04_awake.f at h
 have H := h
 clear h
 replace H := Option.bind_eq_some_iff.mp H
 obtain ⟨⟨t1008, t1009, t1010, t1011, t1012, t1013, t1014, t1015, t1016, t1017⟩, A10, H⟩ := H
 try dsimp only at H
 have A1 := Aside0.mk A10
 clear A10
 replace H := Option.bind_eq_some_iff.mp H
 obtain ⟨⟨t1019, t1020, t1021, t1022⟩, A20, H⟩ := H
 try dsimp only at H
 have A2 := Aside0.mk A20
 clear A20
 by_cases c3 : t1017 = 0
 ·rw [if_pos c3] at H
  have c3b0 : (t1017 == 0) = true := beq_iff_eq.mpr c3
  have c3b1 : (t1017 != 0) = false := bne_eq_false_iff_eq.mpr c3
  clear c3
  by_cases c4 : ((!t1008 && (t1009.toList == ([49] : List UInt8) && (t1010.toList == ([53] : List UInt8)))) && (t1011.toList == ([49] : List UInt8) && (t1012 == 2 && (t1013 == 1 && (t1014.toList == ([53, 48] : List UInt8) && (t1015.toList == ([53] : List UInt8) && (t1016 == 0))))))) = true
  ·rw [if_pos c4] at H
   have c4b0 : ((!t1008 && (t1009.toList == ([49] : List UInt8) && (t1010.toList == ([53] : List UInt8)))) && (t1011.toList == ([49] : List UInt8) && (t1012 == 2 && (t1013 == 1 && (t1014.toList == ([53, 48] : List UInt8) && (t1015.toList == ([53] : List UInt8) && (t1016 == 0))))))) = true := c4
   clear c4
   by_cases c5 : t1022 = 0
   ·rw [if_pos c5] at H
    have c5b0 : (t1022 == 0) = true := beq_iff_eq.mpr c5
    have c5b1 : (t1022 != 0) = false := bne_eq_false_iff_eq.mpr c5
    clear c5
    obtain rfl := Option.some.inj H
    go_enter Tryd.func49, Tryd.ntmps49
    go_wp2_with (first | ((with_reducible refine gate_callee (f := 45) rfl ?_); refine gL_ (some 7) Tryd.func45 #[.agg #[.bool false, .string (⟨#[49]⟩ : ByteArray), .string (⟨#[53, 48]⟩ : ByteArray)], .int .i64 0] ?_; (with_reducible refine (operand_Of.calls k false (⟨#[49]⟩ : ByteArray) (⟨#[53, 48]⟩ : ByteArray) 0 t1008 t1009 t1010 t1011 t1012 t1013 t1014 t1015 t1016 t1017 _ A1.out).mono ?_); rintro e w6 ⟨rfl, hb⟩; refine ⟨_, rfl, ?_⟩; replace HB := Aside0.mk (below_step hb_ hb)) | ((with_reducible refine gate_dst (N := 1) rfl ?_); refine bx_ #[.bool false, .string (⟨#[]⟩ : ByteArray), .string (⟨#[]⟩ : ByteArray), .string (⟨#[]⟩ : ByteArray), .int .i64 0, .int .i64 0, .string (⟨#[]⟩ : ByteArray), .string (⟨#[]⟩ : ByteArray), .int .i64 0] 45 ?_; intro gb1018 hg w7 hbox hb; have BK1018 := Aside0.mk (hbox); have GW1018 := Aside0.mk ((by rw [hg]; exact (below_size hb_) : w.heap.size ≤ gb1018)); have GE1018 := Aside0.mk ((by rw [hg]; exact (below_size hb_) : w.heap.size ≤ gb1018)); replace HB := Aside0.mk (below_step hb_ hb); clear hb hbox hg; have hcz8_0 : w7.cell? ⟨gb1018, 0, none⟩ = some (.bool false) := (blk_cell BK1018.out 0).trans rfl; have hcz8_1 : w7.cell? ⟨gb1018, 1, none⟩ = some (.string (⟨#[]⟩ : ByteArray)) := (blk_cell BK1018.out 1).trans rfl; have hcz8_2 : w7.cell? ⟨gb1018, 2, none⟩ = some (.string (⟨#[]⟩ : ByteArray)) := (blk_cell BK1018.out 2).trans rfl; have hcz8_3 : w7.cell? ⟨gb1018, 3, none⟩ = some (.string (⟨#[]⟩ : ByteArray)) := (blk_cell BK1018.out 3).trans rfl; have hcz8_4 : w7.cell? ⟨gb1018, 4, none⟩ = some (.int .i64 0) := (blk_cell BK1018.out 4).trans rfl; have hcz8_5 : w7.cell? ⟨gb1018, 5, none⟩ = some (.int .i64 0) := (blk_cell BK1018.out 5).trans rfl; have hcz8_6 : w7.cell? ⟨gb1018, 6, none⟩ = some (.string (⟨#[]⟩ : ByteArray)) := (blk_cell BK1018.out 6).trans rfl; have hcz8_7 : w7.cell? ⟨gb1018, 7, none⟩ = some (.string (⟨#[]⟩ : ByteArray)) := (blk_cell BK1018.out 7).trans rfl; have hcz8_8 : w7.cell? ⟨gb1018, 8, none⟩ = some (.int .i64 0) := (blk_cell BK1018.out 8).trans rfl; have hfz8_0 := blk_frozen BK1018.out 0; have hfz8_1 := blk_frozen BK1018.out 1; have hfz8_2 := blk_frozen BK1018.out 2; have hfz8_3 := blk_frozen BK1018.out 3; have hfz8_4 := blk_frozen BK1018.out 4; have hfz8_5 := blk_frozen BK1018.out 5; have hfz8_6 := blk_frozen BK1018.out 6; have hfz8_7 := blk_frozen BK1018.out 7; have hfz8_8 := blk_frozen BK1018.out 8) | ((with_reducible refine gate_callee (f := 85) rfl ?_); refine gL_ (some 12) Tryd.func85 #[.agg #[.bool t1008, .string t1009, .string t1010, .string t1011, .int .i64 t1012, .int .i64 t1013, .string t1014, .string t1015, .int .i64 t1016], .string (⟨#[116]⟩ : ByteArray)] ?_; (with_reducible refine (operand_Get.calls k t1008 t1009 t1010 t1011 t1012 t1013 t1014 t1015 t1016 (⟨#[116]⟩ : ByteArray) t1019 t1020 t1021 t1022 _ (TB.below HTB.out hb_) A2.out).mono ?_); rintro e w9 ⟨rfl, hb⟩; refine ⟨_, rfl, ?_⟩; replace BK1018 := Aside0.mk (blk_below (g := gb1018) (o := .cells #[.bool t1008, .string t1009, .string t1010, .string t1011, .int .i64 t1012, .int .i64 t1013, .string t1014, .string t1015, .int .i64 t1016] 45 (0, 0)) (by refine blk_put (cs := #[.bool t1008, .string t1009, .string t1010, .string t1011, .int .i64 t1012, .int .i64 t1013, .string t1014, .string t1015, .int .i64 0]) ?_ 8 _ rfl; refine blk_put (cs := #[.bool t1008, .string t1009, .string t1010, .string t1011, .int .i64 t1012, .int .i64 t1013, .string t1014, .string (⟨#[]⟩ : ByteArray), .int .i64 0]) ?_ 7 _ rfl; refine blk_put (cs := #[.bool t1008, .string t1009, .string t1010, .string t1011, .int .i64 t1012, .int .i64 t1013, .string (⟨#[]⟩ : ByteArray), .string (⟨#[]⟩ : ByteArray), .int .i64 0]) ?_ 6 _ rfl; refine blk_put (cs := #[.bool t1008, .string t1009, .string t1010, .string t1011, .int .i64 t1012, .int .i64 0, .string (⟨#[]⟩ : ByteArray), .string (⟨#[]⟩ : ByteArray), .int .i64 0]) ?_ 5 _ rfl; refine blk_put (cs := #[.bool t1008, .string t1009, .string t1010, .string t1011, .int .i64 0, .int .i64 0, .string (⟨#[]⟩ : ByteArray), .string (⟨#[]⟩ : ByteArray), .int .i64 0]) ?_ 4 _ rfl; refine blk_put (cs := #[.bool t1008, .string t1009, .string t1010, .string (⟨#[]⟩ : ByteArray), .int .i64 0, .int .i64 0, .string (⟨#[]⟩ : ByteArray), .string (⟨#[]⟩ : ByteArray), .int .i64 0]) ?_ 3 _ rfl; refine blk_put (cs := #[.bool t1008, .string t1009, .string (⟨#[]⟩ : ByteArray), .string (⟨#[]⟩ : ByteArray), .int .i64 0, .int .i64 0, .string (⟨#[]⟩ : ByteArray), .string (⟨#[]⟩ : ByteArray), .int .i64 0]) ?_ 2 _ rfl; refine blk_put (cs := #[.bool t1008, .string (⟨#[]⟩ : ByteArray), .string (⟨#[]⟩ : ByteArray), .string (⟨#[]⟩ : ByteArray), .int .i64 0, .int .i64 0, .string (⟨#[]⟩ : ByteArray), .string (⟨#[]⟩ : ByteArray), .int .i64 0]) ?_ 1 _ rfl; refine blk_put (cs := #[.bool false, .string (⟨#[]⟩ : ByteArray), .string (⟨#[]⟩ : ByteArray), .string (⟨#[]⟩ : ByteArray), .int .i64 0, .int .i64 0, .string (⟨#[]⟩ : ByteArray), .string (⟨#[]⟩ : ByteArray), .int .i64 0]) ?_ 0 _ rfl; exact BK1018.out) hb); replace HB := Aside0.mk (below_step hb_ hb)) | ((with_reducible refine gate_dst (N := 3) rfl ?_); refine bx_ #[.bool false, .string (⟨#[]⟩ : ByteArray), .string (⟨#[]⟩ : ByteArray)] 23 ?_; intro gb1023 hg w10 hbox hb; have BK1023 := Aside0.mk (hbox); have GW1023 := Aside0.mk ((by rw [hg]; exact (below_size hb_) : w.heap.size ≤ gb1023)); have GE1023 := Aside0.mk ((by rw [hg]; exact (below_size hb_) : w.heap.size ≤ gb1023)); have NB1018_1023 := BK1018.nl hg; have NB1023_1018 := BK1018.ng hg; replace BK1018 := BK1018.bl hb; replace HB := Aside0.mk (below_step hb_ hb); clear hb hbox hg; have hnb11 := NB1023_1018.out; have hnc11 := NB1018_1023.out; obtain ⟨hcz12_0, hcz12_1, hcz12_2, hfz12_0, hfz12_1, hfz12_2⟩ := BK1023.c3; have hcz13_0 : w10.cell? ⟨gb1018, 0, none⟩ = some (.bool t1008) := (blk_cell BK1018.out 0).trans rfl; have hcz13_1 : w10.cell? ⟨gb1018, 1, none⟩ = some (.string t1009) := (blk_cell BK1018.out 1).trans rfl; have hcz13_2 : w10.cell? ⟨gb1018, 2, none⟩ = some (.string t1010) := (blk_cell BK1018.out 2).trans rfl; have hcz13_3 : w10.cell? ⟨gb1018, 3, none⟩ = some (.string t1011) := (blk_cell BK1018.out 3).trans rfl; have hcz13_4 : w10.cell? ⟨gb1018, 4, none⟩ = some (.int .i64 t1012) := (blk_cell BK1018.out 4).trans rfl; have hcz13_5 : w10.cell? ⟨gb1018, 5, none⟩ = some (.int .i64 t1013) := (blk_cell BK1018.out 5).trans rfl; have hcz13_6 : w10.cell? ⟨gb1018, 6, none⟩ = some (.string t1014) := (blk_cell BK1018.out 6).trans rfl; have hcz13_7 : w10.cell? ⟨gb1018, 7, none⟩ = some (.string t1015) := (blk_cell BK1018.out 7).trans rfl; have hcz13_8 : w10.cell? ⟨gb1018, 8, none⟩ = some (.int .i64 t1016) := (blk_cell BK1018.out 8).trans rfl; have hfz13_0 := blk_frozen BK1018.out 0; have hfz13_1 := blk_frozen BK1018.out 1; have hfz13_2 := blk_frozen BK1018.out 2; have hfz13_3 := blk_frozen BK1018.out 3; have hfz13_4 := blk_frozen BK1018.out 4; have hfz13_5 := blk_frozen BK1018.out 5; have hfz13_6 := blk_frozen BK1018.out 6; have hfz13_7 := blk_frozen BK1018.out 7; have hfz13_8 := blk_frozen BK1018.out 8))
    go_ret
    exact ⟨by first | rfl | (simp [errW_none, errW_some] <;> rfl) | (simp [*, errW_none, errW_some] <;> rfl) | (simp [bne_nil_]; done), by repeat (first | (with_reducible first | exact HB.out | apply below_alloc | apply pw_below_drewN | apply below_drew1 | refine below_set ?_ GE1018.out | refine below_set ?_ GE1023.out) | exact HB.out)⟩
   ·rw [if_neg c5] at H
    have c5b0 : (t1022 == 0) = false := beq_eq_false_iff_ne.mpr c5
    have c5b1 : (t1022 != 0) = true := bne_iff_ne.mpr c5
    obtain rfl := Option.some.inj H
    go_enter Tryd.func49, Tryd.ntmps49
    go_wp2_with (first | ((with_reducible refine gate_callee (f := 45) rfl ?_); refine gL_ (some 7) Tryd.func45 #[.agg #[.bool false, .string (⟨#[49]⟩ : ByteArray), .string (⟨#[53, 48]⟩ : ByteArray)], .int .i64 0] ?_; (with_reducible refine (operand_Of.calls k false (⟨#[49]⟩ : ByteArray) (⟨#[53, 48]⟩ : ByteArray) 0 t1008 t1009 t1010 t1011 t1012 t1013 t1014 t1015 t1016 t1017 _ A1.out).mono ?_); rintro e w14 ⟨rfl, hb⟩; refine ⟨_, rfl, ?_⟩; replace HB := Aside0.mk (below_step hb_ hb)) | ((with_reducible refine gate_dst (N := 1) rfl ?_); refine bx_ #[.bool false, .string (⟨#[]⟩ : ByteArray), .string (⟨#[]⟩ : ByteArray), .string (⟨#[]⟩ : ByteArray), .int .i64 0, .int .i64 0, .string (⟨#[]⟩ : ByteArray), .string (⟨#[]⟩ : ByteArray), .int .i64 0] 45 ?_; intro gb1018 hg w15 hbox hb; have BK1018 := Aside0.mk (hbox); have GW1018 := Aside0.mk ((by rw [hg]; exact (below_size hb_) : w.heap.size ≤ gb1018)); have GE1018 := Aside0.mk ((by rw [hg]; exact (below_size hb_) : w.heap.size ≤ gb1018)); replace HB := Aside0.mk (below_step hb_ hb); clear hb hbox hg; have hcz16_0 : w15.cell? ⟨gb1018, 0, none⟩ = some (.bool false) := (blk_cell BK1018.out 0).trans rfl; have hcz16_1 : w15.cell? ⟨gb1018, 1, none⟩ = some (.string (⟨#[]⟩ : ByteArray)) := (blk_cell BK1018.out 1).trans rfl; have hcz16_2 : w15.cell? ⟨gb1018, 2, none⟩ = some (.string (⟨#[]⟩ : ByteArray)) := (blk_cell BK1018.out 2).trans rfl; have hcz16_3 : w15.cell? ⟨gb1018, 3, none⟩ = some (.string (⟨#[]⟩ : ByteArray)) := (blk_cell BK1018.out 3).trans rfl; have hcz16_4 : w15.cell? ⟨gb1018, 4, none⟩ = some (.int .i64 0) := (blk_cell BK1018.out 4).trans rfl; have hcz16_5 : w15.cell? ⟨gb1018, 5, none⟩ = some (.int .i64 0) := (blk_cell BK1018.out 5).trans rfl; have hcz16_6 : w15.cell? ⟨gb1018, 6, none⟩ = some (.string (⟨#[]⟩ : ByteArray)) := (blk_cell BK1018.out 6).trans rfl; have hcz16_7 : w15.cell? ⟨gb1018, 7, none⟩ = some (.string (⟨#[]⟩ : ByteArray)) := (blk_cell BK1018.out 7).trans rfl; have hcz16_8 : w15.cell? ⟨gb1018, 8, none⟩ = some (.int .i64 0) := (blk_cell BK1018.out 8).trans rfl; have hfz16_0 := blk_frozen BK1018.out 0; have hfz16_1 := blk_frozen BK1018.out 1; have hfz16_2 := blk_frozen BK1018.out 2; have hfz16_3 := blk_frozen BK1018.out 3; have hfz16_4 := blk_frozen BK1018.out 4; have hfz16_5 := blk_frozen BK1018.out 5; have hfz16_6 := blk_frozen BK1018.out 6; have hfz16_7 := blk_frozen BK1018.out 7; have hfz16_8 := blk_frozen BK1018.out 8) | ((with_reducible refine gate_callee (f := 85) rfl ?_); refine gL_ (some 12) Tryd.func85 #[.agg #[.bool t1008, .string t1009, .string t1010, .string t1011, .int .i64 t1012, .int .i64 t1013, .string t1014, .string t1015, .int .i64 t1016], .string (⟨#[116]⟩ : ByteArray)] ?_; (with_reducible refine (operand_Get.calls k t1008 t1009 t1010 t1011 t1012 t1013 t1014 t1015 t1016 (⟨#[116]⟩ : ByteArray) t1019 t1020 t1021 t1022 _ (TB.below HTB.out hb_) A2.out).mono ?_); rintro e w17 ⟨rfl, hb⟩; refine ⟨_, rfl, ?_⟩; replace BK1018 := Aside0.mk (blk_below (g := gb1018) (o := .cells #[.bool t1008, .string t1009, .string t1010, .string t1011, .int .i64 t1012, .int .i64 t1013, .string t1014, .string t1015, .int .i64 t1016] 45 (0, 0)) (by refine blk_put (cs := #[.bool t1008, .string t1009, .string t1010, .string t1011, .int .i64 t1012, .int .i64 t1013, .string t1014, .string t1015, .int .i64 0]) ?_ 8 _ rfl; refine blk_put (cs := #[.bool t1008, .string t1009, .string t1010, .string t1011, .int .i64 t1012, .int .i64 t1013, .string t1014, .string (⟨#[]⟩ : ByteArray), .int .i64 0]) ?_ 7 _ rfl; refine blk_put (cs := #[.bool t1008, .string t1009, .string t1010, .string t1011, .int .i64 t1012, .int .i64 t1013, .string (⟨#[]⟩ : ByteArray), .string (⟨#[]⟩ : ByteArray), .int .i64 0]) ?_ 6 _ rfl; refine blk_put (cs := #[.bool t1008, .string t1009, .string t1010, .string t1011, .int .i64 t1012, .int .i64 0, .string (⟨#[]⟩ : ByteArray), .string (⟨#[]⟩ : ByteArray), .int .i64 0]) ?_ 5 _ rfl; refine blk_put (cs := #[.bool t1008, .string t1009, .string t1010, .string t1011, .int .i64 0, .int .i64 0, .string (⟨#[]⟩ : ByteArray), .string (⟨#[]⟩ : ByteArray), .int .i64 0]) ?_ 4 _ rfl; refine blk_put (cs := #[.bool t1008, .string t1009, .string t1010, .string (⟨#[]⟩ : ByteArray), .int .i64 0, .int .i64 0, .string (⟨#[]⟩ : ByteArray), .string (⟨#[]⟩ : ByteArray), .int .i64 0]) ?_ 3 _ rfl; refine blk_put (cs := #[.bool t1008, .string t1009, .string (⟨#[]⟩ : ByteArray), .string (⟨#[]⟩ : ByteArray), .int .i64 0, .int .i64 0, .string (⟨#[]⟩ : ByteArray), .string (⟨#[]⟩ : ByteArray), .int .i64 0]) ?_ 2 _ rfl; refine blk_put (cs := #[.bool t1008, .string (⟨#[]⟩ : ByteArray), .string (⟨#[]⟩ : ByteArray), .string (⟨#[]⟩ : ByteArray), .int .i64 0, .int .i64 0, .string (⟨#[]⟩ : ByteArray), .string (⟨#[]⟩ : ByteArray), .int .i64 0]) ?_ 1 _ rfl; refine blk_put (cs := #[.bool false, .string (⟨#[]⟩ : ByteArray), .string (⟨#[]⟩ : ByteArray), .string (⟨#[]⟩ : ByteArray), .int .i64 0, .int .i64 0, .string (⟨#[]⟩ : ByteArray), .string (⟨#[]⟩ : ByteArray), .int .i64 0]) ?_ 0 _ rfl; exact BK1018.out) hb); replace HB := Aside0.mk (below_step hb_ hb)) | ((with_reducible refine gate_dst (N := 3) rfl ?_); refine bx_ #[.bool false, .string (⟨#[]⟩ : ByteArray), .string (⟨#[]⟩ : ByteArray)] 23 ?_; intro gb1023 hg w18 hbox hb; have BK1023 := Aside0.mk (hbox); have GW1023 := Aside0.mk ((by rw [hg]; exact (below_size hb_) : w.heap.size ≤ gb1023)); have GE1023 := Aside0.mk ((by rw [hg]; exact (below_size hb_) : w.heap.size ≤ gb1023)); have NB1018_1023 := BK1018.nl hg; have NB1023_1018 := BK1018.ng hg; replace BK1018 := BK1018.bl hb; replace HB := Aside0.mk (below_step hb_ hb); clear hb hbox hg; have hnb19 := NB1023_1018.out; have hnc19 := NB1018_1023.out; obtain ⟨hcz20_0, hcz20_1, hcz20_2, hfz20_0, hfz20_1, hfz20_2⟩ := BK1023.c3; have hcz21_0 : w18.cell? ⟨gb1018, 0, none⟩ = some (.bool t1008) := (blk_cell BK1018.out 0).trans rfl; have hcz21_1 : w18.cell? ⟨gb1018, 1, none⟩ = some (.string t1009) := (blk_cell BK1018.out 1).trans rfl; have hcz21_2 : w18.cell? ⟨gb1018, 2, none⟩ = some (.string t1010) := (blk_cell BK1018.out 2).trans rfl; have hcz21_3 : w18.cell? ⟨gb1018, 3, none⟩ = some (.string t1011) := (blk_cell BK1018.out 3).trans rfl; have hcz21_4 : w18.cell? ⟨gb1018, 4, none⟩ = some (.int .i64 t1012) := (blk_cell BK1018.out 4).trans rfl; have hcz21_5 : w18.cell? ⟨gb1018, 5, none⟩ = some (.int .i64 t1013) := (blk_cell BK1018.out 5).trans rfl; have hcz21_6 : w18.cell? ⟨gb1018, 6, none⟩ = some (.string t1014) := (blk_cell BK1018.out 6).trans rfl; have hcz21_7 : w18.cell? ⟨gb1018, 7, none⟩ = some (.string t1015) := (blk_cell BK1018.out 7).trans rfl; have hcz21_8 : w18.cell? ⟨gb1018, 8, none⟩ = some (.int .i64 t1016) := (blk_cell BK1018.out 8).trans rfl; have hfz21_0 := blk_frozen BK1018.out 0; have hfz21_1 := blk_frozen BK1018.out 1; have hfz21_2 := blk_frozen BK1018.out 2; have hfz21_3 := blk_frozen BK1018.out 3; have hfz21_4 := blk_frozen BK1018.out 4; have hfz21_5 := blk_frozen BK1018.out 5; have hfz21_6 := blk_frozen BK1018.out 6; have hfz21_7 := blk_frozen BK1018.out 7; have hfz21_8 := blk_frozen BK1018.out 8))
    go_ret
    exact ⟨by first | rfl | (simp [errW_none, errW_some] <;> rfl) | (simp [*, errW_none, errW_some] <;> rfl) | (simp [bne_nil_]; done), by repeat (first | (with_reducible first | exact HB.out | apply below_alloc | apply pw_below_drewN | apply below_drew1 | refine below_set ?_ GE1018.out | refine below_set ?_ GE1023.out) | exact HB.out)⟩
  ·rw [if_neg c4] at H
   have c4b0 : ((!t1008 && (t1009.toList == ([49] : List UInt8) && (t1010.toList == ([53] : List UInt8)))) && (t1011.toList == ([49] : List UInt8) && (t1012 == 2 && (t1013 == 1 && (t1014.toList == ([53, 48] : List UInt8) && (t1015.toList == ([53] : List UInt8) && (t1016 == 0))))))) = false := by simpa using c4
   clear c4
   obtain rfl := Option.some.inj H
   go_enter Tryd.func49, Tryd.ntmps49
   go_wp2_with (first | ((with_reducible refine gate_callee (f := 45) rfl ?_); refine gL_ (some 7) Tryd.func45 #[.agg #[.bool false, .string (⟨#[49]⟩ : ByteArray), .string (⟨#[53, 48]⟩ : ByteArray)], .int .i64 0] ?_; (with_reducible refine (operand_Of.calls k false (⟨#[49]⟩ : ByteArray) (⟨#[53, 48]⟩ : ByteArray) 0 t1008 t1009 t1010 t1011 t1012 t1013 t1014 t1015 t1016 t1017 _ A1.out).mono ?_); rintro e w22 ⟨rfl, hb⟩; refine ⟨_, rfl, ?_⟩; replace HB := Aside0.mk (below_step hb_ hb)) | ((with_reducible refine gate_dst (N := 1) rfl ?_); refine bx_ #[.bool false, .string (⟨#[]⟩ : ByteArray), .string (⟨#[]⟩ : ByteArray), .string (⟨#[]⟩ : ByteArray), .int .i64 0, .int .i64 0, .string (⟨#[]⟩ : ByteArray), .string (⟨#[]⟩ : ByteArray), .int .i64 0] 45 ?_; intro gb1018 hg w23 hbox hb; have BK1018 := Aside0.mk (hbox); have GW1018 := Aside0.mk ((by rw [hg]; exact (below_size hb_) : w.heap.size ≤ gb1018)); have GE1018 := Aside0.mk ((by rw [hg]; exact (below_size hb_) : w.heap.size ≤ gb1018)); replace HB := Aside0.mk (below_step hb_ hb); clear hb hbox hg; have hcz24_0 : w23.cell? ⟨gb1018, 0, none⟩ = some (.bool false) := (blk_cell BK1018.out 0).trans rfl; have hcz24_1 : w23.cell? ⟨gb1018, 1, none⟩ = some (.string (⟨#[]⟩ : ByteArray)) := (blk_cell BK1018.out 1).trans rfl; have hcz24_2 : w23.cell? ⟨gb1018, 2, none⟩ = some (.string (⟨#[]⟩ : ByteArray)) := (blk_cell BK1018.out 2).trans rfl; have hcz24_3 : w23.cell? ⟨gb1018, 3, none⟩ = some (.string (⟨#[]⟩ : ByteArray)) := (blk_cell BK1018.out 3).trans rfl; have hcz24_4 : w23.cell? ⟨gb1018, 4, none⟩ = some (.int .i64 0) := (blk_cell BK1018.out 4).trans rfl; have hcz24_5 : w23.cell? ⟨gb1018, 5, none⟩ = some (.int .i64 0) := (blk_cell BK1018.out 5).trans rfl; have hcz24_6 : w23.cell? ⟨gb1018, 6, none⟩ = some (.string (⟨#[]⟩ : ByteArray)) := (blk_cell BK1018.out 6).trans rfl; have hcz24_7 : w23.cell? ⟨gb1018, 7, none⟩ = some (.string (⟨#[]⟩ : ByteArray)) := (blk_cell BK1018.out 7).trans rfl; have hcz24_8 : w23.cell? ⟨gb1018, 8, none⟩ = some (.int .i64 0) := (blk_cell BK1018.out 8).trans rfl; have hfz24_0 := blk_frozen BK1018.out 0; have hfz24_1 := blk_frozen BK1018.out 1; have hfz24_2 := blk_frozen BK1018.out 2; have hfz24_3 := blk_frozen BK1018.out 3; have hfz24_4 := blk_frozen BK1018.out 4; have hfz24_5 := blk_frozen BK1018.out 5; have hfz24_6 := blk_frozen BK1018.out 6; have hfz24_7 := blk_frozen BK1018.out 7; have hfz24_8 := blk_frozen BK1018.out 8) | ((with_reducible refine gate_callee (f := 85) rfl ?_); refine gL_ (some 12) Tryd.func85 #[.agg #[.bool t1008, .string t1009, .string t1010, .string t1011, .int .i64 t1012, .int .i64 t1013, .string t1014, .string t1015, .int .i64 t1016], .string (⟨#[116]⟩ : ByteArray)] ?_; (with_reducible refine (operand_Get.calls k t1008 t1009 t1010 t1011 t1012 t1013 t1014 t1015 t1016 (⟨#[116]⟩ : ByteArray) t1019 t1020 t1021 t1022 _ (TB.below HTB.out hb_) A2.out).mono ?_); rintro e w25 ⟨rfl, hb⟩; refine ⟨_, rfl, ?_⟩; replace BK1018 := Aside0.mk (blk_below (g := gb1018) (o := .cells #[.bool t1008, .string t1009, .string t1010, .string t1011, .int .i64 t1012, .int .i64 t1013, .string t1014, .string t1015, .int .i64 t1016] 45 (0, 0)) (by refine blk_put (cs := #[.bool t1008, .string t1009, .string t1010, .string t1011, .int .i64 t1012, .int .i64 t1013, .string t1014, .string t1015, .int .i64 0]) ?_ 8 _ rfl; refine blk_put (cs := #[.bool t1008, .string t1009, .string t1010, .string t1011, .int .i64 t1012, .int .i64 t1013, .string t1014, .string (⟨#[]⟩ : ByteArray), .int .i64 0]) ?_ 7 _ rfl; refine blk_put (cs := #[.bool t1008, .string t1009, .string t1010, .string t1011, .int .i64 t1012, .int .i64 t1013, .string (⟨#[]⟩ : ByteArray), .string (⟨#[]⟩ : ByteArray), .int .i64 0]) ?_ 6 _ rfl; refine blk_put (cs := #[.bool t1008, .string t1009, .string t1010, .string t1011, .int .i64 t1012, .int .i64 0, .string (⟨#[]⟩ : ByteArray), .string (⟨#[]⟩ : ByteArray), .int .i64 0]) ?_ 5 _ rfl; refine blk_put (cs := #[.bool t1008, .string t1009, .string t1010, .string t1011, .int .i64 0, .int .i64 0, .string (⟨#[]⟩ : ByteArray), .string (⟨#[]⟩ : ByteArray), .int .i64 0]) ?_ 4 _ rfl; refine blk_put (cs := #[.bool t1008, .string t1009, .string t1010, .string (⟨#[]⟩ : ByteArray), .int .i64 0, .int .i64 0, .string (⟨#[]⟩ : ByteArray), .string (⟨#[]⟩ : ByteArray), .int .i64 0]) ?_ 3 _ rfl; refine blk_put (cs := #[.bool t1008, .string t1009, .string (⟨#[]⟩ : ByteArray), .string (⟨#[]⟩ : ByteArray), .int .i64 0, .int .i64 0, .string (⟨#[]⟩ : ByteArray), .string (⟨#[]⟩ : ByteArray), .int .i64 0]) ?_ 2 _ rfl; refine blk_put (cs := #[.bool t1008, .string (⟨#[]⟩ : ByteArray), .string (⟨#[]⟩ : ByteArray), .string (⟨#[]⟩ : ByteArray), .int .i64 0, .int .i64 0, .string (⟨#[]⟩ : ByteArray), .string (⟨#[]⟩ : ByteArray), .int .i64 0]) ?_ 1 _ rfl; refine blk_put (cs := #[.bool false, .string (⟨#[]⟩ : ByteArray), .string (⟨#[]⟩ : ByteArray), .string (⟨#[]⟩ : ByteArray), .int .i64 0, .int .i64 0, .string (⟨#[]⟩ : ByteArray), .string (⟨#[]⟩ : ByteArray), .int .i64 0]) ?_ 0 _ rfl; exact BK1018.out) hb); replace HB := Aside0.mk (below_step hb_ hb)) | ((with_reducible refine gate_dst (N := 3) rfl ?_); refine bx_ #[.bool false, .string (⟨#[]⟩ : ByteArray), .string (⟨#[]⟩ : ByteArray)] 23 ?_; intro gb1023 hg w26 hbox hb; have BK1023 := Aside0.mk (hbox); have GW1023 := Aside0.mk ((by rw [hg]; exact (below_size hb_) : w.heap.size ≤ gb1023)); have GE1023 := Aside0.mk ((by rw [hg]; exact (below_size hb_) : w.heap.size ≤ gb1023)); have NB1018_1023 := BK1018.nl hg; have NB1023_1018 := BK1018.ng hg; replace BK1018 := BK1018.bl hb; replace HB := Aside0.mk (below_step hb_ hb); clear hb hbox hg; have hnb27 := NB1023_1018.out; have hnc27 := NB1018_1023.out; obtain ⟨hcz28_0, hcz28_1, hcz28_2, hfz28_0, hfz28_1, hfz28_2⟩ := BK1023.c3; have hcz29_0 : w26.cell? ⟨gb1018, 0, none⟩ = some (.bool t1008) := (blk_cell BK1018.out 0).trans rfl; have hcz29_1 : w26.cell? ⟨gb1018, 1, none⟩ = some (.string t1009) := (blk_cell BK1018.out 1).trans rfl; have hcz29_2 : w26.cell? ⟨gb1018, 2, none⟩ = some (.string t1010) := (blk_cell BK1018.out 2).trans rfl; have hcz29_3 : w26.cell? ⟨gb1018, 3, none⟩ = some (.string t1011) := (blk_cell BK1018.out 3).trans rfl; have hcz29_4 : w26.cell? ⟨gb1018, 4, none⟩ = some (.int .i64 t1012) := (blk_cell BK1018.out 4).trans rfl; have hcz29_5 : w26.cell? ⟨gb1018, 5, none⟩ = some (.int .i64 t1013) := (blk_cell BK1018.out 5).trans rfl; have hcz29_6 : w26.cell? ⟨gb1018, 6, none⟩ = some (.string t1014) := (blk_cell BK1018.out 6).trans rfl; have hcz29_7 : w26.cell? ⟨gb1018, 7, none⟩ = some (.string t1015) := (blk_cell BK1018.out 7).trans rfl; have hcz29_8 : w26.cell? ⟨gb1018, 8, none⟩ = some (.int .i64 t1016) := (blk_cell BK1018.out 8).trans rfl; have hfz29_0 := blk_frozen BK1018.out 0; have hfz29_1 := blk_frozen BK1018.out 1; have hfz29_2 := blk_frozen BK1018.out 2; have hfz29_3 := blk_frozen BK1018.out 3; have hfz29_4 := blk_frozen BK1018.out 4; have hfz29_5 := blk_frozen BK1018.out 5; have hfz29_6 := blk_frozen BK1018.out 6; have hfz29_7 := blk_frozen BK1018.out 7; have hfz29_8 := blk_frozen BK1018.out 8))
   go_ret
   exact ⟨by first | rfl | (simp [errW_none, errW_some] <;> rfl) | (simp [*, errW_none, errW_some] <;> rfl) | (simp [bne_nil_]; done), by repeat (first | (with_reducible first | exact HB.out | apply below_alloc | apply pw_below_drewN | apply below_drew1 | refine below_set ?_ GE1018.out | refine below_set ?_ GE1023.out) | exact HB.out)⟩
 ·rw [if_neg c3] at H
  have c3b0 : (t1017 == 0) = false := beq_eq_false_iff_ne.mpr c3
  have c3b1 : (t1017 != 0) = true := bne_iff_ne.mpr c3
  obtain rfl := Option.some.inj H
  go_enter Tryd.func49, Tryd.ntmps49
  go_wp2_with (first | ((with_reducible refine gate_callee (f := 45) rfl ?_); refine gL_ (some 7) Tryd.func45 #[.agg #[.bool false, .string (⟨#[49]⟩ : ByteArray), .string (⟨#[53, 48]⟩ : ByteArray)], .int .i64 0] ?_; (with_reducible refine (operand_Of.calls k false (⟨#[49]⟩ : ByteArray) (⟨#[53, 48]⟩ : ByteArray) 0 t1008 t1009 t1010 t1011 t1012 t1013 t1014 t1015 t1016 t1017 _ A1.out).mono ?_); rintro e w30 ⟨rfl, hb⟩; refine ⟨_, rfl, ?_⟩; replace HB := Aside0.mk (below_step hb_ hb)) | ((with_reducible refine gate_dst (N := 1) rfl ?_); refine bx_ #[.bool false, .string (⟨#[]⟩ : ByteArray), .string (⟨#[]⟩ : ByteArray), .string (⟨#[]⟩ : ByteArray), .int .i64 0, .int .i64 0, .string (⟨#[]⟩ : ByteArray), .string (⟨#[]⟩ : ByteArray), .int .i64 0] 45 ?_; intro gb1018 hg w31 hbox hb; have BK1018 := Aside0.mk (hbox); have GW1018 := Aside0.mk ((by rw [hg]; exact (below_size hb_) : w.heap.size ≤ gb1018)); have GE1018 := Aside0.mk ((by rw [hg]; exact (below_size hb_) : w.heap.size ≤ gb1018)); replace HB := Aside0.mk (below_step hb_ hb); clear hb hbox hg; have hcz32_0 : w31.cell? ⟨gb1018, 0, none⟩ = some (.bool false) := (blk_cell BK1018.out 0).trans rfl; have hcz32_1 : w31.cell? ⟨gb1018, 1, none⟩ = some (.string (⟨#[]⟩ : ByteArray)) := (blk_cell BK1018.out 1).trans rfl; have hcz32_2 : w31.cell? ⟨gb1018, 2, none⟩ = some (.string (⟨#[]⟩ : ByteArray)) := (blk_cell BK1018.out 2).trans rfl; have hcz32_3 : w31.cell? ⟨gb1018, 3, none⟩ = some (.string (⟨#[]⟩ : ByteArray)) := (blk_cell BK1018.out 3).trans rfl; have hcz32_4 : w31.cell? ⟨gb1018, 4, none⟩ = some (.int .i64 0) := (blk_cell BK1018.out 4).trans rfl; have hcz32_5 : w31.cell? ⟨gb1018, 5, none⟩ = some (.int .i64 0) := (blk_cell BK1018.out 5).trans rfl; have hcz32_6 : w31.cell? ⟨gb1018, 6, none⟩ = some (.string (⟨#[]⟩ : ByteArray)) := (blk_cell BK1018.out 6).trans rfl; have hcz32_7 : w31.cell? ⟨gb1018, 7, none⟩ = some (.string (⟨#[]⟩ : ByteArray)) := (blk_cell BK1018.out 7).trans rfl; have hcz32_8 : w31.cell? ⟨gb1018, 8, none⟩ = some (.int .i64 0) := (blk_cell BK1018.out 8).trans rfl; have hfz32_0 := blk_frozen BK1018.out 0; have hfz32_1 := blk_frozen BK1018.out 1; have hfz32_2 := blk_frozen BK1018.out 2; have hfz32_3 := blk_frozen BK1018.out 3; have hfz32_4 := blk_frozen BK1018.out 4; have hfz32_5 := blk_frozen BK1018.out 5; have hfz32_6 := blk_frozen BK1018.out 6; have hfz32_7 := blk_frozen BK1018.out 7; have hfz32_8 := blk_frozen BK1018.out 8) | ((with_reducible refine gate_callee (f := 85) rfl ?_); refine gL_ (some 12) Tryd.func85 #[.agg #[.bool t1008, .string t1009, .string t1010, .string t1011, .int .i64 t1012, .int .i64 t1013, .string t1014, .string t1015, .int .i64 t1016], .string (⟨#[116]⟩ : ByteArray)] ?_; (with_reducible refine (operand_Get.calls k t1008 t1009 t1010 t1011 t1012 t1013 t1014 t1015 t1016 (⟨#[116]⟩ : ByteArray) t1019 t1020 t1021 t1022 _ (TB.below HTB.out hb_) A2.out).mono ?_); rintro e w33 ⟨rfl, hb⟩; refine ⟨_, rfl, ?_⟩; replace BK1018 := Aside0.mk (blk_below (g := gb1018) (o := .cells #[.bool t1008, .string t1009, .string t1010, .string t1011, .int .i64 t1012, .int .i64 t1013, .string t1014, .string t1015, .int .i64 t1016] 45 (0, 0)) (by refine blk_put (cs := #[.bool t1008, .string t1009, .string t1010, .string t1011, .int .i64 t1012, .int .i64 t1013, .string t1014, .string t1015, .int .i64 0]) ?_ 8 _ rfl; refine blk_put (cs := #[.bool t1008, .string t1009, .string t1010, .string t1011, .int .i64 t1012, .int .i64 t1013, .string t1014, .string (⟨#[]⟩ : ByteArray), .int .i64 0]) ?_ 7 _ rfl; refine blk_put (cs := #[.bool t1008, .string t1009, .string t1010, .string t1011, .int .i64 t1012, .int .i64 t1013, .string (⟨#[]⟩ : ByteArray), .string (⟨#[]⟩ : ByteArray), .int .i64 0]) ?_ 6 _ rfl; refine blk_put (cs := #[.bool t1008, .string t1009, .string t1010, .string t1011, .int .i64 t1012, .int .i64 0, .string (⟨#[]⟩ : ByteArray), .string (⟨#[]⟩ : ByteArray), .int .i64 0]) ?_ 5 _ rfl; refine blk_put (cs := #[.bool t1008, .string t1009, .string t1010, .string t1011, .int .i64 0, .int .i64 0, .string (⟨#[]⟩ : ByteArray), .string (⟨#[]⟩ : ByteArray), .int .i64 0]) ?_ 4 _ rfl; refine blk_put (cs := #[.bool t1008, .string t1009, .string t1010, .string (⟨#[]⟩ : ByteArray), .int .i64 0, .int .i64 0, .string (⟨#[]⟩ : ByteArray), .string (⟨#[]⟩ : ByteArray), .int .i64 0]) ?_ 3 _ rfl; refine blk_put (cs := #[.bool t1008, .string t1009, .string (⟨#[]⟩ : ByteArray), .string (⟨#[]⟩ : ByteArray), .int .i64 0, .int .i64 0, .string (⟨#[]⟩ : ByteArray), .string (⟨#[]⟩ : ByteArray), .int .i64 0]) ?_ 2 _ rfl; refine blk_put (cs := #[.bool t1008, .string (⟨#[]⟩ : ByteArray), .string (⟨#[]⟩ : ByteArray), .string (⟨#[]⟩ : ByteArray), .int .i64 0, .int .i64 0, .string (⟨#[]⟩ : ByteArray), .string (⟨#[]⟩ : ByteArray), .int .i64 0]) ?_ 1 _ rfl; refine blk_put (cs := #[.bool false, .string (⟨#[]⟩ : ByteArray), .string (⟨#[]⟩ : ByteArray), .string (⟨#[]⟩ : ByteArray), .int .i64 0, .int .i64 0, .string (⟨#[]⟩ : ByteArray), .string (⟨#[]⟩ : ByteArray), .int .i64 0]) ?_ 0 _ rfl; exact BK1018.out) hb); replace HB := Aside0.mk (below_step hb_ hb)) | ((with_reducible refine gate_dst (N := 3) rfl ?_); refine bx_ #[.bool false, .string (⟨#[]⟩ : ByteArray), .string (⟨#[]⟩ : ByteArray)] 23 ?_; intro gb1023 hg w34 hbox hb; have BK1023 := Aside0.mk (hbox); have GW1023 := Aside0.mk ((by rw [hg]; exact (below_size hb_) : w.heap.size ≤ gb1023)); have GE1023 := Aside0.mk ((by rw [hg]; exact (below_size hb_) : w.heap.size ≤ gb1023)); have NB1018_1023 := BK1018.nl hg; have NB1023_1018 := BK1018.ng hg; replace BK1018 := BK1018.bl hb; replace HB := Aside0.mk (below_step hb_ hb); clear hb hbox hg; have hnb35 := NB1023_1018.out; have hnc35 := NB1018_1023.out; obtain ⟨hcz36_0, hcz36_1, hcz36_2, hfz36_0, hfz36_1, hfz36_2⟩ := BK1023.c3))
  go_ret
  exact ⟨by first | rfl | (simp [errW_none, errW_some] <;> rfl) | (simp [*, errW_none, errW_some] <;> rfl) | (simp [bne_nil_]; done), by repeat (first | (with_reducible first | exact HB.out | apply below_alloc | apply pw_below_drewN | apply below_drew1 | refine below_set ?_ GE1018.out | refine below_set ?_ GE1023.out) | exact HB.out)⟩
end Go.Proofs.YtihjcaglhjepdaaDoor.P
namespace Go.Proofs.YtihjcaglhjepdaaDoorW.PrintWords
open Go.RowKit
theorem less_flip : ∀ a b : List UInt8, (!(Op.bytesLess a b || a == b)) = Op.bytesLess b a
  | [], [] => rfl
  | [], _ :: _ => rfl
  | _ :: _, [] => rfl
  | x :: a, y :: b => by
    have ih := less_flip a b
    simp only [Op.bytesLess, List.cons_beq_cons]
    by_cases h1 : x < y
    · have h2 : ¬ y < x := UInt8.lt_asymm h1
      have h3 : ¬ y = x := fun e => by rw [e] at h1; exact UInt8.lt_irrefl _ h1
      simp [h1, h2, h3]
    · by_cases h2 : x = y
      · subst h2
        simp only [h1, decide_false, Bool.false_or, beq_self_eq_true, Bool.true_and]
        exact ih
      · have h3 : y < x := by
          rcases UInt8.lt_or_lt_of_ne h2 with h | h
          · exact absurd h h1
          · exact h
        have h4 : ¬ y = x := fun e => h2 e.symm
        simp [h1, h2, h3]
@[go_sem] theorem binOp_string_more (t : TypeId) (a b : ByteArray) : binOp .gtr t (.string a) (.string b) = pure (.bool (Op.bytesLess b.toList a.toList)) := by
  rw [← less_flip]; simp [binOp, Op.stringOp]
end Go.Proofs.YtihjcaglhjepdaaDoorW.PrintWords
namespace Go.Proofs.YtihjcaglhjepdaaDoor.P
open Go.RowKit Go.Proofs.YtihjcaglhjepdaaDoorW.PrintWords Go.Proofs.YtihjcaglhjepdaaDoorW.PrintLast Go.Proofs.YtihjcaglhjepdaaDoorW.PrintMore
attribute [local go_sem] max2_int max_two
set_option linter.unusedVariables false
set_option linter.unusedSimpArgs false
def operand_number.f (a0 : ByteArray) : Option (Bool) := if a0.toList = ([] : List UInt8) then (some false) else (if (a0.size : Int) > 40 then (some false) else (if (a0.size : Int) > 1 then (if 0 < (a0.size : Int) then (if (bt a0 0) = 48 then (some false) else ((strings_Trim.f a0 (⟨#[48, 49, 50, 51, 52, 53, 54, 55, 56, 57]⟩ : ByteArray)).bind fun t1194 => (some (t1194.toList == ([] : List UInt8))))) else (none)) else ((strings_Trim.f a0 (⟨#[48, 49, 50, 51, 52, 53, 54, 55, 56, 57]⟩ : ByteArray)).bind fun t1195 => (some (t1195.toList == ([] : List UInt8))))))
set_option maxHeartbeats 8000000 in
set_option maxRecDepth 100000 in
theorem operand_number.calls (a0 : ByteArray) (r : Bool) (w : World) (h : operand_number.f a0 = some r) :
    Calls Tryd.prog 86 #[.string a0] w fun e w' => e = .returned (.bool r) ∧ Below w.heap.size w w' := by
 have HB := Aside0.mk (Below.refl w.heap.size w)
 unfold operand_number.f at h
 have H := h
 clear h
 by_cases c2 : a0.toList = ([] : List UInt8)
 ·rw [if_pos c2] at H
  have c2b0 : (a0.toList == ([] : List UInt8)) = true := beq_iff_eq.mpr c2
  have c2b1 : (a0.toList != ([] : List UInt8)) = false := bne_eq_false_iff_eq.mpr c2
  clear c2
  obtain rfl := Option.some.inj H
  go_enter Tryd.func86, Tryd.ntmps86
  go_wp2
  go_ret
  exact ⟨by first | rfl | (simp [errW_none, errW_some] <;> rfl) | (simp [*, errW_none, errW_some] <;> rfl) | (simp [bne_nil_]; done), by repeat (first | (with_reducible first | exact HB.out | apply below_alloc | apply pw_below_drewN | apply below_drew1) | exact HB.out)⟩
 ·rw [if_neg c2] at H
  have c2b0 : (a0.toList == ([] : List UInt8)) = false := beq_eq_false_iff_ne.mpr c2
  have c2b1 : (a0.toList != ([] : List UInt8)) = true := bne_iff_ne.mpr c2
  by_cases c3 : (a0.size : Int) > 40
  ·rw [if_pos c3] at H
   have c3b0 : decide (40 < (a0.size : Int)) = true := decide_eq_true c3
   have c3b1 : decide (40 < a0.size) = true := decide_eq_true (by omega)
   clear c3
   obtain rfl := Option.some.inj H
   go_enter Tryd.func86, Tryd.ntmps86
   go_wp2
   go_ret
   exact ⟨by first | rfl | (simp [errW_none, errW_some] <;> rfl) | (simp [*, errW_none, errW_some] <;> rfl) | (simp [bne_nil_]; done), by repeat (first | (with_reducible first | exact HB.out | apply below_alloc | apply pw_below_drewN | apply below_drew1) | exact HB.out)⟩
  ·rw [if_neg c3] at H
   have c3b0 : decide (40 < (a0.size : Int)) = false := decide_eq_false c3
   have c3b1 : decide (40 < a0.size) = false := decide_eq_false (by omega)
   clear c3
   by_cases c4 : (a0.size : Int) > 1
   ·rw [if_pos c4] at H
    have c4b0 : decide (1 < (a0.size : Int)) = true := decide_eq_true c4
    have c4b1 : decide (1 < a0.size) = true := decide_eq_true (by omega)
    clear c4
    by_cases c5 : 0 < (a0.size : Int)
    ·rw [if_pos c5] at H
     have c5b0 : decide (0 < (a0.size : Int)) = true := decide_eq_true c5
     have c5b1 : decide (0 < a0.size) = true := decide_eq_true (by omega)
     clear c5
     by_cases c7 : (bt a0 0) = 48
     ·rw [if_pos c7] at H
      have c7b0 : ((bt a0 0) == 48) = true := beq_iff_eq.mpr c7
      have c7b1 : ((bt a0 0) != 48) = false := bne_eq_false_iff_eq.mpr c7
      clear c7
      obtain rfl := Option.some.inj H
      have p6 : 0 ≤ (0 : Int) := (by omega)
      have q6 : 0 < a0.size := (by have : (0 : Int) < (a0.size : Int) := of_decide_eq_true (by first | (with_reducible assumption) | assumption); omega)
      have hx6 : ∀ h : 0 < a0.size, ((a0[0]'h).toNat : Int) = bt a0 0 := bt_at a0 0
      clear p6
      have qi6 : (0 < (a0.size : Int)) = True := eq_true (of_decide_eq_true (by first | (with_reducible assumption) | assumption))
      replace q6 := eq_true q6
      go_enter Tryd.func86, Tryd.ntmps86
      go_wp2
      go_ret
      exact ⟨by first | rfl | (simp [errW_none, errW_some] <;> rfl) | (simp [*, errW_none, errW_some] <;> rfl) | (simp [bne_nil_]; done), by repeat (first | (with_reducible first | exact HB.out | apply below_alloc | apply pw_below_drewN | apply below_drew1) | exact HB.out)⟩
     ·rw [if_neg c7] at H
      have c7b0 : ((bt a0 0) == 48) = false := beq_eq_false_iff_ne.mpr c7
      have c7b1 : ((bt a0 0) != 48) = true := bne_iff_ne.mpr c7
      replace H := Option.bind_eq_some_iff.mp H
      obtain ⟨t1194, A80, H⟩ := H
      try dsimp only at H
      have A8 := Aside0.mk A80
      clear A80
      obtain rfl := Option.some.inj H
      have p6 : 0 ≤ (0 : Int) := (by omega)
      have q6 : 0 < a0.size := (by have : (0 : Int) < (a0.size : Int) := of_decide_eq_true (by first | (with_reducible assumption) | assumption); omega)
      have hx6 : ∀ h : 0 < a0.size, ((a0[0]'h).toNat : Int) = bt a0 0 := bt_at a0 0
      clear p6
      have qi6 : (0 < (a0.size : Int)) = True := eq_true (of_decide_eq_true (by first | (with_reducible assumption) | assumption))
      replace q6 := eq_true q6
      go_enter Tryd.func86, Tryd.ntmps86
      go_wp2_with (first | ((with_reducible refine gate_callee (f := 87) rfl ?_); refine gL_ (some 21) Tryd.func87 #[.string a0, .string (⟨#[48, 49, 50, 51, 52, 53, 54, 55, 56, 57]⟩ : ByteArray)] ?_; (with_reducible refine (strings_Trim.calls a0 (⟨#[48, 49, 50, 51, 52, 53, 54, 55, 56, 57]⟩ : ByteArray) t1194 _ A8.out).mono ?_); rintro e w9 ⟨rfl, hb⟩; refine ⟨_, rfl, ?_⟩; replace HB := Aside0.mk (below_step hb_ hb)))
      go_ret
      exact ⟨by first | rfl | (simp [errW_none, errW_some] <;> rfl) | (simp [*, errW_none, errW_some] <;> rfl) | (simp [bne_nil_]; done), by repeat (first | (with_reducible first | exact HB.out | apply below_alloc | apply pw_below_drewN | apply below_drew1) | exact HB.out)⟩
    ·rw [if_neg c5] at H
     exact absurd H (by simp)
   ·rw [if_neg c4] at H
    have c4b0 : decide (1 < (a0.size : Int)) = false := decide_eq_false c4
    have c4b1 : decide (1 < a0.size) = false := decide_eq_false (by omega)
    clear c4
    replace H := Option.bind_eq_some_iff.mp H
    obtain ⟨t1195, A100, H⟩ := H
    try dsimp only at H
    have A10 := Aside0.mk A100
    clear A100
    obtain rfl := Option.some.inj H
    go_enter Tryd.func86, Tryd.ntmps86
    go_wp2_with (first | ((with_reducible refine gate_callee (f := 87) rfl ?_); refine gL_ (some 21) Tryd.func87 #[.string a0, .string (⟨#[48, 49, 50, 51, 52, 53, 54, 55, 56, 57]⟩ : ByteArray)] ?_; (with_reducible refine (strings_Trim.calls a0 (⟨#[48, 49, 50, 51, 52, 53, 54, 55, 56, 57]⟩ : ByteArray) t1195 _ A10.out).mono ?_); rintro e w11 ⟨rfl, hb⟩; refine ⟨_, rfl, ?_⟩; replace HB := Aside0.mk (below_step hb_ hb)))
    go_ret
    exact ⟨by first | rfl | (simp [errW_none, errW_some] <;> rfl) | (simp [*, errW_none, errW_some] <;> rfl) | (simp [bne_nil_]; done), by repeat (first | (with_reducible first | exact HB.out | apply below_alloc | apply pw_below_drewN | apply below_drew1) | exact HB.out)⟩
end Go.Proofs.YtihjcaglhjepdaaDoor.P
namespace Go.Proofs.YtihjcaglhjepdaaDoor.P
open Go.RowKit Go.Proofs.YtihjcaglhjepdaaDoorW.PrintWords Go.Proofs.YtihjcaglhjepdaaDoorW.PrintLast Go.Proofs.YtihjcaglhjepdaaDoorW.PrintMore
attribute [local go_sem] max2_int max_two
set_option linter.unusedVariables false
set_option linter.unusedSimpArgs false
def operand_Mod.f (k : Nat) (a0_0 : Bool) (a0_1 : ByteArray) (a0_2 : ByteArray) (a0_3 : ByteArray) (a0_4 : Int) (a0_5 : Int) (a0_6 : ByteArray) (a0_7 : ByteArray) (a0_8 : Int) (a1 : ByteArray) (a2 : ByteArray) : Option (Bool × ByteArray × ByteArray × Int) := (operand_Get.f k a0_0 a0_1 a0_2 a0_3 a0_4 a0_5 a0_6 a0_7 a0_8 a1).bind fun bt1198 => (if bt1198.2.2.2 = 0 then (if a2.toList = ([] : List UInt8) then (some (bt1198.1, bt1198.2.1, bt1198.2.2.1, 0)) else ((operand_number.f a2).bind fun t1203 => (if t1203 = true then (if a2.toList = ([48] : List UInt8) then (some (false, (⟨#[]⟩ : ByteArray), (⟨#[]⟩ : ByteArray), 40)) else ((decimal_Rem.f k bt1198.1 bt1198.2.1 bt1198.2.2.1 false a2 (⟨#[]⟩ : ByteArray)).bind fun bt1204 => (some (bt1204.1, bt1204.2.1, bt1204.2.2.1, bt1204.2.2.2)))) else (some (false, (⟨#[]⟩ : ByteArray), (⟨#[]⟩ : ByteArray), 40))))) else (some (false, (⟨#[]⟩ : ByteArray), (⟨#[]⟩ : ByteArray), bt1198.2.2.2)))
set_option maxHeartbeats 8000000 in
set_option maxRecDepth 100000 in
theorem operand_Mod.calls (k : Nat) (a0_0 : Bool) (a0_1 : ByteArray) (a0_2 : ByteArray) (a0_3 : ByteArray) (a0_4 : Int) (a0_5 : Int) (a0_6 : ByteArray) (a0_7 : ByteArray) (a0_8 : Int) (a1 : ByteArray) (a2 : ByteArray) (r1 : Bool) (r2 : ByteArray) (r3 : ByteArray) (r4 : Int) (w : World) (ht : TB w) (h : operand_Mod.f k a0_0 a0_1 a0_2 a0_3 a0_4 a0_5 a0_6 a0_7 a0_8 a1 a2 = some (r1, r2, r3, r4)) :
    Calls Tryd.prog 53 #[.agg #[.bool a0_0, .string a0_1, .string a0_2, .string a0_3, .int .i64 a0_4, .int .i64 a0_5, .string a0_6, .string a0_7, .int .i64 a0_8], .string a1, .string a2] w fun e w' => e = .returned (.tuple #[.agg #[.bool r1, .string r2, .string r3], .int .i64 r4]) ∧ Below w.heap.size w w' := by
 have hu45 := Tryd.underlying45
 have hu23 := Tryd.underlying23
 have HTB := Aside0.mk ht
 clear ht
 have HB := Aside0.mk (Below.refl w.heap.size w)
 unfold operand_Mod.f at h
 have H := h
 clear h
 replace H := Option.bind_eq_some_iff.mp H
 obtain ⟨⟨t1198, t1199, t1200, t1201⟩, A40, H⟩ := H
 try dsimp only at H
 have A4 := Aside0.mk A40
 clear A40
 have HF5 := Aside0.mk H
 clear H
 go_enter Tryd.func53, Tryd.ntmps53
 go_upto_if 17 with (first | ((with_reducible refine gate_dst (N := 3) rfl ?_); refine bx_ #[.bool a0_0, .string a0_1, .string a0_2, .string a0_3, .int .i64 a0_4, .int .i64 a0_5, .string a0_6, .string a0_7, .int .i64 a0_8] 45 ?_; intro gb1196 hg w6 hbox hb; have BK1196 := Aside0.mk (hbox); have GW1196 := Aside0.mk ((by rw [hg]; exact (below_size hb_) : w.heap.size ≤ gb1196)); have GE1196 := Aside0.mk ((by rw [hg]; exact (below_size hb_) : w.heap.size ≤ gb1196)); replace HB := Aside0.mk (below_step hb_ hb); clear hb hbox hg) | ((with_reducible refine gate_dst (N := 6) rfl ?_); refine bx_ #[.bool false, .string (⟨#[]⟩ : ByteArray), .string (⟨#[]⟩ : ByteArray)] 23 ?_; intro gb1197 hg w7 hbox hb; have BK1197 := Aside0.mk (hbox); have GW1197 := Aside0.mk ((by rw [hg]; exact (below_size hb_) : w.heap.size ≤ gb1197)); have GE1197 := Aside0.mk ((by rw [hg]; exact (below_size hb_) : w.heap.size ≤ gb1197)); have NB1196_1197 := BK1196.nl hg; have NB1197_1196 := BK1196.ng hg; replace BK1196 := BK1196.bl hb; replace HB := Aside0.mk (below_step hb_ hb); clear hb hbox hg; have hnb8 := NB1196_1197.out; have hnc8 := NB1197_1196.out; have hcz9_0 : w7.cell? ⟨gb1196, 0, none⟩ = some (.bool a0_0) := (blk_cell BK1196.out 0).trans rfl; have hcz9_1 : w7.cell? ⟨gb1196, 1, none⟩ = some (.string a0_1) := (blk_cell BK1196.out 1).trans rfl; have hcz9_2 : w7.cell? ⟨gb1196, 2, none⟩ = some (.string a0_2) := (blk_cell BK1196.out 2).trans rfl; have hcz9_3 : w7.cell? ⟨gb1196, 3, none⟩ = some (.string a0_3) := (blk_cell BK1196.out 3).trans rfl; have hcz9_4 : w7.cell? ⟨gb1196, 4, none⟩ = some (.int .i64 a0_4) := (blk_cell BK1196.out 4).trans rfl; have hcz9_5 : w7.cell? ⟨gb1196, 5, none⟩ = some (.int .i64 a0_5) := (blk_cell BK1196.out 5).trans rfl; have hcz9_6 : w7.cell? ⟨gb1196, 6, none⟩ = some (.string a0_6) := (blk_cell BK1196.out 6).trans rfl; have hcz9_7 : w7.cell? ⟨gb1196, 7, none⟩ = some (.string a0_7) := (blk_cell BK1196.out 7).trans rfl; have hcz9_8 : w7.cell? ⟨gb1196, 8, none⟩ = some (.int .i64 a0_8) := (blk_cell BK1196.out 8).trans rfl; have hfz9_0 := blk_frozen BK1196.out 0; have hfz9_1 := blk_frozen BK1196.out 1; have hfz9_2 := blk_frozen BK1196.out 2; have hfz9_3 := blk_frozen BK1196.out 3; have hfz9_4 := blk_frozen BK1196.out 4; have hfz9_5 := blk_frozen BK1196.out 5; have hfz9_6 := blk_frozen BK1196.out 6; have hfz9_7 := blk_frozen BK1196.out 7; have hfz9_8 := blk_frozen BK1196.out 8) | ((with_reducible refine gate_callee (f := 85) rfl ?_); refine gL_ (some 13) Tryd.func85 #[.agg #[.bool a0_0, .string a0_1, .string a0_2, .string a0_3, .int .i64 a0_4, .int .i64 a0_5, .string a0_6, .string a0_7, .int .i64 a0_8], .string a1] ?_; (with_reducible refine (operand_Get.calls k a0_0 a0_1 a0_2 a0_3 a0_4 a0_5 a0_6 a0_7 a0_8 a1 t1198 t1199 t1200 t1201 _ (TB.below HTB.out hb_) A4.out).mono ?_); rintro e w10 ⟨rfl, hb⟩; refine ⟨_, rfl, ?_⟩; replace BK1196 := BK1196.bl hb; replace BK1197 := BK1197.bl hb; replace HB := Aside0.mk (below_step hb_ hb)) | ((with_reducible refine gate_dst (N := 8) rfl ?_); refine bx_ #[.bool false, .string (⟨#[]⟩ : ByteArray), .string (⟨#[]⟩ : ByteArray)] 23 ?_; intro gb1202 hg w11 hbox hb; have BK1202 := Aside0.mk (hbox); have GW1202 := Aside0.mk ((by rw [hg]; exact (below_size hb_) : w.heap.size ≤ gb1202)); have GE1202 := Aside0.mk ((by rw [hg]; exact (below_size hb_) : w.heap.size ≤ gb1202)); have NB1196_1202 := BK1196.nl hg; have NB1202_1196 := BK1196.ng hg; have NB1197_1202 := BK1197.nl hg; have NB1202_1197 := BK1197.ng hg; replace BK1196 := BK1196.bl hb; replace BK1197 := BK1197.bl hb; replace HB := Aside0.mk (below_step hb_ hb); clear hb hbox hg; have hnb12 := NB1202_1196.out; have hnc12 := NB1196_1202.out; have hnb13 := NB1202_1197.out; have hnc13 := NB1197_1202.out; obtain ⟨hcz14_0, hcz14_1, hcz14_2, hfz14_0, hfz14_1, hfz14_2⟩ := BK1202.c3))
 (try simp only [Act.put, List.setIfInBounds_toArray, List.set_cons_zero, List.set_cons_succ])
 have H := HF5.out
 clear HF5
 by_cases c15 : t1201 = 0
 ·rw [if_pos c15] at H
  have c15b0 : (t1201 == 0) = true := beq_iff_eq.mpr c15
  have c15b1 : (t1201 != 0) = false := bne_eq_false_iff_eq.mpr c15
  clear c15
  (first | rw [c15b0] | (simp only [i64_w, i32_w]; rw [c15b0]) | rw [c15b1] | skip)
  by_cases c16 : a2.toList = ([] : List UInt8)
  ·rw [if_pos c16] at H
   have c16b0 : (a2.toList == ([] : List UInt8)) = true := beq_iff_eq.mpr c16
   have c16b1 : (a2.toList != ([] : List UInt8)) = false := bne_eq_false_iff_eq.mpr c16
   clear c16
   simp only [Option.some.injEq, Prod.mk.injEq] at H
   obtain ⟨rfl, rfl, rfl, rfl⟩ := H
   have hnb17 := NB1202_1196.out
   have hnc17 := NB1196_1202.out
   have hnb18 := NB1202_1197.out
   have hnc18 := NB1197_1202.out
   obtain ⟨hcz19_0, hcz19_1, hcz19_2, hfz19_0, hfz19_1, hfz19_2⟩ := BK1202.c3
   have hnb20 := NB1197_1196.out
   have hnc20 := NB1196_1197.out
   obtain ⟨hcz21_0, hcz21_1, hcz21_2, hfz21_0, hfz21_1, hfz21_2⟩ := BK1197.c3
   go_wp2
   refine bodyPost_ret (results_ct rfl _ _ gb1197 23 #[.bool t1198, .string t1199, .string t1200] (0, 0) _ rfl (by refine blk_put (cs := #[.bool t1198, .string t1199, .string (⟨#[]⟩ : ByteArray)]) ?_ 2 _ rfl; refine blk_put (cs := #[.bool t1198, .string (⟨#[]⟩ : ByteArray), .string (⟨#[]⟩ : ByteArray)]) ?_ 1 _ rfl; refine blk_put (cs := #[.bool false, .string (⟨#[]⟩ : ByteArray), .string (⟨#[]⟩ : ByteArray)]) ?_ 0 _ rfl; refine blk_far ?_ NB1197_1202.out _; refine blk_far ?_ NB1197_1202.out _; refine blk_far ?_ NB1197_1202.out _; exact BK1197.out) Tryd.underlying23 rfl (by kernel_rfl)) rfl ?_
   exact ⟨by first | rfl | (simp [errW_none, errW_some] <;> rfl) | (simp [*, errW_none, errW_some] <;> rfl) | (simp [bne_nil_]; done), by repeat (first | (with_reducible first | exact HB.out | apply below_alloc | apply pw_below_drewN | apply below_drew1 | refine below_set ?_ GE1196.out | refine below_set ?_ GE1197.out | refine below_set ?_ GE1202.out) | exact HB.out)⟩
  ·rw [if_neg c16] at H
   have c16b0 : (a2.toList == ([] : List UInt8)) = false := beq_eq_false_iff_ne.mpr c16
   have c16b1 : (a2.toList != ([] : List UInt8)) = true := bne_iff_ne.mpr c16
   replace H := Option.bind_eq_some_iff.mp H
   obtain ⟨t1203, A220, H⟩ := H
   try dsimp only at H
   have A22 := Aside0.mk A220
   clear A220
   by_cases c23 : t1203 = true
   ·subst c23
    have H1 : (if a2.toList = ([48] : List UInt8) then (some (false, (⟨#[]⟩ : ByteArray), (⟨#[]⟩ : ByteArray), 40)) else ((decimal_Rem.f k t1198 t1199 t1200 false a2 (⟨#[]⟩ : ByteArray)).bind fun bt1204 => (some (bt1204.1, bt1204.2.1, bt1204.2.2.1, bt1204.2.2.2)))) = some (r1, r2, r3, r4) := by rw [if_pos rfl] at H; exact H
    clear H
    have H := H1
    clear H1
    have HF24 := Aside0.mk H
    clear H
    go_upto_if 29 with (first | ((with_reducible refine gate_callee (f := 86) rfl ?_); refine gL_ (some 24) Tryd.func86 #[.string a2] ?_; (with_reducible refine (operand_number.calls a2 true _ A22.out).mono ?_); rintro e w25 ⟨rfl, hb⟩; refine ⟨_, rfl, ?_⟩; replace BK1196 := Aside0.mk (blk_below (g := gb1196) (o := .cells #[.bool a0_0, .string a0_1, .string a0_2, .string a0_3, .int .i64 a0_4, .int .i64 a0_5, .string a0_6, .string a0_7, .int .i64 a0_8] 45 (0, 0)) (by refine blk_far ?_ NB1196_1202.out _; refine blk_far ?_ NB1196_1202.out _; refine blk_far ?_ NB1196_1202.out _; exact BK1196.out) hb); replace BK1197 := Aside0.mk (blk_below (g := gb1197) (o := .cells #[.bool false, .string (⟨#[]⟩ : ByteArray), .string (⟨#[]⟩ : ByteArray)] 23 (0, 0)) (by refine blk_far ?_ NB1197_1202.out _; refine blk_far ?_ NB1197_1202.out _; refine blk_far ?_ NB1197_1202.out _; exact BK1197.out) hb); replace BK1202 := Aside0.mk (blk_below (g := gb1202) (o := .cells #[.bool t1198, .string t1199, .string t1200] 23 (0, 0)) (by refine blk_put (cs := #[.bool t1198, .string t1199, .string (⟨#[]⟩ : ByteArray)]) ?_ 2 _ rfl; refine blk_put (cs := #[.bool t1198, .string (⟨#[]⟩ : ByteArray), .string (⟨#[]⟩ : ByteArray)]) ?_ 1 _ rfl; refine blk_put (cs := #[.bool false, .string (⟨#[]⟩ : ByteArray), .string (⟨#[]⟩ : ByteArray)]) ?_ 0 _ rfl; exact BK1202.out) hb); replace HB := Aside0.mk (below_step hb_ hb)))
    (try simp only [Act.put, List.setIfInBounds_toArray, List.set_cons_zero, List.set_cons_succ])
    have H := HF24.out
    clear HF24
    by_cases c26 : a2.toList = ([48] : List UInt8)
    ·rw [if_pos c26] at H
     have c26b0 : (a2.toList == ([48] : List UInt8)) = true := beq_iff_eq.mpr c26
     have c26b1 : (a2.toList != ([48] : List UInt8)) = false := bne_eq_false_iff_eq.mpr c26
     clear c26
     (first | rw [c26b0] | (simp only [i64_w, i32_w]; rw [c26b0]) | rw [c26b1] | skip)
     simp only [Option.some.injEq, Prod.mk.injEq] at H
     obtain ⟨rfl, rfl, rfl, rfl⟩ := H
     have hnb27 := NB1197_1196.out
     have hnc27 := NB1196_1197.out
     have hnb28 := NB1197_1202.out
     have hnc28 := NB1202_1197.out
     obtain ⟨hcz29_0, hcz29_1, hcz29_2, hfz29_0, hfz29_1, hfz29_2⟩ := BK1197.c3
     go_wp2
     refine bodyPost_ret (results_ct rfl _ _ gb1197 23 #[.bool false, .string (⟨#[]⟩ : ByteArray), .string (⟨#[]⟩ : ByteArray)] (0, 0) _ rfl (by refine blk_put (cs := #[.bool false, .string (⟨#[]⟩ : ByteArray), .string (⟨#[]⟩ : ByteArray)]) ?_ 2 _ rfl; refine blk_put (cs := #[.bool false, .string (⟨#[]⟩ : ByteArray), .string (⟨#[]⟩ : ByteArray)]) ?_ 1 _ rfl; refine blk_put (cs := #[.bool false, .string (⟨#[]⟩ : ByteArray), .string (⟨#[]⟩ : ByteArray)]) ?_ 0 _ rfl; exact BK1197.out) Tryd.underlying23 rfl (by kernel_rfl)) rfl ?_
     exact ⟨by first | rfl | (simp [errW_none, errW_some] <;> rfl) | (simp [*, errW_none, errW_some] <;> rfl) | (simp [bne_nil_]; done), by repeat (first | (with_reducible first | exact HB.out | apply below_alloc | apply pw_below_drewN | apply below_drew1 | refine below_set ?_ GE1196.out | refine below_set ?_ GE1197.out | refine below_set ?_ GE1202.out) | exact HB.out)⟩
    ·rw [if_neg c26] at H
     have c26b0 : (a2.toList == ([48] : List UInt8)) = false := beq_eq_false_iff_ne.mpr c26
     have c26b1 : (a2.toList != ([48] : List UInt8)) = true := bne_iff_ne.mpr c26
     (first | rw [c26b0] | (simp only [i64_w, i32_w]; rw [c26b0]) | rw [c26b1] | skip)
     replace H := Option.bind_eq_some_iff.mp H
     obtain ⟨⟨t1204, t1205, t1206, t1207⟩, A300, H⟩ := H
     try dsimp only at H
     have A30 := Aside0.mk A300
     clear A300
     simp only [Option.some.injEq, Prod.mk.injEq] at H
     obtain ⟨rfl, rfl, rfl, rfl⟩ := H
     have hnb31 := NB1202_1196.out
     have hnc31 := NB1196_1202.out
     have hnb32 := NB1202_1197.out
     have hnc32 := NB1197_1202.out
     obtain ⟨hcz33_0, hcz33_1, hcz33_2, hfz33_0, hfz33_1, hfz33_2⟩ := BK1202.c3
     go_wp2_with (first | ((with_reducible refine gate_callee (f := 27) rfl ?_); refine gL_ (some 34) Tryd.func27 #[.agg #[.bool t1198, .string t1199, .string t1200], .agg #[.bool false, .string a2, .string (⟨#[]⟩ : ByteArray)]] ?_; (with_reducible refine (decimal_Rem.calls k t1198 t1199 t1200 false a2 (⟨#[]⟩ : ByteArray) t1204 t1205 t1206 t1207 _ A30.out).mono ?_); rintro e w34 ⟨rfl, hb⟩; refine ⟨_, rfl, ?_⟩; replace BK1196 := BK1196.bl hb; replace BK1197 := BK1197.bl hb; replace BK1202 := BK1202.bl hb; replace HB := Aside0.mk (below_step hb_ hb); have hnb35 := NB1197_1196.out; have hnc35 := NB1196_1197.out; obtain ⟨hcz36_0, hcz36_1, hcz36_2, hfz36_0, hfz36_1, hfz36_2⟩ := BK1197.c3))
     refine bodyPost_ret (results_ct rfl _ _ gb1197 23 #[.bool t1204, .string t1205, .string t1206] (0, 0) _ rfl (by refine blk_put (cs := #[.bool t1204, .string t1205, .string (⟨#[]⟩ : ByteArray)]) ?_ 2 _ rfl; refine blk_put (cs := #[.bool t1204, .string (⟨#[]⟩ : ByteArray), .string (⟨#[]⟩ : ByteArray)]) ?_ 1 _ rfl; refine blk_put (cs := #[.bool false, .string (⟨#[]⟩ : ByteArray), .string (⟨#[]⟩ : ByteArray)]) ?_ 0 _ rfl; exact BK1197.out) Tryd.underlying23 rfl (by kernel_rfl)) rfl ?_
     exact ⟨by first | rfl | (simp [errW_none, errW_some] <;> rfl) | (simp [*, errW_none, errW_some] <;> rfl) | (simp [bne_nil_]; done), by repeat (first | (with_reducible first | exact HB.out | apply below_alloc | apply pw_below_drewN | apply below_drew1 | refine below_set ?_ GE1196.out | refine below_set ?_ GE1197.out | refine below_set ?_ GE1202.out) | exact HB.out)⟩
   ·replace c23 := Bool.eq_false_iff.mpr c23
    subst c23
    have H1 : (some (false, (⟨#[]⟩ : ByteArray), (⟨#[]⟩ : ByteArray), 40)) = some (r1, r2, r3, r4) := by rw [if_neg (show ¬ (false = true) by decide)] at H; exact H
    clear H
    have H := H1
    clear H1
    simp only [Option.some.injEq, Prod.mk.injEq] at H
    obtain ⟨rfl, rfl, rfl, rfl⟩ := H
    go_wp2_with (first | ((with_reducible refine gate_callee (f := 86) rfl ?_); refine gL_ (some 24) Tryd.func86 #[.string a2] ?_; (with_reducible refine (operand_number.calls a2 false _ A22.out).mono ?_); rintro e w37 ⟨rfl, hb⟩; refine ⟨_, rfl, ?_⟩; replace BK1196 := Aside0.mk (blk_below (g := gb1196) (o := .cells #[.bool a0_0, .string a0_1, .string a0_2, .string a0_3, .int .i64 a0_4, .int .i64 a0_5, .string a0_6, .string a0_7, .int .i64 a0_8] 45 (0, 0)) (by refine blk_far ?_ NB1196_1202.out _; refine blk_far ?_ NB1196_1202.out _; refine blk_far ?_ NB1196_1202.out _; exact BK1196.out) hb); replace BK1197 := Aside0.mk (blk_below (g := gb1197) (o := .cells #[.bool false, .string (⟨#[]⟩ : ByteArray), .string (⟨#[]⟩ : ByteArray)] 23 (0, 0)) (by refine blk_far ?_ NB1197_1202.out _; refine blk_far ?_ NB1197_1202.out _; refine blk_far ?_ NB1197_1202.out _; exact BK1197.out) hb); replace BK1202 := Aside0.mk (blk_below (g := gb1202) (o := .cells #[.bool t1198, .string t1199, .string t1200] 23 (0, 0)) (by refine blk_put (cs := #[.bool t1198, .string t1199, .string (⟨#[]⟩ : ByteArray)]) ?_ 2 _ rfl; refine blk_put (cs := #[.bool t1198, .string (⟨#[]⟩ : ByteArray), .string (⟨#[]⟩ : ByteArray)]) ?_ 1 _ rfl; refine blk_put (cs := #[.bool false, .string (⟨#[]⟩ : ByteArray), .string (⟨#[]⟩ : ByteArray)]) ?_ 0 _ rfl; exact BK1202.out) hb); replace HB := Aside0.mk (below_step hb_ hb); have hnb38 := NB1197_1196.out; have hnc38 := NB1196_1197.out; have hnb39 := NB1197_1202.out; have hnc39 := NB1202_1197.out; obtain ⟨hcz40_0, hcz40_1, hcz40_2, hfz40_0, hfz40_1, hfz40_2⟩ := BK1197.c3))
    refine bodyPost_ret (results_ct rfl _ _ gb1197 23 #[.bool false, .string (⟨#[]⟩ : ByteArray), .string (⟨#[]⟩ : ByteArray)] (0, 0) _ rfl (by refine blk_put (cs := #[.bool false, .string (⟨#[]⟩ : ByteArray), .string (⟨#[]⟩ : ByteArray)]) ?_ 2 _ rfl; refine blk_put (cs := #[.bool false, .string (⟨#[]⟩ : ByteArray), .string (⟨#[]⟩ : ByteArray)]) ?_ 1 _ rfl; refine blk_put (cs := #[.bool false, .string (⟨#[]⟩ : ByteArray), .string (⟨#[]⟩ : ByteArray)]) ?_ 0 _ rfl; exact BK1197.out) Tryd.underlying23 rfl (by kernel_rfl)) rfl ?_
    exact ⟨by first | rfl | (simp [errW_none, errW_some] <;> rfl) | (simp [*, errW_none, errW_some] <;> rfl) | (simp [bne_nil_]; done), by repeat (first | (with_reducible first | exact HB.out | apply below_alloc | apply pw_below_drewN | apply below_drew1 | refine below_set ?_ GE1196.out | refine below_set ?_ GE1197.out | refine below_set ?_ GE1202.out) | exact HB.out)⟩
 ·rw [if_neg c15] at H
  have c15b0 : (t1201 == 0) = false := beq_eq_false_iff_ne.mpr c15
  have c15b1 : (t1201 != 0) = true := bne_iff_ne.mpr c15
  (first | rw [c15b0] | (simp only [i64_w, i32_w]; rw [c15b0]) | rw [c15b1] | skip)
  simp only [Option.some.injEq, Prod.mk.injEq] at H
  obtain ⟨rfl, rfl, rfl, rfl⟩ := H
  have hnb41 := NB1197_1196.out
  have hnc41 := NB1196_1197.out
  have hnb42 := NB1197_1202.out
  have hnc42 := NB1202_1197.out
  obtain ⟨hcz43_0, hcz43_1, hcz43_2, hfz43_0, hfz43_1, hfz43_2⟩ := BK1197.c3
  go_wp2
  refine bodyPost_ret (results_ct rfl _ _ gb1197 23 #[.bool false, .string (⟨#[]⟩ : ByteArray), .string (⟨#[]⟩ : ByteArray)] (0, 0) _ rfl (by refine blk_put (cs := #[.bool false, .string (⟨#[]⟩ : ByteArray), .string (⟨#[]⟩ : ByteArray)]) ?_ 2 _ rfl; refine blk_put (cs := #[.bool false, .string (⟨#[]⟩ : ByteArray), .string (⟨#[]⟩ : ByteArray)]) ?_ 1 _ rfl; refine blk_put (cs := #[.bool false, .string (⟨#[]⟩ : ByteArray), .string (⟨#[]⟩ : ByteArray)]) ?_ 0 _ rfl; refine blk_far ?_ NB1197_1202.out _; refine blk_far ?_ NB1197_1202.out _; refine blk_far ?_ NB1197_1202.out _; exact BK1197.out) Tryd.underlying23 rfl (by kernel_rfl)) rfl ?_
  exact ⟨by first | rfl | (simp [errW_none, errW_some] <;> rfl) | (simp [*, errW_none, errW_some] <;> rfl) | (simp [bne_nil_]; done), by repeat (first | (with_reducible first | exact HB.out | apply below_alloc | apply pw_below_drewN | apply below_drew1 | refine below_set ?_ GE1196.out | refine below_set ?_ GE1197.out | refine below_set ?_ GE1202.out) | exact HB.out)⟩
end Go.Proofs.YtihjcaglhjepdaaDoor.P
namespace Go.Proofs.YtihjcaglhjepdaaDoor.P
open Go.RowKit Go.Proofs.YtihjcaglhjepdaaDoorW.PrintWords Go.Proofs.YtihjcaglhjepdaaDoorW.PrintLast Go.Proofs.YtihjcaglhjepdaaDoorW.PrintMore
attribute [local go_sem] max2_int max_two
set_option linter.unusedVariables false
set_option linter.unusedSimpArgs false
mutual
def operand_In.j0 : Nat → Bool → ByteArray → ByteArray → Bool → Bool → List (S60) → Bool → ByteArray → ByteArray → Option (Bool × Int)
  | 0, _, _, _, _, _, _, _, _, _ => none
  | k + 1, x38, x1210000, x1210001, x1210002, x1210003, x1210004, x1215000, x1215001, x1215002 => if x38 = true then (some (false, 40)) else (operand_In.l0 k x1210004 (x1210004.length : Int) 0 x1210000 x1210001 x1210002 x1210003 x1210004 x1215000 x1215001 x1215002)
def operand_In.l0 : Nat → List (S60) → Int → Int → ByteArray → ByteArray → Bool → Bool → List (S60) → Bool → ByteArray → ByteArray → Option (Bool × Int)
  | 0, _, _, _, _, _, _, _, _, _, _, _ => none
  | k + 1, x40, x41, x42, x1210000, x1210001, x1210002, x1210003, x1210004, x1215000, x1215001, x1215002 => if x42 < x41 then (if 0 ≤ x42 then (if x42 < (x40.length : Int) then ((operand_number.f ((rd_T60 x40 x42).f0)).bind fun t1217 => (if t1217 = true then ((operand_number.f ((rd_T60 x40 x42).f1)).bind fun t1218 => (if t1218 = true then (if (((rd_T60 x40 x42).f0).size : Int) > (((rd_T60 x40 x42).f1).size : Int) then (some (false, 40)) else (if (((rd_T60 x40 x42).f0).size : Int) = (((rd_T60 x40 x42).f1).size : Int) then (if (Op.bytesLess (((rd_T60 x40 x42).f1).toList) (((rd_T60 x40 x42).f0).toList)) = true then (some (false, 40)) else (operand_In.l0 k x40 x41 (wrap64 (x42 + 1)) x1210000 x1210001 x1210002 x1210003 x1210004 x1215000 x1215001 x1215002)) else (operand_In.l0 k x40 x41 (wrap64 (x42 + 1)) x1210000 x1210001 x1210002 x1210003 x1210004 x1215000 x1215001 x1215002))) else (some (false, 40)))) else (some (false, 40)))) else (none)) else (none)) else (operand_In.l1 k false x1210004 (x1210004.length : Int) 0 x1210000 x1210001 x1210002 x1210003 x1210004 x1215000 x1215001 x1215002)
def operand_In.l1 : Nat → Bool → List (S60) → Int → Int → ByteArray → ByteArray → Bool → Bool → List (S60) → Bool → ByteArray → ByteArray → Option (Bool × Int)
  | 0, _, _, _, _, _, _, _, _, _, _, _, _ => none
  | k + 1, x10, x83, x84, x85, x1210000, x1210001, x1210002, x1210003, x1210004, x1215000, x1215001, x1215002 => if x85 < x84 then (if 0 ≤ x85 then (if x85 < (x83.length : Int) then ((decimal_Compare.f k false ((rd_T60 x83 x85).f0) (⟨#[]⟩ : ByteArray) x1215000 x1215001 x1215002).bind fun bt1221 => ((decimal_Compare.f k x1215000 x1215001 x1215002 false ((rd_T60 x83 x85).f1) (⟨#[]⟩ : ByteArray)).bind fun bt1223 => (if x10 = true then (operand_In.l1 k true x83 x84 (wrap64 (x85 + 1)) x1210000 x1210001 x1210002 x1210003 x1210004 x1215000 x1215001 x1215002) else (if bt1221.1 ≤ 0 then (operand_In.l1 k (decide (bt1223.1 ≤ 0)) x83 x84 (wrap64 (x85 + 1)) x1210000 x1210001 x1210002 x1210003 x1210004 x1215000 x1215001 x1215002) else (operand_In.l1 k false x83 x84 (wrap64 (x85 + 1)) x1210000 x1210001 x1210002 x1210003 x1210004 x1215000 x1215001 x1215002))))) else (none)) else (none)) else (if x1210003 = true then (some ((x10 != x1210002), 0)) else ((strings_Trim.f x1215002 (⟨#[48]⟩ : ByteArray)).bind fun t1225 => (if t1225.toList = ([] : List UInt8) then (some ((x10 != x1210002), 0)) else (some ((false != x1210002), 0)))))
end
def operand_In.f (k : Nat) (a0_0 : Bool) (a0_1 : ByteArray) (a0_2 : ByteArray) (a0_3 : ByteArray) (a0_4 : Int) (a0_5 : Int) (a0_6 : ByteArray) (a0_7 : ByteArray) (a0_8 : Int) (a1_0 : ByteArray) (a1_1 : ByteArray) (a1_2 : Bool) (a1_3 : Bool) (l1_4 : List (S60)) : Option (Bool × Int) := (operand_Mod.f k a0_0 a0_1 a0_2 a0_3 a0_4 a0_5 a0_6 a0_7 a0_8 a1_0 a1_1).bind fun bt1210 => (if bt1210.2.2.2 = 0 then (if (l1_4.length : Int) < 1 then (operand_In.j0 k true a1_0 a1_1 a1_2 a1_3 l1_4 bt1210.1 bt1210.2.1 bt1210.2.2.1) else (operand_In.j0 k (decide ((l1_4.length : Int) > 64)) a1_0 a1_1 a1_2 a1_3 l1_4 bt1210.1 bt1210.2.1 bt1210.2.2.1)) else (some (false, bt1210.2.2.2)))
set_option maxHeartbeats 8000000 in
set_option maxRecDepth 100000 in
theorem operand_In.calls (k : Nat) (a0_0 : Bool) (a0_1 : ByteArray) (a0_2 : ByteArray) (a0_3 : ByteArray) (a0_4 : Int) (a0_5 : Int) (a0_6 : ByteArray) (a0_7 : ByteArray) (a0_8 : Int) (a1_0 : ByteArray) (a1_1 : ByteArray) (a1_2 : Bool) (a1_3 : Bool) (A1_4 : Option Addr) (c1_4 : Nat) (l1_4 : List (S60)) (r1 : Bool) (r2 : Int) (w : World) (ht : TB w) (hr1_4 : Kd.C k60 w A1_4 l1_4.length l1_4) (hc1_4 : l1_4.length ≤ c1_4) (h : operand_In.f k a0_0 a0_1 a0_2 a0_3 a0_4 a0_5 a0_6 a0_7 a0_8 a1_0 a1_1 a1_2 a1_3 l1_4 = some (r1, r2)) :
    Calls Tryd.prog 52 #[.agg #[.bool a0_0, .string a0_1, .string a0_2, .string a0_3, .int .i64 a0_4, .int .i64 a0_5, .string a0_6, .string a0_7, .int .i64 a0_8], .agg #[.string a1_0, .string a1_1, .bool a1_2, .bool a1_3, .slice A1_4 l1_4.length c1_4]] w fun e w' => e = .returned (.tuple #[.bool r1, .int .i64 r2]) ∧ Below w.heap.size w w' := by
 have hu45 := Tryd.underlying45
 have hu54 := Tryd.underlying54
 have hu23 := Tryd.underlying23
 have hu60 := Tryd.underlying60
 have HR1_4 := Aside0.mk hr1_4
 have HC1_4 := Aside0.mk hc1_4
 clear hr1_4 hc1_4
 have HTB := Aside0.mk ht
 clear ht
 have HB := Aside0.mk (Below.refl w.heap.size w)
 unfold operand_In.f at h
 have H := h
 clear h
 replace H := Option.bind_eq_some_iff.mp H
 obtain ⟨⟨t1210, t1211, t1212, t1213⟩, A30, H⟩ := H
 try dsimp only at H
 have A3 := Aside0.mk A30
 clear A30
 have HF4 := Aside0.mk H
 clear H
 go_enter Tryd.func52, Tryd.ntmps52
 go_upto_if 27 with (first | ((with_reducible refine gate_dst (N := 2) rfl ?_); (try (refine gate_guard (by rfl) ?_; dsimp only)); refine box_event ?hg (N := 2) ?hd (cs := #[.bool a0_0, .string a0_1, .string a0_2, .string a0_3, .int .i64 a0_4, .int .i64 a0_5, .string a0_6, .string a0_7, .int .i64 a0_8]) (t := 45) ?hr ?_; (case hd => rfl); (case hg => rfl); (case hr => first | (go_simp; done) | (go_simp; rfl)); intro gb1208 hg w5 hbox hb; have BK1208 := Aside0.mk (hbox); have GW1208 := Aside0.mk ((by rw [hg]; exact (below_size hb_) : w.heap.size ≤ gb1208)); have GE1208 := Aside0.mk ((by rw [hg]; exact (below_size hb_) : w.heap.size ≤ gb1208)); replace HB := Aside0.mk (below_step hb_ hb); clear hb hbox hg) | ((with_reducible refine gate_dst (N := 3) rfl ?_); (try (refine gate_guard (by rfl) ?_; dsimp only)); refine box_event ?hg (N := 3) ?hd (cs := #[.string a1_0, .string a1_1, .bool a1_2, .bool a1_3, .slice A1_4 l1_4.length c1_4]) (t := 54) ?hr ?_; (case hd => rfl); (case hg => rfl); (case hr => first | (go_simp; done) | (go_simp; rfl)); intro gb1209 hg w6 hbox hb; have BK1209 := Aside0.mk (hbox); have GW1209 := Aside0.mk ((by rw [hg]; exact (below_size hb_) : w.heap.size ≤ gb1209)); have GE1209 := Aside0.mk ((by rw [hg]; exact (below_size hb_) : w.heap.size ≤ gb1209)); have NB1208_1209 := BK1208.nl hg; have NB1209_1208 := BK1208.ng hg; replace BK1208 := BK1208.bl hb; replace HB := Aside0.mk (below_step hb_ hb); clear hb hbox hg; have hnb7 := NB1208_1209.out; have hnc7 := NB1209_1208.out; have hcz8_0 : w6.cell? ⟨gb1208, 0, none⟩ = some (.bool a0_0) := (blk_cell BK1208.out 0).trans rfl; have hcz8_1 : w6.cell? ⟨gb1208, 1, none⟩ = some (.string a0_1) := (blk_cell BK1208.out 1).trans rfl; have hcz8_2 : w6.cell? ⟨gb1208, 2, none⟩ = some (.string a0_2) := (blk_cell BK1208.out 2).trans rfl; have hcz8_3 : w6.cell? ⟨gb1208, 3, none⟩ = some (.string a0_3) := (blk_cell BK1208.out 3).trans rfl; have hcz8_4 : w6.cell? ⟨gb1208, 4, none⟩ = some (.int .i64 a0_4) := (blk_cell BK1208.out 4).trans rfl; have hcz8_5 : w6.cell? ⟨gb1208, 5, none⟩ = some (.int .i64 a0_5) := (blk_cell BK1208.out 5).trans rfl; have hcz8_6 : w6.cell? ⟨gb1208, 6, none⟩ = some (.string a0_6) := (blk_cell BK1208.out 6).trans rfl; have hcz8_7 : w6.cell? ⟨gb1208, 7, none⟩ = some (.string a0_7) := (blk_cell BK1208.out 7).trans rfl; have hcz8_8 : w6.cell? ⟨gb1208, 8, none⟩ = some (.int .i64 a0_8) := (blk_cell BK1208.out 8).trans rfl; have hfz8_0 := blk_frozen BK1208.out 0; have hfz8_1 := blk_frozen BK1208.out 1; have hfz8_2 := blk_frozen BK1208.out 2; have hfz8_3 := blk_frozen BK1208.out 3; have hfz8_4 := blk_frozen BK1208.out 4; have hfz8_5 := blk_frozen BK1208.out 5; have hfz8_6 := blk_frozen BK1208.out 6; have hfz8_7 := blk_frozen BK1208.out 7; have hfz8_8 := blk_frozen BK1208.out 8; have hcz9_0 : w6.cell? ⟨gb1209, 0, none⟩ = some (.string a1_0) := (blk_cell BK1209.out 0).trans rfl; have hcz9_1 : w6.cell? ⟨gb1209, 1, none⟩ = some (.string a1_1) := (blk_cell BK1209.out 1).trans rfl; have hcz9_2 : w6.cell? ⟨gb1209, 2, none⟩ = some (.bool a1_2) := (blk_cell BK1209.out 2).trans rfl; have hcz9_3 : w6.cell? ⟨gb1209, 3, none⟩ = some (.bool a1_3) := (blk_cell BK1209.out 3).trans rfl; have hcz9_4 : w6.cell? ⟨gb1209, 4, none⟩ = some (.slice A1_4 l1_4.length c1_4) := (blk_cell BK1209.out 4).trans rfl; have hfz9_0 := blk_frozen BK1209.out 0; have hfz9_1 := blk_frozen BK1209.out 1; have hfz9_2 := blk_frozen BK1209.out 2; have hfz9_3 := blk_frozen BK1209.out 3; have hfz9_4 := blk_frozen BK1209.out 4) | ((with_reducible refine gate_callee (f := 53) rfl ?_); refine gL_ (some 23) Tryd.func53 #[.agg #[.bool a0_0, .string a0_1, .string a0_2, .string a0_3, .int .i64 a0_4, .int .i64 a0_5, .string a0_6, .string a0_7, .int .i64 a0_8], .string a1_0, .string a1_1] ?_; (with_reducible refine (operand_Mod.calls k a0_0 a0_1 a0_2 a0_3 a0_4 a0_5 a0_6 a0_7 a0_8 a1_0 a1_1 t1210 t1211 t1212 t1213 _ (TB.below HTB.out hb_) A3.out).mono ?_); rintro e w10 ⟨rfl, hb⟩; refine ⟨_, rfl, ?_⟩; replace BK1208 := BK1208.bl hb; replace BK1209 := BK1209.bl hb; replace HB := Aside0.mk (below_step hb_ hb)) | ((with_reducible refine gate_dst (N := 6) rfl ?_); (try (refine gate_guard (by rfl) ?_; dsimp only)); refine box_event ?hg (N := 6) ?hd (cs := #[.bool false, .string (⟨#[]⟩ : ByteArray), .string (⟨#[]⟩ : ByteArray)]) (t := 23) ?hr ?_; (case hd => rfl); (case hg => rfl); (case hr => first | (go_simp; done) | (go_simp; rfl)); intro gb1214 hg w11 hbox hb; have BK1214 := Aside0.mk (hbox); have GW1214 := Aside0.mk ((by rw [hg]; exact (below_size hb_) : w.heap.size ≤ gb1214)); have GE1214 := Aside0.mk ((by rw [hg]; exact (below_size hb_) : w.heap.size ≤ gb1214)); have NB1208_1214 := BK1208.nl hg; have NB1214_1208 := BK1208.ng hg; have NB1209_1214 := BK1209.nl hg; have NB1214_1209 := BK1209.ng hg; replace BK1208 := BK1208.bl hb; replace BK1209 := BK1209.bl hb; replace HB := Aside0.mk (below_step hb_ hb); clear hb hbox hg; have hnb12 := NB1214_1208.out; have hnc12 := NB1208_1214.out; have hnb13 := NB1214_1209.out; have hnc13 := NB1209_1214.out; obtain ⟨hcz14_0, hcz14_1, hcz14_2, hfz14_0, hfz14_1, hfz14_2⟩ := BK1214.c3))
 (try simp only [Act.put, List.setIfInBounds_toArray, List.set_cons_zero, List.set_cons_succ])
 have H := HF4.out
 clear HF4
 by_cases c15 : t1213 = 0
 ·rw [if_pos c15] at H
  have c15b0 : (t1213 == 0) = true := beq_iff_eq.mpr c15
  have c15b1 : (t1213 != 0) = false := bne_eq_false_iff_eq.mpr c15
  clear c15
  (first | rw [c15b0] | (simp only [i64_w, i32_w]; rw [c15b0]) | rw [c15b1] | skip)
  have HC16 := Aside0.mk H
  clear H
  go_upto_region 4 with (fail)
  go_cut [38] (fun v38 wc => ∃ (kq : Nat) (x38_15 : Bool), v38 = .bool x38_15 ∧ Aside0 (operand_In.j0 kq x38_15 a1_0 a1_1 a1_2 a1_3 l1_4 t1210 t1211 t1212 = some (r1, r2)) ∧ Aside0 (kq ≤ k) ∧ Aside0 (wc.heap[gb1208]? = some (.cells #[.bool a0_0, .string a0_1, .string a0_2, .string a0_3, .int .i64 a0_4, .int .i64 a0_5, .string a0_6, .string a0_7, .int .i64 a0_8] 45 (0, 0))) ∧ Aside0 (wc.heap[gb1209]? = some (.cells #[.string a1_0, .string a1_1, .bool a1_2, .bool a1_3, (.slice A1_4 l1_4.length c1_4)] 54 (0, 0))) ∧ Aside0 (wc.heap[gb1214]? = some (.cells #[.bool t1210, .string t1211, .string t1212] 23 (0, 0))) ∧ Aside0 (Below w.heap.size w wc))
  case first =>
   have H := HC16.out
   clear HC16
   by_cases c17 : (l1_4.length : Int) < 1
   ·rw [if_pos c17] at H
    have c17b0 : decide ((l1_4.length : Int) < 1) = true := decide_eq_true c17
    have c17b1 : decide (l1_4.length < 1) = true := decide_eq_true (by omega)
    clear c17
    (first | rw [c17b0] | (simp only [i64_w, i32_w]; rw [c17b0]) | rw [c17b1] | skip)
    have H' := Aside0.mk H
    clear H
    have hnb18 := NB1209_1208.out
    have hnc18 := NB1208_1209.out
    have hnb19 := NB1209_1214.out
    have hnc19 := NB1214_1209.out
    have hcz20_0 : w11.cell? ⟨gb1209, 0, none⟩ = some (.string a1_0) := (blk_cell BK1209.out 0).trans rfl
    have hcz20_1 : w11.cell? ⟨gb1209, 1, none⟩ = some (.string a1_1) := (blk_cell BK1209.out 1).trans rfl
    have hcz20_2 : w11.cell? ⟨gb1209, 2, none⟩ = some (.bool a1_2) := (blk_cell BK1209.out 2).trans rfl
    have hcz20_3 : w11.cell? ⟨gb1209, 3, none⟩ = some (.bool a1_3) := (blk_cell BK1209.out 3).trans rfl
    have hcz20_4 : w11.cell? ⟨gb1209, 4, none⟩ = some (.slice A1_4 l1_4.length c1_4) := (blk_cell BK1209.out 4).trans rfl
    have hfz20_0 := blk_frozen BK1209.out 0
    have hfz20_1 := blk_frozen BK1209.out 1
    have hfz20_2 := blk_frozen BK1209.out 2
    have hfz20_3 := blk_frozen BK1209.out 3
    have hfz20_4 := blk_frozen BK1209.out 4
    go_wp2
    go_meet
    case rel => exact ⟨_, (true), (by first | rfl | (simp; done) | (simp [*]; done)), H', ⟨by first | omega | exact Nat.le_refl _⟩, ⟨by refine blk_far ?_ NB1208_1214.out _; refine blk_far ?_ NB1208_1214.out _; refine blk_far ?_ NB1208_1214.out _; exact BK1208.out⟩, ⟨by refine blk_far ?_ NB1209_1214.out _; refine blk_far ?_ NB1209_1214.out _; refine blk_far ?_ NB1209_1214.out _; exact BK1209.out⟩, ⟨by refine blk_put (cs := #[.bool t1210, .string t1211, .string (⟨#[]⟩ : ByteArray)]) ?_ 2 _ rfl; refine blk_put (cs := #[.bool t1210, .string (⟨#[]⟩ : ByteArray), .string (⟨#[]⟩ : ByteArray)]) ?_ 1 _ rfl; refine blk_put (cs := #[.bool false, .string (⟨#[]⟩ : ByteArray), .string (⟨#[]⟩ : ByteArray)]) ?_ 0 _ rfl; exact BK1214.out⟩, ⟨by repeat (first | (with_reducible first | exact HB.out | apply below_alloc | apply pw_below_drewN | apply below_drew1 | refine below_set ?_ GE1208.out | refine below_set ?_ GE1209.out | refine below_set ?_ GE1214.out) | exact HB.out)⟩⟩
   ·rw [if_neg c17] at H
    have c17b0 : decide ((l1_4.length : Int) < 1) = false := decide_eq_false c17
    have c17b1 : decide (l1_4.length < 1) = false := decide_eq_false (by omega)
    clear c17
    (first | rw [c17b0] | (simp only [i64_w, i32_w]; rw [c17b0]) | rw [c17b1] | skip)
    have H' := Aside0.mk H
    clear H
    have hnb21 := NB1209_1208.out
    have hnc21 := NB1208_1209.out
    have hnb22 := NB1209_1214.out
    have hnc22 := NB1214_1209.out
    have hcz23_0 : w11.cell? ⟨gb1209, 0, none⟩ = some (.string a1_0) := (blk_cell BK1209.out 0).trans rfl
    have hcz23_1 : w11.cell? ⟨gb1209, 1, none⟩ = some (.string a1_1) := (blk_cell BK1209.out 1).trans rfl
    have hcz23_2 : w11.cell? ⟨gb1209, 2, none⟩ = some (.bool a1_2) := (blk_cell BK1209.out 2).trans rfl
    have hcz23_3 : w11.cell? ⟨gb1209, 3, none⟩ = some (.bool a1_3) := (blk_cell BK1209.out 3).trans rfl
    have hcz23_4 : w11.cell? ⟨gb1209, 4, none⟩ = some (.slice A1_4 l1_4.length c1_4) := (blk_cell BK1209.out 4).trans rfl
    have hfz23_0 := blk_frozen BK1209.out 0
    have hfz23_1 := blk_frozen BK1209.out 1
    have hfz23_2 := blk_frozen BK1209.out 2
    have hfz23_3 := blk_frozen BK1209.out 3
    have hfz23_4 := blk_frozen BK1209.out 4
    go_wp2
    go_meet
    case rel => exact ⟨_, (decide ((l1_4.length : Int) > 64)), (by first | rfl | (simp; done) | (simp [*]; done)), H', ⟨by first | omega | exact Nat.le_refl _⟩, ⟨by refine blk_far ?_ NB1208_1214.out _; refine blk_far ?_ NB1208_1214.out _; refine blk_far ?_ NB1208_1214.out _; exact BK1208.out⟩, ⟨by refine blk_far ?_ NB1209_1214.out _; refine blk_far ?_ NB1209_1214.out _; refine blk_far ?_ NB1209_1214.out _; exact BK1209.out⟩, ⟨by refine blk_put (cs := #[.bool t1210, .string t1211, .string (⟨#[]⟩ : ByteArray)]) ?_ 2 _ rfl; refine blk_put (cs := #[.bool t1210, .string (⟨#[]⟩ : ByteArray), .string (⟨#[]⟩ : ByteArray)]) ?_ 1 _ rfl; refine blk_put (cs := #[.bool false, .string (⟨#[]⟩ : ByteArray), .string (⟨#[]⟩ : ByteArray)]) ?_ 0 _ rfl; exact BK1214.out⟩, ⟨by repeat (first | (with_reducible first | exact HB.out | apply below_alloc | apply pw_below_drewN | apply below_drew1 | refine below_set ?_ GE1208.out | refine below_set ?_ GE1209.out | refine below_set ?_ GE1214.out) | exact HB.out)⟩⟩
  case rest =>
   clear HC16
   (try clear c15); (try clear c15b0); (try clear c15b1); (try clear hcz14_0); (try clear hcz14_1); (try clear hcz14_2); (try clear hcz8_0); (try clear hcz8_1); (try clear hcz8_2); (try clear hcz8_3); (try clear hcz8_4); (try clear hcz8_5); (try clear hcz8_6); (try clear hcz8_7); (try clear hcz8_8); (try clear hcz9_0); (try clear hcz9_1); (try clear hcz9_2); (try clear hcz9_3); (try clear hcz9_4); (try clear hfz14_0); (try clear hfz14_1); (try clear hfz14_2); (try clear hfz8_0); (try clear hfz8_1); (try clear hfz8_2); (try clear hfz8_3); (try clear hfz8_4); (try clear hfz8_5); (try clear hfz8_6); (try clear hfz8_7); (try clear hfz8_8); (try clear hfz9_0); (try clear hfz9_1); (try clear hfz9_2); (try clear hfz9_3); (try clear hfz9_4)
   obtain ⟨kq, x38_15, rfl, HA, HJ15, BK1208, BK1209, BK1214, HB⟩ := hcut
   cases kq with
   | zero => exact absurd HA.out (by simp [operand_In.j0])
   | succ kj15 =>
    have H := HA.out
    clear HA
    simp only [operand_In.j0] at H
    by_cases c24 : x38_15 = true
    ·subst c24
     have H1 : (some (false, 40)) = some (r1, r2) := by rw [if_pos rfl] at H; exact H
     clear H
     have H := H1
     clear H1
     simp only [Option.some.injEq, Prod.mk.injEq] at H
     obtain ⟨rfl, rfl⟩ := H
     go_wp2
     go_ret2
     exact ⟨by first | rfl | (simp [errW_none, errW_some] <;> rfl) | (simp [*, errW_none, errW_some] <;> rfl) | (simp [bne_nil_]; done), by repeat (first | (with_reducible first | exact HB.out | apply below_alloc | apply pw_below_drewN | apply below_drew1 | refine below_set ?_ GE1208.out | refine below_set ?_ GE1209.out | refine below_set ?_ GE1214.out) | exact HB.out)⟩
    ·replace c24 := Bool.eq_false_iff.mpr c24
     subst c24
     have H1 : (operand_In.l0 kj15 l1_4 (l1_4.length : Int) 0 a1_0 a1_1 a1_2 a1_3 l1_4 t1210 t1211 t1212) = some (r1, r2) := by rw [if_neg (show ¬ (false = true) by decide)] at H; exact H
     clear H
     have H := H1
     clear H1
     have H' := Aside0.mk H
     clear H
     have hnb25 := NB1209_1208.out
     have hnc25 := NB1208_1209.out
     have hnb26 := NB1209_1214.out
     have hnc26 := NB1214_1209.out
     have hcz27_0 : wc.cell? ⟨gb1209, 0, none⟩ = some (.string a1_0) := (blk_cell BK1209.out 0).trans rfl
     have hcz27_1 : wc.cell? ⟨gb1209, 1, none⟩ = some (.string a1_1) := (blk_cell BK1209.out 1).trans rfl
     have hcz27_2 : wc.cell? ⟨gb1209, 2, none⟩ = some (.bool a1_2) := (blk_cell BK1209.out 2).trans rfl
     have hcz27_3 : wc.cell? ⟨gb1209, 3, none⟩ = some (.bool a1_3) := (blk_cell BK1209.out 3).trans rfl
     have hcz27_4 : wc.cell? ⟨gb1209, 4, none⟩ = some (.slice A1_4 l1_4.length c1_4) := (blk_cell BK1209.out 4).trans rfl
     have hfz27_0 := blk_frozen BK1209.out 0
     have hfz27_1 := blk_frozen BK1209.out 1
     have hfz27_2 := blk_frozen BK1209.out 2
     have hfz27_3 := blk_frozen BK1209.out 3
     have hfz27_4 := blk_frozen BK1209.out 4
     go_wp2
     go_loopg [42] kj15 (fun kq v42 w' => ∃ (x42_2 : Int), v42 = .int .i64 x42_2 ∧ Aside0 (operand_In.l0 kq l1_4 (l1_4.length : Int) x42_2 a1_0 a1_1 a1_2 a1_3 l1_4 t1210 t1211 t1212 = some (r1, r2)) ∧ Aside0 (kq ≤ kj15) ∧ Aside0 (w'.heap[gb1208]? = some (.cells #[.bool a0_0, .string a0_1, .string a0_2, .string a0_3, .int .i64 a0_4, .int .i64 a0_5, .string a0_6, .string a0_7, .int .i64 a0_8] 45 (0, 0))) ∧ Aside0 (w'.heap[gb1209]? = some (.cells #[.string a1_0, .string a1_1, .bool a1_2, .bool a1_3, (.slice A1_4 l1_4.length c1_4)] 54 (0, 0))) ∧ Aside0 (w'.heap[gb1214]? = some (.cells #[.bool t1210, .string t1211, .string t1212] 23 (0, 0))) ∧ Aside0 (Below w.heap.size w w'))
     case atStart => exact ⟨(0), (by first | rfl | (simp; done) | (simp [*]; done)), H', ⟨Nat.le_refl _⟩, ⟨by exact BK1208.out⟩, ⟨by exact BK1209.out⟩, ⟨by exact BK1214.out⟩, ⟨by repeat (first | (with_reducible first | exact HB.out | apply below_alloc | apply pw_below_drewN | apply below_drew1 | refine below_set ?_ GE1208.out | refine below_set ?_ GE1209.out | refine below_set ?_ GE1214.out) | exact HB.out)⟩⟩
     case round =>
      clear H'
      (try clear c15); (try clear c15b0); (try clear c15b1); (try clear c24); (try clear hcz14_0); (try clear hcz14_1); (try clear hcz14_2); (try clear hcz27_0); (try clear hcz27_1); (try clear hcz27_2); (try clear hcz27_3); (try clear hcz27_4); (try clear hcz8_0); (try clear hcz8_1); (try clear hcz8_2); (try clear hcz8_3); (try clear hcz8_4); (try clear hcz8_5); (try clear hcz8_6); (try clear hcz8_7); (try clear hcz8_8); (try clear hcz9_0); (try clear hcz9_1); (try clear hcz9_2); (try clear hcz9_3); (try clear hcz9_4); (try clear hfz14_0); (try clear hfz14_1); (try clear hfz14_2); (try clear hfz27_0); (try clear hfz27_1); (try clear hfz27_2); (try clear hfz27_3); (try clear hfz27_4); (try clear hfz8_0); (try clear hfz8_1); (try clear hfz8_2); (try clear hfz8_3); (try clear hfz8_4); (try clear hfz8_5); (try clear hfz8_6); (try clear hfz8_7); (try clear hfz8_8); (try clear hfz9_0); (try clear hfz9_1); (try clear hfz9_2); (try clear hfz9_3); (try clear hfz9_4)
      obtain ⟨x42_2, rfl, HA, HK2, BK1208, BK1209, BK1214, HB⟩ := hrel
      cases gk with
      | zero => exact absurd HA.out (by simp [operand_In.l0])
      | succ k2 =>
       have H := HA.out
       clear HA
       simp only [operand_In.l0] at H
       by_cases c28 : x42_2 < (l1_4.length : Int)
       ·rw [if_pos c28] at H
        have c28b0 : decide (x42_2 < (l1_4.length : Int)) = true := decide_eq_true c28
        clear c28
        by_cases c29 : 0 ≤ x42_2
        ·rw [if_pos c29] at H
         have c29b0 : decide (0 ≤ x42_2) = true := decide_eq_true c29
         clear c29
         by_cases c30 : x42_2 < (l1_4.length : Int)
         ·rw [if_pos c30] at H
          have c30b0 : decide (x42_2 < (l1_4.length : Int)) = true := decide_eq_true c30
          clear c30
          replace H := Option.bind_eq_some_iff.mp H
          obtain ⟨t1217, A310, H⟩ := H
          try dsimp only at H
          have A31 := Aside0.mk A310
          clear A310
          by_cases c32 : t1217 = true
          ·subst c32
           have H1 : ((operand_number.f ((rd_T60 l1_4 x42_2).f1)).bind fun t1218 => (if t1218 = true then (if (((rd_T60 l1_4 x42_2).f0).size : Int) > (((rd_T60 l1_4 x42_2).f1).size : Int) then (some (false, 40)) else (if (((rd_T60 l1_4 x42_2).f0).size : Int) = (((rd_T60 l1_4 x42_2).f1).size : Int) then (if (Op.bytesLess (((rd_T60 l1_4 x42_2).f1).toList) (((rd_T60 l1_4 x42_2).f0).toList)) = true then (some (false, 40)) else (operand_In.l0 k2 l1_4 (l1_4.length : Int) (wrap64 (x42_2 + 1)) a1_0 a1_1 a1_2 a1_3 l1_4 t1210 t1211 t1212)) else (operand_In.l0 k2 l1_4 (l1_4.length : Int) (wrap64 (x42_2 + 1)) a1_0 a1_1 a1_2 a1_3 l1_4 t1210 t1211 t1212))) else (some (false, 40)))) = some (r1, r2) := by rw [if_pos rfl] at H; exact H
           clear H
           have H := H1
           clear H1
           replace H := Option.bind_eq_some_iff.mp H
           obtain ⟨t1218, A330, H⟩ := H
           try dsimp only at H
           have A33 := Aside0.mk A330
           clear A330
           by_cases c34 : t1218 = true
           ·subst c34
            have H1 : (if (((rd_T60 l1_4 x42_2).f0).size : Int) > (((rd_T60 l1_4 x42_2).f1).size : Int) then (some (false, 40)) else (if (((rd_T60 l1_4 x42_2).f0).size : Int) = (((rd_T60 l1_4 x42_2).f1).size : Int) then (if (Op.bytesLess (((rd_T60 l1_4 x42_2).f1).toList) (((rd_T60 l1_4 x42_2).f0).toList)) = true then (some (false, 40)) else (operand_In.l0 k2 l1_4 (l1_4.length : Int) (wrap64 (x42_2 + 1)) a1_0 a1_1 a1_2 a1_3 l1_4 t1210 t1211 t1212)) else (operand_In.l0 k2 l1_4 (l1_4.length : Int) (wrap64 (x42_2 + 1)) a1_0 a1_1 a1_2 a1_3 l1_4 t1210 t1211 t1212))) = some (r1, r2) := by rw [if_pos rfl] at H; exact H
            clear H
            have H := H1
            clear H1
            by_cases c35 : (((rd_T60 l1_4 x42_2).f0).size : Int) > (((rd_T60 l1_4 x42_2).f1).size : Int)
            ·rw [if_pos c35] at H
             have c35b0 : decide ((((rd_T60 l1_4 x42_2).f1).size : Int) < (((rd_T60 l1_4 x42_2).f0).size : Int)) = true := decide_eq_true c35
             have c35b1 : decide (((rd_T60 l1_4 x42_2).f1).size < ((rd_T60 l1_4 x42_2).f0).size) = true := decide_eq_true (Int.ofNat_lt.mp c35)
             clear c35
             simp only [Option.some.injEq, Prod.mk.injEq] at H
             obtain ⟨rfl, rfl⟩ := H
             have p1215 : 0 ≤ (x42_2 : Int) := of_decide_eq_true (by first | (with_reducible assumption) | assumption)
             have q1215 : x42_2 < (l1_4.length : Int) := of_decide_eq_true (by first | (with_reducible assumption) | assumption)
             obtain ⟨ad1215, e1215, hx1215_0, hx1215_1⟩ := at_T60 HR1_4.out x42_2 p1215 q1215
             cases e1215
             replace hx1215_0 := (HB.out.cell (World.block_lt_of_cell? w _ hx1215_0)).trans hx1215_0
             replace hx1215_1 := (HB.out.cell (World.block_lt_of_cell? w _ hx1215_1)).trans hx1215_1
             replace p1215 := eq_true p1215
             replace q1215 := eq_true q1215
             go_wp2_with (first | ((with_reducible refine gate_dst (N := 9) rfl ?_); (try (refine gate_guard (by rfl) ?_; dsimp only)); refine box_event ?hg (N := 9) ?hd (cs := #[.string (⟨#[]⟩ : ByteArray), .string (⟨#[]⟩ : ByteArray)]) (t := 60) ?hr ?_; (case hd => rfl); (case hg => rfl); (case hr => first | (go_simp; done) | (go_simp; rfl)); intro gb1216 hg w36 hbox hb; have BK1216 := Aside0.mk (hbox); have GW1216 := Aside0.mk ((by rw [hg]; exact (below_size hb_) : w.heap.size ≤ gb1216)); have GE1216 := Aside0.mk ((by rw [hg]; exact (below_size hb_) : w.heap.size ≤ gb1216)); have NB1208_1216 := BK1208.nl hg; have NB1216_1208 := BK1208.ng hg; have NB1209_1216 := BK1209.nl hg; have NB1216_1209 := BK1209.ng hg; have NB1214_1216 := BK1214.nl hg; have NB1216_1214 := BK1214.ng hg; replace BK1208 := BK1208.bl hb; replace BK1209 := BK1209.bl hb; replace BK1214 := BK1214.bl hb; replace HB := Aside0.mk (below_step hb_ hb); clear hb hbox hg; have hnb37 := NB1216_1208.out; have hnc37 := NB1208_1216.out; have hnb38 := NB1216_1209.out; have hnc38 := NB1209_1216.out; have hnb39 := NB1216_1214.out; have hnc39 := NB1214_1216.out; obtain ⟨hcz40_0, hcz40_1, hfz40_0, hfz40_1⟩ := BK1216.c2) | ((with_reducible refine gate_callee (f := 86) rfl ?_); refine gL_ (some 48) Tryd.func86 #[.string ((rd_T60 l1_4 x42_2).f0)] ?_; (with_reducible refine (operand_number.calls ((rd_T60 l1_4 x42_2).f0) true _ A31.out).mono ?_); rintro e w41 ⟨rfl, hb⟩; refine ⟨_, rfl, ?_⟩; replace BK1208 := Aside0.mk (blk_below (g := gb1208) (o := .cells #[.bool a0_0, .string a0_1, .string a0_2, .string a0_3, .int .i64 a0_4, .int .i64 a0_5, .string a0_6, .string a0_7, .int .i64 a0_8] 45 (0, 0)) (by refine blk_far ?_ NB1208_1216.out _; refine blk_far ?_ NB1208_1216.out _; exact BK1208.out) hb); replace BK1209 := Aside0.mk (blk_below (g := gb1209) (o := .cells #[.string a1_0, .string a1_1, .bool a1_2, .bool a1_3, .slice (some ad1215) l1_4.length c1_4] 54 (0, 0)) (by refine blk_far ?_ NB1209_1216.out _; refine blk_far ?_ NB1209_1216.out _; exact BK1209.out) hb); replace BK1214 := Aside0.mk (blk_below (g := gb1214) (o := .cells #[.bool t1210, .string t1211, .string t1212] 23 (0, 0)) (by refine blk_far ?_ NB1214_1216.out _; refine blk_far ?_ NB1214_1216.out _; exact BK1214.out) hb); replace BK1216 := Aside0.mk (blk_below (g := gb1216) (o := .cells #[.string ((rd_T60 l1_4 x42_2).f0), .string ((rd_T60 l1_4 x42_2).f1)] 60 (0, 0)) (by refine blk_put (cs := #[.string ((rd_T60 l1_4 x42_2).f0), .string (⟨#[]⟩ : ByteArray)]) ?_ 1 _ rfl; refine blk_put (cs := #[.string (⟨#[]⟩ : ByteArray), .string (⟨#[]⟩ : ByteArray)]) ?_ 0 _ rfl; exact BK1216.out) hb); replace HB := Aside0.mk (below_step hb_ hb); obtain ⟨hcz42_0, hcz42_1, hfz42_0, hfz42_1⟩ := BK1216.c2) | (go_at_call 86; (with_reducible refine (operand_number.calls ((rd_T60 l1_4 x42_2).f1) true _ A33.out).mono ?_); rintro e w43 ⟨rfl, hb⟩; replace BK1208 := BK1208.bl hb; replace BK1209 := BK1209.bl hb; replace BK1214 := BK1214.bl hb; replace BK1216 := BK1216.bl hb; replace HB := Aside0.mk (below_step hb_ hb); obtain ⟨hcz44_0, hcz44_1, hfz44_0, hfz44_1⟩ := BK1216.c2))
             go_ret2
             exact ⟨by first | rfl | (simp [errW_none, errW_some] <;> rfl) | (simp [*, errW_none, errW_some] <;> rfl) | (simp [bne_nil_]; done), by repeat (first | (with_reducible first | exact HB.out | apply below_alloc | apply pw_below_drewN | apply below_drew1 | refine below_set ?_ GE1208.out | refine below_set ?_ GE1209.out | refine below_set ?_ GE1214.out | refine below_set ?_ GE1216.out) | exact HB.out)⟩
            ·rw [if_neg c35] at H
             have c35b0 : decide ((((rd_T60 l1_4 x42_2).f1).size : Int) < (((rd_T60 l1_4 x42_2).f0).size : Int)) = false := decide_eq_false c35
             have c35b1 : decide (((rd_T60 l1_4 x42_2).f1).size < ((rd_T60 l1_4 x42_2).f0).size) = false := decide_eq_false (fun h => c35 (Int.ofNat_lt.mpr h))
             clear c35
             by_cases c45 : (((rd_T60 l1_4 x42_2).f0).size : Int) = (((rd_T60 l1_4 x42_2).f1).size : Int)
             ·rw [if_pos c45] at H
              have c45b0 : ((((rd_T60 l1_4 x42_2).f0).size : Int) == (((rd_T60 l1_4 x42_2).f1).size : Int)) = true := beq_iff_eq.mpr c45
              have c45b1 : ((((rd_T60 l1_4 x42_2).f0).size : Int) != (((rd_T60 l1_4 x42_2).f1).size : Int)) = false := bne_eq_false_iff_eq.mpr c45
              have c45b2 : (((rd_T60 l1_4 x42_2).f0).size == ((rd_T60 l1_4 x42_2).f1).size) = true := by first | simpa using c45 | (simp at c45 ⊢; omega)
              clear c45
              have HF46 := Aside0.mk H
              clear H
              have p1215 : 0 ≤ (x42_2 : Int) := of_decide_eq_true (by first | (with_reducible assumption) | assumption)
              have q1215 : x42_2 < (l1_4.length : Int) := of_decide_eq_true (by first | (with_reducible assumption) | assumption)
              obtain ⟨ad1215, e1215, hx1215_0, hx1215_1⟩ := at_T60 HR1_4.out x42_2 p1215 q1215
              cases e1215
              replace hx1215_0 := (HB.out.cell (World.block_lt_of_cell? w _ hx1215_0)).trans hx1215_0
              replace hx1215_1 := (HB.out.cell (World.block_lt_of_cell? w _ hx1215_1)).trans hx1215_1
              replace p1215 := eq_true p1215
              replace q1215 := eq_true q1215
              go_upto_if 80 with (first | ((with_reducible refine gate_dst (N := 9) rfl ?_); (try (refine gate_guard (by rfl) ?_; dsimp only)); refine box_event ?hg (N := 9) ?hd (cs := #[.string (⟨#[]⟩ : ByteArray), .string (⟨#[]⟩ : ByteArray)]) (t := 60) ?hr ?_; (case hd => rfl); (case hg => rfl); (case hr => first | (go_simp; done) | (go_simp; rfl)); intro gb1216 hg w47 hbox hb; have BK1216 := Aside0.mk (hbox); have GW1216 := Aside0.mk ((by rw [hg]; exact (below_size hb_) : w.heap.size ≤ gb1216)); have GE1216 := Aside0.mk ((by rw [hg]; exact (below_size hb_) : w.heap.size ≤ gb1216)); have NB1208_1216 := BK1208.nl hg; have NB1216_1208 := BK1208.ng hg; have NB1209_1216 := BK1209.nl hg; have NB1216_1209 := BK1209.ng hg; have NB1214_1216 := BK1214.nl hg; have NB1216_1214 := BK1214.ng hg; replace BK1208 := BK1208.bl hb; replace BK1209 := BK1209.bl hb; replace BK1214 := BK1214.bl hb; replace HB := Aside0.mk (below_step hb_ hb); clear hb hbox hg; have hnb48 := NB1216_1208.out; have hnc48 := NB1208_1216.out; have hnb49 := NB1216_1209.out; have hnc49 := NB1209_1216.out; have hnb50 := NB1216_1214.out; have hnc50 := NB1214_1216.out; obtain ⟨hcz51_0, hcz51_1, hfz51_0, hfz51_1⟩ := BK1216.c2) | ((with_reducible refine gate_callee (f := 86) rfl ?_); refine gL_ (some 48) Tryd.func86 #[.string ((rd_T60 l1_4 x42_2).f0)] ?_; (with_reducible refine (operand_number.calls ((rd_T60 l1_4 x42_2).f0) true _ A31.out).mono ?_); rintro e w52 ⟨rfl, hb⟩; refine ⟨_, rfl, ?_⟩; replace BK1208 := Aside0.mk (blk_below (g := gb1208) (o := .cells #[.bool a0_0, .string a0_1, .string a0_2, .string a0_3, .int .i64 a0_4, .int .i64 a0_5, .string a0_6, .string a0_7, .int .i64 a0_8] 45 (0, 0)) (by refine blk_far ?_ NB1208_1216.out _; refine blk_far ?_ NB1208_1216.out _; exact BK1208.out) hb); replace BK1209 := Aside0.mk (blk_below (g := gb1209) (o := .cells #[.string a1_0, .string a1_1, .bool a1_2, .bool a1_3, .slice (some ad1215) l1_4.length c1_4] 54 (0, 0)) (by refine blk_far ?_ NB1209_1216.out _; refine blk_far ?_ NB1209_1216.out _; exact BK1209.out) hb); replace BK1214 := Aside0.mk (blk_below (g := gb1214) (o := .cells #[.bool t1210, .string t1211, .string t1212] 23 (0, 0)) (by refine blk_far ?_ NB1214_1216.out _; refine blk_far ?_ NB1214_1216.out _; exact BK1214.out) hb); replace BK1216 := Aside0.mk (blk_below (g := gb1216) (o := .cells #[.string ((rd_T60 l1_4 x42_2).f0), .string ((rd_T60 l1_4 x42_2).f1)] 60 (0, 0)) (by refine blk_put (cs := #[.string ((rd_T60 l1_4 x42_2).f0), .string (⟨#[]⟩ : ByteArray)]) ?_ 1 _ rfl; refine blk_put (cs := #[.string (⟨#[]⟩ : ByteArray), .string (⟨#[]⟩ : ByteArray)]) ?_ 0 _ rfl; exact BK1216.out) hb); replace HB := Aside0.mk (below_step hb_ hb); obtain ⟨hcz53_0, hcz53_1, hfz53_0, hfz53_1⟩ := BK1216.c2) | (go_at_call 86; (with_reducible refine (operand_number.calls ((rd_T60 l1_4 x42_2).f1) true _ A33.out).mono ?_); rintro e w54 ⟨rfl, hb⟩; replace BK1208 := BK1208.bl hb; replace BK1209 := BK1209.bl hb; replace BK1214 := BK1214.bl hb; replace BK1216 := BK1216.bl hb; replace HB := Aside0.mk (below_step hb_ hb); obtain ⟨hcz55_0, hcz55_1, hfz55_0, hfz55_1⟩ := BK1216.c2))
              (try simp only [Act.put, List.setIfInBounds_toArray, List.set_cons_zero, List.set_cons_succ])
              have H := HF46.out
              clear HF46
              by_cases c56 : (Op.bytesLess (((rd_T60 l1_4 x42_2).f1).toList) (((rd_T60 l1_4 x42_2).f0).toList)) = true
              ·rw [if_pos c56] at H
               have c56b0 : (Op.bytesLess (((rd_T60 l1_4 x42_2).f1).toList) (((rd_T60 l1_4 x42_2).f0).toList)) = true := c56
               clear c56
               (first | rw [c56b0] | (simp only [i64_w, i32_w]; rw [c56b0]) | skip)
               simp only [Option.some.injEq, Prod.mk.injEq] at H
               obtain ⟨rfl, rfl⟩ := H
               go_wp2
               go_ret2
               exact ⟨by first | rfl | (simp [errW_none, errW_some] <;> rfl) | (simp [*, errW_none, errW_some] <;> rfl) | (simp [bne_nil_]; done), by repeat (first | (with_reducible first | exact HB.out | apply below_alloc | apply pw_below_drewN | apply below_drew1 | refine below_set ?_ GE1208.out | refine below_set ?_ GE1209.out | refine below_set ?_ GE1214.out | refine below_set ?_ GE1216.out) | exact HB.out)⟩
              ·rw [if_neg c56] at H
               have c56b0 : (Op.bytesLess (((rd_T60 l1_4 x42_2).f1).toList) (((rd_T60 l1_4 x42_2).f0).toList)) = false := by simpa using c56
               clear c56
               (first | rw [c56b0] | (simp only [i64_w, i32_w]; rw [c56b0]) | skip)
               have H' := Aside0.mk H
               clear H
               go_wp2
               go_roundg k2
               case measure => have := HJ15.out; have := HK2.out; omega
               case rel => exact ⟨(wrap64 (x42_2 + 1)), (by first | rfl | (simp; done) | (simp [*]; done)), H', ⟨by have := HJ15.out; have := HK2.out; omega⟩, ⟨by exact BK1208.out⟩, ⟨by exact BK1209.out⟩, ⟨by exact BK1214.out⟩, ⟨by repeat (first | (with_reducible first | exact HB.out | apply below_alloc | apply pw_below_drewN | apply below_drew1 | refine below_set ?_ GE1208.out | refine below_set ?_ GE1209.out | refine below_set ?_ GE1214.out | refine below_set ?_ GE1216.out) | exact HB.out)⟩⟩
             ·rw [if_neg c45] at H
              have c45b0 : ((((rd_T60 l1_4 x42_2).f0).size : Int) == (((rd_T60 l1_4 x42_2).f1).size : Int)) = false := beq_eq_false_iff_ne.mpr c45
              have c45b1 : ((((rd_T60 l1_4 x42_2).f0).size : Int) != (((rd_T60 l1_4 x42_2).f1).size : Int)) = true := bne_iff_ne.mpr c45
              have c45b2 : (((rd_T60 l1_4 x42_2).f0).size == ((rd_T60 l1_4 x42_2).f1).size) = false := by first | simpa using c45 | (simp at c45 ⊢; omega)
              have H' := Aside0.mk H
              clear H
              have p1215 : 0 ≤ (x42_2 : Int) := of_decide_eq_true (by first | (with_reducible assumption) | assumption)
              have q1215 : x42_2 < (l1_4.length : Int) := of_decide_eq_true (by first | (with_reducible assumption) | assumption)
              obtain ⟨ad1215, e1215, hx1215_0, hx1215_1⟩ := at_T60 HR1_4.out x42_2 p1215 q1215
              cases e1215
              replace hx1215_0 := (HB.out.cell (World.block_lt_of_cell? w _ hx1215_0)).trans hx1215_0
              replace hx1215_1 := (HB.out.cell (World.block_lt_of_cell? w _ hx1215_1)).trans hx1215_1
              replace p1215 := eq_true p1215
              replace q1215 := eq_true q1215
              go_wp2_with (first | ((with_reducible refine gate_dst (N := 9) rfl ?_); (try (refine gate_guard (by rfl) ?_; dsimp only)); refine box_event ?hg (N := 9) ?hd (cs := #[.string (⟨#[]⟩ : ByteArray), .string (⟨#[]⟩ : ByteArray)]) (t := 60) ?hr ?_; (case hd => rfl); (case hg => rfl); (case hr => first | (go_simp; done) | (go_simp; rfl)); intro gb1216 hg w57 hbox hb; have BK1216 := Aside0.mk (hbox); have GW1216 := Aside0.mk ((by rw [hg]; exact (below_size hb_) : w.heap.size ≤ gb1216)); have GE1216 := Aside0.mk ((by rw [hg]; exact (below_size hb_) : w.heap.size ≤ gb1216)); have NB1208_1216 := BK1208.nl hg; have NB1216_1208 := BK1208.ng hg; have NB1209_1216 := BK1209.nl hg; have NB1216_1209 := BK1209.ng hg; have NB1214_1216 := BK1214.nl hg; have NB1216_1214 := BK1214.ng hg; replace BK1208 := BK1208.bl hb; replace BK1209 := BK1209.bl hb; replace BK1214 := BK1214.bl hb; replace HB := Aside0.mk (below_step hb_ hb); clear hb hbox hg; have hnb58 := NB1216_1208.out; have hnc58 := NB1208_1216.out; have hnb59 := NB1216_1209.out; have hnc59 := NB1209_1216.out; have hnb60 := NB1216_1214.out; have hnc60 := NB1214_1216.out; obtain ⟨hcz61_0, hcz61_1, hfz61_0, hfz61_1⟩ := BK1216.c2) | ((with_reducible refine gate_callee (f := 86) rfl ?_); refine gL_ (some 48) Tryd.func86 #[.string ((rd_T60 l1_4 x42_2).f0)] ?_; (with_reducible refine (operand_number.calls ((rd_T60 l1_4 x42_2).f0) true _ A31.out).mono ?_); rintro e w62 ⟨rfl, hb⟩; refine ⟨_, rfl, ?_⟩; replace BK1208 := Aside0.mk (blk_below (g := gb1208) (o := .cells #[.bool a0_0, .string a0_1, .string a0_2, .string a0_3, .int .i64 a0_4, .int .i64 a0_5, .string a0_6, .string a0_7, .int .i64 a0_8] 45 (0, 0)) (by refine blk_far ?_ NB1208_1216.out _; refine blk_far ?_ NB1208_1216.out _; exact BK1208.out) hb); replace BK1209 := Aside0.mk (blk_below (g := gb1209) (o := .cells #[.string a1_0, .string a1_1, .bool a1_2, .bool a1_3, .slice (some ad1215) l1_4.length c1_4] 54 (0, 0)) (by refine blk_far ?_ NB1209_1216.out _; refine blk_far ?_ NB1209_1216.out _; exact BK1209.out) hb); replace BK1214 := Aside0.mk (blk_below (g := gb1214) (o := .cells #[.bool t1210, .string t1211, .string t1212] 23 (0, 0)) (by refine blk_far ?_ NB1214_1216.out _; refine blk_far ?_ NB1214_1216.out _; exact BK1214.out) hb); replace BK1216 := Aside0.mk (blk_below (g := gb1216) (o := .cells #[.string ((rd_T60 l1_4 x42_2).f0), .string ((rd_T60 l1_4 x42_2).f1)] 60 (0, 0)) (by refine blk_put (cs := #[.string ((rd_T60 l1_4 x42_2).f0), .string (⟨#[]⟩ : ByteArray)]) ?_ 1 _ rfl; refine blk_put (cs := #[.string (⟨#[]⟩ : ByteArray), .string (⟨#[]⟩ : ByteArray)]) ?_ 0 _ rfl; exact BK1216.out) hb); replace HB := Aside0.mk (below_step hb_ hb); obtain ⟨hcz63_0, hcz63_1, hfz63_0, hfz63_1⟩ := BK1216.c2) | (go_at_call 86; (with_reducible refine (operand_number.calls ((rd_T60 l1_4 x42_2).f1) true _ A33.out).mono ?_); rintro e w64 ⟨rfl, hb⟩; replace BK1208 := BK1208.bl hb; replace BK1209 := BK1209.bl hb; replace BK1214 := BK1214.bl hb; replace BK1216 := BK1216.bl hb; replace HB := Aside0.mk (below_step hb_ hb); obtain ⟨hcz65_0, hcz65_1, hfz65_0, hfz65_1⟩ := BK1216.c2))
              go_roundg k2
              case measure => have := HJ15.out; have := HK2.out; omega
              case rel => exact ⟨(wrap64 (x42_2 + 1)), (by first | rfl | (simp; done) | (simp [*]; done)), H', ⟨by have := HJ15.out; have := HK2.out; omega⟩, ⟨by exact BK1208.out⟩, ⟨by exact BK1209.out⟩, ⟨by exact BK1214.out⟩, ⟨by repeat (first | (with_reducible first | exact HB.out | apply below_alloc | apply pw_below_drewN | apply below_drew1 | refine below_set ?_ GE1208.out | refine below_set ?_ GE1209.out | refine below_set ?_ GE1214.out | refine below_set ?_ GE1216.out) | exact HB.out)⟩⟩
           ·replace c34 := Bool.eq_false_iff.mpr c34
            subst c34
            have H1 : (some (false, 40)) = some (r1, r2) := by rw [if_neg (show ¬ (false = true) by decide)] at H; exact H
            clear H
            have H := H1
            clear H1
            simp only [Option.some.injEq, Prod.mk.injEq] at H
            obtain ⟨rfl, rfl⟩ := H
            have p1215 : 0 ≤ (x42_2 : Int) := of_decide_eq_true (by first | (with_reducible assumption) | assumption)
            have q1215 : x42_2 < (l1_4.length : Int) := of_decide_eq_true (by first | (with_reducible assumption) | assumption)
            obtain ⟨ad1215, e1215, hx1215_0, hx1215_1⟩ := at_T60 HR1_4.out x42_2 p1215 q1215
            cases e1215
            replace hx1215_0 := (HB.out.cell (World.block_lt_of_cell? w _ hx1215_0)).trans hx1215_0
            replace hx1215_1 := (HB.out.cell (World.block_lt_of_cell? w _ hx1215_1)).trans hx1215_1
            replace p1215 := eq_true p1215
            replace q1215 := eq_true q1215
            go_wp2_with (first | ((with_reducible refine gate_dst (N := 9) rfl ?_); (try (refine gate_guard (by rfl) ?_; dsimp only)); refine box_event ?hg (N := 9) ?hd (cs := #[.string (⟨#[]⟩ : ByteArray), .string (⟨#[]⟩ : ByteArray)]) (t := 60) ?hr ?_; (case hd => rfl); (case hg => rfl); (case hr => first | (go_simp; done) | (go_simp; rfl)); intro gb1216 hg w66 hbox hb; have BK1216 := Aside0.mk (hbox); have GW1216 := Aside0.mk ((by rw [hg]; exact (below_size hb_) : w.heap.size ≤ gb1216)); have GE1216 := Aside0.mk ((by rw [hg]; exact (below_size hb_) : w.heap.size ≤ gb1216)); have NB1208_1216 := BK1208.nl hg; have NB1216_1208 := BK1208.ng hg; have NB1209_1216 := BK1209.nl hg; have NB1216_1209 := BK1209.ng hg; have NB1214_1216 := BK1214.nl hg; have NB1216_1214 := BK1214.ng hg; replace BK1208 := BK1208.bl hb; replace BK1209 := BK1209.bl hb; replace BK1214 := BK1214.bl hb; replace HB := Aside0.mk (below_step hb_ hb); clear hb hbox hg; have hnb67 := NB1216_1208.out; have hnc67 := NB1208_1216.out; have hnb68 := NB1216_1209.out; have hnc68 := NB1209_1216.out; have hnb69 := NB1216_1214.out; have hnc69 := NB1214_1216.out; obtain ⟨hcz70_0, hcz70_1, hfz70_0, hfz70_1⟩ := BK1216.c2) | ((with_reducible refine gate_callee (f := 86) rfl ?_); refine gL_ (some 48) Tryd.func86 #[.string ((rd_T60 l1_4 x42_2).f0)] ?_; (with_reducible refine (operand_number.calls ((rd_T60 l1_4 x42_2).f0) true _ A31.out).mono ?_); rintro e w71 ⟨rfl, hb⟩; refine ⟨_, rfl, ?_⟩; replace BK1208 := Aside0.mk (blk_below (g := gb1208) (o := .cells #[.bool a0_0, .string a0_1, .string a0_2, .string a0_3, .int .i64 a0_4, .int .i64 a0_5, .string a0_6, .string a0_7, .int .i64 a0_8] 45 (0, 0)) (by refine blk_far ?_ NB1208_1216.out _; refine blk_far ?_ NB1208_1216.out _; exact BK1208.out) hb); replace BK1209 := Aside0.mk (blk_below (g := gb1209) (o := .cells #[.string a1_0, .string a1_1, .bool a1_2, .bool a1_3, .slice (some ad1215) l1_4.length c1_4] 54 (0, 0)) (by refine blk_far ?_ NB1209_1216.out _; refine blk_far ?_ NB1209_1216.out _; exact BK1209.out) hb); replace BK1214 := Aside0.mk (blk_below (g := gb1214) (o := .cells #[.bool t1210, .string t1211, .string t1212] 23 (0, 0)) (by refine blk_far ?_ NB1214_1216.out _; refine blk_far ?_ NB1214_1216.out _; exact BK1214.out) hb); replace BK1216 := Aside0.mk (blk_below (g := gb1216) (o := .cells #[.string ((rd_T60 l1_4 x42_2).f0), .string ((rd_T60 l1_4 x42_2).f1)] 60 (0, 0)) (by refine blk_put (cs := #[.string ((rd_T60 l1_4 x42_2).f0), .string (⟨#[]⟩ : ByteArray)]) ?_ 1 _ rfl; refine blk_put (cs := #[.string (⟨#[]⟩ : ByteArray), .string (⟨#[]⟩ : ByteArray)]) ?_ 0 _ rfl; exact BK1216.out) hb); replace HB := Aside0.mk (below_step hb_ hb); obtain ⟨hcz72_0, hcz72_1, hfz72_0, hfz72_1⟩ := BK1216.c2) | (go_at_call 86; (with_reducible refine (operand_number.calls ((rd_T60 l1_4 x42_2).f1) false _ A33.out).mono ?_); rintro e w73 ⟨rfl, hb⟩; replace BK1208 := BK1208.bl hb; replace BK1209 := BK1209.bl hb; replace BK1214 := BK1214.bl hb; replace BK1216 := BK1216.bl hb; replace HB := Aside0.mk (below_step hb_ hb)))
            go_ret2
            exact ⟨by first | rfl | (simp [errW_none, errW_some] <;> rfl) | (simp [*, errW_none, errW_some] <;> rfl) | (simp [bne_nil_]; done), by repeat (first | (with_reducible first | exact HB.out | apply below_alloc | apply pw_below_drewN | apply below_drew1 | refine below_set ?_ GE1208.out | refine below_set ?_ GE1209.out | refine below_set ?_ GE1214.out | refine below_set ?_ GE1216.out) | exact HB.out)⟩
          ·replace c32 := Bool.eq_false_iff.mpr c32
           subst c32
           have H1 : (some (false, 40)) = some (r1, r2) := by rw [if_neg (show ¬ (false = true) by decide)] at H; exact H
           clear H
           have H := H1
           clear H1
           simp only [Option.some.injEq, Prod.mk.injEq] at H
           obtain ⟨rfl, rfl⟩ := H
           have p1215 : 0 ≤ (x42_2 : Int) := of_decide_eq_true (by first | (with_reducible assumption) | assumption)
           have q1215 : x42_2 < (l1_4.length : Int) := of_decide_eq_true (by first | (with_reducible assumption) | assumption)
           obtain ⟨ad1215, e1215, hx1215_0, hx1215_1⟩ := at_T60 HR1_4.out x42_2 p1215 q1215
           cases e1215
           replace hx1215_0 := (HB.out.cell (World.block_lt_of_cell? w _ hx1215_0)).trans hx1215_0
           replace hx1215_1 := (HB.out.cell (World.block_lt_of_cell? w _ hx1215_1)).trans hx1215_1
           replace p1215 := eq_true p1215
           replace q1215 := eq_true q1215
           go_wp2_with (first | ((with_reducible refine gate_dst (N := 9) rfl ?_); (try (refine gate_guard (by rfl) ?_; dsimp only)); refine box_event ?hg (N := 9) ?hd (cs := #[.string (⟨#[]⟩ : ByteArray), .string (⟨#[]⟩ : ByteArray)]) (t := 60) ?hr ?_; (case hd => rfl); (case hg => rfl); (case hr => first | (go_simp; done) | (go_simp; rfl)); intro gb1216 hg w74 hbox hb; have BK1216 := Aside0.mk (hbox); have GW1216 := Aside0.mk ((by rw [hg]; exact (below_size hb_) : w.heap.size ≤ gb1216)); have GE1216 := Aside0.mk ((by rw [hg]; exact (below_size hb_) : w.heap.size ≤ gb1216)); have NB1208_1216 := BK1208.nl hg; have NB1216_1208 := BK1208.ng hg; have NB1209_1216 := BK1209.nl hg; have NB1216_1209 := BK1209.ng hg; have NB1214_1216 := BK1214.nl hg; have NB1216_1214 := BK1214.ng hg; replace BK1208 := BK1208.bl hb; replace BK1209 := BK1209.bl hb; replace BK1214 := BK1214.bl hb; replace HB := Aside0.mk (below_step hb_ hb); clear hb hbox hg; have hnb75 := NB1216_1208.out; have hnc75 := NB1208_1216.out; have hnb76 := NB1216_1209.out; have hnc76 := NB1209_1216.out; have hnb77 := NB1216_1214.out; have hnc77 := NB1214_1216.out; obtain ⟨hcz78_0, hcz78_1, hfz78_0, hfz78_1⟩ := BK1216.c2) | ((with_reducible refine gate_callee (f := 86) rfl ?_); refine gL_ (some 48) Tryd.func86 #[.string ((rd_T60 l1_4 x42_2).f0)] ?_; (with_reducible refine (operand_number.calls ((rd_T60 l1_4 x42_2).f0) false _ A31.out).mono ?_); rintro e w79 ⟨rfl, hb⟩; refine ⟨_, rfl, ?_⟩; replace BK1208 := Aside0.mk (blk_below (g := gb1208) (o := .cells #[.bool a0_0, .string a0_1, .string a0_2, .string a0_3, .int .i64 a0_4, .int .i64 a0_5, .string a0_6, .string a0_7, .int .i64 a0_8] 45 (0, 0)) (by refine blk_far ?_ NB1208_1216.out _; refine blk_far ?_ NB1208_1216.out _; exact BK1208.out) hb); replace BK1209 := Aside0.mk (blk_below (g := gb1209) (o := .cells #[.string a1_0, .string a1_1, .bool a1_2, .bool a1_3, .slice (some ad1215) l1_4.length c1_4] 54 (0, 0)) (by refine blk_far ?_ NB1209_1216.out _; refine blk_far ?_ NB1209_1216.out _; exact BK1209.out) hb); replace BK1214 := Aside0.mk (blk_below (g := gb1214) (o := .cells #[.bool t1210, .string t1211, .string t1212] 23 (0, 0)) (by refine blk_far ?_ NB1214_1216.out _; refine blk_far ?_ NB1214_1216.out _; exact BK1214.out) hb); replace BK1216 := Aside0.mk (blk_below (g := gb1216) (o := .cells #[.string ((rd_T60 l1_4 x42_2).f0), .string ((rd_T60 l1_4 x42_2).f1)] 60 (0, 0)) (by refine blk_put (cs := #[.string ((rd_T60 l1_4 x42_2).f0), .string (⟨#[]⟩ : ByteArray)]) ?_ 1 _ rfl; refine blk_put (cs := #[.string (⟨#[]⟩ : ByteArray), .string (⟨#[]⟩ : ByteArray)]) ?_ 0 _ rfl; exact BK1216.out) hb); replace HB := Aside0.mk (below_step hb_ hb)))
           go_ret2
           exact ⟨by first | rfl | (simp [errW_none, errW_some] <;> rfl) | (simp [*, errW_none, errW_some] <;> rfl) | (simp [bne_nil_]; done), by repeat (first | (with_reducible first | exact HB.out | apply below_alloc | apply pw_below_drewN | apply below_drew1 | refine below_set ?_ GE1208.out | refine below_set ?_ GE1209.out | refine below_set ?_ GE1214.out | refine below_set ?_ GE1216.out) | exact HB.out)⟩
         ·rw [if_neg c30] at H
          exact absurd H (by simp)
        ·rw [if_neg c29] at H
         exact absurd H (by simp)
       ·rw [if_neg c28] at H
        have c28b0 : decide (x42_2 < (l1_4.length : Int)) = false := decide_eq_false c28
        clear c28
        have H' := Aside0.mk H
        clear H
        have hnb80 := NB1209_1208.out
        have hnc80 := NB1208_1209.out
        have hnb81 := NB1209_1214.out
        have hnc81 := NB1214_1209.out
        have hcz82_0 : wr.cell? ⟨gb1209, 0, none⟩ = some (.string a1_0) := (blk_cell BK1209.out 0).trans rfl
        have hcz82_1 : wr.cell? ⟨gb1209, 1, none⟩ = some (.string a1_1) := (blk_cell BK1209.out 1).trans rfl
        have hcz82_2 : wr.cell? ⟨gb1209, 2, none⟩ = some (.bool a1_2) := (blk_cell BK1209.out 2).trans rfl
        have hcz82_3 : wr.cell? ⟨gb1209, 3, none⟩ = some (.bool a1_3) := (blk_cell BK1209.out 3).trans rfl
        have hcz82_4 : wr.cell? ⟨gb1209, 4, none⟩ = some (.slice A1_4 l1_4.length c1_4) := (blk_cell BK1209.out 4).trans rfl
        have hfz82_0 := blk_frozen BK1209.out 0
        have hfz82_1 := blk_frozen BK1209.out 1
        have hfz82_2 := blk_frozen BK1209.out 2
        have hfz82_3 := blk_frozen BK1209.out 3
        have hfz82_4 := blk_frozen BK1209.out 4
        go_wp2
        go_loopg [10, 85] k2 (fun kq v10 v85 w' => ∃ (x10_3 : Bool) (x85_3 : Int), v10 = .bool x10_3 ∧ v85 = .int .i64 x85_3 ∧ Aside0 (operand_In.l1 kq x10_3 l1_4 (l1_4.length : Int) x85_3 a1_0 a1_1 a1_2 a1_3 l1_4 t1210 t1211 t1212 = some (r1, r2)) ∧ Aside0 (kq ≤ k2) ∧ Aside0 (w'.heap[gb1208]? = some (.cells #[.bool a0_0, .string a0_1, .string a0_2, .string a0_3, .int .i64 a0_4, .int .i64 a0_5, .string a0_6, .string a0_7, .int .i64 a0_8] 45 (0, 0))) ∧ Aside0 (w'.heap[gb1209]? = some (.cells #[.string a1_0, .string a1_1, .bool a1_2, .bool a1_3, (.slice A1_4 l1_4.length c1_4)] 54 (0, 0))) ∧ Aside0 (w'.heap[gb1214]? = some (.cells #[.bool t1210, .string t1211, .string t1212] 23 (0, 0))) ∧ Aside0 (Below w.heap.size w w'))
        case atStart => exact ⟨(false), (0), (by first | rfl | (simp; done) | (simp [*]; done)), (by first | rfl | (simp; done) | (simp [*]; done)), H', ⟨Nat.le_refl _⟩, ⟨by exact BK1208.out⟩, ⟨by exact BK1209.out⟩, ⟨by exact BK1214.out⟩, ⟨by repeat (first | (with_reducible first | exact HB.out | apply below_alloc | apply pw_below_drewN | apply below_drew1 | refine below_set ?_ GE1208.out | refine below_set ?_ GE1209.out | refine below_set ?_ GE1214.out) | exact HB.out)⟩⟩
        case round =>
         clear H'
         (try clear c15); (try clear c15b0); (try clear c15b1); (try clear c24); (try clear c28); (try clear c28b0); (try clear hcz14_0); (try clear hcz14_1); (try clear hcz14_2); (try clear hcz27_0); (try clear hcz27_1); (try clear hcz27_2); (try clear hcz27_3); (try clear hcz27_4); (try clear hcz82_0); (try clear hcz82_1); (try clear hcz82_2); (try clear hcz82_3); (try clear hcz82_4); (try clear hcz8_0); (try clear hcz8_1); (try clear hcz8_2); (try clear hcz8_3); (try clear hcz8_4); (try clear hcz8_5); (try clear hcz8_6); (try clear hcz8_7); (try clear hcz8_8); (try clear hcz9_0); (try clear hcz9_1); (try clear hcz9_2); (try clear hcz9_3); (try clear hcz9_4); (try clear hfz14_0); (try clear hfz14_1); (try clear hfz14_2); (try clear hfz27_0); (try clear hfz27_1); (try clear hfz27_2); (try clear hfz27_3); (try clear hfz27_4); (try clear hfz82_0); (try clear hfz82_1); (try clear hfz82_2); (try clear hfz82_3); (try clear hfz82_4); (try clear hfz8_0); (try clear hfz8_1); (try clear hfz8_2); (try clear hfz8_3); (try clear hfz8_4); (try clear hfz8_5); (try clear hfz8_6); (try clear hfz8_7); (try clear hfz8_8); (try clear hfz9_0); (try clear hfz9_1); (try clear hfz9_2); (try clear hfz9_3); (try clear hfz9_4)
         obtain ⟨x10_3, x85_3, rfl, rfl, HA, HK3, BK1208, BK1209, BK1214, HB⟩ := hrel
         cases gk with
         | zero => exact absurd HA.out (by simp [operand_In.l1])
         | succ k3 =>
          have H := HA.out
          clear HA
          simp only [operand_In.l1] at H
          by_cases c83 : x85_3 < (l1_4.length : Int)
          ·rw [if_pos c83] at H
           have c83b0 : decide (x85_3 < (l1_4.length : Int)) = true := decide_eq_true c83
           clear c83
           by_cases c84 : 0 ≤ x85_3
           ·rw [if_pos c84] at H
            have c84b0 : decide (0 ≤ x85_3) = true := decide_eq_true c84
            clear c84
            by_cases c85 : x85_3 < (l1_4.length : Int)
            ·rw [if_pos c85] at H
             have c85b0 : decide (x85_3 < (l1_4.length : Int)) = true := decide_eq_true c85
             clear c85
             replace H := Option.bind_eq_some_iff.mp H
             obtain ⟨⟨t1221, t1222⟩, A860, H⟩ := H
             try dsimp only at H
             have A86 := Aside0.mk A860
             clear A860
             replace H := Option.bind_eq_some_iff.mp H
             obtain ⟨⟨t1223, t1224⟩, A870, H⟩ := H
             try dsimp only at H
             have A87 := Aside0.mk A870
             clear A870
             by_cases c88 : x10_3 = true
             ·subst c88
              have H1 : (operand_In.l1 k3 true l1_4 (l1_4.length : Int) (wrap64 (x85_3 + 1)) a1_0 a1_1 a1_2 a1_3 l1_4 t1210 t1211 t1212) = some (r1, r2) := by rw [if_pos rfl] at H; exact H
              clear H
              have H := H1
              clear H1
              have H' := Aside0.mk H
              clear H
              have p1219 : 0 ≤ (x85_3 : Int) := of_decide_eq_true (by first | (with_reducible assumption) | assumption)
              have q1219 : x85_3 < (l1_4.length : Int) := of_decide_eq_true (by first | (with_reducible assumption) | assumption)
              obtain ⟨ad1219, e1219, hx1219_0, hx1219_1⟩ := at_T60 HR1_4.out x85_3 p1219 q1219
              cases e1219
              replace hx1219_0 := (HB.out.cell (World.block_lt_of_cell? w _ hx1219_0)).trans hx1219_0
              replace hx1219_1 := (HB.out.cell (World.block_lt_of_cell? w _ hx1219_1)).trans hx1219_1
              replace p1219 := eq_true p1219
              replace q1219 := eq_true q1219
              go_wp2_with (first | ((with_reducible refine gate_dst (N := 12) rfl ?_); (try (refine gate_guard (by rfl) ?_; dsimp only)); refine box_event ?hg (N := 12) ?hd (cs := #[.string (⟨#[]⟩ : ByteArray), .string (⟨#[]⟩ : ByteArray)]) (t := 60) ?hr ?_; (case hd => rfl); (case hg => rfl); (case hr => first | (go_simp; done) | (go_simp; rfl)); intro gb1220 hg w89 hbox hb; have BK1220 := Aside0.mk (hbox); have GW1220 := Aside0.mk ((by rw [hg]; exact (below_size hb_) : w.heap.size ≤ gb1220)); have GE1220 := Aside0.mk ((by rw [hg]; exact (below_size hb_) : w.heap.size ≤ gb1220)); have NB1208_1220 := BK1208.nl hg; have NB1220_1208 := BK1208.ng hg; have NB1209_1220 := BK1209.nl hg; have NB1220_1209 := BK1209.ng hg; have NB1214_1220 := BK1214.nl hg; have NB1220_1214 := BK1214.ng hg; replace BK1208 := BK1208.bl hb; replace BK1209 := BK1209.bl hb; replace BK1214 := BK1214.bl hb; replace HB := Aside0.mk (below_step hb_ hb); clear hb hbox hg; have hnb90 := NB1220_1208.out; have hnc90 := NB1208_1220.out; have hnb91 := NB1220_1209.out; have hnc91 := NB1209_1220.out; have hnb92 := NB1220_1214.out; have hnc92 := NB1214_1220.out; obtain ⟨hcz93_0, hcz93_1, hfz93_0, hfz93_1⟩ := BK1220.c2; have hnb94 := NB1214_1208.out; have hnc94 := NB1208_1214.out; have hnb95 := NB1214_1209.out; have hnc95 := NB1209_1214.out; obtain ⟨hcz96_0, hcz96_1, hcz96_2, hfz96_0, hfz96_1, hfz96_2⟩ := BK1214.c3) | ((with_reducible refine gate_callee (f := 29) rfl ?_); refine gL_ (some 94) Tryd.func29 #[.agg #[.bool false, .string ((rd_T60 l1_4 x85_3).f0), .string (⟨#[]⟩ : ByteArray)], .agg #[.bool t1210, .string t1211, .string t1212]] ?_; (with_reducible refine (decimal_Compare.calls k3 false ((rd_T60 l1_4 x85_3).f0) (⟨#[]⟩ : ByteArray) t1210 t1211 t1212 t1221 t1222 _ A86.out).mono ?_); rintro e w97 ⟨rfl, hb⟩; refine ⟨_, rfl, ?_⟩; replace BK1208 := Aside0.mk (blk_below (g := gb1208) (o := .cells #[.bool a0_0, .string a0_1, .string a0_2, .string a0_3, .int .i64 a0_4, .int .i64 a0_5, .string a0_6, .string a0_7, .int .i64 a0_8] 45 (0, 0)) (by refine blk_far ?_ NB1208_1220.out _; refine blk_far ?_ NB1208_1220.out _; exact BK1208.out) hb); replace BK1209 := Aside0.mk (blk_below (g := gb1209) (o := .cells #[.string a1_0, .string a1_1, .bool a1_2, .bool a1_3, .slice (some ad1219) l1_4.length c1_4] 54 (0, 0)) (by refine blk_far ?_ NB1209_1220.out _; refine blk_far ?_ NB1209_1220.out _; exact BK1209.out) hb); replace BK1214 := Aside0.mk (blk_below (g := gb1214) (o := .cells #[.bool t1210, .string t1211, .string t1212] 23 (0, 0)) (by refine blk_far ?_ NB1214_1220.out _; refine blk_far ?_ NB1214_1220.out _; exact BK1214.out) hb); replace BK1220 := Aside0.mk (blk_below (g := gb1220) (o := .cells #[.string ((rd_T60 l1_4 x85_3).f0), .string ((rd_T60 l1_4 x85_3).f1)] 60 (0, 0)) (by refine blk_put (cs := #[.string ((rd_T60 l1_4 x85_3).f0), .string (⟨#[]⟩ : ByteArray)]) ?_ 1 _ rfl; refine blk_put (cs := #[.string (⟨#[]⟩ : ByteArray), .string (⟨#[]⟩ : ByteArray)]) ?_ 0 _ rfl; exact BK1220.out) hb); replace HB := Aside0.mk (below_step hb_ hb); obtain ⟨hcz98_0, hcz98_1, hcz98_2, hfz98_0, hfz98_1, hfz98_2⟩ := BK1214.c3; obtain ⟨hcz99_0, hcz99_1, hfz99_0, hfz99_1⟩ := BK1220.c2) | ((with_reducible refine gate_callee (f := 29) rfl ?_); refine gL_ (some 102) Tryd.func29 #[.agg #[.bool t1210, .string t1211, .string t1212], .agg #[.bool false, .string ((rd_T60 l1_4 x85_3).f1), .string (⟨#[]⟩ : ByteArray)]] ?_; (with_reducible refine (decimal_Compare.calls k3 t1210 t1211 t1212 false ((rd_T60 l1_4 x85_3).f1) (⟨#[]⟩ : ByteArray) t1223 t1224 _ A87.out).mono ?_); rintro e w100 ⟨rfl, hb⟩; refine ⟨_, rfl, ?_⟩; replace BK1208 := BK1208.bl hb; replace BK1209 := BK1209.bl hb; replace BK1214 := BK1214.bl hb; replace BK1220 := BK1220.bl hb; replace HB := Aside0.mk (below_step hb_ hb)))
              go_roundg k3
              case measure => have := HJ15.out; have := HK2.out; have := HK3.out; omega
              case rel => exact ⟨(true), (wrap64 (x85_3 + 1)), (by first | rfl | (simp; done) | (simp [*]; done)), (by first | rfl | (simp; done) | (simp [*]; done)), H', ⟨by have := HJ15.out; have := HK2.out; have := HK3.out; omega⟩, ⟨by exact BK1208.out⟩, ⟨by exact BK1209.out⟩, ⟨by exact BK1214.out⟩, ⟨by repeat (first | (with_reducible first | exact HB.out | apply below_alloc | apply pw_below_drewN | apply below_drew1 | refine below_set ?_ GE1208.out | refine below_set ?_ GE1209.out | refine below_set ?_ GE1214.out | refine below_set ?_ GE1220.out) | exact HB.out)⟩⟩
             ·replace c88 := Bool.eq_false_iff.mpr c88
              subst c88
              have H1 : (if t1221 ≤ 0 then (operand_In.l1 k3 (decide (t1223 ≤ 0)) l1_4 (l1_4.length : Int) (wrap64 (x85_3 + 1)) a1_0 a1_1 a1_2 a1_3 l1_4 t1210 t1211 t1212) else (operand_In.l1 k3 false l1_4 (l1_4.length : Int) (wrap64 (x85_3 + 1)) a1_0 a1_1 a1_2 a1_3 l1_4 t1210 t1211 t1212)) = some (r1, r2) := by rw [if_neg (show ¬ (false = true) by decide)] at H; exact H
              clear H
              have H := H1
              clear H1
              by_cases c101 : t1221 ≤ 0
              ·rw [if_pos c101] at H
               have c101b0 : decide (t1221 ≤ 0) = true := decide_eq_true c101
               clear c101
               have H' := Aside0.mk H
               clear H
               have p1219 : 0 ≤ (x85_3 : Int) := of_decide_eq_true (by first | (with_reducible assumption) | assumption)
               have q1219 : x85_3 < (l1_4.length : Int) := of_decide_eq_true (by first | (with_reducible assumption) | assumption)
               obtain ⟨ad1219, e1219, hx1219_0, hx1219_1⟩ := at_T60 HR1_4.out x85_3 p1219 q1219
               cases e1219
               replace hx1219_0 := (HB.out.cell (World.block_lt_of_cell? w _ hx1219_0)).trans hx1219_0
               replace hx1219_1 := (HB.out.cell (World.block_lt_of_cell? w _ hx1219_1)).trans hx1219_1
               replace p1219 := eq_true p1219
               replace q1219 := eq_true q1219
               go_wp2_with (first | ((with_reducible refine gate_dst (N := 12) rfl ?_); (try (refine gate_guard (by rfl) ?_; dsimp only)); refine box_event ?hg (N := 12) ?hd (cs := #[.string (⟨#[]⟩ : ByteArray), .string (⟨#[]⟩ : ByteArray)]) (t := 60) ?hr ?_; (case hd => rfl); (case hg => rfl); (case hr => first | (go_simp; done) | (go_simp; rfl)); intro gb1220 hg w102 hbox hb; have BK1220 := Aside0.mk (hbox); have GW1220 := Aside0.mk ((by rw [hg]; exact (below_size hb_) : w.heap.size ≤ gb1220)); have GE1220 := Aside0.mk ((by rw [hg]; exact (below_size hb_) : w.heap.size ≤ gb1220)); have NB1208_1220 := BK1208.nl hg; have NB1220_1208 := BK1208.ng hg; have NB1209_1220 := BK1209.nl hg; have NB1220_1209 := BK1209.ng hg; have NB1214_1220 := BK1214.nl hg; have NB1220_1214 := BK1214.ng hg; replace BK1208 := BK1208.bl hb; replace BK1209 := BK1209.bl hb; replace BK1214 := BK1214.bl hb; replace HB := Aside0.mk (below_step hb_ hb); clear hb hbox hg; have hnb103 := NB1220_1208.out; have hnc103 := NB1208_1220.out; have hnb104 := NB1220_1209.out; have hnc104 := NB1209_1220.out; have hnb105 := NB1220_1214.out; have hnc105 := NB1214_1220.out; obtain ⟨hcz106_0, hcz106_1, hfz106_0, hfz106_1⟩ := BK1220.c2; have hnb107 := NB1214_1208.out; have hnc107 := NB1208_1214.out; have hnb108 := NB1214_1209.out; have hnc108 := NB1209_1214.out; obtain ⟨hcz109_0, hcz109_1, hcz109_2, hfz109_0, hfz109_1, hfz109_2⟩ := BK1214.c3) | ((with_reducible refine gate_callee (f := 29) rfl ?_); refine gL_ (some 94) Tryd.func29 #[.agg #[.bool false, .string ((rd_T60 l1_4 x85_3).f0), .string (⟨#[]⟩ : ByteArray)], .agg #[.bool t1210, .string t1211, .string t1212]] ?_; (with_reducible refine (decimal_Compare.calls k3 false ((rd_T60 l1_4 x85_3).f0) (⟨#[]⟩ : ByteArray) t1210 t1211 t1212 t1221 t1222 _ A86.out).mono ?_); rintro e w110 ⟨rfl, hb⟩; refine ⟨_, rfl, ?_⟩; replace BK1208 := Aside0.mk (blk_below (g := gb1208) (o := .cells #[.bool a0_0, .string a0_1, .string a0_2, .string a0_3, .int .i64 a0_4, .int .i64 a0_5, .string a0_6, .string a0_7, .int .i64 a0_8] 45 (0, 0)) (by refine blk_far ?_ NB1208_1220.out _; refine blk_far ?_ NB1208_1220.out _; exact BK1208.out) hb); replace BK1209 := Aside0.mk (blk_below (g := gb1209) (o := .cells #[.string a1_0, .string a1_1, .bool a1_2, .bool a1_3, .slice (some ad1219) l1_4.length c1_4] 54 (0, 0)) (by refine blk_far ?_ NB1209_1220.out _; refine blk_far ?_ NB1209_1220.out _; exact BK1209.out) hb); replace BK1214 := Aside0.mk (blk_below (g := gb1214) (o := .cells #[.bool t1210, .string t1211, .string t1212] 23 (0, 0)) (by refine blk_far ?_ NB1214_1220.out _; refine blk_far ?_ NB1214_1220.out _; exact BK1214.out) hb); replace BK1220 := Aside0.mk (blk_below (g := gb1220) (o := .cells #[.string ((rd_T60 l1_4 x85_3).f0), .string ((rd_T60 l1_4 x85_3).f1)] 60 (0, 0)) (by refine blk_put (cs := #[.string ((rd_T60 l1_4 x85_3).f0), .string (⟨#[]⟩ : ByteArray)]) ?_ 1 _ rfl; refine blk_put (cs := #[.string (⟨#[]⟩ : ByteArray), .string (⟨#[]⟩ : ByteArray)]) ?_ 0 _ rfl; exact BK1220.out) hb); replace HB := Aside0.mk (below_step hb_ hb); obtain ⟨hcz111_0, hcz111_1, hcz111_2, hfz111_0, hfz111_1, hfz111_2⟩ := BK1214.c3; obtain ⟨hcz112_0, hcz112_1, hfz112_0, hfz112_1⟩ := BK1220.c2) | ((with_reducible refine gate_callee (f := 29) rfl ?_); refine gL_ (some 102) Tryd.func29 #[.agg #[.bool t1210, .string t1211, .string t1212], .agg #[.bool false, .string ((rd_T60 l1_4 x85_3).f1), .string (⟨#[]⟩ : ByteArray)]] ?_; (with_reducible refine (decimal_Compare.calls k3 t1210 t1211 t1212 false ((rd_T60 l1_4 x85_3).f1) (⟨#[]⟩ : ByteArray) t1223 t1224 _ A87.out).mono ?_); rintro e w113 ⟨rfl, hb⟩; refine ⟨_, rfl, ?_⟩; replace BK1208 := BK1208.bl hb; replace BK1209 := BK1209.bl hb; replace BK1214 := BK1214.bl hb; replace BK1220 := BK1220.bl hb; replace HB := Aside0.mk (below_step hb_ hb)))
               go_roundg k3
               case measure => have := HJ15.out; have := HK2.out; have := HK3.out; omega
               case rel => exact ⟨(decide (t1223 ≤ 0)), (wrap64 (x85_3 + 1)), (by first | rfl | (simp; done) | (simp [*]; done)), (by first | rfl | (simp; done) | (simp [*]; done)), H', ⟨by have := HJ15.out; have := HK2.out; have := HK3.out; omega⟩, ⟨by exact BK1208.out⟩, ⟨by exact BK1209.out⟩, ⟨by exact BK1214.out⟩, ⟨by repeat (first | (with_reducible first | exact HB.out | apply below_alloc | apply pw_below_drewN | apply below_drew1 | refine below_set ?_ GE1208.out | refine below_set ?_ GE1209.out | refine below_set ?_ GE1214.out | refine below_set ?_ GE1220.out) | exact HB.out)⟩⟩
              ·rw [if_neg c101] at H
               have c101b0 : decide (t1221 ≤ 0) = false := decide_eq_false c101
               clear c101
               have H' := Aside0.mk H
               clear H
               have p1219 : 0 ≤ (x85_3 : Int) := of_decide_eq_true (by first | (with_reducible assumption) | assumption)
               have q1219 : x85_3 < (l1_4.length : Int) := of_decide_eq_true (by first | (with_reducible assumption) | assumption)
               obtain ⟨ad1219, e1219, hx1219_0, hx1219_1⟩ := at_T60 HR1_4.out x85_3 p1219 q1219
               cases e1219
               replace hx1219_0 := (HB.out.cell (World.block_lt_of_cell? w _ hx1219_0)).trans hx1219_0
               replace hx1219_1 := (HB.out.cell (World.block_lt_of_cell? w _ hx1219_1)).trans hx1219_1
               replace p1219 := eq_true p1219
               replace q1219 := eq_true q1219
               go_wp2_with (first | ((with_reducible refine gate_dst (N := 12) rfl ?_); (try (refine gate_guard (by rfl) ?_; dsimp only)); refine box_event ?hg (N := 12) ?hd (cs := #[.string (⟨#[]⟩ : ByteArray), .string (⟨#[]⟩ : ByteArray)]) (t := 60) ?hr ?_; (case hd => rfl); (case hg => rfl); (case hr => first | (go_simp; done) | (go_simp; rfl)); intro gb1220 hg w114 hbox hb; have BK1220 := Aside0.mk (hbox); have GW1220 := Aside0.mk ((by rw [hg]; exact (below_size hb_) : w.heap.size ≤ gb1220)); have GE1220 := Aside0.mk ((by rw [hg]; exact (below_size hb_) : w.heap.size ≤ gb1220)); have NB1208_1220 := BK1208.nl hg; have NB1220_1208 := BK1208.ng hg; have NB1209_1220 := BK1209.nl hg; have NB1220_1209 := BK1209.ng hg; have NB1214_1220 := BK1214.nl hg; have NB1220_1214 := BK1214.ng hg; replace BK1208 := BK1208.bl hb; replace BK1209 := BK1209.bl hb; replace BK1214 := BK1214.bl hb; replace HB := Aside0.mk (below_step hb_ hb); clear hb hbox hg; have hnb115 := NB1220_1208.out; have hnc115 := NB1208_1220.out; have hnb116 := NB1220_1209.out; have hnc116 := NB1209_1220.out; have hnb117 := NB1220_1214.out; have hnc117 := NB1214_1220.out; obtain ⟨hcz118_0, hcz118_1, hfz118_0, hfz118_1⟩ := BK1220.c2; have hnb119 := NB1214_1208.out; have hnc119 := NB1208_1214.out; have hnb120 := NB1214_1209.out; have hnc120 := NB1209_1214.out; obtain ⟨hcz121_0, hcz121_1, hcz121_2, hfz121_0, hfz121_1, hfz121_2⟩ := BK1214.c3) | ((with_reducible refine gate_callee (f := 29) rfl ?_); refine gL_ (some 94) Tryd.func29 #[.agg #[.bool false, .string ((rd_T60 l1_4 x85_3).f0), .string (⟨#[]⟩ : ByteArray)], .agg #[.bool t1210, .string t1211, .string t1212]] ?_; (with_reducible refine (decimal_Compare.calls k3 false ((rd_T60 l1_4 x85_3).f0) (⟨#[]⟩ : ByteArray) t1210 t1211 t1212 t1221 t1222 _ A86.out).mono ?_); rintro e w122 ⟨rfl, hb⟩; refine ⟨_, rfl, ?_⟩; replace BK1208 := Aside0.mk (blk_below (g := gb1208) (o := .cells #[.bool a0_0, .string a0_1, .string a0_2, .string a0_3, .int .i64 a0_4, .int .i64 a0_5, .string a0_6, .string a0_7, .int .i64 a0_8] 45 (0, 0)) (by refine blk_far ?_ NB1208_1220.out _; refine blk_far ?_ NB1208_1220.out _; exact BK1208.out) hb); replace BK1209 := Aside0.mk (blk_below (g := gb1209) (o := .cells #[.string a1_0, .string a1_1, .bool a1_2, .bool a1_3, .slice (some ad1219) l1_4.length c1_4] 54 (0, 0)) (by refine blk_far ?_ NB1209_1220.out _; refine blk_far ?_ NB1209_1220.out _; exact BK1209.out) hb); replace BK1214 := Aside0.mk (blk_below (g := gb1214) (o := .cells #[.bool t1210, .string t1211, .string t1212] 23 (0, 0)) (by refine blk_far ?_ NB1214_1220.out _; refine blk_far ?_ NB1214_1220.out _; exact BK1214.out) hb); replace BK1220 := Aside0.mk (blk_below (g := gb1220) (o := .cells #[.string ((rd_T60 l1_4 x85_3).f0), .string ((rd_T60 l1_4 x85_3).f1)] 60 (0, 0)) (by refine blk_put (cs := #[.string ((rd_T60 l1_4 x85_3).f0), .string (⟨#[]⟩ : ByteArray)]) ?_ 1 _ rfl; refine blk_put (cs := #[.string (⟨#[]⟩ : ByteArray), .string (⟨#[]⟩ : ByteArray)]) ?_ 0 _ rfl; exact BK1220.out) hb); replace HB := Aside0.mk (below_step hb_ hb); obtain ⟨hcz123_0, hcz123_1, hcz123_2, hfz123_0, hfz123_1, hfz123_2⟩ := BK1214.c3; obtain ⟨hcz124_0, hcz124_1, hfz124_0, hfz124_1⟩ := BK1220.c2) | ((with_reducible refine gate_callee (f := 29) rfl ?_); refine gL_ (some 102) Tryd.func29 #[.agg #[.bool t1210, .string t1211, .string t1212], .agg #[.bool false, .string ((rd_T60 l1_4 x85_3).f1), .string (⟨#[]⟩ : ByteArray)]] ?_; (with_reducible refine (decimal_Compare.calls k3 t1210 t1211 t1212 false ((rd_T60 l1_4 x85_3).f1) (⟨#[]⟩ : ByteArray) t1223 t1224 _ A87.out).mono ?_); rintro e w125 ⟨rfl, hb⟩; refine ⟨_, rfl, ?_⟩; replace BK1208 := BK1208.bl hb; replace BK1209 := BK1209.bl hb; replace BK1214 := BK1214.bl hb; replace BK1220 := BK1220.bl hb; replace HB := Aside0.mk (below_step hb_ hb)))
               go_roundg k3
               case measure => have := HJ15.out; have := HK2.out; have := HK3.out; omega
               case rel => exact ⟨(false), (wrap64 (x85_3 + 1)), (by first | rfl | (simp; done) | (simp [*]; done)), (by first | rfl | (simp; done) | (simp [*]; done)), H', ⟨by have := HJ15.out; have := HK2.out; have := HK3.out; omega⟩, ⟨by exact BK1208.out⟩, ⟨by exact BK1209.out⟩, ⟨by exact BK1214.out⟩, ⟨by repeat (first | (with_reducible first | exact HB.out | apply below_alloc | apply pw_below_drewN | apply below_drew1 | refine below_set ?_ GE1208.out | refine below_set ?_ GE1209.out | refine below_set ?_ GE1214.out | refine below_set ?_ GE1220.out) | exact HB.out)⟩⟩
            ·rw [if_neg c85] at H
             exact absurd H (by simp)
           ·rw [if_neg c84] at H
            exact absurd H (by simp)
          ·rw [if_neg c83] at H
           have c83b0 : decide (x85_3 < (l1_4.length : Int)) = false := decide_eq_false c83
           clear c83
           by_cases c126 : a1_3 = true
           ·subst c126
            have H1 : (some ((x10_3 != a1_2), 0)) = some (r1, r2) := by rw [if_pos rfl] at H; exact H
            clear H
            have H := H1
            clear H1
            simp only [Option.some.injEq, Prod.mk.injEq] at H
            obtain ⟨rfl, rfl⟩ := H
            have hnb127 := NB1209_1208.out
            have hnc127 := NB1208_1209.out
            have hnb128 := NB1209_1214.out
            have hnc128 := NB1214_1209.out
            have hcz129_0 : wr.cell? ⟨gb1209, 0, none⟩ = some (.string a1_0) := (blk_cell BK1209.out 0).trans rfl
            have hcz129_1 : wr.cell? ⟨gb1209, 1, none⟩ = some (.string a1_1) := (blk_cell BK1209.out 1).trans rfl
            have hcz129_2 : wr.cell? ⟨gb1209, 2, none⟩ = some (.bool a1_2) := (blk_cell BK1209.out 2).trans rfl
            have hcz129_3 : wr.cell? ⟨gb1209, 3, none⟩ = some (.bool true) := (blk_cell BK1209.out 3).trans rfl
            have hcz129_4 : wr.cell? ⟨gb1209, 4, none⟩ = some (.slice A1_4 l1_4.length c1_4) := (blk_cell BK1209.out 4).trans rfl
            have hfz129_0 := blk_frozen BK1209.out 0
            have hfz129_1 := blk_frozen BK1209.out 1
            have hfz129_2 := blk_frozen BK1209.out 2
            have hfz129_3 := blk_frozen BK1209.out 3
            have hfz129_4 := blk_frozen BK1209.out 4
            go_wp2
            go_ret2
            exact ⟨by first | rfl | (simp [errW_none, errW_some] <;> rfl) | (simp [*, errW_none, errW_some] <;> rfl) | (simp [bne_nil_]; done), by repeat (first | (with_reducible first | exact HB.out | apply below_alloc | apply pw_below_drewN | apply below_drew1 | refine below_set ?_ GE1208.out | refine below_set ?_ GE1209.out | refine below_set ?_ GE1214.out) | exact HB.out)⟩
           ·replace c126 := Bool.eq_false_iff.mpr c126
            subst c126
            have H1 : ((strings_Trim.f t1212 (⟨#[48]⟩ : ByteArray)).bind fun t1225 => (if t1225.toList = ([] : List UInt8) then (some ((x10_3 != a1_2), 0)) else (some ((false != a1_2), 0)))) = some (r1, r2) := by rw [if_neg (show ¬ (false = true) by decide)] at H; exact H
            clear H
            have H := H1
            clear H1
            replace H := Option.bind_eq_some_iff.mp H
            obtain ⟨t1225, A1300, H⟩ := H
            try dsimp only at H
            have A130 := Aside0.mk A1300
            clear A1300
            have HF131 := Aside0.mk H
            clear H
            have hnb132 := NB1209_1208.out
            have hnc132 := NB1208_1209.out
            have hnb133 := NB1209_1214.out
            have hnc133 := NB1214_1209.out
            have hcz134_0 : wr.cell? ⟨gb1209, 0, none⟩ = some (.string a1_0) := (blk_cell BK1209.out 0).trans rfl
            have hcz134_1 : wr.cell? ⟨gb1209, 1, none⟩ = some (.string a1_1) := (blk_cell BK1209.out 1).trans rfl
            have hcz134_2 : wr.cell? ⟨gb1209, 2, none⟩ = some (.bool a1_2) := (blk_cell BK1209.out 2).trans rfl
            have hcz134_3 : wr.cell? ⟨gb1209, 3, none⟩ = some (.bool false) := (blk_cell BK1209.out 3).trans rfl
            have hcz134_4 : wr.cell? ⟨gb1209, 4, none⟩ = some (.slice A1_4 l1_4.length c1_4) := (blk_cell BK1209.out 4).trans rfl
            have hfz134_0 := blk_frozen BK1209.out 0
            have hfz134_1 := blk_frozen BK1209.out 1
            have hfz134_2 := blk_frozen BK1209.out 2
            have hfz134_3 := blk_frozen BK1209.out 3
            have hfz134_4 := blk_frozen BK1209.out 4
            have hnb135 := NB1214_1208.out
            have hnc135 := NB1208_1214.out
            obtain ⟨hcz136_0, hcz136_1, hcz136_2, hfz136_0, hfz136_1, hfz136_2⟩ := BK1214.c3
            go_upto_if 123 with (first | (go_at_call 87; (with_reducible refine (strings_Trim.calls t1212 (⟨#[48]⟩ : ByteArray) t1225 _ A130.out).mono ?_); rintro e w137 ⟨rfl, hb⟩; replace BK1208 := BK1208.bl hb; replace BK1209 := BK1209.bl hb; replace BK1214 := BK1214.bl hb; replace HB := Aside0.mk (below_step hb_ hb)))
            (try simp only [Act.put, List.setIfInBounds_toArray, List.set_cons_zero, List.set_cons_succ])
            have H := HF131.out
            clear HF131
            by_cases c138 : t1225.toList = ([] : List UInt8)
            ·rw [if_pos c138] at H
             have c138b0 : (t1225.toList == ([] : List UInt8)) = true := beq_iff_eq.mpr c138
             have c138b1 : (t1225.toList != ([] : List UInt8)) = false := bne_eq_false_iff_eq.mpr c138
             clear c138
             (first | rw [c138b0] | (simp only [i64_w, i32_w]; rw [c138b0]) | rw [c138b1] | rw [(by rw [← c138b0]; cases t1225.toList <;> rfl : t1225.toList.isEmpty = true)] | skip)
             simp only [Option.some.injEq, Prod.mk.injEq] at H
             obtain ⟨rfl, rfl⟩ := H
             have hnb139 := NB1209_1208.out
             have hnc139 := NB1208_1209.out
             have hnb140 := NB1209_1214.out
             have hnc140 := NB1214_1209.out
             have hcz141_0 : w137.cell? ⟨gb1209, 0, none⟩ = some (.string a1_0) := (blk_cell BK1209.out 0).trans rfl
             have hcz141_1 : w137.cell? ⟨gb1209, 1, none⟩ = some (.string a1_1) := (blk_cell BK1209.out 1).trans rfl
             have hcz141_2 : w137.cell? ⟨gb1209, 2, none⟩ = some (.bool a1_2) := (blk_cell BK1209.out 2).trans rfl
             have hcz141_3 : w137.cell? ⟨gb1209, 3, none⟩ = some (.bool false) := (blk_cell BK1209.out 3).trans rfl
             have hcz141_4 : w137.cell? ⟨gb1209, 4, none⟩ = some (.slice A1_4 l1_4.length c1_4) := (blk_cell BK1209.out 4).trans rfl
             have hfz141_0 := blk_frozen BK1209.out 0
             have hfz141_1 := blk_frozen BK1209.out 1
             have hfz141_2 := blk_frozen BK1209.out 2
             have hfz141_3 := blk_frozen BK1209.out 3
             have hfz141_4 := blk_frozen BK1209.out 4
             go_wp2
             go_ret2
             exact ⟨by first | rfl | (simp [errW_none, errW_some] <;> rfl) | (simp [*, errW_none, errW_some] <;> rfl) | (simp [bne_nil_]; done), by repeat (first | (with_reducible first | exact HB.out | apply below_alloc | apply pw_below_drewN | apply below_drew1 | refine below_set ?_ GE1208.out | refine below_set ?_ GE1209.out | refine below_set ?_ GE1214.out) | exact HB.out)⟩
            ·rw [if_neg c138] at H
             have c138b0 : (t1225.toList == ([] : List UInt8)) = false := beq_eq_false_iff_ne.mpr c138
             have c138b1 : (t1225.toList != ([] : List UInt8)) = true := bne_iff_ne.mpr c138
             (first | rw [c138b0] | (simp only [i64_w, i32_w]; rw [c138b0]) | rw [c138b1] | rw [(by rw [← c138b0]; cases t1225.toList <;> rfl : t1225.toList.isEmpty = false)] | skip)
             simp only [Option.some.injEq, Prod.mk.injEq] at H
             obtain ⟨rfl, rfl⟩ := H
             have hnb142 := NB1209_1208.out
             have hnc142 := NB1208_1209.out
             have hnb143 := NB1209_1214.out
             have hnc143 := NB1214_1209.out
             have hcz144_0 : w137.cell? ⟨gb1209, 0, none⟩ = some (.string a1_0) := (blk_cell BK1209.out 0).trans rfl
             have hcz144_1 : w137.cell? ⟨gb1209, 1, none⟩ = some (.string a1_1) := (blk_cell BK1209.out 1).trans rfl
             have hcz144_2 : w137.cell? ⟨gb1209, 2, none⟩ = some (.bool a1_2) := (blk_cell BK1209.out 2).trans rfl
             have hcz144_3 : w137.cell? ⟨gb1209, 3, none⟩ = some (.bool false) := (blk_cell BK1209.out 3).trans rfl
             have hcz144_4 : w137.cell? ⟨gb1209, 4, none⟩ = some (.slice A1_4 l1_4.length c1_4) := (blk_cell BK1209.out 4).trans rfl
             have hfz144_0 := blk_frozen BK1209.out 0
             have hfz144_1 := blk_frozen BK1209.out 1
             have hfz144_2 := blk_frozen BK1209.out 2
             have hfz144_3 := blk_frozen BK1209.out 3
             have hfz144_4 := blk_frozen BK1209.out 4
             go_wp2
             go_ret2
             exact ⟨by first | rfl | (simp [errW_none, errW_some] <;> rfl) | (simp [*, errW_none, errW_some] <;> rfl) | (simp [bne_nil_]; done), by repeat (first | (with_reducible first | exact HB.out | apply below_alloc | apply pw_below_drewN | apply below_drew1 | refine below_set ?_ GE1208.out | refine below_set ?_ GE1209.out | refine below_set ?_ GE1214.out) | exact HB.out)⟩
 ·rw [if_neg c15] at H
  have c15b0 : (t1213 == 0) = false := beq_eq_false_iff_ne.mpr c15
  have c15b1 : (t1213 != 0) = true := bne_iff_ne.mpr c15
  (first | rw [c15b0] | (simp only [i64_w, i32_w]; rw [c15b0]) | rw [c15b1] | skip)
  simp only [Option.some.injEq, Prod.mk.injEq] at H
  obtain ⟨rfl, rfl⟩ := H
  go_wp2
  go_ret2
  exact ⟨by first | rfl | (simp [errW_none, errW_some] <;> rfl) | (simp [*, errW_none, errW_some] <;> rfl) | (simp [bne_nil_]; done), by repeat (first | (with_reducible first | exact HB.out | apply below_alloc | apply pw_below_drewN | apply below_drew1 | refine below_set ?_ GE1208.out | refine below_set ?_ GE1209.out | refine below_set ?_ GE1214.out) | exact HB.out)⟩
end Go.Proofs.YtihjcaglhjepdaaDoor.P
namespace Go.Proofs.YtihjcaglhjepdaaDoor.P
open Go.RowKit Go.Proofs.YtihjcaglhjepdaaDoorW.PrintWords Go.Proofs.YtihjcaglhjepdaaDoorW.PrintLast Go.Proofs.YtihjcaglhjepdaaDoorW.PrintMore
attribute [local go_sem] max2_int max_two
set_option linter.unusedVariables false
set_option linter.unusedSimpArgs false
def idiomlaw04_OperandWhole.f (k : Nat) (a0_0 : Bool) (a0_1 : ByteArray) (a0_2 : ByteArray) : Option (Bool) := (idiomlaw04_awake.f k).bind fun t1305 => (if t1305 = true then ((operand_Of.f k a0_0 a0_1 a0_2 0).bind fun bt1306 => (if bt1306.2.2.2.2.2.2.2.2.2 = 0 then ((operand_In.f k bt1306.1 bt1306.2.1 bt1306.2.2.1 bt1306.2.2.2.1 bt1306.2.2.2.2.1 bt1306.2.2.2.2.2.1 bt1306.2.2.2.2.2.2.1 bt1306.2.2.2.2.2.2.2.1 bt1306.2.2.2.2.2.2.2.2.1 (⟨#[110]⟩ : ByteArray) (⟨#[49]⟩ : ByteArray) false false (([(⟨(⟨#[48]⟩ : ByteArray), (⟨#[48]⟩ : ByteArray)⟩ : S60)] : List (S60)))).bind fun bt1320 => (if bt1320.2 = 0 then (some (bt1320.1 == (bt1306.2.2.2.2.2.1 == 0))) else (some false))) else ((decimal_Check.f k a0_0 a0_1 a0_2).bind fun t1322 => (some (t1322 == bt1306.2.2.2.2.2.2.2.2.2))))) else (some false))
set_option maxHeartbeats 8000000 in
set_option maxRecDepth 100000 in
theorem idiomlaw04_OperandWhole.calls (k : Nat) (a0_0 : Bool) (a0_1 : ByteArray) (a0_2 : ByteArray) (r : Bool) (w : World) (ht : TB w) (h : idiomlaw04_OperandWhole.f k a0_0 a0_1 a0_2 = some r) :
    Calls Tryd.prog 16 #[.agg #[.bool a0_0, .string a0_1, .string a0_2]] w fun e w' => e = .returned (.bool r) ∧ Below w.heap.size w w' := by
 have hu23 := Tryd.underlying23
 have hu45 := Tryd.underlying45
 have hu60 := Tryd.underlying60
 have hu54 := Tryd.underlying54
 have HTB := Aside0.mk ht
 clear ht
 have HB := Aside0.mk (Below.refl w.heap.size w)
 unfold idiomlaw04_OperandWhole.f at h
 have H := h
 clear h
 replace H := Option.bind_eq_some_iff.mp H
 obtain ⟨t1305, A20, H⟩ := H
 try dsimp only at H
 have A2 := Aside0.mk A20
 clear A20
 have HF3 := Aside0.mk H
 clear H
 go_enter Tryd.func16, Tryd.ntmps16
 go_upto_if 7 with (first | ((with_reducible refine gate_dst (N := 1) rfl ?_); refine bx_ #[.bool a0_0, .string a0_1, .string a0_2] 23 ?_; intro gb1304 hg w4 hbox hb; have BK1304 := Aside0.mk (hbox); have GW1304 := Aside0.mk ((by rw [hg]; exact (below_size hb_) : w.heap.size ≤ gb1304)); have GE1304 := Aside0.mk ((by rw [hg]; exact (below_size hb_) : w.heap.size ≤ gb1304)); replace HB := Aside0.mk (below_step hb_ hb); clear hb hbox hg) | ((with_reducible refine gate_callee (f := 49) rfl ?_); refine gL_ (some 6) Tryd.func49 #[] ?_; (with_reducible refine (idiomlaw04_awake.calls k  t1305 _ (TB.below HTB.out hb_) A2.out).mono ?_); rintro e w5 ⟨rfl, hb⟩; refine ⟨_, rfl, ?_⟩; replace BK1304 := BK1304.bl hb; replace HB := Aside0.mk (below_step hb_ hb)))
 (try simp only [Act.put, List.setIfInBounds_toArray, List.set_cons_zero, List.set_cons_succ])
 have H := HF3.out
 clear HF3
 by_cases c6 : t1305 = true
 ·subst c6
  have H1 : ((operand_Of.f k a0_0 a0_1 a0_2 0).bind fun bt1306 => (if bt1306.2.2.2.2.2.2.2.2.2 = 0 then ((operand_In.f k bt1306.1 bt1306.2.1 bt1306.2.2.1 bt1306.2.2.2.1 bt1306.2.2.2.2.1 bt1306.2.2.2.2.2.1 bt1306.2.2.2.2.2.2.1 bt1306.2.2.2.2.2.2.2.1 bt1306.2.2.2.2.2.2.2.2.1 (⟨#[110]⟩ : ByteArray) (⟨#[49]⟩ : ByteArray) false false (([(⟨(⟨#[48]⟩ : ByteArray), (⟨#[48]⟩ : ByteArray)⟩ : S60)] : List (S60)))).bind fun bt1320 => (if bt1320.2 = 0 then (some (bt1320.1 == (bt1306.2.2.2.2.2.1 == 0))) else (some false))) else ((decimal_Check.f k a0_0 a0_1 a0_2).bind fun t1322 => (some (t1322 == bt1306.2.2.2.2.2.2.2.2.2))))) = some r := by rw [if_pos rfl] at H; exact H
  clear H
  have H := H1
  clear H1
  replace H := Option.bind_eq_some_iff.mp H
  obtain ⟨⟨t1306, t1307, t1308, t1309, t1310, t1311, t1312, t1313, t1314, t1315⟩, A70, H⟩ := H
  try dsimp only at H
  have A7 := Aside0.mk A70
  clear A70
  have HF8 := Aside0.mk H
  clear H
  obtain ⟨hcz9_0, hcz9_1, hcz9_2, hfz9_0, hfz9_1, hfz9_2⟩ := BK1304.c3
  go_upto_if 14 with (first | ((with_reducible refine gate_callee (f := 45) rfl ?_); refine gL_ (some 10) Tryd.func45 #[.agg #[.bool a0_0, .string a0_1, .string a0_2], .int .i64 0] ?_; (with_reducible refine (operand_Of.calls k a0_0 a0_1 a0_2 0 t1306 t1307 t1308 t1309 t1310 t1311 t1312 t1313 t1314 t1315 _ A7.out).mono ?_); rintro e w10 ⟨rfl, hb⟩; refine ⟨_, rfl, ?_⟩; replace BK1304 := BK1304.bl hb; replace HB := Aside0.mk (below_step hb_ hb)) | ((with_reducible refine gate_dst (N := 3) rfl ?_); refine bx_ #[.bool false, .string (⟨#[]⟩ : ByteArray), .string (⟨#[]⟩ : ByteArray), .string (⟨#[]⟩ : ByteArray), .int .i64 0, .int .i64 0, .string (⟨#[]⟩ : ByteArray), .string (⟨#[]⟩ : ByteArray), .int .i64 0] 45 ?_; intro gb1316 hg w11 hbox hb; have BK1316 := Aside0.mk (hbox); have GW1316 := Aside0.mk ((by rw [hg]; exact (below_size hb_) : w.heap.size ≤ gb1316)); have GE1316 := Aside0.mk ((by rw [hg]; exact (below_size hb_) : w.heap.size ≤ gb1316)); have NB1304_1316 := BK1304.nl hg; have NB1316_1304 := BK1304.ng hg; replace BK1304 := BK1304.bl hb; replace HB := Aside0.mk (below_step hb_ hb); clear hb hbox hg; have hnb12 := NB1316_1304.out; have hnc12 := NB1304_1316.out; have hcz13_0 : w11.cell? ⟨gb1316, 0, none⟩ = some (.bool false) := (blk_cell BK1316.out 0).trans rfl; have hcz13_1 : w11.cell? ⟨gb1316, 1, none⟩ = some (.string (⟨#[]⟩ : ByteArray)) := (blk_cell BK1316.out 1).trans rfl; have hcz13_2 : w11.cell? ⟨gb1316, 2, none⟩ = some (.string (⟨#[]⟩ : ByteArray)) := (blk_cell BK1316.out 2).trans rfl; have hcz13_3 : w11.cell? ⟨gb1316, 3, none⟩ = some (.string (⟨#[]⟩ : ByteArray)) := (blk_cell BK1316.out 3).trans rfl; have hcz13_4 : w11.cell? ⟨gb1316, 4, none⟩ = some (.int .i64 0) := (blk_cell BK1316.out 4).trans rfl; have hcz13_5 : w11.cell? ⟨gb1316, 5, none⟩ = some (.int .i64 0) := (blk_cell BK1316.out 5).trans rfl; have hcz13_6 : w11.cell? ⟨gb1316, 6, none⟩ = some (.string (⟨#[]⟩ : ByteArray)) := (blk_cell BK1316.out 6).trans rfl; have hcz13_7 : w11.cell? ⟨gb1316, 7, none⟩ = some (.string (⟨#[]⟩ : ByteArray)) := (blk_cell BK1316.out 7).trans rfl; have hcz13_8 : w11.cell? ⟨gb1316, 8, none⟩ = some (.int .i64 0) := (blk_cell BK1316.out 8).trans rfl; have hfz13_0 := blk_frozen BK1316.out 0; have hfz13_1 := blk_frozen BK1316.out 1; have hfz13_2 := blk_frozen BK1316.out 2; have hfz13_3 := blk_frozen BK1316.out 3; have hfz13_4 := blk_frozen BK1316.out 4; have hfz13_5 := blk_frozen BK1316.out 5; have hfz13_6 := blk_frozen BK1316.out 6; have hfz13_7 := blk_frozen BK1316.out 7; have hfz13_8 := blk_frozen BK1316.out 8))
  (try simp only [Act.put, List.setIfInBounds_toArray, List.set_cons_zero, List.set_cons_succ])
  have H := HF8.out
  clear HF8
  by_cases c14 : t1315 = 0
  ·rw [if_pos c14] at H
   have c14b0 : (t1315 == 0) = true := beq_iff_eq.mpr c14
   have c14b1 : (t1315 != 0) = false := bne_eq_false_iff_eq.mpr c14
   clear c14
   (first | rw [c14b0] | (simp only [i64_w, i32_w]; rw [c14b0]) | rw [c14b1] | skip)
   obtain ⟨y1317, hy1317⟩ : ∃ y_ : List (S60), y_ = (([(⟨(⟨#[48]⟩ : ByteArray), (⟨#[48]⟩ : ByteArray)⟩ : S60)] : List (S60))) := ⟨_, rfl⟩
   rw [← hy1317] at H
   have Ny1317 := Aside0.mk hy1317
   clear hy1317
   replace H := Option.bind_eq_some_iff.mp H
   obtain ⟨⟨t1320, t1321⟩, A150, H⟩ := H
   try dsimp only at H
   have A15 := Aside0.mk A150
   clear A150
   by_cases c16 : t1321 = 0
   ·rw [if_pos c16] at H
    have c16b0 : (t1321 == 0) = true := beq_iff_eq.mpr c16
    have c16b1 : (t1321 != 0) = false := bne_eq_false_iff_eq.mpr c16
    clear c16
    obtain rfl := Option.some.inj H
    have hnb17 := NB1316_1304.out
    have hnc17 := NB1304_1316.out
    have hcz18_0 : w11.cell? ⟨gb1316, 0, none⟩ = some (.bool false) := (blk_cell BK1316.out 0).trans rfl
    have hcz18_1 : w11.cell? ⟨gb1316, 1, none⟩ = some (.string (⟨#[]⟩ : ByteArray)) := (blk_cell BK1316.out 1).trans rfl
    have hcz18_2 : w11.cell? ⟨gb1316, 2, none⟩ = some (.string (⟨#[]⟩ : ByteArray)) := (blk_cell BK1316.out 2).trans rfl
    have hcz18_3 : w11.cell? ⟨gb1316, 3, none⟩ = some (.string (⟨#[]⟩ : ByteArray)) := (blk_cell BK1316.out 3).trans rfl
    have hcz18_4 : w11.cell? ⟨gb1316, 4, none⟩ = some (.int .i64 0) := (blk_cell BK1316.out 4).trans rfl
    have hcz18_5 : w11.cell? ⟨gb1316, 5, none⟩ = some (.int .i64 0) := (blk_cell BK1316.out 5).trans rfl
    have hcz18_6 : w11.cell? ⟨gb1316, 6, none⟩ = some (.string (⟨#[]⟩ : ByteArray)) := (blk_cell BK1316.out 6).trans rfl
    have hcz18_7 : w11.cell? ⟨gb1316, 7, none⟩ = some (.string (⟨#[]⟩ : ByteArray)) := (blk_cell BK1316.out 7).trans rfl
    have hcz18_8 : w11.cell? ⟨gb1316, 8, none⟩ = some (.int .i64 0) := (blk_cell BK1316.out 8).trans rfl
    have hfz18_0 := blk_frozen BK1316.out 0
    have hfz18_1 := blk_frozen BK1316.out 1
    have hfz18_2 := blk_frozen BK1316.out 2
    have hfz18_3 := blk_frozen BK1316.out 3
    have hfz18_4 := blk_frozen BK1316.out 4
    have hfz18_5 := blk_frozen BK1316.out 5
    have hfz18_6 := blk_frozen BK1316.out 6
    have hfz18_7 := blk_frozen BK1316.out 7
    have hfz18_8 := blk_frozen BK1316.out 8
    go_wp2_with (first | ((with_reducible refine gate_dst (N := 22) rfl ?_); refine Kd.R_lit k60 _ 60 ?hg (N := 22) ?hd (xs := ([(⟨(⟨#[48]⟩ : ByteArray), (⟨#[48]⟩ : ByteArray)⟩ : S60)] : List (S60))) (inner := [.string (⟨#[48]⟩ : ByteArray), .string (⟨#[48]⟩ : ByteArray)]) (ok := fun _ => True) (okp := fun _ => True) ?hr ?hp (fun _ hk => hk) trivial (Below.refl _ _) (Nat.le_refl _) (by simp) ?_; (case hd => rfl); (case hg => rfl); (case hr => first | (go_simp; done) | (go_simp; rfl)); (case hp => exact (Reps.c2 (show Kd.M k60 _ _ _ (⟨(⟨#[48]⟩ : ByteArray), (⟨#[48]⟩ : ByteArray)⟩ : S60) [.string (⟨#[48]⟩ : ByteArray), .string (⟨#[48]⟩ : ByteArray)] from (k60_mkM _ _ _ (⟨(⟨#[48]⟩ : ByteArray), (⟨#[48]⟩ : ByteArray)⟩ : S60) )) (Reps.none _ _))); intro v1318 w19 ho20 hb hg_ hnew_; clear hg_ hnew_; (first | rw [← Ny1317.out] at ho20 | (simp only [Int.reduceToNat] at ho20; rw [← Ny1317.out] at ho20)); have HO1319 := Aside0.mk (Kd.R_lower ho20 (below_size hb_)); replace BK1304 := Aside0.mk (blk_below (g := gb1304) (o := .cells #[.bool a0_0, .string a0_1, .string a0_2] 23 (0, 0)) (by refine blk_far ?_ NB1304_1316.out _; refine blk_far ?_ NB1304_1316.out _; refine blk_far ?_ NB1304_1316.out _; refine blk_far ?_ NB1304_1316.out _; refine blk_far ?_ NB1304_1316.out _; refine blk_far ?_ NB1304_1316.out _; refine blk_far ?_ NB1304_1316.out _; refine blk_far ?_ NB1304_1316.out _; refine blk_far ?_ NB1304_1316.out _; exact BK1304.out) hb); replace BK1316 := Aside0.mk (blk_below (g := gb1316) (o := .cells #[.bool t1306, .string t1307, .string t1308, .string t1309, .int .i64 t1310, .int .i64 t1311, .string t1312, .string t1313, .int .i64 t1314] 45 (0, 0)) (by refine blk_put (cs := #[.bool t1306, .string t1307, .string t1308, .string t1309, .int .i64 t1310, .int .i64 t1311, .string t1312, .string t1313, .int .i64 0]) ?_ 8 _ rfl; refine blk_put (cs := #[.bool t1306, .string t1307, .string t1308, .string t1309, .int .i64 t1310, .int .i64 t1311, .string t1312, .string (⟨#[]⟩ : ByteArray), .int .i64 0]) ?_ 7 _ rfl; refine blk_put (cs := #[.bool t1306, .string t1307, .string t1308, .string t1309, .int .i64 t1310, .int .i64 t1311, .string (⟨#[]⟩ : ByteArray), .string (⟨#[]⟩ : ByteArray), .int .i64 0]) ?_ 6 _ rfl; refine blk_put (cs := #[.bool t1306, .string t1307, .string t1308, .string t1309, .int .i64 t1310, .int .i64 0, .string (⟨#[]⟩ : ByteArray), .string (⟨#[]⟩ : ByteArray), .int .i64 0]) ?_ 5 _ rfl; refine blk_put (cs := #[.bool t1306, .string t1307, .string t1308, .string t1309, .int .i64 0, .int .i64 0, .string (⟨#[]⟩ : ByteArray), .string (⟨#[]⟩ : ByteArray), .int .i64 0]) ?_ 4 _ rfl; refine blk_put (cs := #[.bool t1306, .string t1307, .string t1308, .string (⟨#[]⟩ : ByteArray), .int .i64 0, .int .i64 0, .string (⟨#[]⟩ : ByteArray), .string (⟨#[]⟩ : ByteArray), .int .i64 0]) ?_ 3 _ rfl; refine blk_put (cs := #[.bool t1306, .string t1307, .string (⟨#[]⟩ : ByteArray), .string (⟨#[]⟩ : ByteArray), .int .i64 0, .int .i64 0, .string (⟨#[]⟩ : ByteArray), .string (⟨#[]⟩ : ByteArray), .int .i64 0]) ?_ 2 _ rfl; refine blk_put (cs := #[.bool t1306, .string (⟨#[]⟩ : ByteArray), .string (⟨#[]⟩ : ByteArray), .string (⟨#[]⟩ : ByteArray), .int .i64 0, .int .i64 0, .string (⟨#[]⟩ : ByteArray), .string (⟨#[]⟩ : ByteArray), .int .i64 0]) ?_ 1 _ rfl; refine blk_put (cs := #[.bool false, .string (⟨#[]⟩ : ByteArray), .string (⟨#[]⟩ : ByteArray), .string (⟨#[]⟩ : ByteArray), .int .i64 0, .int .i64 0, .string (⟨#[]⟩ : ByteArray), .string (⟨#[]⟩ : ByteArray), .int .i64 0]) ?_ 0 _ rfl; exact BK1316.out) hb); replace HB := Aside0.mk (below_step hb_ hb); clear hb ho20; obtain ⟨Ao21, co21, eo21⟩ := Kd.R_slice HO1319.out; subst eo21) | ((with_reducible refine gate_callee (f := 52) rfl ?_); refine gL_ (some 24) Tryd.func52 #[.agg #[.bool t1306, .string t1307, .string t1308, .string t1309, .int .i64 t1310, .int .i64 t1311, .string t1312, .string t1313, .int .i64 t1314], .agg #[.string (⟨#[110]⟩ : ByteArray), .string (⟨#[49]⟩ : ByteArray), .bool false, .bool false, .slice Ao21 y1317.length co21]] ?_; (with_reducible refine (operand_In.calls k t1306 t1307 t1308 t1309 t1310 t1311 t1312 t1313 t1314 (⟨#[110]⟩ : ByteArray) (⟨#[49]⟩ : ByteArray) false false _ _ y1317 t1320 t1321 _ (TB.below HTB.out hb_) ?side1 ?side2 A15.out).mono ?_); (case side1 => repeat (first | exact (Kd.R_reads' HO1319.out).2.2 | (with_reducible refine Kd.C_alloc ?_ _) | (with_reducible refine Kd.C_drewN ?_ _) | (with_reducible refine Kd.C_drew ?_))); (case side2 => exact (Kd.R_reads' HO1319.out).2.1); rintro e w22 ⟨rfl, hb⟩; refine ⟨_, rfl, ?_⟩; replace HO1319 := Aside0.mk (Kd.R_below (by (with_reducible repeat (first | apply Kd.R_alloc | apply Kd.R_drewN | apply Kd.R_drew)); exact HO1319.out) hb); replace BK1304 := BK1304.bl hb; replace BK1316 := BK1316.bl hb; replace HB := Aside0.mk (below_step hb_ hb); have hcz23_0 : w22.cell? ⟨gb1316, 0, none⟩ = some (.bool t1306) := (blk_cell BK1316.out 0).trans rfl; have hcz23_1 : w22.cell? ⟨gb1316, 1, none⟩ = some (.string t1307) := (blk_cell BK1316.out 1).trans rfl; have hcz23_2 : w22.cell? ⟨gb1316, 2, none⟩ = some (.string t1308) := (blk_cell BK1316.out 2).trans rfl; have hcz23_3 : w22.cell? ⟨gb1316, 3, none⟩ = some (.string t1309) := (blk_cell BK1316.out 3).trans rfl; have hcz23_4 : w22.cell? ⟨gb1316, 4, none⟩ = some (.int .i64 t1310) := (blk_cell BK1316.out 4).trans rfl; have hcz23_5 : w22.cell? ⟨gb1316, 5, none⟩ = some (.int .i64 t1311) := (blk_cell BK1316.out 5).trans rfl; have hcz23_6 : w22.cell? ⟨gb1316, 6, none⟩ = some (.string t1312) := (blk_cell BK1316.out 6).trans rfl; have hcz23_7 : w22.cell? ⟨gb1316, 7, none⟩ = some (.string t1313) := (blk_cell BK1316.out 7).trans rfl; have hcz23_8 : w22.cell? ⟨gb1316, 8, none⟩ = some (.int .i64 t1314) := (blk_cell BK1316.out 8).trans rfl; have hfz23_0 := blk_frozen BK1316.out 0; have hfz23_1 := blk_frozen BK1316.out 1; have hfz23_2 := blk_frozen BK1316.out 2; have hfz23_3 := blk_frozen BK1316.out 3; have hfz23_4 := blk_frozen BK1316.out 4; have hfz23_5 := blk_frozen BK1316.out 5; have hfz23_6 := blk_frozen BK1316.out 6; have hfz23_7 := blk_frozen BK1316.out 7; have hfz23_8 := blk_frozen BK1316.out 8))
    go_ret
    exact ⟨by first | rfl | (simp [errW_none, errW_some] <;> rfl) | (simp [*, errW_none, errW_some] <;> rfl) | (simp [bne_nil_]; done), by repeat (first | (with_reducible first | exact HB.out | apply below_alloc | apply pw_below_drewN | apply below_drew1 | refine below_set ?_ GE1304.out | refine below_set ?_ GE1316.out) | exact HB.out)⟩
   ·rw [if_neg c16] at H
    have c16b0 : (t1321 == 0) = false := beq_eq_false_iff_ne.mpr c16
    have c16b1 : (t1321 != 0) = true := bne_iff_ne.mpr c16
    obtain rfl := Option.some.inj H
    have hnb24 := NB1316_1304.out
    have hnc24 := NB1304_1316.out
    have hcz25_0 : w11.cell? ⟨gb1316, 0, none⟩ = some (.bool false) := (blk_cell BK1316.out 0).trans rfl
    have hcz25_1 : w11.cell? ⟨gb1316, 1, none⟩ = some (.string (⟨#[]⟩ : ByteArray)) := (blk_cell BK1316.out 1).trans rfl
    have hcz25_2 : w11.cell? ⟨gb1316, 2, none⟩ = some (.string (⟨#[]⟩ : ByteArray)) := (blk_cell BK1316.out 2).trans rfl
    have hcz25_3 : w11.cell? ⟨gb1316, 3, none⟩ = some (.string (⟨#[]⟩ : ByteArray)) := (blk_cell BK1316.out 3).trans rfl
    have hcz25_4 : w11.cell? ⟨gb1316, 4, none⟩ = some (.int .i64 0) := (blk_cell BK1316.out 4).trans rfl
    have hcz25_5 : w11.cell? ⟨gb1316, 5, none⟩ = some (.int .i64 0) := (blk_cell BK1316.out 5).trans rfl
    have hcz25_6 : w11.cell? ⟨gb1316, 6, none⟩ = some (.string (⟨#[]⟩ : ByteArray)) := (blk_cell BK1316.out 6).trans rfl
    have hcz25_7 : w11.cell? ⟨gb1316, 7, none⟩ = some (.string (⟨#[]⟩ : ByteArray)) := (blk_cell BK1316.out 7).trans rfl
    have hcz25_8 : w11.cell? ⟨gb1316, 8, none⟩ = some (.int .i64 0) := (blk_cell BK1316.out 8).trans rfl
    have hfz25_0 := blk_frozen BK1316.out 0
    have hfz25_1 := blk_frozen BK1316.out 1
    have hfz25_2 := blk_frozen BK1316.out 2
    have hfz25_3 := blk_frozen BK1316.out 3
    have hfz25_4 := blk_frozen BK1316.out 4
    have hfz25_5 := blk_frozen BK1316.out 5
    have hfz25_6 := blk_frozen BK1316.out 6
    have hfz25_7 := blk_frozen BK1316.out 7
    have hfz25_8 := blk_frozen BK1316.out 8
    go_wp2_with (first | ((with_reducible refine gate_dst (N := 22) rfl ?_); refine Kd.R_lit k60 _ 60 ?hg (N := 22) ?hd (xs := ([(⟨(⟨#[48]⟩ : ByteArray), (⟨#[48]⟩ : ByteArray)⟩ : S60)] : List (S60))) (inner := [.string (⟨#[48]⟩ : ByteArray), .string (⟨#[48]⟩ : ByteArray)]) (ok := fun _ => True) (okp := fun _ => True) ?hr ?hp (fun _ hk => hk) trivial (Below.refl _ _) (Nat.le_refl _) (by simp) ?_; (case hd => rfl); (case hg => rfl); (case hr => first | (go_simp; done) | (go_simp; rfl)); (case hp => exact (Reps.c2 (show Kd.M k60 _ _ _ (⟨(⟨#[48]⟩ : ByteArray), (⟨#[48]⟩ : ByteArray)⟩ : S60) [.string (⟨#[48]⟩ : ByteArray), .string (⟨#[48]⟩ : ByteArray)] from (k60_mkM _ _ _ (⟨(⟨#[48]⟩ : ByteArray), (⟨#[48]⟩ : ByteArray)⟩ : S60) )) (Reps.none _ _))); intro v1318 w26 ho27 hb hg_ hnew_; clear hg_ hnew_; (first | rw [← Ny1317.out] at ho27 | (simp only [Int.reduceToNat] at ho27; rw [← Ny1317.out] at ho27)); have HO1319 := Aside0.mk (Kd.R_lower ho27 (below_size hb_)); replace BK1304 := Aside0.mk (blk_below (g := gb1304) (o := .cells #[.bool a0_0, .string a0_1, .string a0_2] 23 (0, 0)) (by refine blk_far ?_ NB1304_1316.out _; refine blk_far ?_ NB1304_1316.out _; refine blk_far ?_ NB1304_1316.out _; refine blk_far ?_ NB1304_1316.out _; refine blk_far ?_ NB1304_1316.out _; refine blk_far ?_ NB1304_1316.out _; refine blk_far ?_ NB1304_1316.out _; refine blk_far ?_ NB1304_1316.out _; refine blk_far ?_ NB1304_1316.out _; exact BK1304.out) hb); replace BK1316 := Aside0.mk (blk_below (g := gb1316) (o := .cells #[.bool t1306, .string t1307, .string t1308, .string t1309, .int .i64 t1310, .int .i64 t1311, .string t1312, .string t1313, .int .i64 t1314] 45 (0, 0)) (by refine blk_put (cs := #[.bool t1306, .string t1307, .string t1308, .string t1309, .int .i64 t1310, .int .i64 t1311, .string t1312, .string t1313, .int .i64 0]) ?_ 8 _ rfl; refine blk_put (cs := #[.bool t1306, .string t1307, .string t1308, .string t1309, .int .i64 t1310, .int .i64 t1311, .string t1312, .string (⟨#[]⟩ : ByteArray), .int .i64 0]) ?_ 7 _ rfl; refine blk_put (cs := #[.bool t1306, .string t1307, .string t1308, .string t1309, .int .i64 t1310, .int .i64 t1311, .string (⟨#[]⟩ : ByteArray), .string (⟨#[]⟩ : ByteArray), .int .i64 0]) ?_ 6 _ rfl; refine blk_put (cs := #[.bool t1306, .string t1307, .string t1308, .string t1309, .int .i64 t1310, .int .i64 0, .string (⟨#[]⟩ : ByteArray), .string (⟨#[]⟩ : ByteArray), .int .i64 0]) ?_ 5 _ rfl; refine blk_put (cs := #[.bool t1306, .string t1307, .string t1308, .string t1309, .int .i64 0, .int .i64 0, .string (⟨#[]⟩ : ByteArray), .string (⟨#[]⟩ : ByteArray), .int .i64 0]) ?_ 4 _ rfl; refine blk_put (cs := #[.bool t1306, .string t1307, .string t1308, .string (⟨#[]⟩ : ByteArray), .int .i64 0, .int .i64 0, .string (⟨#[]⟩ : ByteArray), .string (⟨#[]⟩ : ByteArray), .int .i64 0]) ?_ 3 _ rfl; refine blk_put (cs := #[.bool t1306, .string t1307, .string (⟨#[]⟩ : ByteArray), .string (⟨#[]⟩ : ByteArray), .int .i64 0, .int .i64 0, .string (⟨#[]⟩ : ByteArray), .string (⟨#[]⟩ : ByteArray), .int .i64 0]) ?_ 2 _ rfl; refine blk_put (cs := #[.bool t1306, .string (⟨#[]⟩ : ByteArray), .string (⟨#[]⟩ : ByteArray), .string (⟨#[]⟩ : ByteArray), .int .i64 0, .int .i64 0, .string (⟨#[]⟩ : ByteArray), .string (⟨#[]⟩ : ByteArray), .int .i64 0]) ?_ 1 _ rfl; refine blk_put (cs := #[.bool false, .string (⟨#[]⟩ : ByteArray), .string (⟨#[]⟩ : ByteArray), .string (⟨#[]⟩ : ByteArray), .int .i64 0, .int .i64 0, .string (⟨#[]⟩ : ByteArray), .string (⟨#[]⟩ : ByteArray), .int .i64 0]) ?_ 0 _ rfl; exact BK1316.out) hb); replace HB := Aside0.mk (below_step hb_ hb); clear hb ho27; obtain ⟨Ao28, co28, eo28⟩ := Kd.R_slice HO1319.out; subst eo28) | ((with_reducible refine gate_callee (f := 52) rfl ?_); refine gL_ (some 24) Tryd.func52 #[.agg #[.bool t1306, .string t1307, .string t1308, .string t1309, .int .i64 t1310, .int .i64 t1311, .string t1312, .string t1313, .int .i64 t1314], .agg #[.string (⟨#[110]⟩ : ByteArray), .string (⟨#[49]⟩ : ByteArray), .bool false, .bool false, .slice Ao28 y1317.length co28]] ?_; (with_reducible refine (operand_In.calls k t1306 t1307 t1308 t1309 t1310 t1311 t1312 t1313 t1314 (⟨#[110]⟩ : ByteArray) (⟨#[49]⟩ : ByteArray) false false _ _ y1317 t1320 t1321 _ (TB.below HTB.out hb_) ?side1 ?side2 A15.out).mono ?_); (case side1 => repeat (first | exact (Kd.R_reads' HO1319.out).2.2 | (with_reducible refine Kd.C_alloc ?_ _) | (with_reducible refine Kd.C_drewN ?_ _) | (with_reducible refine Kd.C_drew ?_))); (case side2 => exact (Kd.R_reads' HO1319.out).2.1); rintro e w29 ⟨rfl, hb⟩; refine ⟨_, rfl, ?_⟩; replace HO1319 := Aside0.mk (Kd.R_below (by (with_reducible repeat (first | apply Kd.R_alloc | apply Kd.R_drewN | apply Kd.R_drew)); exact HO1319.out) hb); replace BK1304 := BK1304.bl hb; replace BK1316 := BK1316.bl hb; replace HB := Aside0.mk (below_step hb_ hb)))
    go_ret
    exact ⟨by first | rfl | (simp [errW_none, errW_some] <;> rfl) | (simp [*, errW_none, errW_some] <;> rfl) | (simp [bne_nil_]; done), by repeat (first | (with_reducible first | exact HB.out | apply below_alloc | apply pw_below_drewN | apply below_drew1 | refine below_set ?_ GE1304.out | refine below_set ?_ GE1316.out) | exact HB.out)⟩
  ·rw [if_neg c14] at H
   have c14b0 : (t1315 == 0) = false := beq_eq_false_iff_ne.mpr c14
   have c14b1 : (t1315 != 0) = true := bne_iff_ne.mpr c14
   (first | rw [c14b0] | (simp only [i64_w, i32_w]; rw [c14b0]) | rw [c14b1] | skip)
   replace H := Option.bind_eq_some_iff.mp H
   obtain ⟨t1322, A300, H⟩ := H
   try dsimp only at H
   have A30 := Aside0.mk A300
   clear A300
   obtain rfl := Option.some.inj H
   have hnb31 := NB1304_1316.out
   have hnc31 := NB1316_1304.out
   obtain ⟨hcz32_0, hcz32_1, hcz32_2, hfz32_0, hfz32_1, hfz32_2⟩ := BK1304.c3
   go_wp2_with (first | ((with_reducible refine gate_callee (f := 19) rfl ?_); refine gL_ (some 16) Tryd.func19 #[.agg #[.bool a0_0, .string a0_1, .string a0_2]] ?_; (with_reducible refine (decimal_Check.calls k a0_0 a0_1 a0_2 t1322 _ A30.out).mono ?_); rintro e w33 ⟨rfl, hb⟩; refine ⟨_, rfl, ?_⟩; replace BK1304 := Aside0.mk (blk_below (g := gb1304) (o := .cells #[.bool a0_0, .string a0_1, .string a0_2] 23 (0, 0)) (by refine blk_far ?_ NB1304_1316.out _; refine blk_far ?_ NB1304_1316.out _; refine blk_far ?_ NB1304_1316.out _; refine blk_far ?_ NB1304_1316.out _; refine blk_far ?_ NB1304_1316.out _; refine blk_far ?_ NB1304_1316.out _; refine blk_far ?_ NB1304_1316.out _; refine blk_far ?_ NB1304_1316.out _; refine blk_far ?_ NB1304_1316.out _; exact BK1304.out) hb); replace BK1316 := Aside0.mk (blk_below (g := gb1316) (o := .cells #[.bool t1306, .string t1307, .string t1308, .string t1309, .int .i64 t1310, .int .i64 t1311, .string t1312, .string t1313, .int .i64 t1314] 45 (0, 0)) (by refine blk_put (cs := #[.bool t1306, .string t1307, .string t1308, .string t1309, .int .i64 t1310, .int .i64 t1311, .string t1312, .string t1313, .int .i64 0]) ?_ 8 _ rfl; refine blk_put (cs := #[.bool t1306, .string t1307, .string t1308, .string t1309, .int .i64 t1310, .int .i64 t1311, .string t1312, .string (⟨#[]⟩ : ByteArray), .int .i64 0]) ?_ 7 _ rfl; refine blk_put (cs := #[.bool t1306, .string t1307, .string t1308, .string t1309, .int .i64 t1310, .int .i64 t1311, .string (⟨#[]⟩ : ByteArray), .string (⟨#[]⟩ : ByteArray), .int .i64 0]) ?_ 6 _ rfl; refine blk_put (cs := #[.bool t1306, .string t1307, .string t1308, .string t1309, .int .i64 t1310, .int .i64 0, .string (⟨#[]⟩ : ByteArray), .string (⟨#[]⟩ : ByteArray), .int .i64 0]) ?_ 5 _ rfl; refine blk_put (cs := #[.bool t1306, .string t1307, .string t1308, .string t1309, .int .i64 0, .int .i64 0, .string (⟨#[]⟩ : ByteArray), .string (⟨#[]⟩ : ByteArray), .int .i64 0]) ?_ 4 _ rfl; refine blk_put (cs := #[.bool t1306, .string t1307, .string t1308, .string (⟨#[]⟩ : ByteArray), .int .i64 0, .int .i64 0, .string (⟨#[]⟩ : ByteArray), .string (⟨#[]⟩ : ByteArray), .int .i64 0]) ?_ 3 _ rfl; refine blk_put (cs := #[.bool t1306, .string t1307, .string (⟨#[]⟩ : ByteArray), .string (⟨#[]⟩ : ByteArray), .int .i64 0, .int .i64 0, .string (⟨#[]⟩ : ByteArray), .string (⟨#[]⟩ : ByteArray), .int .i64 0]) ?_ 2 _ rfl; refine blk_put (cs := #[.bool t1306, .string (⟨#[]⟩ : ByteArray), .string (⟨#[]⟩ : ByteArray), .string (⟨#[]⟩ : ByteArray), .int .i64 0, .int .i64 0, .string (⟨#[]⟩ : ByteArray), .string (⟨#[]⟩ : ByteArray), .int .i64 0]) ?_ 1 _ rfl; refine blk_put (cs := #[.bool false, .string (⟨#[]⟩ : ByteArray), .string (⟨#[]⟩ : ByteArray), .string (⟨#[]⟩ : ByteArray), .int .i64 0, .int .i64 0, .string (⟨#[]⟩ : ByteArray), .string (⟨#[]⟩ : ByteArray), .int .i64 0]) ?_ 0 _ rfl; exact BK1316.out) hb); replace HB := Aside0.mk (below_step hb_ hb)))
   go_ret
   exact ⟨by first | rfl | (simp [errW_none, errW_some] <;> rfl) | (simp [*, errW_none, errW_some] <;> rfl) | (simp [bne_nil_]; done), by repeat (first | (with_reducible first | exact HB.out | apply below_alloc | apply pw_below_drewN | apply below_drew1 | refine below_set ?_ GE1304.out | refine below_set ?_ GE1316.out) | exact HB.out)⟩
 ·replace c6 := Bool.eq_false_iff.mpr c6
  subst c6
  have H1 : (some false) = some r := by rw [if_neg (show ¬ (false = true) by decide)] at H; exact H
  clear H
  have H := H1
  clear H1
  obtain rfl := Option.some.inj H
  go_wp2
  go_ret
  exact ⟨by first | rfl | (simp [errW_none, errW_some] <;> rfl) | (simp [*, errW_none, errW_some] <;> rfl) | (simp [bne_nil_]; done), by repeat (first | (with_reducible first | exact HB.out | apply below_alloc | apply pw_below_drewN | apply below_drew1 | refine below_set ?_ GE1304.out) | exact HB.out)⟩
end Go.Proofs.YtihjcaglhjepdaaDoor.P
