/- A part of the proof. Part 6 of 8; its texts were written by programs, some out of the kit's print. -/
import Derived.Test.YtihjcaglhjepdaaDoorZOq4
namespace Go.Proofs.YtihjcaglhjepdaaDoor.P
open Go.RowKit Go.Proofs.YtihjcaglhjepdaaDoorW.PrintWords Go.Proofs.YtihjcaglhjepdaaDoorW.PrintLast Go.Proofs.YtihjcaglhjepdaaDoorW.PrintMore
attribute [local go_sem] max2_int max_two
set_option linter.unusedVariables false
set_option linter.unusedSimpArgs false
set_option maxHeartbeats 8000000 in
set_option maxRecDepth 100000 in
theorem idiomlaw04_OperandLists.calls_r5 : idiomlaw04_OperandLists.calls_r4_s.1 := by
  intro k a0_0 a0_1 a0_2 a0_3 a0_4 a0_5 a0_6 a0_7 a0_8 a1_0 a1_1 a1_2 a1_3 A1_4 c1_4 l1_4 r w hu45 hu54 hu23 hu60 HR1_4 HC1_4 HTB z3_1 gb1226 w5 GW1226 GE1226 gb1227 w6 GW1227 GE1227 NB1226_1227 LB1226_1227 NB1227_1226 w7 z3_2 A3 t1229 t1230 t1231 t1232 t1233 A9 t1236 t1237 t1238 t1239 t1240 A10 t1243 t1244 t1245 t1246 t1247 A11 t1253 t1254 t1255 t1256 t1257 A12 t1260 t1261 A13 t1262 t1263 A14 t1264 t1265 A15 z3_3 z3_4 z3_5 w17 z3_6 gb1250 gb1251 gb1252 w24 z3_7 GW1250 GE1250 LB1226_1250 NB1250_1226 LB1227_1250 NB1250_1227 NB1251_1250 NB1250_1251 NB1252_1250 NB1250_1252 GW1251 GE1251 LB1226_1251 NB1251_1226 LB1227_1251 NB1251_1227 NB1252_1251 NB1251_1252 GW1252 GE1252 LB1226_1252 NB1252_1226 LB1227_1252 NB1252_1227 NB1226_1250 NB1227_1250 NB1226_1251 NB1227_1251 NB1226_1252 NB1227_1252 Ao29 co29 Ao35 co35 Ao41 co41 z3_8 z3_9 z3_10 w43 hnb44 hnc44 hnb45 hnc45 hnb46 hnc46 hnb47 hnc47 hnb49 hnc49 hnb50 hnc50 hnb51 hnc51 hnb53 hnc53 hnb54 hnc54 w56 HT_ HW_ w57 z3_11 w58 Ao59 co59 z3_12 w60 hHeld hnb61 hnc61 w64 z3_13 w67 z5_1 HO1235 HO1242 HO1249 HO1259 z4_1 z4_2 z4_3 z4_4 z4_5 z4_6 z4_7 z4_8 z4_9 z4_10 z4_11 z4_12 z4_13 z4_14 z4_15 z4_16 z4_17 z4_18 z4_19 z4_20 z4_21 z4_22 z4_23 z4_24 z4_25 z4_26 z4_27 z4_28 z4_29 z4_30 z4_31 z4_32 z4_33 z4_34 z4_35 z4_36 z4_37 z4_38 z4_39 z4_40 z4_41 z4_42 z4_43 z4_44 z4_45 z4_46 z4_47 z4_48 z4_49 z4_50 z4_51 z4_52 z4_53 z4_54 z4_55 z4_56 z4_57 z4_58 z4_59 z4_60 z4_61 z4_62 z4_63 z4_64 z4_65 z4_66 z4_67 z4_68 z4_69 z4_70 z4_71 z4_72 z4_73 z4_74 z4_75 z4_76 z4_77 z4_78 z4_79 z4_80 z4_81 z4_82 z4_83 z4_84 z4_85 z4_86 z4_87 z4_88 z4_89 z4_90 z4_91 z4_92 z4_93 z4_94 z4_95 z4_96 z4_97 z4_98 z4_99 z4_100 z4_101 z4_102 z4_103 z4_104 z4_105 z4_106 z4_107 z4_108 z4_109 z4_110 z4_111 z4_112 z4_113 z4_114 z4_115 z4_116 z4_117 z4_118 z4_119 z4_120 z4_121 z4_122 z4_123 z4_124 z4_125 z4_126 z4_127 z4_128 z4_129 z4_130 z4_131 z4_132 z4_133 z4_134 z4_135 z4_136 z4_137 z4_138 z4_139 z4_140 z4_141 z4_142 z4_143 z4_144 z4_145 z4_146 z4_147 z4_148 z4_149 z4_150 z4_151 z4_152 z4_153 z4_154 z4_155 z4_156 z4_157 z4_158 z4_159 z4_160 z4_161 z5_2 z5_3 z5_4 z5_5 z5_6 z5_7 z5_8 z5_9 z5_10 kj15 HJ15 z5_11 z5_12 z5_13 z5_14 z5_15 z5_16 z5_17 z5_18 z5_19 z5_20 z5_21 z5_22 z5_23 z5_24 z5_25 z5_26 z5_27 z5_28 z5_29 z5_30 z5_31 z5_32 z5_33 z5_34 z5_35 z5_36 z5_37 z5_38 z5_39 z5_40 z5_41 z5_42 z5_43 z5_44 z5_45 z5_46 z5_47 z5_48 z5_49 z5_50 z5_51 z5_52 z5_53 z5_54 z5_55 z5_56 z5_57 z5_58 z5_59 z5_60 z5_61 z5_62 z5_63 z5_64 z5_65 z5_66 z5_67 z5_68 z5_69 z5_70 z5_71 z5_72 z5_73 z5_74 z5_75 z5_76 z5_77 z5_78 z5_79 z5_80 z5_81 z5_82 z5_83 z5_84 z5_85 z5_86 z5_87 z5_88 z5_89 z5_90 z5_91 z5_92 z5_93 z5_94 z5_95 z5_96 z5_97 z5_98 z5_99 z5_100 z5_101 z5_102 z5_103 z5_104 z5_105 z5_106 z5_107 z5_108 z5_109 z5_110 z5_111 z5_112 z5_113 z5_114 z5_115 z5_116 z5_117 z5_118 z5_119 z5_120 z5_121 z5_122 z5_123 z5_124 z5_125 z5_126 z5_127 z5_128 z5_129 z5_130 z5_131 z5_132 z5_133 z5_134 z5_135 z5_136 z5_137 z5_138 z5_139 z5_140 z5_141 z5_142 z5_143 z5_144 z5_145 z5_146 z5_147 z5_148 z5_149 z5_150 z5_151 z5_152 z5_153 z5_154 z5_155 z5_156 z5_157 z5_158 z5_159 z5_160 z5_161 z5_162 z5_163 z5_164 z5_165 kj70 HJ70 t1266 t1267 t1268 t1269 A75 t1271 t1272 t1273 t1274 A76 hnb78 hnc78 hnb79 hnc79 hnb80 hnc80 hnb81 hnc81 hnb83 hnc83 hnb84 hnc84 hnb85 hnc85 w87 z5_166 gb1270 w88 GW1270 GE1270 NB1226_1270 LB1226_1270 NB1270_1226 NB1227_1270 LB1227_1270 NB1270_1227 NB1250_1270 LB1250_1270 NB1270_1250 NB1251_1270 LB1251_1270 NB1270_1251 NB1252_1270 LB1252_1270 NB1270_1252 hnb89 hnc89 hnb90 hnc90 hnb91 hnc91 hnb92 hnc92 hnb93 hnc93 w95 hb gb1275 w96 BK1275 GW1275 GE1275 NB1226_1275 LB1226_1275 NB1275_1226 NB1227_1275 LB1227_1275 NB1275_1227 NB1250_1275 LB1250_1275 NB1275_1250 NB1251_1275 LB1251_1275 NB1275_1251 NB1252_1275 LB1252_1275 NB1275_1252 NB1270_1275 LB1270_1275 NB1275_1270 HO_1251004 HO_1252004 HO_1253004 BK1226 BK1227 BK1250 BK1251 BK1252 BK1270 HB hnb97 hnc97 hnb98 hnc98 hnb99 hnc99 hnb100 hnc100 hnb101 hnc101 hnb102 hnc102 z5_167 z5_168 z5_169 z5_170 wc u25 u26 u27 u28 u29 u30 u31 u32 u33 u34 u35 u36 u37 u38 u39 u40 u41 u42 u43 u44 u45 u46 u47 u48 u49 u50 u51 u52 u53 u54 u55 u56 u57 u58 u59 u60 u61 u62 u63 u64 u65 u66 u67 u68 u69 u70 u71 u72 u73 u74 u75 u76 u77 u78 u79 u80 u81 u82 u83 u84 u85 u86 u87 u88 u89 u90 u91 u92 u93 u94 u95 u96 u97 u98 u99 u100 u101 u102 u103 u104 u105 u106 u107 u108 u109 u110 u111 u112 u113 u114 u115 u116 u117 u118 u119 u120 u121 u122 u123 u124 u125 u126 u127 u128 u129 u130 u131 u132 u133 u134 u135 u136 u137 u138 u139 u140 u141 u142 u143 u144 u145 u146 u147 u148 u149 u150 u151 u152 u153 u154 u155 u156 u157 u158 u159 u160 u161 u162 u163 u164 u165 u166 u167 u168 u169 u170 u171 u172 u173 u174 u175 u176 u177 u178 u179 hcut
  obtain ⟨kq, x117_76, rfl, HA, HJ76, HO_1251004, HO_1252004, HO_1253004, BK1226, BK1227, BK1250, BK1251, BK1252, BK1270, BK1275, HB⟩ := hcut
  cases kq with
  | zero => exact absurd HA.out (by simp [idiomlaw04_OperandLists.j2])
  | succ kj76 =>
   have H := HA.out
   clear HA
   simp only [idiomlaw04_OperandLists.j2] at H
   by_cases c114 : x117_76 = true
   ·subst c114
    have H1 : (some false) = some r := by rw [if_pos rfl] at H; exact H
    clear H
    have H := H1
    clear H1
    obtain rfl := Option.some.inj H
    go_wp2
    go_ret
    exact fin_
   ·replace c114 := Bool.eq_false_iff.mpr c114
    subst c114
    have H1 : ((idiomlaw04_copied.f t1229 t1230 false false t1233).bind fun bt1276 => (idiomlaw04_OperandLists.l0 kj76 t1260 false 0 a0_0 a0_1 a0_2 a0_3 a0_4 a0_5 a0_6 a0_7 a0_8 a1_0 a1_1 a1_2 a1_3 l1_4 t1229 t1230 false false t1233 bt1276.1 bt1276.2.1 bt1276.2.2.1 bt1276.2.2.2.1 bt1276.2.2.2.2)) = some r := by rw [if_neg (show ¬ (false = true) by decide)] at H; exact H
    clear H
    have H := H1
    clear H1
    replace H := Option.bind_eq_some_iff.mp H
    obtain ⟨⟨t1276, t1277, t1278, t1279, t1280⟩, A1150, H⟩ := H
    try dsimp only at H
    have A115 := Aside0.mk A1150
    clear A1150
    have H' := Aside0.mk H
    clear H
    have hnb116 := LB1226_1250.out
    have hnc116 := LB1226_1250.out
    have hnb117 := LB1227_1250.out
    have hnc117 := LB1227_1250.out
    have hnb118 := NB1250_1251.out
    have hnc118 := NB1251_1250.out
    have hnb119 := NB1250_1252.out
    have hnc119 := NB1252_1250.out
    have hnb120 := LB1250_1270.out
    have hnc120 := LB1250_1270.out
    have hnb121 := LB1250_1275.out
    have hnc121 := LB1250_1275.out
    have hcz122_0 : wc.cell? ⟨gb1250, 0, none⟩ = some (.string t1229) := (blk_cell BK1250.out 0).trans rfl
    have hcz122_1 : wc.cell? ⟨gb1250, 1, none⟩ = some (.string t1230) := (blk_cell BK1250.out 1).trans rfl
    have hcz122_2 : wc.cell? ⟨gb1250, 2, none⟩ = some (.bool false) := (blk_cell BK1250.out 2).trans rfl
    have hcz122_3 : wc.cell? ⟨gb1250, 3, none⟩ = some (.bool false) := (blk_cell BK1250.out 3).trans rfl
    have hcz122_4 : wc.cell? ⟨gb1250, 4, none⟩ = some (.slice Ao29 t1233.length co29) := (blk_cell BK1250.out 4).trans rfl
    have hfz122_0 := blk_frozen BK1250.out 0
    have hfz122_1 := blk_frozen BK1250.out 1
    have hfz122_2 := blk_frozen BK1250.out 2
    have hfz122_3 := blk_frozen BK1250.out 3
    have hfz122_4 := blk_frozen BK1250.out 4
    go_wp2_with (first | ((with_reducible refine gate_callee (f := 51) rfl ?_); refine gL_ (some 119) Tryd.func51 #[.agg #[.string t1229, .string t1230, .bool false, .bool false, .slice Ao29 t1233.length co29]] ?_; (with_reducible refine (idiomlaw04_copied.calls t1229 t1230 false false _ _ t1233 t1276 t1277 t1278 t1279 t1280 _ ?side1 ?side2 A115.out).mono ?_); (case side1 => repeat (first | exact (Kd.R_reads' HO_1251004.out).2.2 | (with_reducible refine Kd.C_alloc ?_ _) | (with_reducible refine Kd.C_drewN ?_ _) | (with_reducible refine Kd.C_drew ?_))); (case side2 => exact (Kd.R_reads' HO_1251004.out).2.1); rintro e w123 ⟨v1281, rfl, ho0, hb⟩; refine ⟨_, rfl, ?_⟩; have HO1282 := Aside0.mk (Kd.R_lower (Kd.R_new' (Kd.R_new' (Kd.R_new' ho0 (Kd.R_lt HO_1251004.out)) (Kd.R_lt HO_1252004.out)) (Kd.R_lt HO_1253004.out)) (below_size hb_)); replace HO_1251004 := Aside0.mk (Kd.R_elder' HO_1251004.out (Kd.R_base ho0) hb); replace HO_1252004 := Aside0.mk (Kd.R_elder' HO_1252004.out (Kd.R_base ho0) hb); replace HO_1253004 := Aside0.mk (Kd.R_elder' HO_1253004.out (Kd.R_base ho0) hb); replace BK1226 := BK1226.bl hb; replace BK1227 := BK1227.bl hb; replace BK1250 := BK1250.bl hb; replace BK1251 := BK1251.bl hb; replace BK1252 := BK1252.bl hb; replace BK1270 := BK1270.bl hb; replace BK1275 := BK1275.bl hb; replace HB := Aside0.mk (below_step hb_ hb); (try clear ho0)) | ((with_reducible refine gate_dst (N := 19) rfl ?_); refine bx_ #[.string (⟨#[]⟩ : ByteArray), .string (⟨#[]⟩ : ByteArray), .bool false, .bool false, .slice none 0 0] 54 ?_; intro gb1283 hg w124 hbox hb; have BK1283 := Aside0.mk (hbox); have GW1283 := Aside0.mk ((by rw [hg]; exact (below_size hb_) : w.heap.size ≤ gb1283)); have GE1283 := Aside0.mk ((by rw [hg]; exact (below_size hb_) : w.heap.size ≤ gb1283)); have NB1226_1283 := BK1226.nl hg; have LB1226_1283 := lt_ BK1226 hg; have NB1283_1226 := BK1226.ng hg; have NB1227_1283 := BK1227.nl hg; have LB1227_1283 := lt_ BK1227 hg; have NB1283_1227 := BK1227.ng hg; have NB1250_1283 := BK1250.nl hg; have LB1250_1283 := lt_ BK1250 hg; have NB1283_1250 := BK1250.ng hg; have NB1251_1283 := BK1251.nl hg; have LB1251_1283 := lt_ BK1251 hg; have NB1283_1251 := BK1251.ng hg; have NB1252_1283 := BK1252.nl hg; have LB1252_1283 := lt_ BK1252 hg; have NB1283_1252 := BK1252.ng hg; have NB1270_1283 := BK1270.nl hg; have LB1270_1283 := lt_ BK1270 hg; have NB1283_1270 := BK1270.ng hg; have NB1275_1283 := BK1275.nl hg; have LB1275_1283 := lt_ BK1275 hg; have NB1283_1275 := BK1275.ng hg; replace HO_1251004 := bw_ HO_1251004 hb; replace HO_1252004 := bw_ HO_1252004 hb; replace HO_1253004 := bw_ HO_1253004 hb; replace HO1282 := bw_ HO1282 hb; replace BK1226 := BK1226.bl hb; replace BK1227 := BK1227.bl hb; replace BK1250 := BK1250.bl hb; replace BK1251 := BK1251.bl hb; replace BK1252 := BK1252.bl hb; replace BK1270 := BK1270.bl hb; replace BK1275 := BK1275.bl hb; replace HB := Aside0.mk (below_step hb_ hb); clear hb hbox hg; have hnb125 := LB1226_1283.out; have hnc125 := LB1226_1283.out; have hnb126 := LB1227_1283.out; have hnc126 := LB1227_1283.out; have hnb127 := LB1250_1283.out; have hnc127 := LB1250_1283.out; have hnb128 := LB1251_1283.out; have hnc128 := LB1251_1283.out; have hnb129 := LB1252_1283.out; have hnc129 := LB1252_1283.out; have hnb130 := LB1270_1283.out; have hnc130 := LB1270_1283.out; have hnb131 := LB1275_1283.out; have hnc131 := LB1275_1283.out; have hcz132_0 : w124.cell? ⟨gb1283, 0, none⟩ = some (.string (⟨#[]⟩ : ByteArray)) := (blk_cell BK1283.out 0).trans rfl; have hcz132_1 : w124.cell? ⟨gb1283, 1, none⟩ = some (.string (⟨#[]⟩ : ByteArray)) := (blk_cell BK1283.out 1).trans rfl; have hcz132_2 : w124.cell? ⟨gb1283, 2, none⟩ = some (.bool false) := (blk_cell BK1283.out 2).trans rfl; have hcz132_3 : w124.cell? ⟨gb1283, 3, none⟩ = some (.bool false) := (blk_cell BK1283.out 3).trans rfl; have hcz132_4 : w124.cell? ⟨gb1283, 4, none⟩ = some (.slice none 0 0) := (blk_cell BK1283.out 4).trans rfl; have hfz132_0 := blk_frozen BK1283.out 0; have hfz132_1 := blk_frozen BK1283.out 1; have hfz132_2 := blk_frozen BK1283.out 2; have hfz132_3 := blk_frozen BK1283.out 3; have hfz132_4 := blk_frozen BK1283.out 4; obtain ⟨Ao133, co133, eo133⟩ := Kd.R_slice HO1282.out; subst eo133))
    go_loopg [18, 20] kj76 (fun kq v18 v20 w' => ∃ (x18_4 : Bool) (x20_4 : Int) (x1251004_4 : List (S60)) (x1252004_4 : List (S60)) (x1253004_4 : List (S60)) (x1284004_4 : List (S60)) (u1251004 : Value) (u1252004 : Value) (u1253004 : Value) (u1284004 : Value), v18 = .bool x18_4 ∧ v20 = .int .i64 x20_4 ∧ Aside0 (idiomlaw04_OperandLists.l0 kq t1260 x18_4 x20_4 a0_0 a0_1 a0_2 a0_3 a0_4 a0_5 a0_6 a0_7 a0_8 a1_0 a1_1 a1_2 a1_3 l1_4 t1229 t1230 false false x1251004_4 t1276 t1277 t1278 t1279 x1284004_4 = some r) ∧ Aside0 (kq ≤ kj76) ∧ Aside0 (Kd.R k60 60 w' w.heap.size (fun k_ => some k_ ≠ (u1252004 : Value).ownBlock ∧ some k_ ≠ (u1253004 : Value).ownBlock ∧ some k_ ≠ (u1284004 : Value).ownBlock) u1251004 x1251004_4) ∧ Aside0 (Kd.R k60 60 w' w.heap.size (fun k_ => some k_ ≠ (u1251004 : Value).ownBlock ∧ some k_ ≠ (u1253004 : Value).ownBlock ∧ some k_ ≠ (u1284004 : Value).ownBlock) u1252004 x1252004_4) ∧ Aside0 (Kd.R k60 60 w' w.heap.size (fun k_ => some k_ ≠ (u1251004 : Value).ownBlock ∧ some k_ ≠ (u1252004 : Value).ownBlock ∧ some k_ ≠ (u1284004 : Value).ownBlock) u1253004 x1253004_4) ∧ Aside0 (Kd.R k60 60 w' w.heap.size (fun k_ => some k_ ≠ (u1251004 : Value).ownBlock ∧ some k_ ≠ (u1252004 : Value).ownBlock ∧ some k_ ≠ (u1253004 : Value).ownBlock) u1284004 x1284004_4) ∧ Aside0 (w'.heap[gb1226]? = some (.cells #[.bool a0_0, .string a0_1, .string a0_2, .string a0_3, .int .i64 a0_4, .int .i64 a0_5, .string a0_6, .string a0_7, .int .i64 a0_8] 45 (0, 0))) ∧ Aside0 (w'.heap[gb1227]? = some (.cells #[.string a1_0, .string a1_1, .bool a1_2, .bool a1_3, (.slice A1_4 l1_4.length c1_4)] 54 (0, 0))) ∧ Aside0 (w'.heap[gb1250]? = some (.cells #[.string t1229, .string t1230, .bool false, .bool false, u1251004] 54 (0, 0))) ∧ Aside0 (w'.heap[gb1251]? = some (.cells #[.string t1236, .string t1237, .bool true, .bool false, u1252004] 54 (0, 0))) ∧ Aside0 (w'.heap[gb1252]? = some (.cells #[.string t1243, .string t1244, .bool false, .bool true, u1253004] 54 (0, 0))) ∧ Aside0 (w'.heap[gb1270]? = some (.cells #[.bool t1266, .string t1267, .string t1268] 23 (0, 0))) ∧ Aside0 (w'.heap[gb1275]? = some (.cells #[.bool t1271, .string t1272, .string t1273] 23 (0, 0))) ∧ Aside0 (w'.heap[gb1283]? = some (.cells #[.string t1276, .string t1277, .bool t1278, .bool t1279, u1284004] 54 (0, 0))) ∧ Aside0 (Below w.heap.size w w'))
    case atStart => exact ⟨(false), (0), (t1233), (t1240), (t1247), (t1280), (.slice Ao29 t1233.length co29), (.slice Ao35 t1240.length co35), (.slice Ao41 t1247.length co41), (.slice Ao133 t1280.length co133), (by first | rfl | (simp; done) | (simp [*]; done)), (by first | rfl | (simp; done) | (simp [*]; done)), H', ⟨Nat.le_refl _⟩, ⟨by (with_reducible repeat (first | apply Kd.R_alloc | apply Kd.R_drewN | apply Kd.R_drew)); exact Kd.R_mono (Kd.R_far (p := ⟨gb1283, 4, none⟩) (Kd.R_far (p := ⟨gb1283, 3, none⟩) (Kd.R_far (p := ⟨gb1283, 2, none⟩) (Kd.R_far (p := ⟨gb1283, 1, none⟩) (Kd.R_far (p := ⟨gb1283, 0, none⟩) (Kd.R_types HO_1251004.out BK1283.out (by decide)) (fun _ hk => hk.2) (.string t1276)) (fun _ hk => hk.2) (.string t1277)) (fun _ hk => hk.2) (.bool t1278)) (fun _ hk => hk.2) (.bool t1279)) (fun _ hk => hk.2) (.slice Ao133 t1280.length co133)) (fun _ hk => ⟨hk.1.1.1, ⟨hk.1.1.2, hk.1.2⟩⟩)⟩, ⟨by (with_reducible repeat (first | apply Kd.R_alloc | apply Kd.R_drewN | apply Kd.R_drew)); exact Kd.R_mono (Kd.R_far (p := ⟨gb1283, 4, none⟩) (Kd.R_far (p := ⟨gb1283, 3, none⟩) (Kd.R_far (p := ⟨gb1283, 2, none⟩) (Kd.R_far (p := ⟨gb1283, 1, none⟩) (Kd.R_far (p := ⟨gb1283, 0, none⟩) (Kd.R_types HO_1252004.out BK1283.out (by decide)) (fun _ hk => hk.2) (.string t1276)) (fun _ hk => hk.2) (.string t1277)) (fun _ hk => hk.2) (.bool t1278)) (fun _ hk => hk.2) (.bool t1279)) (fun _ hk => hk.2) (.slice Ao133 t1280.length co133)) (fun _ hk => ⟨hk.1.1.1, ⟨hk.1.1.2, hk.1.2⟩⟩)⟩, ⟨by (with_reducible repeat (first | apply Kd.R_alloc | apply Kd.R_drewN | apply Kd.R_drew)); exact Kd.R_mono (Kd.R_far (p := ⟨gb1283, 4, none⟩) (Kd.R_far (p := ⟨gb1283, 3, none⟩) (Kd.R_far (p := ⟨gb1283, 2, none⟩) (Kd.R_far (p := ⟨gb1283, 1, none⟩) (Kd.R_far (p := ⟨gb1283, 0, none⟩) (Kd.R_types HO_1253004.out BK1283.out (by decide)) (fun _ hk => hk.2) (.string t1276)) (fun _ hk => hk.2) (.string t1277)) (fun _ hk => hk.2) (.bool t1278)) (fun _ hk => hk.2) (.bool t1279)) (fun _ hk => hk.2) (.slice Ao133 t1280.length co133)) (fun _ hk => ⟨hk.1.1.1, ⟨hk.1.1.2, hk.1.2⟩⟩)⟩, ⟨by (with_reducible repeat (first | apply Kd.R_alloc | apply Kd.R_drewN | apply Kd.R_drew)); exact Kd.R_mono (Kd.R_far (p := ⟨gb1283, 4, none⟩) (Kd.R_far (p := ⟨gb1283, 3, none⟩) (Kd.R_far (p := ⟨gb1283, 2, none⟩) (Kd.R_far (p := ⟨gb1283, 1, none⟩) (Kd.R_far (p := ⟨gb1283, 0, none⟩) (Kd.R_types HO1282.out BK1283.out (by decide)) (fun _ hk => hk.2) (.string t1276)) (fun _ hk => hk.2) (.string t1277)) (fun _ hk => hk.2) (.bool t1278)) (fun _ hk => hk.2) (.bool t1279)) (fun _ hk => hk.2) (.slice Ao133 t1280.length co133)) (fun _ hk => ⟨hk.1.1.1.2, ⟨hk.1.1.2, hk.1.2⟩⟩)⟩, ⟨by refine blk_far ?_ NB1226_1283.out _; refine blk_far ?_ NB1226_1283.out _; refine blk_far ?_ NB1226_1283.out _; refine blk_far ?_ NB1226_1283.out _; refine blk_far ?_ NB1226_1283.out _; exact BK1226.out⟩, ⟨by refine blk_far ?_ NB1227_1283.out _; refine blk_far ?_ NB1227_1283.out _; refine blk_far ?_ NB1227_1283.out _; refine blk_far ?_ NB1227_1283.out _; refine blk_far ?_ NB1227_1283.out _; exact BK1227.out⟩, ⟨by refine blk_far ?_ NB1250_1283.out _; refine blk_far ?_ NB1250_1283.out _; refine blk_far ?_ NB1250_1283.out _; refine blk_far ?_ NB1250_1283.out _; refine blk_far ?_ NB1250_1283.out _; exact BK1250.out⟩, ⟨by refine blk_far ?_ NB1251_1283.out _; refine blk_far ?_ NB1251_1283.out _; refine blk_far ?_ NB1251_1283.out _; refine blk_far ?_ NB1251_1283.out _; refine blk_far ?_ NB1251_1283.out _; exact BK1251.out⟩, ⟨by refine blk_far ?_ NB1252_1283.out _; refine blk_far ?_ NB1252_1283.out _; refine blk_far ?_ NB1252_1283.out _; refine blk_far ?_ NB1252_1283.out _; refine blk_far ?_ NB1252_1283.out _; exact BK1252.out⟩, ⟨by refine blk_far ?_ NB1270_1283.out _; refine blk_far ?_ NB1270_1283.out _; refine blk_far ?_ NB1270_1283.out _; refine blk_far ?_ NB1270_1283.out _; refine blk_far ?_ NB1270_1283.out _; exact BK1270.out⟩, ⟨by refine blk_far ?_ NB1275_1283.out _; refine blk_far ?_ NB1275_1283.out _; refine blk_far ?_ NB1275_1283.out _; refine blk_far ?_ NB1275_1283.out _; refine blk_far ?_ NB1275_1283.out _; exact BK1275.out⟩, ⟨by refine blk_put (cs := #[.string t1276, .string t1277, .bool t1278, .bool t1279, .slice none 0 0]) ?_ 4 _ rfl; refine blk_put (cs := #[.string t1276, .string t1277, .bool t1278, .bool false, .slice none 0 0]) ?_ 3 _ rfl; refine blk_put (cs := #[.string t1276, .string t1277, .bool false, .bool false, .slice none 0 0]) ?_ 2 _ rfl; refine blk_put (cs := #[.string t1276, .string (⟨#[]⟩ : ByteArray), .bool false, .bool false, .slice none 0 0]) ?_ 1 _ rfl; refine blk_put (cs := #[.string (⟨#[]⟩ : ByteArray), .string (⟨#[]⟩ : ByteArray), .bool false, .bool false, .slice none 0 0]) ?_ 0 _ rfl; exact BK1283.out⟩, ⟨hb_⟩⟩
    case round =>
     clear H'
     (try clear c8); (try clear c69); (try clear c70); (try clear c70b0); (try clear c70b1); (try clear c74); (try clear c114); (try clear hcz103_0); (try clear hcz103_1); (try clear hcz103_2); (try clear hcz122_0); (try clear hcz122_1); (try clear hcz122_2); (try clear hcz122_3); (try clear hcz122_4); (try clear hcz132_0); (try clear hcz132_1); (try clear hcz132_2); (try clear hcz132_3); (try clear hcz132_4); (try clear hcz48_0); (try clear hcz48_1); (try clear hcz48_2); (try clear hcz48_3); (try clear hcz48_4); (try clear hcz52_0); (try clear hcz52_1); (try clear hcz52_2); (try clear hcz52_3); (try clear hcz52_4); (try clear hcz55_0); (try clear hcz55_1); (try clear hcz55_2); (try clear hcz55_3); (try clear hcz55_4); (try clear hcz62_0); (try clear hcz62_1); (try clear hcz62_2); (try clear hcz62_3); (try clear hcz62_4); (try clear hcz62_5); (try clear hcz62_6); (try clear hcz62_7); (try clear hcz62_8); (try clear hcz63_0); (try clear hcz63_1); (try clear hcz63_2); (try clear hcz63_3); (try clear hcz63_4); (try clear hcz65_0); (try clear hcz65_1); (try clear hcz65_2); (try clear hcz65_3); (try clear hcz65_4); (try clear hcz65_5); (try clear hcz65_6); (try clear hcz65_7); (try clear hcz65_8); (try clear hcz66_0); (try clear hcz66_1); (try clear hcz66_2); (try clear hcz66_3); (try clear hcz66_4); (try clear hcz82_0); (try clear hcz82_1); (try clear hcz82_2); (try clear hcz82_3); (try clear hcz82_4); (try clear hcz82_5); (try clear hcz82_6); (try clear hcz82_7); (try clear hcz82_8); (try clear hcz86_0); (try clear hcz86_1); (try clear hcz86_2); (try clear hcz86_3); (try clear hcz86_4); (try clear hcz94_0); (try clear hcz94_1); (try clear hcz94_2); (try clear hfz103_0); (try clear hfz103_1); (try clear hfz103_2); (try clear hfz122_0); (try clear hfz122_1); (try clear hfz122_2); (try clear hfz122_3); (try clear hfz122_4); (try clear hfz132_0); (try clear hfz132_1); (try clear hfz132_2); (try clear hfz132_3); (try clear hfz132_4); (try clear hfz48_0); (try clear hfz48_1); (try clear hfz48_2); (try clear hfz48_3); (try clear hfz48_4); (try clear hfz52_0); (try clear hfz52_1); (try clear hfz52_2); (try clear hfz52_3); (try clear hfz52_4); (try clear hfz55_0); (try clear hfz55_1); (try clear hfz55_2); (try clear hfz55_3); (try clear hfz55_4); (try clear hfz62_0); (try clear hfz62_1); (try clear hfz62_2); (try clear hfz62_3); (try clear hfz62_4); (try clear hfz62_5); (try clear hfz62_6); (try clear hfz62_7); (try clear hfz62_8); (try clear hfz63_0); (try clear hfz63_1); (try clear hfz63_2); (try clear hfz63_3); (try clear hfz63_4); (try clear hfz65_0); (try clear hfz65_1); (try clear hfz65_2); (try clear hfz65_3); (try clear hfz65_4); (try clear hfz65_5); (try clear hfz65_6); (try clear hfz65_7); (try clear hfz65_8); (try clear hfz66_0); (try clear hfz66_1); (try clear hfz66_2); (try clear hfz66_3); (try clear hfz66_4); (try clear hfz82_0); (try clear hfz82_1); (try clear hfz82_2); (try clear hfz82_3); (try clear hfz82_4); (try clear hfz82_5); (try clear hfz82_6); (try clear hfz82_7); (try clear hfz82_8); (try clear hfz86_0); (try clear hfz86_1); (try clear hfz86_2); (try clear hfz86_3); (try clear hfz86_4); (try clear hfz94_0); (try clear hfz94_1); (try clear hfz94_2)
     obtain ⟨x18_4, x20_4, x1251004_4, x1252004_4, x1253004_4, x1284004_4, u1251004, u1252004, u1253004, u1284004, rfl, rfl, HA, HK4, HO_1251004, HO_1252004, HO_1253004, HO_1284004, BK1226, BK1227, BK1250, BK1251, BK1252, BK1270, BK1275, BK1283, HB⟩ := hrel
     cases gk with
     | zero => exact absurd HA.out (by simp [idiomlaw04_OperandLists.l0])
     | succ k4 =>
      have H := HA.out
      clear HA
      simp only [idiomlaw04_OperandLists.l0] at H
      by_cases c134 : x20_4 < (l1_4.length : Int)
      ·rw [if_pos c134] at H
       have c134b0 : decide (x20_4 < (l1_4.length : Int)) = true := decide_eq_true c134
       clear c134
       replace H := Option.bind_eq_some_iff.mp H
       obtain ⟨⟨t1286, t1287, t1288, t1289, t1290⟩, A1350, H⟩ := H
       try dsimp only at H
       have A135 := Aside0.mk A1350
       clear A1350
       by_cases c136 : 0 ≤ x20_4
       ·rw [if_pos c136] at H
        have c136b0 : decide (0 ≤ x20_4) = true := decide_eq_true c136
        clear c136
        obtain ⟨y1295, hy1295⟩ : ∃ y_ : List (S60), y_ = (([(⟨(rd_T60 l1_4 x20_4).f0, (rd_T60 l1_4 x20_4).f1⟩ : S60)] : List (S60))) := ⟨_, rfl⟩
        rw [← hy1295] at H
        have Ny1295 := Aside0.mk hy1295
        clear hy1295
        replace H := Option.bind_eq_some_iff.mp H
        obtain ⟨⟨t1298, t1299⟩, A1370, H⟩ := H
        try dsimp only at H
        have A137 := Aside0.mk A1370
        clear A1370
        have HF138 := Aside0.mk H
        clear H
        have hnb139 := LB1226_1227.out
        have hnc139 := LB1226_1227.out
        have hnb140 := LB1227_1250.out
        have hnc140 := LB1227_1250.out
        have hnb141 := LB1227_1251.out
        have hnc141 := LB1227_1251.out
        have hnb142 := LB1227_1252.out
        have hnc142 := LB1227_1252.out
        have hnb143 := LB1227_1270.out
        have hnc143 := LB1227_1270.out
        have hnb144 := LB1227_1275.out
        have hnc144 := LB1227_1275.out
        have hnb145 := LB1227_1283.out
        have hnc145 := LB1227_1283.out
        have hcz146_0 : wr.cell? ⟨gb1227, 0, none⟩ = some (.string a1_0) := (blk_cell BK1227.out 0).trans rfl
        have hcz146_1 : wr.cell? ⟨gb1227, 1, none⟩ = some (.string a1_1) := (blk_cell BK1227.out 1).trans rfl
        have hcz146_2 : wr.cell? ⟨gb1227, 2, none⟩ = some (.bool a1_2) := (blk_cell BK1227.out 2).trans rfl
        have hcz146_3 : wr.cell? ⟨gb1227, 3, none⟩ = some (.bool a1_3) := (blk_cell BK1227.out 3).trans rfl
        have hcz146_4 : wr.cell? ⟨gb1227, 4, none⟩ = some (.slice A1_4 l1_4.length c1_4) := (blk_cell BK1227.out 4).trans rfl
        have hfz146_0 := blk_frozen BK1227.out 0
        have hfz146_1 := blk_frozen BK1227.out 1
        have hfz146_2 := blk_frozen BK1227.out 2
        have hfz146_3 := blk_frozen BK1227.out 3
        have hfz146_4 := blk_frozen BK1227.out 4
        have hnb147 := LB1226_1250.out
        have hnc147 := LB1226_1250.out
        have hnb148 := NB1250_1251.out
        have hnc148 := NB1251_1250.out
        have hnb149 := NB1250_1252.out
        have hnc149 := NB1252_1250.out
        have hnb150 := LB1250_1270.out
        have hnc150 := LB1250_1270.out
        have hnb151 := LB1250_1275.out
        have hnc151 := LB1250_1275.out
        have hnb152 := LB1250_1283.out
        have hnc152 := LB1250_1283.out
        have hcz153_0 : wr.cell? ⟨gb1250, 0, none⟩ = some (.string t1229) := (blk_cell BK1250.out 0).trans rfl
        have hcz153_1 : wr.cell? ⟨gb1250, 1, none⟩ = some (.string t1230) := (blk_cell BK1250.out 1).trans rfl
        have hcz153_2 : wr.cell? ⟨gb1250, 2, none⟩ = some (.bool false) := (blk_cell BK1250.out 2).trans rfl
        have hcz153_3 : wr.cell? ⟨gb1250, 3, none⟩ = some (.bool false) := (blk_cell BK1250.out 3).trans rfl
        have hcz153_4 : wr.cell? ⟨gb1250, 4, none⟩ = some (u1251004) := (blk_cell BK1250.out 4).trans rfl
        have hfz153_0 := blk_frozen BK1250.out 0
        have hfz153_1 := blk_frozen BK1250.out 1
        have hfz153_2 := blk_frozen BK1250.out 2
        have hfz153_3 := blk_frozen BK1250.out 3
        have hfz153_4 := blk_frozen BK1250.out 4
        obtain ⟨Ao154, co154, eo154⟩ := Kd.R_slice HO_1251004.out
        subst eo154
        go_upto_if 143 with (first | ((with_reducible refine gate_callee (f := 51) rfl ?_); refine gL_ (some 128) Tryd.func51 #[.agg #[.string t1229, .string t1230, .bool false, .bool false, .slice Ao154 x1251004_4.length co154]] ?_; (with_reducible refine (idiomlaw04_copied.calls t1229 t1230 false false _ _ x1251004_4 t1286 t1287 t1288 t1289 t1290 _ ?side1 ?side2 A135.out).mono ?_); (case side1 => repeat (first | exact (Kd.R_reads' HO_1251004.out).2.2 | (with_reducible refine Kd.C_alloc ?_ _) | (with_reducible refine Kd.C_drewN ?_ _) | (with_reducible refine Kd.C_drew ?_))); (case side2 => exact (Kd.R_reads' HO_1251004.out).2.1); rintro e w155 ⟨v1291, rfl, ho0, hb⟩; refine ⟨_, rfl, ?_⟩; have HO1292 := Aside0.mk (Kd.R_lower (Kd.R_new' (Kd.R_new' (Kd.R_new' (Kd.R_new' ho0 (Kd.R_lt HO_1251004.out)) (Kd.R_lt HO_1252004.out)) (Kd.R_lt HO_1253004.out)) (Kd.R_lt HO_1284004.out)) (below_size hb_)); replace HO_1251004 := Aside0.mk (Kd.R_elder' HO_1251004.out (Kd.R_base ho0) hb); replace HO_1252004 := Aside0.mk (Kd.R_elder' HO_1252004.out (Kd.R_base ho0) hb); replace HO_1253004 := Aside0.mk (Kd.R_elder' HO_1253004.out (Kd.R_base ho0) hb); replace HO_1284004 := Aside0.mk (Kd.R_elder' HO_1284004.out (Kd.R_base ho0) hb); replace BK1226 := BK1226.bl hb; replace BK1227 := BK1227.bl hb; replace BK1250 := BK1250.bl hb; replace BK1251 := BK1251.bl hb; replace BK1252 := BK1252.bl hb; replace BK1270 := BK1270.bl hb; replace BK1275 := BK1275.bl hb; replace BK1283 := BK1283.bl hb; replace HB := Aside0.mk (below_step hb_ hb); (try clear ho0)) | ((with_reducible refine gate_dst (N := 21) rfl ?_); refine bx_ #[.string (⟨#[]⟩ : ByteArray), .string (⟨#[]⟩ : ByteArray), .bool false, .bool false, .slice none 0 0] 54 ?_; intro gb1293 hg w156 hbox hb; have BK1293 := Aside0.mk (hbox); have GW1293 := Aside0.mk ((by rw [hg]; exact (below_size hb_) : w.heap.size ≤ gb1293)); have GE1293 := Aside0.mk ((by rw [hg]; exact (below_size hb_) : w.heap.size ≤ gb1293)); have NB1226_1293 := BK1226.nl hg; have LB1226_1293 := lt_ BK1226 hg; have NB1293_1226 := BK1226.ng hg; have NB1227_1293 := BK1227.nl hg; have LB1227_1293 := lt_ BK1227 hg; have NB1293_1227 := BK1227.ng hg; have NB1250_1293 := BK1250.nl hg; have LB1250_1293 := lt_ BK1250 hg; have NB1293_1250 := BK1250.ng hg; have NB1251_1293 := BK1251.nl hg; have LB1251_1293 := lt_ BK1251 hg; have NB1293_1251 := BK1251.ng hg; have NB1252_1293 := BK1252.nl hg; have LB1252_1293 := lt_ BK1252 hg; have NB1293_1252 := BK1252.ng hg; have NB1270_1293 := BK1270.nl hg; have LB1270_1293 := lt_ BK1270 hg; have NB1293_1270 := BK1270.ng hg; have NB1275_1293 := BK1275.nl hg; have LB1275_1293 := lt_ BK1275 hg; have NB1293_1275 := BK1275.ng hg; have NB1283_1293 := BK1283.nl hg; have LB1283_1293 := lt_ BK1283 hg; have NB1293_1283 := BK1283.ng hg; replace HO_1251004 := bw_ HO_1251004 hb; replace HO_1252004 := bw_ HO_1252004 hb; replace HO_1253004 := bw_ HO_1253004 hb; replace HO_1284004 := bw_ HO_1284004 hb; replace HO1292 := bw_ HO1292 hb; replace BK1226 := BK1226.bl hb; replace BK1227 := BK1227.bl hb; replace BK1250 := BK1250.bl hb; replace BK1251 := BK1251.bl hb; replace BK1252 := BK1252.bl hb; replace BK1270 := BK1270.bl hb; replace BK1275 := BK1275.bl hb; replace BK1283 := BK1283.bl hb; replace HB := Aside0.mk (below_step hb_ hb); clear hb hbox hg; have hnb157 := LB1226_1293.out; have hnc157 := LB1226_1293.out; have hnb158 := LB1227_1293.out; have hnc158 := LB1227_1293.out; have hnb159 := LB1250_1293.out; have hnc159 := LB1250_1293.out; have hnb160 := LB1251_1293.out; have hnc160 := LB1251_1293.out; have hnb161 := LB1252_1293.out; have hnc161 := LB1252_1293.out; have hnb162 := LB1270_1293.out; have hnc162 := LB1270_1293.out; have hnb163 := LB1275_1293.out; have hnc163 := LB1275_1293.out; have hnb164 := LB1283_1293.out; have hnc164 := LB1283_1293.out; have hcz165_0 : w156.cell? ⟨gb1293, 0, none⟩ = some (.string (⟨#[]⟩ : ByteArray)) := (blk_cell BK1293.out 0).trans rfl; have hcz165_1 : w156.cell? ⟨gb1293, 1, none⟩ = some (.string (⟨#[]⟩ : ByteArray)) := (blk_cell BK1293.out 1).trans rfl; have hcz165_2 : w156.cell? ⟨gb1293, 2, none⟩ = some (.bool false) := (blk_cell BK1293.out 2).trans rfl; have hcz165_3 : w156.cell? ⟨gb1293, 3, none⟩ = some (.bool false) := (blk_cell BK1293.out 3).trans rfl; have hcz165_4 : w156.cell? ⟨gb1293, 4, none⟩ = some (.slice none 0 0) := (blk_cell BK1293.out 4).trans rfl; have hfz165_0 := blk_frozen BK1293.out 0; have hfz165_1 := blk_frozen BK1293.out 1; have hfz165_2 := blk_frozen BK1293.out 2; have hfz165_3 := blk_frozen BK1293.out 3; have hfz165_4 := blk_frozen BK1293.out 4; obtain ⟨Ao166, co166, eo166⟩ := Kd.R_slice HO1292.out; subst eo166; have hcz167_0 : w156.cell? ⟨gb1227, 0, none⟩ = some (.string a1_0) := (blk_cell BK1227.out 0).trans rfl; have hcz167_1 : w156.cell? ⟨gb1227, 1, none⟩ = some (.string a1_1) := (blk_cell BK1227.out 1).trans rfl; have hcz167_2 : w156.cell? ⟨gb1227, 2, none⟩ = some (.bool a1_2) := (blk_cell BK1227.out 2).trans rfl; have hcz167_3 : w156.cell? ⟨gb1227, 3, none⟩ = some (.bool a1_3) := (blk_cell BK1227.out 3).trans rfl; have hcz167_4 : w156.cell? ⟨gb1227, 4, none⟩ = some (.slice A1_4 l1_4.length c1_4) := (blk_cell BK1227.out 4).trans rfl; have hfz167_0 := blk_frozen BK1227.out 0; have hfz167_1 := blk_frozen BK1227.out 1; have hfz167_2 := blk_frozen BK1227.out 2; have hfz167_3 := blk_frozen BK1227.out 3; have hfz167_4 := blk_frozen BK1227.out 4; have p1294 : 0 ≤ (x20_4 : Int) := of_decide_eq_true (by first | (with_reducible assumption) | assumption); have q1294 : x20_4 < (l1_4.length : Int) := of_decide_eq_true (by first | (with_reducible assumption) | assumption); obtain ⟨ad1294, e1294, hx1294_0, hx1294_1⟩ := at_T60 HR1_4.out x20_4 p1294 q1294; cases e1294; have hn1294_0 : ad1294.block ≠ gb1293 := Nat.ne_of_lt (Nat.lt_of_lt_of_le (by have := World.block_lt_of_cell? _ _ hx1294_0; first | rwa [add_block] at this | exact this) GW1293.out); have hn1294_1 : ad1294.block ≠ gb1293 := Nat.ne_of_lt (Nat.lt_of_lt_of_le (by have := World.block_lt_of_cell? _ _ hx1294_0; first | rwa [add_block] at this | exact this) GW1293.out); have hn1294_2 : ad1294.block ≠ gb1293 := Nat.ne_of_lt (Nat.lt_of_lt_of_le (by have := World.block_lt_of_cell? _ _ hx1294_0; first | rwa [add_block] at this | exact this) GW1293.out); have hn1294_3 : ad1294.block ≠ gb1293 := Nat.ne_of_lt (Nat.lt_of_lt_of_le (by have := World.block_lt_of_cell? _ _ hx1294_0; first | rwa [add_block] at this | exact this) GW1293.out); have hn1294_4 : ad1294.block ≠ gb1293 := Nat.ne_of_lt (Nat.lt_of_lt_of_le (by have := World.block_lt_of_cell? _ _ hx1294_0; first | rwa [add_block] at this | exact this) GW1293.out); replace hx1294_0 := (HB.out.cell (World.block_lt_of_cell? w _ hx1294_0)).trans hx1294_0; replace hx1294_1 := (HB.out.cell (World.block_lt_of_cell? w _ hx1294_1)).trans hx1294_1; replace hx1294_0 := (cell_far (p := ⟨gb1293, 0, none⟩) (by first | (rw [add_block]; exact hn1294_0) | (show (Addr.add _ _).block ≠ _; rw [add_block]; exact hn1294_0) | exact hn1294_0) (.string t1286)).trans hx1294_0; replace hx1294_1 := (cell_far (p := ⟨gb1293, 0, none⟩) (by first | (rw [add_block]; exact hn1294_0) | (show (Addr.add _ _).block ≠ _; rw [add_block]; exact hn1294_0) | exact hn1294_0) (.string t1286)).trans hx1294_1; replace hx1294_0 := (cell_far (p := ⟨gb1293, 1, none⟩) (by first | (rw [add_block]; exact hn1294_1) | (show (Addr.add _ _).block ≠ _; rw [add_block]; exact hn1294_1) | exact hn1294_1) (.string t1287)).trans hx1294_0; replace hx1294_1 := (cell_far (p := ⟨gb1293, 1, none⟩) (by first | (rw [add_block]; exact hn1294_1) | (show (Addr.add _ _).block ≠ _; rw [add_block]; exact hn1294_1) | exact hn1294_1) (.string t1287)).trans hx1294_1; replace hx1294_0 := (cell_far (p := ⟨gb1293, 2, none⟩) (by first | (rw [add_block]; exact hn1294_2) | (show (Addr.add _ _).block ≠ _; rw [add_block]; exact hn1294_2) | exact hn1294_2) (.bool t1288)).trans hx1294_0; replace hx1294_1 := (cell_far (p := ⟨gb1293, 2, none⟩) (by first | (rw [add_block]; exact hn1294_2) | (show (Addr.add _ _).block ≠ _; rw [add_block]; exact hn1294_2) | exact hn1294_2) (.bool t1288)).trans hx1294_1; replace hx1294_0 := (cell_far (p := ⟨gb1293, 3, none⟩) (by first | (rw [add_block]; exact hn1294_3) | (show (Addr.add _ _).block ≠ _; rw [add_block]; exact hn1294_3) | exact hn1294_3) (.bool t1289)).trans hx1294_0; replace hx1294_1 := (cell_far (p := ⟨gb1293, 3, none⟩) (by first | (rw [add_block]; exact hn1294_3) | (show (Addr.add _ _).block ≠ _; rw [add_block]; exact hn1294_3) | exact hn1294_3) (.bool t1289)).trans hx1294_1; replace hx1294_0 := (cell_far (p := ⟨gb1293, 4, none⟩) (by first | (rw [add_block]; exact hn1294_4) | (show (Addr.add _ _).block ≠ _; rw [add_block]; exact hn1294_4) | exact hn1294_4) (.slice Ao166 t1290.length co166)).trans hx1294_0; replace hx1294_1 := (cell_far (p := ⟨gb1293, 4, none⟩) (by first | (rw [add_block]; exact hn1294_4) | (show (Addr.add _ _).block ≠ _; rw [add_block]; exact hn1294_4) | exact hn1294_4) (.slice Ao166 t1290.length co166)).trans hx1294_1; clear hn1294_0; clear hn1294_1; clear hn1294_2; clear hn1294_3; clear hn1294_4; replace p1294 := eq_true p1294; replace q1294 := eq_true q1294) | ((with_reducible refine gate_dst (N := 134) rfl ?_); refine Kd.R_lit k60 _ 60 ?hg (N := 134) ?hd (xs := ([(⟨(rd_T60 l1_4 x20_4).f0, (rd_T60 l1_4 x20_4).f1⟩ : S60)] : List (S60))) (inner := [.string ((rd_T60 l1_4 x20_4).f0), .string ((rd_T60 l1_4 x20_4).f1)]) (ok := fun _ => True) (okp := fun _ => True) ?hr ?hp (fun _ hk => hk) trivial (Below.refl _ _) (Nat.le_refl _) (by simp) ?_; (case hd => rfl); (case hg => rfl); (case hr => first | (go_simp; done) | (go_simp; rfl)); (case hp => exact (Reps.c2 (show Kd.M k60 _ _ _ (⟨(rd_T60 l1_4 x20_4).f0, (rd_T60 l1_4 x20_4).f1⟩ : S60) [.string ((rd_T60 l1_4 x20_4).f0), .string ((rd_T60 l1_4 x20_4).f1)] from (k60_mkM _ _ _ (⟨(rd_T60 l1_4 x20_4).f0, (rd_T60 l1_4 x20_4).f1⟩ : S60) )) (Reps.none _ _))); intro v1296 w168 ho169 hb hg_ hnew_; clear hg_ hnew_; (first | rw [← Ny1295.out] at ho169 | (simp only [Int.reduceToNat] at ho169; rw [← Ny1295.out] at ho169)); have HO1297 := Aside0.mk (Kd.R_lower (Kd.R_new' (Kd.R_new' (Kd.R_new' (Kd.R_new' (Kd.R_new' ho169 (Kd.R_lt (by (with_reducible repeat (first | apply Kd.R_alloc | apply Kd.R_drewN | apply Kd.R_drew)); exact (Kd.R_mono (Kd.R_far (p := ⟨gb1293, 4, none⟩) (Kd.R_far (p := ⟨gb1293, 3, none⟩) (Kd.R_far (p := ⟨gb1293, 2, none⟩) (Kd.R_far (p := ⟨gb1293, 1, none⟩) (Kd.R_far (p := ⟨gb1293, 0, none⟩) (Kd.R_types HO_1251004.out BK1293.out (by decide)) (fun _ hk => hk.2) (.string t1286)) (fun _ hk => hk.2) (.string t1287)) (fun _ hk => hk.2) (.bool t1288)) (fun _ hk => hk.2) (.bool t1289)) (fun _ hk => hk.2) (.slice Ao166 t1290.length co166)) (fun _ h_ => h_.1))))) (Kd.R_lt (by (with_reducible repeat (first | apply Kd.R_alloc | apply Kd.R_drewN | apply Kd.R_drew)); exact (Kd.R_mono (Kd.R_far (p := ⟨gb1293, 4, none⟩) (Kd.R_far (p := ⟨gb1293, 3, none⟩) (Kd.R_far (p := ⟨gb1293, 2, none⟩) (Kd.R_far (p := ⟨gb1293, 1, none⟩) (Kd.R_far (p := ⟨gb1293, 0, none⟩) (Kd.R_types HO_1252004.out BK1293.out (by decide)) (fun _ hk => hk.2) (.string t1286)) (fun _ hk => hk.2) (.string t1287)) (fun _ hk => hk.2) (.bool t1288)) (fun _ hk => hk.2) (.bool t1289)) (fun _ hk => hk.2) (.slice Ao166 t1290.length co166)) (fun _ h_ => h_.1))))) (Kd.R_lt (by (with_reducible repeat (first | apply Kd.R_alloc | apply Kd.R_drewN | apply Kd.R_drew)); exact (Kd.R_mono (Kd.R_far (p := ⟨gb1293, 4, none⟩) (Kd.R_far (p := ⟨gb1293, 3, none⟩) (Kd.R_far (p := ⟨gb1293, 2, none⟩) (Kd.R_far (p := ⟨gb1293, 1, none⟩) (Kd.R_far (p := ⟨gb1293, 0, none⟩) (Kd.R_types HO_1253004.out BK1293.out (by decide)) (fun _ hk => hk.2) (.string t1286)) (fun _ hk => hk.2) (.string t1287)) (fun _ hk => hk.2) (.bool t1288)) (fun _ hk => hk.2) (.bool t1289)) (fun _ hk => hk.2) (.slice Ao166 t1290.length co166)) (fun _ h_ => h_.1))))) (Kd.R_lt (by (with_reducible repeat (first | apply Kd.R_alloc | apply Kd.R_drewN | apply Kd.R_drew)); exact (Kd.R_mono (Kd.R_far (p := ⟨gb1293, 4, none⟩) (Kd.R_far (p := ⟨gb1293, 3, none⟩) (Kd.R_far (p := ⟨gb1293, 2, none⟩) (Kd.R_far (p := ⟨gb1293, 1, none⟩) (Kd.R_far (p := ⟨gb1293, 0, none⟩) (Kd.R_types HO_1284004.out BK1293.out (by decide)) (fun _ hk => hk.2) (.string t1286)) (fun _ hk => hk.2) (.string t1287)) (fun _ hk => hk.2) (.bool t1288)) (fun _ hk => hk.2) (.bool t1289)) (fun _ hk => hk.2) (.slice Ao166 t1290.length co166)) (fun _ h_ => h_.1))))) (Kd.R_lt (by (with_reducible repeat (first | apply Kd.R_alloc | apply Kd.R_drewN | apply Kd.R_drew)); exact (Kd.R_mono (Kd.R_far (p := ⟨gb1293, 4, none⟩) (Kd.R_far (p := ⟨gb1293, 3, none⟩) (Kd.R_far (p := ⟨gb1293, 2, none⟩) (Kd.R_far (p := ⟨gb1293, 1, none⟩) (Kd.R_far (p := ⟨gb1293, 0, none⟩) (Kd.R_types HO1292.out BK1293.out (by decide)) (fun _ hk => hk.2) (.string t1286)) (fun _ hk => hk.2) (.string t1287)) (fun _ hk => hk.2) (.bool t1288)) (fun _ hk => hk.2) (.bool t1289)) (fun _ hk => hk.2) (.slice Ao166 t1290.length co166)) (fun _ h_ => h_.1))))) (below_size hb_)); replace HO_1251004 := Aside0.mk (Kd.R_elder' (by (with_reducible repeat (first | apply Kd.R_alloc | apply Kd.R_drewN | apply Kd.R_drew)); exact (Kd.R_mono (Kd.R_far (p := ⟨gb1293, 4, none⟩) (Kd.R_far (p := ⟨gb1293, 3, none⟩) (Kd.R_far (p := ⟨gb1293, 2, none⟩) (Kd.R_far (p := ⟨gb1293, 1, none⟩) (Kd.R_far (p := ⟨gb1293, 0, none⟩) (Kd.R_types HO_1251004.out BK1293.out (by decide)) (fun _ hk => hk.2) (.string t1286)) (fun _ hk => hk.2) (.string t1287)) (fun _ hk => hk.2) (.bool t1288)) (fun _ hk => hk.2) (.bool t1289)) (fun _ hk => hk.2) (.slice Ao166 t1290.length co166)) (fun _ h_ => h_.1))) (Kd.R_base ho169) hb); replace HO_1252004 := Aside0.mk (Kd.R_elder' (by (with_reducible repeat (first | apply Kd.R_alloc | apply Kd.R_drewN | apply Kd.R_drew)); exact (Kd.R_mono (Kd.R_far (p := ⟨gb1293, 4, none⟩) (Kd.R_far (p := ⟨gb1293, 3, none⟩) (Kd.R_far (p := ⟨gb1293, 2, none⟩) (Kd.R_far (p := ⟨gb1293, 1, none⟩) (Kd.R_far (p := ⟨gb1293, 0, none⟩) (Kd.R_types HO_1252004.out BK1293.out (by decide)) (fun _ hk => hk.2) (.string t1286)) (fun _ hk => hk.2) (.string t1287)) (fun _ hk => hk.2) (.bool t1288)) (fun _ hk => hk.2) (.bool t1289)) (fun _ hk => hk.2) (.slice Ao166 t1290.length co166)) (fun _ h_ => h_.1))) (Kd.R_base ho169) hb); replace HO_1253004 := Aside0.mk (Kd.R_elder' (by (with_reducible repeat (first | apply Kd.R_alloc | apply Kd.R_drewN | apply Kd.R_drew)); exact (Kd.R_mono (Kd.R_far (p := ⟨gb1293, 4, none⟩) (Kd.R_far (p := ⟨gb1293, 3, none⟩) (Kd.R_far (p := ⟨gb1293, 2, none⟩) (Kd.R_far (p := ⟨gb1293, 1, none⟩) (Kd.R_far (p := ⟨gb1293, 0, none⟩) (Kd.R_types HO_1253004.out BK1293.out (by decide)) (fun _ hk => hk.2) (.string t1286)) (fun _ hk => hk.2) (.string t1287)) (fun _ hk => hk.2) (.bool t1288)) (fun _ hk => hk.2) (.bool t1289)) (fun _ hk => hk.2) (.slice Ao166 t1290.length co166)) (fun _ h_ => h_.1))) (Kd.R_base ho169) hb); replace HO_1284004 := Aside0.mk (Kd.R_elder' (by (with_reducible repeat (first | apply Kd.R_alloc | apply Kd.R_drewN | apply Kd.R_drew)); exact (Kd.R_mono (Kd.R_far (p := ⟨gb1293, 4, none⟩) (Kd.R_far (p := ⟨gb1293, 3, none⟩) (Kd.R_far (p := ⟨gb1293, 2, none⟩) (Kd.R_far (p := ⟨gb1293, 1, none⟩) (Kd.R_far (p := ⟨gb1293, 0, none⟩) (Kd.R_types HO_1284004.out BK1293.out (by decide)) (fun _ hk => hk.2) (.string t1286)) (fun _ hk => hk.2) (.string t1287)) (fun _ hk => hk.2) (.bool t1288)) (fun _ hk => hk.2) (.bool t1289)) (fun _ hk => hk.2) (.slice Ao166 t1290.length co166)) (fun _ h_ => h_.1))) (Kd.R_base ho169) hb); replace HO1292 := Aside0.mk (Kd.R_elder' (by (with_reducible repeat (first | apply Kd.R_alloc | apply Kd.R_drewN | apply Kd.R_drew)); exact (Kd.R_mono (Kd.R_far (p := ⟨gb1293, 4, none⟩) (Kd.R_far (p := ⟨gb1293, 3, none⟩) (Kd.R_far (p := ⟨gb1293, 2, none⟩) (Kd.R_far (p := ⟨gb1293, 1, none⟩) (Kd.R_far (p := ⟨gb1293, 0, none⟩) (Kd.R_types HO1292.out BK1293.out (by decide)) (fun _ hk => hk.2) (.string t1286)) (fun _ hk => hk.2) (.string t1287)) (fun _ hk => hk.2) (.bool t1288)) (fun _ hk => hk.2) (.bool t1289)) (fun _ hk => hk.2) (.slice Ao166 t1290.length co166)) (fun _ h_ => h_.1))) (Kd.R_base ho169) hb); replace BK1226 := Aside0.mk (blk_below (g := gb1226) (o := .cells #[.bool a0_0, .string a0_1, .string a0_2, .string a0_3, .int .i64 a0_4, .int .i64 a0_5, .string a0_6, .string a0_7, .int .i64 a0_8] 45 (0, 0)) (by refine blk_far ?_ NB1226_1293.out _; refine blk_far ?_ NB1226_1293.out _; refine blk_far ?_ NB1226_1293.out _; refine blk_far ?_ NB1226_1293.out _; refine blk_far ?_ NB1226_1293.out _; exact BK1226.out) hb); replace BK1227 := Aside0.mk (blk_below (g := gb1227) (o := .cells #[.string a1_0, .string a1_1, .bool a1_2, .bool a1_3, .slice (some ad1294) l1_4.length c1_4] 54 (0, 0)) (by refine blk_far ?_ NB1227_1293.out _; refine blk_far ?_ NB1227_1293.out _; refine blk_far ?_ NB1227_1293.out _; refine blk_far ?_ NB1227_1293.out _; refine blk_far ?_ NB1227_1293.out _; exact BK1227.out) hb); replace BK1250 := Aside0.mk (blk_below (g := gb1250) (o := .cells #[.string t1229, .string t1230, .bool false, .bool false, .slice Ao154 x1251004_4.length co154] 54 (0, 0)) (by refine blk_far ?_ NB1250_1293.out _; refine blk_far ?_ NB1250_1293.out _; refine blk_far ?_ NB1250_1293.out _; refine blk_far ?_ NB1250_1293.out _; refine blk_far ?_ NB1250_1293.out _; exact BK1250.out) hb); replace BK1251 := Aside0.mk (blk_below (g := gb1251) (o := .cells #[.string t1236, .string t1237, .bool true, .bool false, u1252004] 54 (0, 0)) (by refine blk_far ?_ NB1251_1293.out _; refine blk_far ?_ NB1251_1293.out _; refine blk_far ?_ NB1251_1293.out _; refine blk_far ?_ NB1251_1293.out _; refine blk_far ?_ NB1251_1293.out _; exact BK1251.out) hb); replace BK1252 := Aside0.mk (blk_below (g := gb1252) (o := .cells #[.string t1243, .string t1244, .bool false, .bool true, u1253004] 54 (0, 0)) (by refine blk_far ?_ NB1252_1293.out _; refine blk_far ?_ NB1252_1293.out _; refine blk_far ?_ NB1252_1293.out _; refine blk_far ?_ NB1252_1293.out _; refine blk_far ?_ NB1252_1293.out _; exact BK1252.out) hb); replace BK1270 := Aside0.mk (blk_below (g := gb1270) (o := .cells #[.bool t1266, .string t1267, .string t1268] 23 (0, 0)) (by refine blk_far ?_ NB1270_1293.out _; refine blk_far ?_ NB1270_1293.out _; refine blk_far ?_ NB1270_1293.out _; refine blk_far ?_ NB1270_1293.out _; refine blk_far ?_ NB1270_1293.out _; exact BK1270.out) hb); replace BK1275 := Aside0.mk (blk_below (g := gb1275) (o := .cells #[.bool t1271, .string t1272, .string t1273] 23 (0, 0)) (by refine blk_far ?_ NB1275_1293.out _; refine blk_far ?_ NB1275_1293.out _; refine blk_far ?_ NB1275_1293.out _; refine blk_far ?_ NB1275_1293.out _; refine blk_far ?_ NB1275_1293.out _; exact BK1275.out) hb); replace BK1283 := Aside0.mk (blk_below (g := gb1283) (o := .cells #[.string t1276, .string t1277, .bool t1278, .bool t1279, u1284004] 54 (0, 0)) (by refine blk_far ?_ NB1283_1293.out _; refine blk_far ?_ NB1283_1293.out _; refine blk_far ?_ NB1283_1293.out _; refine blk_far ?_ NB1283_1293.out _; refine blk_far ?_ NB1283_1293.out _; exact BK1283.out) hb); replace BK1293 := Aside0.mk (blk_below (g := gb1293) (o := .cells #[.string t1286, .string t1287, .bool t1288, .bool t1289, .slice Ao166 t1290.length co166] 54 (0, 0)) (by refine blk_put (cs := #[.string t1286, .string t1287, .bool t1288, .bool t1289, .slice none 0 0]) ?_ 4 _ rfl; refine blk_put (cs := #[.string t1286, .string t1287, .bool t1288, .bool false, .slice none 0 0]) ?_ 3 _ rfl; refine blk_put (cs := #[.string t1286, .string t1287, .bool false, .bool false, .slice none 0 0]) ?_ 2 _ rfl; refine blk_put (cs := #[.string t1286, .string (⟨#[]⟩ : ByteArray), .bool false, .bool false, .slice none 0 0]) ?_ 1 _ rfl; refine blk_put (cs := #[.string (⟨#[]⟩ : ByteArray), .string (⟨#[]⟩ : ByteArray), .bool false, .bool false, .slice none 0 0]) ?_ 0 _ rfl; exact BK1293.out) hb); replace HB := Aside0.mk (below_step hb_ hb); clear hb ho169; obtain ⟨Ao170, co170, eo170⟩ := Kd.R_slice HO1297.out; subst eo170; have hcz171_0 : w168.cell? ⟨gb1293, 0, none⟩ = some (.string t1286) := (blk_cell BK1293.out 0).trans rfl; have hcz171_1 : w168.cell? ⟨gb1293, 1, none⟩ = some (.string t1287) := (blk_cell BK1293.out 1).trans rfl; have hcz171_2 : w168.cell? ⟨gb1293, 2, none⟩ = some (.bool t1288) := (blk_cell BK1293.out 2).trans rfl; have hcz171_3 : w168.cell? ⟨gb1293, 3, none⟩ = some (.bool t1289) := (blk_cell BK1293.out 3).trans rfl; have hcz171_4 : w168.cell? ⟨gb1293, 4, none⟩ = some (.slice Ao166 t1290.length co166) := (blk_cell BK1293.out 4).trans rfl; have hfz171_0 := blk_frozen BK1293.out 0; have hfz171_1 := blk_frozen BK1293.out 1; have hfz171_2 := blk_frozen BK1293.out 2; have hfz171_3 := blk_frozen BK1293.out 3; have hfz171_4 := blk_frozen BK1293.out 4; have hnb172 := LB1226_1251.out; have hnc172 := LB1226_1251.out; have hnb173 := LB1226_1252.out; have hnc173 := LB1226_1252.out; have hnb174 := LB1226_1270.out; have hnc174 := LB1226_1270.out; have hnb175 := LB1226_1275.out; have hnc175 := LB1226_1275.out; have hnb176 := LB1226_1283.out; have hnc176 := LB1226_1283.out; have hcz177_0 : w168.cell? ⟨gb1226, 0, none⟩ = some (.bool a0_0) := (blk_cell BK1226.out 0).trans rfl; have hcz177_1 : w168.cell? ⟨gb1226, 1, none⟩ = some (.string a0_1) := (blk_cell BK1226.out 1).trans rfl; have hcz177_2 : w168.cell? ⟨gb1226, 2, none⟩ = some (.string a0_2) := (blk_cell BK1226.out 2).trans rfl; have hcz177_3 : w168.cell? ⟨gb1226, 3, none⟩ = some (.string a0_3) := (blk_cell BK1226.out 3).trans rfl; have hcz177_4 : w168.cell? ⟨gb1226, 4, none⟩ = some (.int .i64 a0_4) := (blk_cell BK1226.out 4).trans rfl; have hcz177_5 : w168.cell? ⟨gb1226, 5, none⟩ = some (.int .i64 a0_5) := (blk_cell BK1226.out 5).trans rfl; have hcz177_6 : w168.cell? ⟨gb1226, 6, none⟩ = some (.string a0_6) := (blk_cell BK1226.out 6).trans rfl; have hcz177_7 : w168.cell? ⟨gb1226, 7, none⟩ = some (.string a0_7) := (blk_cell BK1226.out 7).trans rfl; have hcz177_8 : w168.cell? ⟨gb1226, 8, none⟩ = some (.int .i64 a0_8) := (blk_cell BK1226.out 8).trans rfl; have hfz177_0 := blk_frozen BK1226.out 0; have hfz177_1 := blk_frozen BK1226.out 1; have hfz177_2 := blk_frozen BK1226.out 2; have hfz177_3 := blk_frozen BK1226.out 3; have hfz177_4 := blk_frozen BK1226.out 4; have hfz177_5 := blk_frozen BK1226.out 5; have hfz177_6 := blk_frozen BK1226.out 6; have hfz177_7 := blk_frozen BK1226.out 7; have hfz177_8 := blk_frozen BK1226.out 8) | ((with_reducible refine gate_callee (f := 52) rfl ?_); refine gL_ (some 139) Tryd.func52 #[.agg #[.bool a0_0, .string a0_1, .string a0_2, .string a0_3, .int .i64 a0_4, .int .i64 a0_5, .string a0_6, .string a0_7, .int .i64 a0_8], .agg #[.string t1286, .string t1287, .bool t1288, .bool t1289, .slice Ao170 y1295.length co170]] ?_; (with_reducible refine (operand_In.calls k4 a0_0 a0_1 a0_2 a0_3 a0_4 a0_5 a0_6 a0_7 a0_8 t1286 t1287 t1288 t1289 _ _ y1295 t1298 t1299 _ (TB.below HTB.out hb_) ?side1 ?side2 A137.out).mono ?_); (case side1 => refine (Kd.R_reads' (e := 60) (base := w.heap.size) (ok := fun k_ => (((((True ∧ some k_ ≠ (.slice Ao154 x1251004_4.length co154 : Value).ownBlock) ∧ some k_ ≠ (u1252004 : Value).ownBlock) ∧ some k_ ≠ (u1253004 : Value).ownBlock) ∧ some k_ ≠ (u1284004 : Value).ownBlock) ∧ some k_ ≠ (.slice Ao166 t1290.length co166 : Value).ownBlock)) (n := y1295.length) (c := co170) ?_).2.2; exact (by (with_reducible repeat (first | apply Kd.R_alloc | apply Kd.R_drewN | apply Kd.R_drew)); exact (Kd.R_mono (Kd.R_far (p := ⟨gb1293, 4, none⟩) (Kd.R_types HO1297.out BK1293.out (by decide)) (fun _ hk => hk.2) (.slice Ao170 y1295.length co170)) (fun _ h_ => h_.1)))); (case side2 => exact (Kd.R_reads' HO1297.out).2.1); rintro e w178 ⟨rfl, hb⟩; refine ⟨_, rfl, ?_⟩; replace HO_1251004 := Aside0.mk (Kd.R_below (by (with_reducible repeat (first | apply Kd.R_alloc | apply Kd.R_drewN | apply Kd.R_drew)); exact (Kd.R_mono (Kd.R_far (p := ⟨gb1293, 4, none⟩) (Kd.R_types HO_1251004.out BK1293.out (by decide)) (fun _ hk => hk.2) (.slice Ao170 y1295.length co170)) (fun _ h_ => h_.1))) hb); replace HO_1252004 := Aside0.mk (Kd.R_below (by (with_reducible repeat (first | apply Kd.R_alloc | apply Kd.R_drewN | apply Kd.R_drew)); exact (Kd.R_mono (Kd.R_far (p := ⟨gb1293, 4, none⟩) (Kd.R_types HO_1252004.out BK1293.out (by decide)) (fun _ hk => hk.2) (.slice Ao170 y1295.length co170)) (fun _ h_ => h_.1))) hb); replace HO_1253004 := Aside0.mk (Kd.R_below (by (with_reducible repeat (first | apply Kd.R_alloc | apply Kd.R_drewN | apply Kd.R_drew)); exact (Kd.R_mono (Kd.R_far (p := ⟨gb1293, 4, none⟩) (Kd.R_types HO_1253004.out BK1293.out (by decide)) (fun _ hk => hk.2) (.slice Ao170 y1295.length co170)) (fun _ h_ => h_.1))) hb); replace HO_1284004 := Aside0.mk (Kd.R_below (by (with_reducible repeat (first | apply Kd.R_alloc | apply Kd.R_drewN | apply Kd.R_drew)); exact (Kd.R_mono (Kd.R_far (p := ⟨gb1293, 4, none⟩) (Kd.R_types HO_1284004.out BK1293.out (by decide)) (fun _ hk => hk.2) (.slice Ao170 y1295.length co170)) (fun _ h_ => h_.1))) hb); replace HO1292 := Aside0.mk (Kd.R_below (by (with_reducible repeat (first | apply Kd.R_alloc | apply Kd.R_drewN | apply Kd.R_drew)); exact (Kd.R_mono (Kd.R_far (p := ⟨gb1293, 4, none⟩) (Kd.R_types HO1292.out BK1293.out (by decide)) (fun _ hk => hk.2) (.slice Ao170 y1295.length co170)) (fun _ h_ => h_.1))) hb); replace HO1297 := Aside0.mk (Kd.R_below (by (with_reducible repeat (first | apply Kd.R_alloc | apply Kd.R_drewN | apply Kd.R_drew)); exact (Kd.R_mono (Kd.R_far (p := ⟨gb1293, 4, none⟩) (Kd.R_types HO1297.out BK1293.out (by decide)) (fun _ hk => hk.2) (.slice Ao170 y1295.length co170)) (fun _ h_ => h_.1))) hb); replace BK1226 := Aside0.mk (blk_below (g := gb1226) (o := .cells #[.bool a0_0, .string a0_1, .string a0_2, .string a0_3, .int .i64 a0_4, .int .i64 a0_5, .string a0_6, .string a0_7, .int .i64 a0_8] 45 (0, 0)) (by refine blk_far ?_ NB1226_1293.out _; exact BK1226.out) hb); replace BK1227 := Aside0.mk (blk_below (g := gb1227) (o := .cells #[.string a1_0, .string a1_1, .bool a1_2, .bool a1_3, .slice (some ad1294) l1_4.length c1_4] 54 (0, 0)) (by refine blk_far ?_ NB1227_1293.out _; exact BK1227.out) hb); replace BK1250 := Aside0.mk (blk_below (g := gb1250) (o := .cells #[.string t1229, .string t1230, .bool false, .bool false, .slice Ao154 x1251004_4.length co154] 54 (0, 0)) (by refine blk_far ?_ NB1250_1293.out _; exact BK1250.out) hb); replace BK1251 := Aside0.mk (blk_below (g := gb1251) (o := .cells #[.string t1236, .string t1237, .bool true, .bool false, u1252004] 54 (0, 0)) (by refine blk_far ?_ NB1251_1293.out _; exact BK1251.out) hb); replace BK1252 := Aside0.mk (blk_below (g := gb1252) (o := .cells #[.string t1243, .string t1244, .bool false, .bool true, u1253004] 54 (0, 0)) (by refine blk_far ?_ NB1252_1293.out _; exact BK1252.out) hb); replace BK1270 := Aside0.mk (blk_below (g := gb1270) (o := .cells #[.bool t1266, .string t1267, .string t1268] 23 (0, 0)) (by refine blk_far ?_ NB1270_1293.out _; exact BK1270.out) hb); replace BK1275 := Aside0.mk (blk_below (g := gb1275) (o := .cells #[.bool t1271, .string t1272, .string t1273] 23 (0, 0)) (by refine blk_far ?_ NB1275_1293.out _; exact BK1275.out) hb); replace BK1283 := Aside0.mk (blk_below (g := gb1283) (o := .cells #[.string t1276, .string t1277, .bool t1278, .bool t1279, u1284004] 54 (0, 0)) (by refine blk_far ?_ NB1283_1293.out _; exact BK1283.out) hb); replace BK1293 := Aside0.mk (blk_below (g := gb1293) (o := .cells #[.string t1286, .string t1287, .bool t1288, .bool t1289, .slice Ao170 y1295.length co170] 54 (0, 0)) (by refine blk_put (cs := #[.string t1286, .string t1287, .bool t1288, .bool t1289, .slice Ao166 t1290.length co166]) ?_ 4 _ rfl; exact BK1293.out) hb); replace HB := Aside0.mk (below_step hb_ hb)))
        (try simp only [Act.put, List.setIfInBounds_toArray, List.set_cons_zero, List.set_cons_succ])
        have H := HF138.out
        clear HF138
        by_cases c179 : t1299 = 0
        ·rw [if_pos c179] at H
         have c179b0 : (t1299 == 0) = true := beq_iff_eq.mpr c179
         have c179b1 : (t1299 != 0) = false := bne_eq_false_iff_eq.mpr c179
         clear c179
         (first | rw [c179b0] | (simp only [i64_w, i32_w]; rw [c179b0]) | rw [c179b1] | skip)
         by_cases c180 : x18_4 = true
         ·subst c180
          have H1 : (if 0 ≤ (wrap64 ((wrap64 ((l1_4.length : Int) - 1)) - x20_4)) then (if (wrap64 ((wrap64 ((l1_4.length : Int) - 1)) - x20_4)) < (x1284004_4.length : Int) then (idiomlaw04_OperandLists.l0 k4 t1260 true (wrap64 (x20_4 + 1)) a0_0 a0_1 a0_2 a0_3 a0_4 a0_5 a0_6 a0_7 a0_8 a1_0 a1_1 a1_2 a1_3 l1_4 t1229 t1230 false false x1251004_4 t1276 t1277 t1278 t1279 (x1284004_4.set ((wrap64 ((wrap64 ((l1_4.length : Int) - 1)) - x20_4)) : Int).toNat (⟨(rd_T60 l1_4 x20_4).f0, (rd_T60 l1_4 x20_4).f1⟩ : S60))) else (none)) else (none)) = some r := by rw [if_pos rfl] at H; exact H
          clear H
          have H := H1
          clear H1
          obtain ⟨ji181, hji181⟩ : ∃ j_ : Int, (wrap64 ((wrap64 ((l1_4.length : Int) - 1)) - x20_4)) = j_ := ⟨_, rfl⟩
          replace H : (if 0 ≤ (ji181) then (if (ji181) < (x1284004_4.length : Int) then (idiomlaw04_OperandLists.l0 k4 t1260 true (wrap64 (x20_4 + 1)) a0_0 a0_1 a0_2 a0_3 a0_4 a0_5 a0_6 a0_7 a0_8 a1_0 a1_1 a1_2 a1_3 l1_4 t1229 t1230 false false x1251004_4 t1276 t1277 t1278 t1279 (x1284004_4.set ((ji181) : Int).toNat (⟨(rd_T60 l1_4 x20_4).f0, (rd_T60 l1_4 x20_4).f1⟩ : S60))) else (none)) else (none)) = some r := by first | (rw [hji181] at H; exact H) | (simp only [hji181] at H ⊢; exact H)
          have hji181w : (IntKind.i64.wrap ((wrap64 ((l1_4.length : Int) - 1)) - x20_4)) = ji181 := (i64_w _).trans hji181
          by_cases c182 : 0 ≤ (ji181)
          ·rw [if_pos c182] at H
           have c182b0 : decide (0 ≤ (ji181)) = true := decide_eq_true c182
           clear c182
           by_cases c183 : (ji181) < (x1284004_4.length : Int)
           ·rw [if_pos c183] at H
            have c183b0 : decide ((ji181) < (x1284004_4.length : Int)) = true := decide_eq_true c183
            clear c183
            obtain ⟨y1301, hy1301⟩ : ∃ y_ : List (S60), y_ = (x1284004_4.set ((ji181) : Int).toNat (⟨(rd_T60 l1_4 x20_4).f0, (rd_T60 l1_4 x20_4).f1⟩ : S60)) := ⟨_, rfl⟩
            rw [← hy1301] at H
            have Ny1301 := Aside0.mk hy1301
            clear hy1301
            have H' := Aside0.mk H
            clear H
            try go_wp2
            replace HO_1251004 := Aside0.mk (Kd.R_drew HO_1251004.out)
            replace HO_1252004 := Aside0.mk (Kd.R_drew HO_1252004.out)
            replace HO_1253004 := Aside0.mk (Kd.R_drew HO_1253004.out)
            replace HO_1284004 := Aside0.mk (Kd.R_drew HO_1284004.out)
            replace HO1292 := Aside0.mk (Kd.R_drew HO1292.out)
            replace HO1297 := Aside0.mk (Kd.R_drew HO1297.out)
            replace BK1226 := Aside0.mk (blk_drew BK1226.out)
            replace BK1227 := Aside0.mk (blk_drew BK1227.out)
            replace BK1250 := Aside0.mk (blk_drew BK1250.out)
            replace BK1251 := Aside0.mk (blk_drew BK1251.out)
            replace BK1252 := Aside0.mk (blk_drew BK1252.out)
            replace BK1270 := Aside0.mk (blk_drew BK1270.out)
            replace BK1275 := Aside0.mk (blk_drew BK1275.out)
            replace BK1283 := Aside0.mk (blk_drew BK1283.out)
            replace BK1293 := Aside0.mk (blk_drew BK1293.out)
            replace HB := Aside0.mk (below_drew1 HB.out)
            have p1300 : 0 ≤ (x20_4 : Int) := of_decide_eq_true (by first | (with_reducible assumption) | assumption)
            have q1300 : x20_4 < (l1_4.length : Int) := of_decide_eq_true (by first | (with_reducible assumption) | assumption)
            obtain ⟨ad1300, e1300, hx1300_0, hx1300_1⟩ := at_T60 HR1_4.out x20_4 p1300 q1300
            have hw1300_1 := hx1300_1
            have hw1300_0 := hx1300_0
            obtain rfl : ad1294 = ad1300 := (by injection e1300)
            replace hx1300_0 := (HB.out.cell (World.block_lt_of_cell? w _ hx1300_0)).trans hx1300_0
            replace hx1300_1 := (HB.out.cell (World.block_lt_of_cell? w _ hx1300_1)).trans hx1300_1
            replace p1300 := eq_true p1300
            replace q1300 := eq_true q1300
            have p184 : 0 ≤ ((ji181) : Int) := of_decide_eq_true (by first | (with_reducible assumption) | assumption)
            have q184 : ((ji181) : Int) < ((x1284004_4.length : Int) : Int) := of_decide_eq_true (by first | (with_reducible assumption) | assumption)
            obtain ⟨go184, co184, eo184, gb184, gl184, cl184, HG184⟩ := Kd.R_form HO_1284004.out (by omega)
            (first | cases eo184 | (injection eo184 with ea_ en_ ec_; (first | subst ea_ | (injection ea_ with ea_; subst ea_)); subst ec_; clear en_))
            have GB184 := Aside0.mk gb184
            have GG184 := Aside0.mk HG184
            clear gb184 gl184 HG184
            obtain ⟨ce184, hcl184, hM184, hcc184, hfr184⟩ := Kd.R_elem HO_1284004.out z60 ((ji181) : Int) p184 q184
            obtain rfl := k60_openM hM184
            have hx184_0 : World.cell? _ ⟨go184, ((ji181) : Int).toNat * 2, none⟩ = some (.string ((rd_T60 x1284004_4 (ji181)).f0)) := hcc184 0 _ rfl
            have hx184_1 : World.cell? _ ⟨go184, ((ji181) : Int).toNat * 2 + 1, none⟩ = some (.string ((rd_T60 x1284004_4 (ji181)).f1)) := hcc184 1 _ rfl
            have hf184_0 : World.frozen? _ ⟨go184, ((ji181) : Int).toNat * 2, none⟩ = false := hfr184 0
            have hf184_1 : World.frozen? _ ⟨go184, ((ji181) : Int).toNat * 2 + 1, none⟩ = false := hfr184 1
            clear hcl184 hcc184 hfr184 hM184
            replace p184 := eq_true p184
            replace q184 := eq_true q184
            obtain ⟨ce186, hcl186, hM186, hcc186, hfr186⟩ := Kd.R_elem HO_1284004.out z60 ((ji181) : Int) (of_decide_eq_true (by first | (with_reducible assumption) | assumption)) (by have h_ : ((ji181) : Int) < ((x1284004_4.length : Int) : Int) := of_decide_eq_true (by first | (with_reducible assumption) | assumption); first | exact h_ | (have e_ := (Kd.R_reads' HO_1284004.out).1; omega) | simpa using h_)
            obtain rfl := k60_openM hM186
            have HP186 := (Kd.R_seg HO_1284004.out ((ji181) : Int) (of_decide_eq_true (by first | (with_reducible assumption) | assumption)) (by have h_ : ((ji181) : Int) < ((x1284004_4.length : Int) : Int) := of_decide_eq_true (by first | (with_reducible assumption) | assumption); first | exact h_ | (have e_ := (Kd.R_reads' HO_1284004.out).1; omega) | simpa using h_) (seg := [.string ((rd_T60 l1_4 x20_4).f0), .string ((rd_T60 l1_4 x20_4).f1)]) (j := 0) hcl186 hcc186 (show 2 ≤ 2 from by decide) (x' := (⟨(rd_T60 l1_4 x20_4).f0, (rd_T60 l1_4 x20_4).f1⟩ : S60)) (k60_mkM _ _ _ (⟨(rd_T60 l1_4 x20_4).f0, (rd_T60 l1_4 x20_4).f1⟩ : S60) ) (fun _ hk => hk)).1
            rw [← Ny1301.out] at HP186
            have HQ186 := Aside0.mk HP186
            clear hcl186 hcc186 hfr186 hM186 HP186
            refine start_ (n := 15) (S := fun w' => w'.cell? ⟨gb1283, 0, none⟩ = some (.string t1276) ∧ w'.cell? ⟨gb1283, 1, none⟩ = some (.string t1277) ∧ w'.cell? ⟨gb1283, 2, none⟩ = some (.bool t1278) ∧ w'.cell? ⟨gb1283, 3, none⟩ = some (.bool t1279) ∧ w'.cell? ⟨gb1283, 4, none⟩ = some (.slice (some ⟨go184, 0, none⟩) x1284004_4.length co184) ∧ w'.cell? ⟨gb1227, 0, none⟩ = some (.string a1_0) ∧ w'.cell? ⟨gb1227, 1, none⟩ = some (.string a1_1) ∧ w'.cell? ⟨gb1227, 2, none⟩ = some (.bool a1_2) ∧ w'.cell? ⟨gb1227, 3, none⟩ = some (.bool a1_3) ∧ w'.cell? ⟨gb1227, 4, none⟩ = some (.slice (some ad1294) l1_4.length c1_4) ∧ w'.cell? (ad1294.add ((x20_4).toNat * 2)) = some (.string ((rd_T60 l1_4 x20_4).f0)) ∧ w'.cell? ⟨(ad1294.add ((x20_4).toNat * 2)).block, (ad1294.add ((x20_4).toNat * 2)).off + 1, none⟩ = some (.string ((rd_T60 l1_4 x20_4).f1))) (ds := [14]) #[false, false, false, false, false, false, false, false, false, false, false, false, false, false, false] (by kernel_rfl) rfl rfl ⟨(blk_cell BK1283.out 0).trans rfl, (blk_cell BK1283.out 1).trans rfl, (blk_cell BK1283.out 2).trans rfl, (blk_cell BK1283.out 3).trans rfl, (blk_cell BK1283.out 4).trans rfl, (blk_cell BK1227.out 0).trans rfl, (blk_cell BK1227.out 1).trans rfl, (blk_cell BK1227.out 2).trans rfl, (blk_cell BK1227.out 3).trans rfl, (blk_cell BK1227.out 4).trans rfl, ((HB.out.cell (World.block_lt_of_cell? w _ hw1300_0)).trans hw1300_0), ((HB.out.cell (World.block_lt_of_cell? w _ hw1300_1)).trans hw1300_1)⟩ (fun hHeld => ?_); refine with_tabW idiomlaw04_OperandLists.tab31 idiomlaw04_OperandLists.bits31 (fun HT_ HW_ => ?_)
            generalize w178.drew = w185 at HO_1251004 HO_1252004 HO_1253004 HO_1284004 HO1292 HO1297 BK1226 BK1227 BK1250 BK1251 BK1252 BK1270 BK1275 BK1283 BK1293 HB GG184 HQ186 hf184_0 hf184_1 hx1300_0 hx1300_1 hx184_0 hx184_1 hHeld ⊢
            refine pr_ 0 (some 148) ?_
            refine pr_ 2 (some 150) ?_
            refine pr_ 6 (some 154) ?_
            refine pr_ 8 (some 156) ?_
            refine pr_ 10 (some 158) ?_
            refine tk_ 1 (some 149) hHeld ?_
            refine tk_ 3 (some 151) hHeld ?_
            refine pr_ 4 (some 152) ?_
            refine pr_ 5 (some 153) ?_
            refine pr_ 7 (some 155) ?_
            refine tk_ 9 (some 157) hHeld ?_
            refine pr_ 11 (some 159) ?_
            refine tk_ 12 (some 160) hHeld ?_
            refine pr_ 13 (some 161) ?_
            refine last_ (i := 14) (N := none) #[true, true, true, true, true, true, true, true, true, true, true, true, true, true, true] rfl rfl (one_of HT_.out (by kernel_rfl)) (by decide) (fun K hK => ?_)
            refine skip_ (w1 := ?w1_4) ?hw_4 ?hN_4 ?hrun_4 ?h_4
            case hw_4 => rfl
            case hN_4 => rfl
            rotate_left
            ·go_simp
             rfl
            refine hK.out _ _ ?_
            clear hK K
            refine done_ (done_of HT_.out (by kernel_rfl)) ?_
            have n0_ : Aside0 (Kd.R k60 60 ((w185.setCell ⟨go184, ((ji181) : Int).toNat * 2, none⟩ (.string ((rd_T60 l1_4 x20_4).f0))).setCell ⟨go184, ((ji181) : Int).toNat * 2 + 1, none⟩ (.string ((rd_T60 l1_4 x20_4).f1))) w.heap.size (fun k_ => some k_ ≠ (u1252004 : Value).ownBlock ∧ some k_ ≠ (u1253004 : Value).ownBlock ∧ some k_ ≠ (.slice (some ⟨go184, 0, none⟩) x1284004_4.length co184 : Value).ownBlock ∧ some k_ ≠ (.slice Ao166 t1290.length co166 : Value).ownBlock ∧ some k_ ≠ (.slice Ao170 y1295.length co170 : Value).ownBlock) (.slice Ao154 x1251004_4.length co154) x1251004_4) := ⟨by (with_reducible repeat (first | apply Kd.R_alloc | apply Kd.R_drewN | apply Kd.R_drew)); exact Kd.R_mono (Kd.R_far (p := ⟨go184, ((ji181) : Int).toNat * 2 + 1, none⟩) (Kd.R_far (p := ⟨go184, ((ji181) : Int).toNat * 2, none⟩) (Kd.R_mono HO_1251004.out (fun k_ hk => (⟨hk, fun e_ => hk.1.1.2.2 (by rw [e_]; rfl)⟩ : _ ∧ k_ ≠ go184))) (fun _ hk => hk.2) (.string ((rd_T60 l1_4 x20_4).f0))) (fun _ hk => hk.2) (.string ((rd_T60 l1_4 x20_4).f1))) (fun _ hk => ⟨hk.1.1.1.1, ⟨hk.1.1.1.2.1, ⟨hk.1.1.1.2.2, ⟨hk.1.1.2, hk.1.2⟩⟩⟩⟩)⟩
            have n1_ : Aside0 (Kd.R k60 60 ((w185.setCell ⟨go184, ((ji181) : Int).toNat * 2, none⟩ (.string ((rd_T60 l1_4 x20_4).f0))).setCell ⟨go184, ((ji181) : Int).toNat * 2 + 1, none⟩ (.string ((rd_T60 l1_4 x20_4).f1))) w.heap.size (fun k_ => some k_ ≠ (.slice Ao154 x1251004_4.length co154 : Value).ownBlock ∧ some k_ ≠ (u1253004 : Value).ownBlock ∧ some k_ ≠ (.slice (some ⟨go184, 0, none⟩) x1284004_4.length co184 : Value).ownBlock ∧ some k_ ≠ (.slice Ao166 t1290.length co166 : Value).ownBlock ∧ some k_ ≠ (.slice Ao170 y1295.length co170 : Value).ownBlock) u1252004 x1252004_4) := ⟨by (with_reducible repeat (first | apply Kd.R_alloc | apply Kd.R_drewN | apply Kd.R_drew)); exact Kd.R_mono (Kd.R_far (p := ⟨go184, ((ji181) : Int).toNat * 2 + 1, none⟩) (Kd.R_far (p := ⟨go184, ((ji181) : Int).toNat * 2, none⟩) (Kd.R_mono HO_1252004.out (fun k_ hk => (⟨hk, fun e_ => hk.1.1.2.2 (by rw [e_]; rfl)⟩ : _ ∧ k_ ≠ go184))) (fun _ hk => hk.2) (.string ((rd_T60 l1_4 x20_4).f0))) (fun _ hk => hk.2) (.string ((rd_T60 l1_4 x20_4).f1))) (fun _ hk => ⟨hk.1.1.1.1, ⟨hk.1.1.1.2.1, ⟨hk.1.1.1.2.2, ⟨hk.1.1.2, hk.1.2⟩⟩⟩⟩)⟩
            have n2_ : Aside0 (Kd.R k60 60 ((w185.setCell ⟨go184, ((ji181) : Int).toNat * 2, none⟩ (.string ((rd_T60 l1_4 x20_4).f0))).setCell ⟨go184, ((ji181) : Int).toNat * 2 + 1, none⟩ (.string ((rd_T60 l1_4 x20_4).f1))) w.heap.size (fun k_ => some k_ ≠ (.slice Ao154 x1251004_4.length co154 : Value).ownBlock ∧ some k_ ≠ (u1252004 : Value).ownBlock ∧ some k_ ≠ (.slice (some ⟨go184, 0, none⟩) x1284004_4.length co184 : Value).ownBlock ∧ some k_ ≠ (.slice Ao166 t1290.length co166 : Value).ownBlock ∧ some k_ ≠ (.slice Ao170 y1295.length co170 : Value).ownBlock) u1253004 x1253004_4) := ⟨by (with_reducible repeat (first | apply Kd.R_alloc | apply Kd.R_drewN | apply Kd.R_drew)); exact Kd.R_mono (Kd.R_far (p := ⟨go184, ((ji181) : Int).toNat * 2 + 1, none⟩) (Kd.R_far (p := ⟨go184, ((ji181) : Int).toNat * 2, none⟩) (Kd.R_mono HO_1253004.out (fun k_ hk => (⟨hk, fun e_ => hk.1.1.2.2 (by rw [e_]; rfl)⟩ : _ ∧ k_ ≠ go184))) (fun _ hk => hk.2) (.string ((rd_T60 l1_4 x20_4).f0))) (fun _ hk => hk.2) (.string ((rd_T60 l1_4 x20_4).f1))) (fun _ hk => ⟨hk.1.1.1.1, ⟨hk.1.1.1.2.1, ⟨hk.1.1.1.2.2, ⟨hk.1.1.2, hk.1.2⟩⟩⟩⟩)⟩
            have n3_ : Aside0 (Kd.R k60 60 ((w185.setCell ⟨go184, ((ji181) : Int).toNat * 2, none⟩ (.string ((rd_T60 l1_4 x20_4).f0))).setCell ⟨go184, ((ji181) : Int).toNat * 2 + 1, none⟩ (.string ((rd_T60 l1_4 x20_4).f1))) w.heap.size (fun k_ => some k_ ≠ (.slice Ao154 x1251004_4.length co154 : Value).ownBlock ∧ some k_ ≠ (u1252004 : Value).ownBlock ∧ some k_ ≠ (u1253004 : Value).ownBlock ∧ some k_ ≠ (.slice Ao166 t1290.length co166 : Value).ownBlock ∧ some k_ ≠ (.slice Ao170 y1295.length co170 : Value).ownBlock) (.slice (some ⟨go184, 0, none⟩) x1284004_4.length co184) y1301) := ⟨by (with_reducible repeat (first | apply Kd.R_alloc | apply Kd.R_drewN | apply Kd.R_drew)); exact Kd.R_mono HQ186.out (fun _ hk => ⟨hk.1.1.1, ⟨hk.1.1.2.1, ⟨hk.1.1.2.2, ⟨hk.1.2, hk.2⟩⟩⟩⟩)⟩
            have n4_ : Aside0 (Kd.R k60 60 ((w185.setCell ⟨go184, ((ji181) : Int).toNat * 2, none⟩ (.string ((rd_T60 l1_4 x20_4).f0))).setCell ⟨go184, ((ji181) : Int).toNat * 2 + 1, none⟩ (.string ((rd_T60 l1_4 x20_4).f1))) w.heap.size (fun k_ => some k_ ≠ (.slice Ao154 x1251004_4.length co154 : Value).ownBlock ∧ some k_ ≠ (u1252004 : Value).ownBlock ∧ some k_ ≠ (u1253004 : Value).ownBlock ∧ some k_ ≠ (.slice (some ⟨go184, 0, none⟩) x1284004_4.length co184 : Value).ownBlock ∧ some k_ ≠ (.slice Ao170 y1295.length co170 : Value).ownBlock) (.slice Ao166 t1290.length co166) t1290) := ⟨by (with_reducible repeat (first | apply Kd.R_alloc | apply Kd.R_drewN | apply Kd.R_drew)); exact Kd.R_mono (Kd.R_far (p := ⟨go184, ((ji181) : Int).toNat * 2 + 1, none⟩) (Kd.R_far (p := ⟨go184, ((ji181) : Int).toNat * 2, none⟩) (Kd.R_mono HO1292.out (fun k_ hk => (⟨hk, fun e_ => hk.1.2 (by rw [e_]; rfl)⟩ : _ ∧ k_ ≠ go184))) (fun _ hk => hk.2) (.string ((rd_T60 l1_4 x20_4).f0))) (fun _ hk => hk.2) (.string ((rd_T60 l1_4 x20_4).f1))) (fun _ hk => ⟨hk.1.1.1.1.1.2, ⟨hk.1.1.1.1.2, ⟨hk.1.1.1.2, ⟨hk.1.1.2, hk.1.2⟩⟩⟩⟩)⟩
            have n5_ : Aside0 (Kd.R k60 60 ((w185.setCell ⟨go184, ((ji181) : Int).toNat * 2, none⟩ (.string ((rd_T60 l1_4 x20_4).f0))).setCell ⟨go184, ((ji181) : Int).toNat * 2 + 1, none⟩ (.string ((rd_T60 l1_4 x20_4).f1))) w.heap.size (fun k_ => some k_ ≠ (.slice Ao154 x1251004_4.length co154 : Value).ownBlock ∧ some k_ ≠ (u1252004 : Value).ownBlock ∧ some k_ ≠ (u1253004 : Value).ownBlock ∧ some k_ ≠ (.slice (some ⟨go184, 0, none⟩) x1284004_4.length co184 : Value).ownBlock ∧ some k_ ≠ (.slice Ao166 t1290.length co166 : Value).ownBlock) (.slice Ao170 y1295.length co170) y1295) := ⟨by (with_reducible repeat (first | apply Kd.R_alloc | apply Kd.R_drewN | apply Kd.R_drew)); exact Kd.R_mono (Kd.R_far (p := ⟨go184, ((ji181) : Int).toNat * 2 + 1, none⟩) (Kd.R_far (p := ⟨go184, ((ji181) : Int).toNat * 2, none⟩) (Kd.R_mono HO1297.out (fun k_ hk => (⟨hk, fun e_ => hk.1.2 (by rw [e_]; rfl)⟩ : _ ∧ k_ ≠ go184))) (fun _ hk => hk.2) (.string ((rd_T60 l1_4 x20_4).f0))) (fun _ hk => hk.2) (.string ((rd_T60 l1_4 x20_4).f1))) (fun _ hk => ⟨hk.1.1.1.1.1.2, ⟨hk.1.1.1.1.2, ⟨hk.1.1.1.2, ⟨hk.1.1.2, hk.1.2⟩⟩⟩⟩)⟩
            have n6_ : Aside0 (((w185.setCell ⟨go184, ((ji181) : Int).toNat * 2, none⟩ (.string ((rd_T60 l1_4 x20_4).f0))).setCell ⟨go184, ((ji181) : Int).toNat * 2 + 1, none⟩ (.string ((rd_T60 l1_4 x20_4).f1))).heap[gb1226]? = some (.cells #[.bool a0_0, .string a0_1, .string a0_2, .string a0_3, .int .i64 a0_4, .int .i64 a0_5, .string a0_6, .string a0_7, .int .i64 a0_8] 45 (0, 0))) := ⟨by refine blk_far ?_ (by have h_ := Kd.R_ne HO_1284004.out BK1226.out (by decide); intro e_; exact h_ (by rw [e_]; rfl)) _; refine blk_far ?_ (by have h_ := Kd.R_ne HO_1284004.out BK1226.out (by decide); intro e_; exact h_ (by rw [e_]; rfl)) _; exact BK1226.out⟩
            have n7_ : Aside0 (((w185.setCell ⟨go184, ((ji181) : Int).toNat * 2, none⟩ (.string ((rd_T60 l1_4 x20_4).f0))).setCell ⟨go184, ((ji181) : Int).toNat * 2 + 1, none⟩ (.string ((rd_T60 l1_4 x20_4).f1))).heap[gb1227]? = some (.cells #[.string a1_0, .string a1_1, .bool a1_2, .bool a1_3, .slice (some ad1294) l1_4.length c1_4] 54 (0, 0))) := ⟨by refine blk_far ?_ (by have h_ := Kd.R_ne HO_1284004.out BK1227.out (by decide); intro e_; exact h_ (by rw [e_]; rfl)) _; refine blk_far ?_ (by have h_ := Kd.R_ne HO_1284004.out BK1227.out (by decide); intro e_; exact h_ (by rw [e_]; rfl)) _; exact BK1227.out⟩
            have n8_ : Aside0 (((w185.setCell ⟨go184, ((ji181) : Int).toNat * 2, none⟩ (.string ((rd_T60 l1_4 x20_4).f0))).setCell ⟨go184, ((ji181) : Int).toNat * 2 + 1, none⟩ (.string ((rd_T60 l1_4 x20_4).f1))).heap[gb1250]? = some (.cells #[.string t1229, .string t1230, .bool false, .bool false, .slice Ao154 x1251004_4.length co154] 54 (0, 0))) := ⟨by refine blk_far ?_ (by have h_ := Kd.R_ne HO_1284004.out BK1250.out (by decide); intro e_; exact h_ (by rw [e_]; rfl)) _; refine blk_far ?_ (by have h_ := Kd.R_ne HO_1284004.out BK1250.out (by decide); intro e_; exact h_ (by rw [e_]; rfl)) _; exact BK1250.out⟩
            have n9_ : Aside0 (((w185.setCell ⟨go184, ((ji181) : Int).toNat * 2, none⟩ (.string ((rd_T60 l1_4 x20_4).f0))).setCell ⟨go184, ((ji181) : Int).toNat * 2 + 1, none⟩ (.string ((rd_T60 l1_4 x20_4).f1))).heap[gb1251]? = some (.cells #[.string t1236, .string t1237, .bool true, .bool false, u1252004] 54 (0, 0))) := ⟨by refine blk_far ?_ (by have h_ := Kd.R_ne HO_1284004.out BK1251.out (by decide); intro e_; exact h_ (by rw [e_]; rfl)) _; refine blk_far ?_ (by have h_ := Kd.R_ne HO_1284004.out BK1251.out (by decide); intro e_; exact h_ (by rw [e_]; rfl)) _; exact BK1251.out⟩
            have n10_ : Aside0 (((w185.setCell ⟨go184, ((ji181) : Int).toNat * 2, none⟩ (.string ((rd_T60 l1_4 x20_4).f0))).setCell ⟨go184, ((ji181) : Int).toNat * 2 + 1, none⟩ (.string ((rd_T60 l1_4 x20_4).f1))).heap[gb1252]? = some (.cells #[.string t1243, .string t1244, .bool false, .bool true, u1253004] 54 (0, 0))) := ⟨by refine blk_far ?_ (by have h_ := Kd.R_ne HO_1284004.out BK1252.out (by decide); intro e_; exact h_ (by rw [e_]; rfl)) _; refine blk_far ?_ (by have h_ := Kd.R_ne HO_1284004.out BK1252.out (by decide); intro e_; exact h_ (by rw [e_]; rfl)) _; exact BK1252.out⟩
            have n11_ : Aside0 (((w185.setCell ⟨go184, ((ji181) : Int).toNat * 2, none⟩ (.string ((rd_T60 l1_4 x20_4).f0))).setCell ⟨go184, ((ji181) : Int).toNat * 2 + 1, none⟩ (.string ((rd_T60 l1_4 x20_4).f1))).heap[gb1270]? = some (.cells #[.bool t1266, .string t1267, .string t1268] 23 (0, 0))) := ⟨by refine blk_far ?_ (by have h_ := Kd.R_ne HO_1284004.out BK1270.out (by decide); intro e_; exact h_ (by rw [e_]; rfl)) _; refine blk_far ?_ (by have h_ := Kd.R_ne HO_1284004.out BK1270.out (by decide); intro e_; exact h_ (by rw [e_]; rfl)) _; exact BK1270.out⟩
            have n12_ : Aside0 (((w185.setCell ⟨go184, ((ji181) : Int).toNat * 2, none⟩ (.string ((rd_T60 l1_4 x20_4).f0))).setCell ⟨go184, ((ji181) : Int).toNat * 2 + 1, none⟩ (.string ((rd_T60 l1_4 x20_4).f1))).heap[gb1275]? = some (.cells #[.bool t1271, .string t1272, .string t1273] 23 (0, 0))) := ⟨by refine blk_far ?_ (by have h_ := Kd.R_ne HO_1284004.out BK1275.out (by decide); intro e_; exact h_ (by rw [e_]; rfl)) _; refine blk_far ?_ (by have h_ := Kd.R_ne HO_1284004.out BK1275.out (by decide); intro e_; exact h_ (by rw [e_]; rfl)) _; exact BK1275.out⟩
            have n13_ : Aside0 (((w185.setCell ⟨go184, ((ji181) : Int).toNat * 2, none⟩ (.string ((rd_T60 l1_4 x20_4).f0))).setCell ⟨go184, ((ji181) : Int).toNat * 2 + 1, none⟩ (.string ((rd_T60 l1_4 x20_4).f1))).heap[gb1283]? = some (.cells #[.string t1276, .string t1277, .bool t1278, .bool t1279, .slice (some ⟨go184, 0, none⟩) x1284004_4.length co184] 54 (0, 0))) := ⟨by refine blk_far ?_ (by have h_ := Kd.R_ne HO_1284004.out BK1283.out (by decide); intro e_; exact h_ (by rw [e_]; rfl)) _; refine blk_far ?_ (by have h_ := Kd.R_ne HO_1284004.out BK1283.out (by decide); intro e_; exact h_ (by rw [e_]; rfl)) _; exact BK1283.out⟩
            have n14_ : Aside0 (((w185.setCell ⟨go184, ((ji181) : Int).toNat * 2, none⟩ (.string ((rd_T60 l1_4 x20_4).f0))).setCell ⟨go184, ((ji181) : Int).toNat * 2 + 1, none⟩ (.string ((rd_T60 l1_4 x20_4).f1))).heap[gb1293]? = some (.cells #[.string t1286, .string t1287, .bool t1288, .bool t1289, .slice Ao170 y1295.length co170] 54 (0, 0))) := ⟨by refine blk_far ?_ (by have h_ := Kd.R_ne HO_1284004.out BK1293.out (by decide); intro e_; exact h_ (by rw [e_]; rfl)) _; refine blk_far ?_ (by have h_ := Kd.R_ne HO_1284004.out BK1293.out (by decide); intro e_; exact h_ (by rw [e_]; rfl)) _; exact BK1293.out⟩
            have n15_ : Aside0 (Below w.heap.size w ((w185.setCell ⟨go184, ((ji181) : Int).toNat * 2, none⟩ (.string ((rd_T60 l1_4 x20_4).f0))).setCell ⟨go184, ((ji181) : Int).toNat * 2 + 1, none⟩ (.string ((rd_T60 l1_4 x20_4).f1)))) := ⟨hb_⟩
            (try clear HO_1251004)
            (try clear HO_1252004)
            (try clear HO_1253004)
            (try clear HO_1284004)
            (try clear HO1292)
            (try clear HO1297)
            (try clear BK1226)
            (try clear BK1227)
            (try clear BK1250)
            (try clear BK1251)
            (try clear BK1252)
            (try clear BK1270)
            (try clear BK1275)
            (try clear BK1283)
            (try clear BK1293)
            (try clear HB)
            generalize ((w185.setCell ⟨go184, ((ji181) : Int).toNat * 2, none⟩ (.string ((rd_T60 l1_4 x20_4).f0))).setCell ⟨go184, ((ji181) : Int).toNat * 2 + 1, none⟩ (.string ((rd_T60 l1_4 x20_4).f1))) = w187 at n0_ n1_ n2_ n3_ n4_ n5_ n6_ n7_ n8_ n9_ n10_ n11_ n12_ n13_ n14_ n15_ ⊢
            have HO_1251004 := n0_
            have HO_1252004 := n1_
            have HO_1253004 := n2_
            have HO_1284004 := n3_
            have HO1292 := n4_
            have HO1297 := n5_
            have BK1226 := n6_
            have BK1227 := n7_
            have BK1250 := n8_
            have BK1251 := n9_
            have BK1252 := n10_
            have BK1270 := n11_
            have BK1275 := n12_
            have BK1283 := n13_
            have BK1293 := n14_
            have HB := n15_
            clear n0_ n1_ n2_ n3_ n4_ n5_ n6_ n7_ n8_ n9_ n10_ n11_ n12_ n13_ n14_ n15_
            try go_wp2
            go_roundg k4
            case measure => have := HJ15.out; have := HJ70.out; have := HJ76.out; have := HK4.out; omega
            case rel => exact ⟨(true), (wrap64 (x20_4 + 1)), (x1251004_4), (x1252004_4), (x1253004_4), (y1301), (.slice Ao154 x1251004_4.length co154), (u1252004), (u1253004), (.slice (some ⟨go184, 0, none⟩) x1284004_4.length co184), (by first | rfl | (simp; done) | (simp [*]; done)), (by first | rfl | (simp; done) | (simp [*]; done)), H', ⟨by have := HJ15.out; have := HJ70.out; have := HJ76.out; have := HK4.out; omega⟩, ⟨by (with_reducible repeat (first | apply Kd.R_alloc | apply Kd.R_drewN | apply Kd.R_drew)); exact Kd.R_mono HO_1251004.out (fun _ hk => ⟨hk.1, ⟨hk.2.1, hk.2.2.1⟩⟩)⟩, ⟨by (with_reducible repeat (first | apply Kd.R_alloc | apply Kd.R_drewN | apply Kd.R_drew)); exact Kd.R_mono HO_1252004.out (fun _ hk => ⟨hk.1, ⟨hk.2.1, hk.2.2.1⟩⟩)⟩, ⟨by (with_reducible repeat (first | apply Kd.R_alloc | apply Kd.R_drewN | apply Kd.R_drew)); exact Kd.R_mono HO_1253004.out (fun _ hk => ⟨hk.1, ⟨hk.2.1, hk.2.2.1⟩⟩)⟩, ⟨by (with_reducible repeat (first | apply Kd.R_alloc | apply Kd.R_drewN | apply Kd.R_drew)); exact Kd.R_mono HO_1284004.out (fun _ hk => ⟨hk.1, ⟨hk.2.1, hk.2.2.1⟩⟩)⟩, ⟨by exact BK1226.out⟩, ⟨by exact BK1227.out⟩, ⟨by exact BK1250.out⟩, ⟨by exact BK1251.out⟩, ⟨by exact BK1252.out⟩, ⟨by exact BK1270.out⟩, ⟨by exact BK1275.out⟩, ⟨by exact BK1283.out⟩, ⟨hb_⟩⟩
           ·rw [if_neg c183] at H
            exact absurd H (by simp)
          ·rw [if_neg c182] at H
           exact absurd H (by simp)
         ·replace c180 := Bool.eq_false_iff.mpr c180
          subst c180
          have H1 : (if 0 ≤ (wrap64 ((wrap64 ((l1_4.length : Int) - 1)) - x20_4)) then (if (wrap64 ((wrap64 ((l1_4.length : Int) - 1)) - x20_4)) < (x1284004_4.length : Int) then (idiomlaw04_OperandLists.l0 k4 t1260 t1298 (wrap64 (x20_4 + 1)) a0_0 a0_1 a0_2 a0_3 a0_4 a0_5 a0_6 a0_7 a0_8 a1_0 a1_1 a1_2 a1_3 l1_4 t1229 t1230 false false x1251004_4 t1276 t1277 t1278 t1279 (x1284004_4.set ((wrap64 ((wrap64 ((l1_4.length : Int) - 1)) - x20_4)) : Int).toNat (⟨(rd_T60 l1_4 x20_4).f0, (rd_T60 l1_4 x20_4).f1⟩ : S60))) else (none)) else (none)) = some r := by rw [if_neg (show ¬ (false = true) by decide)] at H; exact H
          clear H
          have H := H1
          clear H1
          obtain ⟨ji188, hji188⟩ : ∃ j_ : Int, (wrap64 ((wrap64 ((l1_4.length : Int) - 1)) - x20_4)) = j_ := ⟨_, rfl⟩
          replace H : (if 0 ≤ (ji188) then (if (ji188) < (x1284004_4.length : Int) then (idiomlaw04_OperandLists.l0 k4 t1260 t1298 (wrap64 (x20_4 + 1)) a0_0 a0_1 a0_2 a0_3 a0_4 a0_5 a0_6 a0_7 a0_8 a1_0 a1_1 a1_2 a1_3 l1_4 t1229 t1230 false false x1251004_4 t1276 t1277 t1278 t1279 (x1284004_4.set ((ji188) : Int).toNat (⟨(rd_T60 l1_4 x20_4).f0, (rd_T60 l1_4 x20_4).f1⟩ : S60))) else (none)) else (none)) = some r := by first | (rw [hji188] at H; exact H) | (simp only [hji188] at H ⊢; exact H)
          have hji188w : (IntKind.i64.wrap ((wrap64 ((l1_4.length : Int) - 1)) - x20_4)) = ji188 := (i64_w _).trans hji188
          by_cases c189 : 0 ≤ (ji188)
          ·rw [if_pos c189] at H
           have c189b0 : decide (0 ≤ (ji188)) = true := decide_eq_true c189
           clear c189
           by_cases c190 : (ji188) < (x1284004_4.length : Int)
           ·rw [if_pos c190] at H
            have c190b0 : decide ((ji188) < (x1284004_4.length : Int)) = true := decide_eq_true c190
            clear c190
            obtain ⟨y1303, hy1303⟩ : ∃ y_ : List (S60), y_ = (x1284004_4.set ((ji188) : Int).toNat (⟨(rd_T60 l1_4 x20_4).f0, (rd_T60 l1_4 x20_4).f1⟩ : S60)) := ⟨_, rfl⟩
            rw [← hy1303] at H
            have Ny1303 := Aside0.mk hy1303
            clear hy1303
            have H' := Aside0.mk H
            clear H
            try go_wp2
            replace HO_1251004 := Aside0.mk (Kd.R_drew HO_1251004.out)
            replace HO_1252004 := Aside0.mk (Kd.R_drew HO_1252004.out)
            replace HO_1253004 := Aside0.mk (Kd.R_drew HO_1253004.out)
            replace HO_1284004 := Aside0.mk (Kd.R_drew HO_1284004.out)
            replace HO1292 := Aside0.mk (Kd.R_drew HO1292.out)
            replace HO1297 := Aside0.mk (Kd.R_drew HO1297.out)
            replace BK1226 := Aside0.mk (blk_drew BK1226.out)
            replace BK1227 := Aside0.mk (blk_drew BK1227.out)
            replace BK1250 := Aside0.mk (blk_drew BK1250.out)
            replace BK1251 := Aside0.mk (blk_drew BK1251.out)
            replace BK1252 := Aside0.mk (blk_drew BK1252.out)
            replace BK1270 := Aside0.mk (blk_drew BK1270.out)
            replace BK1275 := Aside0.mk (blk_drew BK1275.out)
            replace BK1283 := Aside0.mk (blk_drew BK1283.out)
            replace BK1293 := Aside0.mk (blk_drew BK1293.out)
            replace HB := Aside0.mk (below_drew1 HB.out)
            have p1302 : 0 ≤ (x20_4 : Int) := of_decide_eq_true (by first | (with_reducible assumption) | assumption)
            have q1302 : x20_4 < (l1_4.length : Int) := of_decide_eq_true (by first | (with_reducible assumption) | assumption)
            obtain ⟨ad1302, e1302, hx1302_0, hx1302_1⟩ := at_T60 HR1_4.out x20_4 p1302 q1302
            have hw1302_1 := hx1302_1
            have hw1302_0 := hx1302_0
            obtain rfl : ad1294 = ad1302 := (by injection e1302)
            replace hx1302_0 := (HB.out.cell (World.block_lt_of_cell? w _ hx1302_0)).trans hx1302_0
            replace hx1302_1 := (HB.out.cell (World.block_lt_of_cell? w _ hx1302_1)).trans hx1302_1
            replace p1302 := eq_true p1302
            replace q1302 := eq_true q1302
            have p191 : 0 ≤ ((ji188) : Int) := of_decide_eq_true (by first | (with_reducible assumption) | assumption)
            have q191 : ((ji188) : Int) < ((x1284004_4.length : Int) : Int) := of_decide_eq_true (by first | (with_reducible assumption) | assumption)
            obtain ⟨go191, co191, eo191, gb191, gl191, cl191, HG191⟩ := Kd.R_form HO_1284004.out (by omega)
            (first | cases eo191 | (injection eo191 with ea_ en_ ec_; (first | subst ea_ | (injection ea_ with ea_; subst ea_)); subst ec_; clear en_))
            have GB191 := Aside0.mk gb191
            have GG191 := Aside0.mk HG191
            clear gb191 gl191 HG191
            obtain ⟨ce191, hcl191, hM191, hcc191, hfr191⟩ := Kd.R_elem HO_1284004.out z60 ((ji188) : Int) p191 q191
            obtain rfl := k60_openM hM191
            have hx191_0 : World.cell? _ ⟨go191, ((ji188) : Int).toNat * 2, none⟩ = some (.string ((rd_T60 x1284004_4 (ji188)).f0)) := hcc191 0 _ rfl
            have hx191_1 : World.cell? _ ⟨go191, ((ji188) : Int).toNat * 2 + 1, none⟩ = some (.string ((rd_T60 x1284004_4 (ji188)).f1)) := hcc191 1 _ rfl
            have hf191_0 : World.frozen? _ ⟨go191, ((ji188) : Int).toNat * 2, none⟩ = false := hfr191 0
            have hf191_1 : World.frozen? _ ⟨go191, ((ji188) : Int).toNat * 2 + 1, none⟩ = false := hfr191 1
            clear hcl191 hcc191 hfr191 hM191
            replace p191 := eq_true p191
            replace q191 := eq_true q191
            obtain ⟨ce193, hcl193, hM193, hcc193, hfr193⟩ := Kd.R_elem HO_1284004.out z60 ((ji188) : Int) (of_decide_eq_true (by first | (with_reducible assumption) | assumption)) (by have h_ : ((ji188) : Int) < ((x1284004_4.length : Int) : Int) := of_decide_eq_true (by first | (with_reducible assumption) | assumption); first | exact h_ | (have e_ := (Kd.R_reads' HO_1284004.out).1; omega) | simpa using h_)
            obtain rfl := k60_openM hM193
            have HP193 := (Kd.R_seg HO_1284004.out ((ji188) : Int) (of_decide_eq_true (by first | (with_reducible assumption) | assumption)) (by have h_ : ((ji188) : Int) < ((x1284004_4.length : Int) : Int) := of_decide_eq_true (by first | (with_reducible assumption) | assumption); first | exact h_ | (have e_ := (Kd.R_reads' HO_1284004.out).1; omega) | simpa using h_) (seg := [.string ((rd_T60 l1_4 x20_4).f0), .string ((rd_T60 l1_4 x20_4).f1)]) (j := 0) hcl193 hcc193 (show 2 ≤ 2 from by decide) (x' := (⟨(rd_T60 l1_4 x20_4).f0, (rd_T60 l1_4 x20_4).f1⟩ : S60)) (k60_mkM _ _ _ (⟨(rd_T60 l1_4 x20_4).f0, (rd_T60 l1_4 x20_4).f1⟩ : S60) ) (fun _ hk => hk)).1
            rw [← Ny1303.out] at HP193
            have HQ193 := Aside0.mk HP193
            clear hcl193 hcc193 hfr193 hM193 HP193
            refine start_ (n := 15) (S := fun w' => w'.cell? ⟨gb1283, 0, none⟩ = some (.string t1276) ∧ w'.cell? ⟨gb1283, 1, none⟩ = some (.string t1277) ∧ w'.cell? ⟨gb1283, 2, none⟩ = some (.bool t1278) ∧ w'.cell? ⟨gb1283, 3, none⟩ = some (.bool t1279) ∧ w'.cell? ⟨gb1283, 4, none⟩ = some (.slice (some ⟨go191, 0, none⟩) x1284004_4.length co191) ∧ w'.cell? ⟨gb1227, 0, none⟩ = some (.string a1_0) ∧ w'.cell? ⟨gb1227, 1, none⟩ = some (.string a1_1) ∧ w'.cell? ⟨gb1227, 2, none⟩ = some (.bool a1_2) ∧ w'.cell? ⟨gb1227, 3, none⟩ = some (.bool a1_3) ∧ w'.cell? ⟨gb1227, 4, none⟩ = some (.slice (some ad1294) l1_4.length c1_4) ∧ w'.cell? (ad1294.add ((x20_4).toNat * 2)) = some (.string ((rd_T60 l1_4 x20_4).f0)) ∧ w'.cell? ⟨(ad1294.add ((x20_4).toNat * 2)).block, (ad1294.add ((x20_4).toNat * 2)).off + 1, none⟩ = some (.string ((rd_T60 l1_4 x20_4).f1))) (ds := [14]) #[false, false, false, false, false, false, false, false, false, false, false, false, false, false, false] (by kernel_rfl) rfl rfl ⟨(blk_cell BK1283.out 0).trans rfl, (blk_cell BK1283.out 1).trans rfl, (blk_cell BK1283.out 2).trans rfl, (blk_cell BK1283.out 3).trans rfl, (blk_cell BK1283.out 4).trans rfl, (blk_cell BK1227.out 0).trans rfl, (blk_cell BK1227.out 1).trans rfl, (blk_cell BK1227.out 2).trans rfl, (blk_cell BK1227.out 3).trans rfl, (blk_cell BK1227.out 4).trans rfl, ((HB.out.cell (World.block_lt_of_cell? w _ hw1302_0)).trans hw1302_0), ((HB.out.cell (World.block_lt_of_cell? w _ hw1302_1)).trans hw1302_1)⟩ (fun hHeld => ?_); refine with_tabW idiomlaw04_OperandLists.tab31 idiomlaw04_OperandLists.bits31 (fun HT_ HW_ => ?_)
            generalize w178.drew = w192 at HO_1251004 HO_1252004 HO_1253004 HO_1284004 HO1292 HO1297 BK1226 BK1227 BK1250 BK1251 BK1252 BK1270 BK1275 BK1283 BK1293 HB GG191 HQ193 hf191_0 hf191_1 hx1302_0 hx1302_1 hx191_0 hx191_1 hHeld ⊢
            refine pr_ 0 (some 148) ?_
            refine pr_ 2 (some 150) ?_
            refine pr_ 6 (some 154) ?_
            refine pr_ 8 (some 156) ?_
            refine pr_ 10 (some 158) ?_
            refine tk_ 1 (some 149) hHeld ?_
            refine tk_ 3 (some 151) hHeld ?_
            refine pr_ 4 (some 152) ?_
            refine pr_ 5 (some 153) ?_
            refine pr_ 7 (some 155) ?_
            refine tk_ 9 (some 157) hHeld ?_
            refine pr_ 11 (some 159) ?_
            refine tk_ 12 (some 160) hHeld ?_
            refine pr_ 13 (some 161) ?_
            refine last_ (i := 14) (N := none) #[true, true, true, true, true, true, true, true, true, true, true, true, true, true, true] rfl rfl (one_of HT_.out (by kernel_rfl)) (by decide) (fun K hK => ?_)
            refine skip_ (w1 := ?w1_5) ?hw_5 ?hN_5 ?hrun_5 ?h_5
            case hw_5 => rfl
            case hN_5 => rfl
            rotate_left
            ·go_simp
             rfl
            refine hK.out _ _ ?_
            clear hK K
            refine done_ (done_of HT_.out (by kernel_rfl)) ?_
            have n0_ : Aside0 (Kd.R k60 60 ((w192.setCell ⟨go191, ((ji188) : Int).toNat * 2, none⟩ (.string ((rd_T60 l1_4 x20_4).f0))).setCell ⟨go191, ((ji188) : Int).toNat * 2 + 1, none⟩ (.string ((rd_T60 l1_4 x20_4).f1))) w.heap.size (fun k_ => some k_ ≠ (u1252004 : Value).ownBlock ∧ some k_ ≠ (u1253004 : Value).ownBlock ∧ some k_ ≠ (.slice (some ⟨go191, 0, none⟩) x1284004_4.length co191 : Value).ownBlock ∧ some k_ ≠ (.slice Ao166 t1290.length co166 : Value).ownBlock ∧ some k_ ≠ (.slice Ao170 y1295.length co170 : Value).ownBlock) (.slice Ao154 x1251004_4.length co154) x1251004_4) := ⟨by (with_reducible repeat (first | apply Kd.R_alloc | apply Kd.R_drewN | apply Kd.R_drew)); exact Kd.R_mono (Kd.R_far (p := ⟨go191, ((ji188) : Int).toNat * 2 + 1, none⟩) (Kd.R_far (p := ⟨go191, ((ji188) : Int).toNat * 2, none⟩) (Kd.R_mono HO_1251004.out (fun k_ hk => (⟨hk, fun e_ => hk.1.1.2.2 (by rw [e_]; rfl)⟩ : _ ∧ k_ ≠ go191))) (fun _ hk => hk.2) (.string ((rd_T60 l1_4 x20_4).f0))) (fun _ hk => hk.2) (.string ((rd_T60 l1_4 x20_4).f1))) (fun _ hk => ⟨hk.1.1.1.1, ⟨hk.1.1.1.2.1, ⟨hk.1.1.1.2.2, ⟨hk.1.1.2, hk.1.2⟩⟩⟩⟩)⟩
            have n1_ : Aside0 (Kd.R k60 60 ((w192.setCell ⟨go191, ((ji188) : Int).toNat * 2, none⟩ (.string ((rd_T60 l1_4 x20_4).f0))).setCell ⟨go191, ((ji188) : Int).toNat * 2 + 1, none⟩ (.string ((rd_T60 l1_4 x20_4).f1))) w.heap.size (fun k_ => some k_ ≠ (.slice Ao154 x1251004_4.length co154 : Value).ownBlock ∧ some k_ ≠ (u1253004 : Value).ownBlock ∧ some k_ ≠ (.slice (some ⟨go191, 0, none⟩) x1284004_4.length co191 : Value).ownBlock ∧ some k_ ≠ (.slice Ao166 t1290.length co166 : Value).ownBlock ∧ some k_ ≠ (.slice Ao170 y1295.length co170 : Value).ownBlock) u1252004 x1252004_4) := ⟨by (with_reducible repeat (first | apply Kd.R_alloc | apply Kd.R_drewN | apply Kd.R_drew)); exact Kd.R_mono (Kd.R_far (p := ⟨go191, ((ji188) : Int).toNat * 2 + 1, none⟩) (Kd.R_far (p := ⟨go191, ((ji188) : Int).toNat * 2, none⟩) (Kd.R_mono HO_1252004.out (fun k_ hk => (⟨hk, fun e_ => hk.1.1.2.2 (by rw [e_]; rfl)⟩ : _ ∧ k_ ≠ go191))) (fun _ hk => hk.2) (.string ((rd_T60 l1_4 x20_4).f0))) (fun _ hk => hk.2) (.string ((rd_T60 l1_4 x20_4).f1))) (fun _ hk => ⟨hk.1.1.1.1, ⟨hk.1.1.1.2.1, ⟨hk.1.1.1.2.2, ⟨hk.1.1.2, hk.1.2⟩⟩⟩⟩)⟩
            have n2_ : Aside0 (Kd.R k60 60 ((w192.setCell ⟨go191, ((ji188) : Int).toNat * 2, none⟩ (.string ((rd_T60 l1_4 x20_4).f0))).setCell ⟨go191, ((ji188) : Int).toNat * 2 + 1, none⟩ (.string ((rd_T60 l1_4 x20_4).f1))) w.heap.size (fun k_ => some k_ ≠ (.slice Ao154 x1251004_4.length co154 : Value).ownBlock ∧ some k_ ≠ (u1252004 : Value).ownBlock ∧ some k_ ≠ (.slice (some ⟨go191, 0, none⟩) x1284004_4.length co191 : Value).ownBlock ∧ some k_ ≠ (.slice Ao166 t1290.length co166 : Value).ownBlock ∧ some k_ ≠ (.slice Ao170 y1295.length co170 : Value).ownBlock) u1253004 x1253004_4) := ⟨by (with_reducible repeat (first | apply Kd.R_alloc | apply Kd.R_drewN | apply Kd.R_drew)); exact Kd.R_mono (Kd.R_far (p := ⟨go191, ((ji188) : Int).toNat * 2 + 1, none⟩) (Kd.R_far (p := ⟨go191, ((ji188) : Int).toNat * 2, none⟩) (Kd.R_mono HO_1253004.out (fun k_ hk => (⟨hk, fun e_ => hk.1.1.2.2 (by rw [e_]; rfl)⟩ : _ ∧ k_ ≠ go191))) (fun _ hk => hk.2) (.string ((rd_T60 l1_4 x20_4).f0))) (fun _ hk => hk.2) (.string ((rd_T60 l1_4 x20_4).f1))) (fun _ hk => ⟨hk.1.1.1.1, ⟨hk.1.1.1.2.1, ⟨hk.1.1.1.2.2, ⟨hk.1.1.2, hk.1.2⟩⟩⟩⟩)⟩
            have n3_ : Aside0 (Kd.R k60 60 ((w192.setCell ⟨go191, ((ji188) : Int).toNat * 2, none⟩ (.string ((rd_T60 l1_4 x20_4).f0))).setCell ⟨go191, ((ji188) : Int).toNat * 2 + 1, none⟩ (.string ((rd_T60 l1_4 x20_4).f1))) w.heap.size (fun k_ => some k_ ≠ (.slice Ao154 x1251004_4.length co154 : Value).ownBlock ∧ some k_ ≠ (u1252004 : Value).ownBlock ∧ some k_ ≠ (u1253004 : Value).ownBlock ∧ some k_ ≠ (.slice Ao166 t1290.length co166 : Value).ownBlock ∧ some k_ ≠ (.slice Ao170 y1295.length co170 : Value).ownBlock) (.slice (some ⟨go191, 0, none⟩) x1284004_4.length co191) y1303) := ⟨by (with_reducible repeat (first | apply Kd.R_alloc | apply Kd.R_drewN | apply Kd.R_drew)); exact Kd.R_mono HQ193.out (fun _ hk => ⟨hk.1.1.1, ⟨hk.1.1.2.1, ⟨hk.1.1.2.2, ⟨hk.1.2, hk.2⟩⟩⟩⟩)⟩
            have n4_ : Aside0 (Kd.R k60 60 ((w192.setCell ⟨go191, ((ji188) : Int).toNat * 2, none⟩ (.string ((rd_T60 l1_4 x20_4).f0))).setCell ⟨go191, ((ji188) : Int).toNat * 2 + 1, none⟩ (.string ((rd_T60 l1_4 x20_4).f1))) w.heap.size (fun k_ => some k_ ≠ (.slice Ao154 x1251004_4.length co154 : Value).ownBlock ∧ some k_ ≠ (u1252004 : Value).ownBlock ∧ some k_ ≠ (u1253004 : Value).ownBlock ∧ some k_ ≠ (.slice (some ⟨go191, 0, none⟩) x1284004_4.length co191 : Value).ownBlock ∧ some k_ ≠ (.slice Ao170 y1295.length co170 : Value).ownBlock) (.slice Ao166 t1290.length co166) t1290) := ⟨by (with_reducible repeat (first | apply Kd.R_alloc | apply Kd.R_drewN | apply Kd.R_drew)); exact Kd.R_mono (Kd.R_far (p := ⟨go191, ((ji188) : Int).toNat * 2 + 1, none⟩) (Kd.R_far (p := ⟨go191, ((ji188) : Int).toNat * 2, none⟩) (Kd.R_mono HO1292.out (fun k_ hk => (⟨hk, fun e_ => hk.1.2 (by rw [e_]; rfl)⟩ : _ ∧ k_ ≠ go191))) (fun _ hk => hk.2) (.string ((rd_T60 l1_4 x20_4).f0))) (fun _ hk => hk.2) (.string ((rd_T60 l1_4 x20_4).f1))) (fun _ hk => ⟨hk.1.1.1.1.1.2, ⟨hk.1.1.1.1.2, ⟨hk.1.1.1.2, ⟨hk.1.1.2, hk.1.2⟩⟩⟩⟩)⟩
            have n5_ : Aside0 (Kd.R k60 60 ((w192.setCell ⟨go191, ((ji188) : Int).toNat * 2, none⟩ (.string ((rd_T60 l1_4 x20_4).f0))).setCell ⟨go191, ((ji188) : Int).toNat * 2 + 1, none⟩ (.string ((rd_T60 l1_4 x20_4).f1))) w.heap.size (fun k_ => some k_ ≠ (.slice Ao154 x1251004_4.length co154 : Value).ownBlock ∧ some k_ ≠ (u1252004 : Value).ownBlock ∧ some k_ ≠ (u1253004 : Value).ownBlock ∧ some k_ ≠ (.slice (some ⟨go191, 0, none⟩) x1284004_4.length co191 : Value).ownBlock ∧ some k_ ≠ (.slice Ao166 t1290.length co166 : Value).ownBlock) (.slice Ao170 y1295.length co170) y1295) := ⟨by (with_reducible repeat (first | apply Kd.R_alloc | apply Kd.R_drewN | apply Kd.R_drew)); exact Kd.R_mono (Kd.R_far (p := ⟨go191, ((ji188) : Int).toNat * 2 + 1, none⟩) (Kd.R_far (p := ⟨go191, ((ji188) : Int).toNat * 2, none⟩) (Kd.R_mono HO1297.out (fun k_ hk => (⟨hk, fun e_ => hk.1.2 (by rw [e_]; rfl)⟩ : _ ∧ k_ ≠ go191))) (fun _ hk => hk.2) (.string ((rd_T60 l1_4 x20_4).f0))) (fun _ hk => hk.2) (.string ((rd_T60 l1_4 x20_4).f1))) (fun _ hk => ⟨hk.1.1.1.1.1.2, ⟨hk.1.1.1.1.2, ⟨hk.1.1.1.2, ⟨hk.1.1.2, hk.1.2⟩⟩⟩⟩)⟩
            have n6_ : Aside0 (((w192.setCell ⟨go191, ((ji188) : Int).toNat * 2, none⟩ (.string ((rd_T60 l1_4 x20_4).f0))).setCell ⟨go191, ((ji188) : Int).toNat * 2 + 1, none⟩ (.string ((rd_T60 l1_4 x20_4).f1))).heap[gb1226]? = some (.cells #[.bool a0_0, .string a0_1, .string a0_2, .string a0_3, .int .i64 a0_4, .int .i64 a0_5, .string a0_6, .string a0_7, .int .i64 a0_8] 45 (0, 0))) := ⟨by refine blk_far ?_ (by have h_ := Kd.R_ne HO_1284004.out BK1226.out (by decide); intro e_; exact h_ (by rw [e_]; rfl)) _; refine blk_far ?_ (by have h_ := Kd.R_ne HO_1284004.out BK1226.out (by decide); intro e_; exact h_ (by rw [e_]; rfl)) _; exact BK1226.out⟩
            have n7_ : Aside0 (((w192.setCell ⟨go191, ((ji188) : Int).toNat * 2, none⟩ (.string ((rd_T60 l1_4 x20_4).f0))).setCell ⟨go191, ((ji188) : Int).toNat * 2 + 1, none⟩ (.string ((rd_T60 l1_4 x20_4).f1))).heap[gb1227]? = some (.cells #[.string a1_0, .string a1_1, .bool a1_2, .bool a1_3, .slice (some ad1294) l1_4.length c1_4] 54 (0, 0))) := ⟨by refine blk_far ?_ (by have h_ := Kd.R_ne HO_1284004.out BK1227.out (by decide); intro e_; exact h_ (by rw [e_]; rfl)) _; refine blk_far ?_ (by have h_ := Kd.R_ne HO_1284004.out BK1227.out (by decide); intro e_; exact h_ (by rw [e_]; rfl)) _; exact BK1227.out⟩
            have n8_ : Aside0 (((w192.setCell ⟨go191, ((ji188) : Int).toNat * 2, none⟩ (.string ((rd_T60 l1_4 x20_4).f0))).setCell ⟨go191, ((ji188) : Int).toNat * 2 + 1, none⟩ (.string ((rd_T60 l1_4 x20_4).f1))).heap[gb1250]? = some (.cells #[.string t1229, .string t1230, .bool false, .bool false, .slice Ao154 x1251004_4.length co154] 54 (0, 0))) := ⟨by refine blk_far ?_ (by have h_ := Kd.R_ne HO_1284004.out BK1250.out (by decide); intro e_; exact h_ (by rw [e_]; rfl)) _; refine blk_far ?_ (by have h_ := Kd.R_ne HO_1284004.out BK1250.out (by decide); intro e_; exact h_ (by rw [e_]; rfl)) _; exact BK1250.out⟩
            have n9_ : Aside0 (((w192.setCell ⟨go191, ((ji188) : Int).toNat * 2, none⟩ (.string ((rd_T60 l1_4 x20_4).f0))).setCell ⟨go191, ((ji188) : Int).toNat * 2 + 1, none⟩ (.string ((rd_T60 l1_4 x20_4).f1))).heap[gb1251]? = some (.cells #[.string t1236, .string t1237, .bool true, .bool false, u1252004] 54 (0, 0))) := ⟨by refine blk_far ?_ (by have h_ := Kd.R_ne HO_1284004.out BK1251.out (by decide); intro e_; exact h_ (by rw [e_]; rfl)) _; refine blk_far ?_ (by have h_ := Kd.R_ne HO_1284004.out BK1251.out (by decide); intro e_; exact h_ (by rw [e_]; rfl)) _; exact BK1251.out⟩
            have n10_ : Aside0 (((w192.setCell ⟨go191, ((ji188) : Int).toNat * 2, none⟩ (.string ((rd_T60 l1_4 x20_4).f0))).setCell ⟨go191, ((ji188) : Int).toNat * 2 + 1, none⟩ (.string ((rd_T60 l1_4 x20_4).f1))).heap[gb1252]? = some (.cells #[.string t1243, .string t1244, .bool false, .bool true, u1253004] 54 (0, 0))) := ⟨by refine blk_far ?_ (by have h_ := Kd.R_ne HO_1284004.out BK1252.out (by decide); intro e_; exact h_ (by rw [e_]; rfl)) _; refine blk_far ?_ (by have h_ := Kd.R_ne HO_1284004.out BK1252.out (by decide); intro e_; exact h_ (by rw [e_]; rfl)) _; exact BK1252.out⟩
            have n11_ : Aside0 (((w192.setCell ⟨go191, ((ji188) : Int).toNat * 2, none⟩ (.string ((rd_T60 l1_4 x20_4).f0))).setCell ⟨go191, ((ji188) : Int).toNat * 2 + 1, none⟩ (.string ((rd_T60 l1_4 x20_4).f1))).heap[gb1270]? = some (.cells #[.bool t1266, .string t1267, .string t1268] 23 (0, 0))) := ⟨by refine blk_far ?_ (by have h_ := Kd.R_ne HO_1284004.out BK1270.out (by decide); intro e_; exact h_ (by rw [e_]; rfl)) _; refine blk_far ?_ (by have h_ := Kd.R_ne HO_1284004.out BK1270.out (by decide); intro e_; exact h_ (by rw [e_]; rfl)) _; exact BK1270.out⟩
            have n12_ : Aside0 (((w192.setCell ⟨go191, ((ji188) : Int).toNat * 2, none⟩ (.string ((rd_T60 l1_4 x20_4).f0))).setCell ⟨go191, ((ji188) : Int).toNat * 2 + 1, none⟩ (.string ((rd_T60 l1_4 x20_4).f1))).heap[gb1275]? = some (.cells #[.bool t1271, .string t1272, .string t1273] 23 (0, 0))) := ⟨by refine blk_far ?_ (by have h_ := Kd.R_ne HO_1284004.out BK1275.out (by decide); intro e_; exact h_ (by rw [e_]; rfl)) _; refine blk_far ?_ (by have h_ := Kd.R_ne HO_1284004.out BK1275.out (by decide); intro e_; exact h_ (by rw [e_]; rfl)) _; exact BK1275.out⟩
            have n13_ : Aside0 (((w192.setCell ⟨go191, ((ji188) : Int).toNat * 2, none⟩ (.string ((rd_T60 l1_4 x20_4).f0))).setCell ⟨go191, ((ji188) : Int).toNat * 2 + 1, none⟩ (.string ((rd_T60 l1_4 x20_4).f1))).heap[gb1283]? = some (.cells #[.string t1276, .string t1277, .bool t1278, .bool t1279, .slice (some ⟨go191, 0, none⟩) x1284004_4.length co191] 54 (0, 0))) := ⟨by refine blk_far ?_ (by have h_ := Kd.R_ne HO_1284004.out BK1283.out (by decide); intro e_; exact h_ (by rw [e_]; rfl)) _; refine blk_far ?_ (by have h_ := Kd.R_ne HO_1284004.out BK1283.out (by decide); intro e_; exact h_ (by rw [e_]; rfl)) _; exact BK1283.out⟩
            have n14_ : Aside0 (((w192.setCell ⟨go191, ((ji188) : Int).toNat * 2, none⟩ (.string ((rd_T60 l1_4 x20_4).f0))).setCell ⟨go191, ((ji188) : Int).toNat * 2 + 1, none⟩ (.string ((rd_T60 l1_4 x20_4).f1))).heap[gb1293]? = some (.cells #[.string t1286, .string t1287, .bool t1288, .bool t1289, .slice Ao170 y1295.length co170] 54 (0, 0))) := ⟨by refine blk_far ?_ (by have h_ := Kd.R_ne HO_1284004.out BK1293.out (by decide); intro e_; exact h_ (by rw [e_]; rfl)) _; refine blk_far ?_ (by have h_ := Kd.R_ne HO_1284004.out BK1293.out (by decide); intro e_; exact h_ (by rw [e_]; rfl)) _; exact BK1293.out⟩
            have n15_ : Aside0 (Below w.heap.size w ((w192.setCell ⟨go191, ((ji188) : Int).toNat * 2, none⟩ (.string ((rd_T60 l1_4 x20_4).f0))).setCell ⟨go191, ((ji188) : Int).toNat * 2 + 1, none⟩ (.string ((rd_T60 l1_4 x20_4).f1)))) := ⟨hb_⟩
            (try clear HO_1251004)
            (try clear HO_1252004)
            (try clear HO_1253004)
            (try clear HO_1284004)
            (try clear HO1292)
            (try clear HO1297)
            (try clear BK1226)
            (try clear BK1227)
            (try clear BK1250)
            (try clear BK1251)
            (try clear BK1252)
            (try clear BK1270)
            (try clear BK1275)
            (try clear BK1283)
            (try clear BK1293)
            (try clear HB)
            generalize ((w192.setCell ⟨go191, ((ji188) : Int).toNat * 2, none⟩ (.string ((rd_T60 l1_4 x20_4).f0))).setCell ⟨go191, ((ji188) : Int).toNat * 2 + 1, none⟩ (.string ((rd_T60 l1_4 x20_4).f1))) = w194 at n0_ n1_ n2_ n3_ n4_ n5_ n6_ n7_ n8_ n9_ n10_ n11_ n12_ n13_ n14_ n15_ ⊢
            have HO_1251004 := n0_
            have HO_1252004 := n1_
            have HO_1253004 := n2_
            have HO_1284004 := n3_
            have HO1292 := n4_
            have HO1297 := n5_
            have BK1226 := n6_
            have BK1227 := n7_
            have BK1250 := n8_
            have BK1251 := n9_
            have BK1252 := n10_
            have BK1270 := n11_
            have BK1275 := n12_
            have BK1283 := n13_
            have BK1293 := n14_
            have HB := n15_
            clear n0_ n1_ n2_ n3_ n4_ n5_ n6_ n7_ n8_ n9_ n10_ n11_ n12_ n13_ n14_ n15_
            try go_wp2
            go_roundg k4
            case measure => have := HJ15.out; have := HJ70.out; have := HJ76.out; have := HK4.out; omega
            case rel => exact ⟨(t1298), (wrap64 (x20_4 + 1)), (x1251004_4), (x1252004_4), (x1253004_4), (y1303), (.slice Ao154 x1251004_4.length co154), (u1252004), (u1253004), (.slice (some ⟨go191, 0, none⟩) x1284004_4.length co191), (by first | rfl | (simp; done) | (simp [*]; done)), (by first | rfl | (simp; done) | (simp [*]; done)), H', ⟨by have := HJ15.out; have := HJ70.out; have := HJ76.out; have := HK4.out; omega⟩, ⟨by (with_reducible repeat (first | apply Kd.R_alloc | apply Kd.R_drewN | apply Kd.R_drew)); exact Kd.R_mono HO_1251004.out (fun _ hk => ⟨hk.1, ⟨hk.2.1, hk.2.2.1⟩⟩)⟩, ⟨by (with_reducible repeat (first | apply Kd.R_alloc | apply Kd.R_drewN | apply Kd.R_drew)); exact Kd.R_mono HO_1252004.out (fun _ hk => ⟨hk.1, ⟨hk.2.1, hk.2.2.1⟩⟩)⟩, ⟨by (with_reducible repeat (first | apply Kd.R_alloc | apply Kd.R_drewN | apply Kd.R_drew)); exact Kd.R_mono HO_1253004.out (fun _ hk => ⟨hk.1, ⟨hk.2.1, hk.2.2.1⟩⟩)⟩, ⟨by (with_reducible repeat (first | apply Kd.R_alloc | apply Kd.R_drewN | apply Kd.R_drew)); exact Kd.R_mono HO_1284004.out (fun _ hk => ⟨hk.1, ⟨hk.2.1, hk.2.2.1⟩⟩)⟩, ⟨by exact BK1226.out⟩, ⟨by exact BK1227.out⟩, ⟨by exact BK1250.out⟩, ⟨by exact BK1251.out⟩, ⟨by exact BK1252.out⟩, ⟨by exact BK1270.out⟩, ⟨by exact BK1275.out⟩, ⟨by exact BK1283.out⟩, ⟨hb_⟩⟩
           ·rw [if_neg c190] at H
            exact absurd H (by simp)
          ·rw [if_neg c189] at H
           exact absurd H (by simp)
        ·rw [if_neg c179] at H
         have c179b0 : (t1299 == 0) = false := beq_eq_false_iff_ne.mpr c179
         have c179b1 : (t1299 != 0) = true := bne_iff_ne.mpr c179
         (first | rw [c179b0] | (simp only [i64_w, i32_w]; rw [c179b0]) | rw [c179b1] | skip)
         obtain rfl := Option.some.inj H
         go_wp2
         go_ret
         exact fin_
       ·rw [if_neg c136] at H
        exact absurd H (by simp)
      ·rw [if_neg c134] at H
       have c134b0 : decide (x20_4 < (l1_4.length : Int)) = false := decide_eq_false c134
       clear c134
       replace H := Option.bind_eq_some_iff.mp H
       obtain ⟨⟨t1284, t1285⟩, A1950, H⟩ := H
       try dsimp only at H
       have A195 := Aside0.mk A1950
       clear A1950
       by_cases c196 : (x18_4 == t1260) = true
       ·rw [if_pos c196] at H
        have c196b0 : (x18_4 == t1260) = true := c196
        (try (have c196b1 : decide (x18_4 = t1260) = true := by simpa using c196))
        (try (have c196b2 : (x18_4 == t1260) = true := by simpa using c196))
        clear c196
        by_cases c197 : t1285 = 0
        ·rw [if_pos c197] at H
         have c197b0 : (t1285 == 0) = true := beq_iff_eq.mpr c197
         have c197b1 : (t1285 != 0) = false := bne_eq_false_iff_eq.mpr c197
         clear c197
         obtain rfl := Option.some.inj H
         have hnb198 := LB1226_1227.out
         have hnc198 := LB1226_1227.out
         have hnb199 := LB1227_1250.out
         have hnc199 := LB1227_1250.out
         have hnb200 := LB1227_1251.out
         have hnc200 := LB1227_1251.out
         have hnb201 := LB1227_1252.out
         have hnc201 := LB1227_1252.out
         have hnb202 := LB1227_1270.out
         have hnc202 := LB1227_1270.out
         have hnb203 := LB1227_1275.out
         have hnc203 := LB1227_1275.out
         have hnb204 := LB1227_1283.out
         have hnc204 := LB1227_1283.out
         have hcz205_0 : wr.cell? ⟨gb1227, 0, none⟩ = some (.string a1_0) := (blk_cell BK1227.out 0).trans rfl
         have hcz205_1 : wr.cell? ⟨gb1227, 1, none⟩ = some (.string a1_1) := (blk_cell BK1227.out 1).trans rfl
         have hcz205_2 : wr.cell? ⟨gb1227, 2, none⟩ = some (.bool a1_2) := (blk_cell BK1227.out 2).trans rfl
         have hcz205_3 : wr.cell? ⟨gb1227, 3, none⟩ = some (.bool a1_3) := (blk_cell BK1227.out 3).trans rfl
         have hcz205_4 : wr.cell? ⟨gb1227, 4, none⟩ = some (.slice A1_4 l1_4.length c1_4) := (blk_cell BK1227.out 4).trans rfl
         have hfz205_0 := blk_frozen BK1227.out 0
         have hfz205_1 := blk_frozen BK1227.out 1
         have hfz205_2 := blk_frozen BK1227.out 2
         have hfz205_3 := blk_frozen BK1227.out 3
         have hfz205_4 := blk_frozen BK1227.out 4
         have hnb206 := LB1226_1250.out
         have hnc206 := LB1226_1250.out
         have hnb207 := LB1226_1251.out
         have hnc207 := LB1226_1251.out
         have hnb208 := LB1226_1252.out
         have hnc208 := LB1226_1252.out
         have hnb209 := LB1226_1270.out
         have hnc209 := LB1226_1270.out
         have hnb210 := LB1226_1275.out
         have hnc210 := LB1226_1275.out
         have hnb211 := LB1226_1283.out
         have hnc211 := LB1226_1283.out
         have hcz212_0 : wr.cell? ⟨gb1226, 0, none⟩ = some (.bool a0_0) := (blk_cell BK1226.out 0).trans rfl
         have hcz212_1 : wr.cell? ⟨gb1226, 1, none⟩ = some (.string a0_1) := (blk_cell BK1226.out 1).trans rfl
         have hcz212_2 : wr.cell? ⟨gb1226, 2, none⟩ = some (.string a0_2) := (blk_cell BK1226.out 2).trans rfl
         have hcz212_3 : wr.cell? ⟨gb1226, 3, none⟩ = some (.string a0_3) := (blk_cell BK1226.out 3).trans rfl
         have hcz212_4 : wr.cell? ⟨gb1226, 4, none⟩ = some (.int .i64 a0_4) := (blk_cell BK1226.out 4).trans rfl
         have hcz212_5 : wr.cell? ⟨gb1226, 5, none⟩ = some (.int .i64 a0_5) := (blk_cell BK1226.out 5).trans rfl
         have hcz212_6 : wr.cell? ⟨gb1226, 6, none⟩ = some (.string a0_6) := (blk_cell BK1226.out 6).trans rfl
         have hcz212_7 : wr.cell? ⟨gb1226, 7, none⟩ = some (.string a0_7) := (blk_cell BK1226.out 7).trans rfl
         have hcz212_8 : wr.cell? ⟨gb1226, 8, none⟩ = some (.int .i64 a0_8) := (blk_cell BK1226.out 8).trans rfl
         have hfz212_0 := blk_frozen BK1226.out 0
         have hfz212_1 := blk_frozen BK1226.out 1
         have hfz212_2 := blk_frozen BK1226.out 2
         have hfz212_3 := blk_frozen BK1226.out 3
         have hfz212_4 := blk_frozen BK1226.out 4
         have hfz212_5 := blk_frozen BK1226.out 5
         have hfz212_6 := blk_frozen BK1226.out 6
         have hfz212_7 := blk_frozen BK1226.out 7
         have hfz212_8 := blk_frozen BK1226.out 8
         have hnb213 := LB1250_1283.out
         have hnc213 := LB1250_1283.out
         have hnb214 := LB1251_1283.out
         have hnc214 := LB1251_1283.out
         have hnb215 := LB1252_1283.out
         have hnc215 := LB1252_1283.out
         have hnb216 := LB1270_1283.out
         have hnc216 := LB1270_1283.out
         have hnb217 := LB1275_1283.out
         have hnc217 := LB1275_1283.out
         have hcz218_0 : wr.cell? ⟨gb1283, 0, none⟩ = some (.string t1276) := (blk_cell BK1283.out 0).trans rfl
         have hcz218_1 : wr.cell? ⟨gb1283, 1, none⟩ = some (.string t1277) := (blk_cell BK1283.out 1).trans rfl
         have hcz218_2 : wr.cell? ⟨gb1283, 2, none⟩ = some (.bool t1278) := (blk_cell BK1283.out 2).trans rfl
         have hcz218_3 : wr.cell? ⟨gb1283, 3, none⟩ = some (.bool t1279) := (blk_cell BK1283.out 3).trans rfl
         have hcz218_4 : wr.cell? ⟨gb1283, 4, none⟩ = some (u1284004) := (blk_cell BK1283.out 4).trans rfl
         have hfz218_0 := blk_frozen BK1283.out 0
         have hfz218_1 := blk_frozen BK1283.out 1
         have hfz218_2 := blk_frozen BK1283.out 2
         have hfz218_3 := blk_frozen BK1283.out 3
         have hfz218_4 := blk_frozen BK1283.out 4
         obtain ⟨Ao219, co219, eo219⟩ := Kd.R_slice HO_1284004.out
         subst eo219
         go_wp2_with (first | ((with_reducible refine gate_callee (f := 52) rfl ?_); refine gL_ (some 165) Tryd.func52 #[.agg #[.bool a0_0, .string a0_1, .string a0_2, .string a0_3, .int .i64 a0_4, .int .i64 a0_5, .string a0_6, .string a0_7, .int .i64 a0_8], .agg #[.string t1276, .string t1277, .bool t1278, .bool t1279, .slice Ao219 x1284004_4.length co219]] ?_; (with_reducible refine (operand_In.calls k4 a0_0 a0_1 a0_2 a0_3 a0_4 a0_5 a0_6 a0_7 a0_8 t1276 t1277 t1278 t1279 _ _ x1284004_4 t1284 t1285 _ (TB.below HTB.out hb_) ?side1 ?side2 A195.out).mono ?_); (case side1 => repeat (first | exact (Kd.R_reads' HO_1284004.out).2.2 | (with_reducible refine Kd.C_alloc ?_ _) | (with_reducible refine Kd.C_drewN ?_ _) | (with_reducible refine Kd.C_drew ?_))); (case side2 => exact (Kd.R_reads' HO_1284004.out).2.1); rintro e w220 ⟨rfl, hb⟩; refine ⟨_, rfl, ?_⟩; replace HO_1251004 := bw_ HO_1251004 hb; replace HO_1252004 := bw_ HO_1252004 hb; replace HO_1253004 := bw_ HO_1253004 hb; replace HO_1284004 := bw_ HO_1284004 hb; replace BK1226 := BK1226.bl hb; replace BK1227 := BK1227.bl hb; replace BK1250 := BK1250.bl hb; replace BK1251 := BK1251.bl hb; replace BK1252 := BK1252.bl hb; replace BK1270 := BK1270.bl hb; replace BK1275 := BK1275.bl hb; replace BK1283 := BK1283.bl hb; replace HB := Aside0.mk (below_step hb_ hb)))
         go_ret
         exact fin_
        ·rw [if_neg c197] at H
         have c197b0 : (t1285 == 0) = false := beq_eq_false_iff_ne.mpr c197
         have c197b1 : (t1285 != 0) = true := bne_iff_ne.mpr c197
         obtain rfl := Option.some.inj H
         have hnb221 := LB1226_1227.out
         have hnc221 := LB1226_1227.out
         have hnb222 := LB1227_1250.out
         have hnc222 := LB1227_1250.out
         have hnb223 := LB1227_1251.out
         have hnc223 := LB1227_1251.out
         have hnb224 := LB1227_1252.out
         have hnc224 := LB1227_1252.out
         have hnb225 := LB1227_1270.out
         have hnc225 := LB1227_1270.out
         have hnb226 := LB1227_1275.out
         have hnc226 := LB1227_1275.out
         have hnb227 := LB1227_1283.out
         have hnc227 := LB1227_1283.out
         have hcz228_0 : wr.cell? ⟨gb1227, 0, none⟩ = some (.string a1_0) := (blk_cell BK1227.out 0).trans rfl
         have hcz228_1 : wr.cell? ⟨gb1227, 1, none⟩ = some (.string a1_1) := (blk_cell BK1227.out 1).trans rfl
         have hcz228_2 : wr.cell? ⟨gb1227, 2, none⟩ = some (.bool a1_2) := (blk_cell BK1227.out 2).trans rfl
         have hcz228_3 : wr.cell? ⟨gb1227, 3, none⟩ = some (.bool a1_3) := (blk_cell BK1227.out 3).trans rfl
         have hcz228_4 : wr.cell? ⟨gb1227, 4, none⟩ = some (.slice A1_4 l1_4.length c1_4) := (blk_cell BK1227.out 4).trans rfl
         have hfz228_0 := blk_frozen BK1227.out 0
         have hfz228_1 := blk_frozen BK1227.out 1
         have hfz228_2 := blk_frozen BK1227.out 2
         have hfz228_3 := blk_frozen BK1227.out 3
         have hfz228_4 := blk_frozen BK1227.out 4
         have hnb229 := LB1226_1250.out
         have hnc229 := LB1226_1250.out
         have hnb230 := LB1226_1251.out
         have hnc230 := LB1226_1251.out
         have hnb231 := LB1226_1252.out
         have hnc231 := LB1226_1252.out
         have hnb232 := LB1226_1270.out
         have hnc232 := LB1226_1270.out
         have hnb233 := LB1226_1275.out
         have hnc233 := LB1226_1275.out
         have hnb234 := LB1226_1283.out
         have hnc234 := LB1226_1283.out
         have hcz235_0 : wr.cell? ⟨gb1226, 0, none⟩ = some (.bool a0_0) := (blk_cell BK1226.out 0).trans rfl
         have hcz235_1 : wr.cell? ⟨gb1226, 1, none⟩ = some (.string a0_1) := (blk_cell BK1226.out 1).trans rfl
         have hcz235_2 : wr.cell? ⟨gb1226, 2, none⟩ = some (.string a0_2) := (blk_cell BK1226.out 2).trans rfl
         have hcz235_3 : wr.cell? ⟨gb1226, 3, none⟩ = some (.string a0_3) := (blk_cell BK1226.out 3).trans rfl
         have hcz235_4 : wr.cell? ⟨gb1226, 4, none⟩ = some (.int .i64 a0_4) := (blk_cell BK1226.out 4).trans rfl
         have hcz235_5 : wr.cell? ⟨gb1226, 5, none⟩ = some (.int .i64 a0_5) := (blk_cell BK1226.out 5).trans rfl
         have hcz235_6 : wr.cell? ⟨gb1226, 6, none⟩ = some (.string a0_6) := (blk_cell BK1226.out 6).trans rfl
         have hcz235_7 : wr.cell? ⟨gb1226, 7, none⟩ = some (.string a0_7) := (blk_cell BK1226.out 7).trans rfl
         have hcz235_8 : wr.cell? ⟨gb1226, 8, none⟩ = some (.int .i64 a0_8) := (blk_cell BK1226.out 8).trans rfl
         have hfz235_0 := blk_frozen BK1226.out 0
         have hfz235_1 := blk_frozen BK1226.out 1
         have hfz235_2 := blk_frozen BK1226.out 2
         have hfz235_3 := blk_frozen BK1226.out 3
         have hfz235_4 := blk_frozen BK1226.out 4
         have hfz235_5 := blk_frozen BK1226.out 5
         have hfz235_6 := blk_frozen BK1226.out 6
         have hfz235_7 := blk_frozen BK1226.out 7
         have hfz235_8 := blk_frozen BK1226.out 8
         have hnb236 := LB1250_1283.out
         have hnc236 := LB1250_1283.out
         have hnb237 := LB1251_1283.out
         have hnc237 := LB1251_1283.out
         have hnb238 := LB1252_1283.out
         have hnc238 := LB1252_1283.out
         have hnb239 := LB1270_1283.out
         have hnc239 := LB1270_1283.out
         have hnb240 := LB1275_1283.out
         have hnc240 := LB1275_1283.out
         have hcz241_0 : wr.cell? ⟨gb1283, 0, none⟩ = some (.string t1276) := (blk_cell BK1283.out 0).trans rfl
         have hcz241_1 : wr.cell? ⟨gb1283, 1, none⟩ = some (.string t1277) := (blk_cell BK1283.out 1).trans rfl
         have hcz241_2 : wr.cell? ⟨gb1283, 2, none⟩ = some (.bool t1278) := (blk_cell BK1283.out 2).trans rfl
         have hcz241_3 : wr.cell? ⟨gb1283, 3, none⟩ = some (.bool t1279) := (blk_cell BK1283.out 3).trans rfl
         have hcz241_4 : wr.cell? ⟨gb1283, 4, none⟩ = some (u1284004) := (blk_cell BK1283.out 4).trans rfl
         have hfz241_0 := blk_frozen BK1283.out 0
         have hfz241_1 := blk_frozen BK1283.out 1
         have hfz241_2 := blk_frozen BK1283.out 2
         have hfz241_3 := blk_frozen BK1283.out 3
         have hfz241_4 := blk_frozen BK1283.out 4
         obtain ⟨Ao242, co242, eo242⟩ := Kd.R_slice HO_1284004.out
         subst eo242
         go_wp2_with (first | ((with_reducible refine gate_callee (f := 52) rfl ?_); refine gL_ (some 165) Tryd.func52 #[.agg #[.bool a0_0, .string a0_1, .string a0_2, .string a0_3, .int .i64 a0_4, .int .i64 a0_5, .string a0_6, .string a0_7, .int .i64 a0_8], .agg #[.string t1276, .string t1277, .bool t1278, .bool t1279, .slice Ao242 x1284004_4.length co242]] ?_; (with_reducible refine (operand_In.calls k4 a0_0 a0_1 a0_2 a0_3 a0_4 a0_5 a0_6 a0_7 a0_8 t1276 t1277 t1278 t1279 _ _ x1284004_4 t1284 t1285 _ (TB.below HTB.out hb_) ?side1 ?side2 A195.out).mono ?_); (case side1 => repeat (first | exact (Kd.R_reads' HO_1284004.out).2.2 | (with_reducible refine Kd.C_alloc ?_ _) | (with_reducible refine Kd.C_drewN ?_ _) | (with_reducible refine Kd.C_drew ?_))); (case side2 => exact (Kd.R_reads' HO_1284004.out).2.1); rintro e w243 ⟨rfl, hb⟩; refine ⟨_, rfl, ?_⟩; replace HO_1251004 := bw_ HO_1251004 hb; replace HO_1252004 := bw_ HO_1252004 hb; replace HO_1253004 := bw_ HO_1253004 hb; replace HO_1284004 := bw_ HO_1284004 hb; replace BK1226 := BK1226.bl hb; replace BK1227 := BK1227.bl hb; replace BK1250 := BK1250.bl hb; replace BK1251 := BK1251.bl hb; replace BK1252 := BK1252.bl hb; replace BK1270 := BK1270.bl hb; replace BK1275 := BK1275.bl hb; replace BK1283 := BK1283.bl hb; replace HB := Aside0.mk (below_step hb_ hb)))
         go_ret
         exact fin_
       ·rw [if_neg c196] at H
        have c196b0 : (x18_4 == t1260) = false := by simpa using c196
        (try (have c196b1 : decide (x18_4 = t1260) = false := by simpa using c196))
        (try (have c196b2 : (x18_4 == t1260) = false := by simpa using c196))
        (try (have c196b3 : ¬ (x18_4 = t1260) := by simpa using c196))
        clear c196
        obtain rfl := Option.some.inj H
        have hnb244 := LB1226_1227.out
        have hnc244 := LB1226_1227.out
        have hnb245 := LB1227_1250.out
        have hnc245 := LB1227_1250.out
        have hnb246 := LB1227_1251.out
        have hnc246 := LB1227_1251.out
        have hnb247 := LB1227_1252.out
        have hnc247 := LB1227_1252.out
        have hnb248 := LB1227_1270.out
        have hnc248 := LB1227_1270.out
        have hnb249 := LB1227_1275.out
        have hnc249 := LB1227_1275.out
        have hnb250 := LB1227_1283.out
        have hnc250 := LB1227_1283.out
        have hcz251_0 : wr.cell? ⟨gb1227, 0, none⟩ = some (.string a1_0) := (blk_cell BK1227.out 0).trans rfl
        have hcz251_1 : wr.cell? ⟨gb1227, 1, none⟩ = some (.string a1_1) := (blk_cell BK1227.out 1).trans rfl
        have hcz251_2 : wr.cell? ⟨gb1227, 2, none⟩ = some (.bool a1_2) := (blk_cell BK1227.out 2).trans rfl
        have hcz251_3 : wr.cell? ⟨gb1227, 3, none⟩ = some (.bool a1_3) := (blk_cell BK1227.out 3).trans rfl
        have hcz251_4 : wr.cell? ⟨gb1227, 4, none⟩ = some (.slice A1_4 l1_4.length c1_4) := (blk_cell BK1227.out 4).trans rfl
        have hfz251_0 := blk_frozen BK1227.out 0
        have hfz251_1 := blk_frozen BK1227.out 1
        have hfz251_2 := blk_frozen BK1227.out 2
        have hfz251_3 := blk_frozen BK1227.out 3
        have hfz251_4 := blk_frozen BK1227.out 4
        have hnb252 := LB1226_1250.out
        have hnc252 := LB1226_1250.out
        have hnb253 := LB1226_1251.out
        have hnc253 := LB1226_1251.out
        have hnb254 := LB1226_1252.out
        have hnc254 := LB1226_1252.out
        have hnb255 := LB1226_1270.out
        have hnc255 := LB1226_1270.out
        have hnb256 := LB1226_1275.out
        have hnc256 := LB1226_1275.out
        have hnb257 := LB1226_1283.out
        have hnc257 := LB1226_1283.out
        have hcz258_0 : wr.cell? ⟨gb1226, 0, none⟩ = some (.bool a0_0) := (blk_cell BK1226.out 0).trans rfl
        have hcz258_1 : wr.cell? ⟨gb1226, 1, none⟩ = some (.string a0_1) := (blk_cell BK1226.out 1).trans rfl
        have hcz258_2 : wr.cell? ⟨gb1226, 2, none⟩ = some (.string a0_2) := (blk_cell BK1226.out 2).trans rfl
        have hcz258_3 : wr.cell? ⟨gb1226, 3, none⟩ = some (.string a0_3) := (blk_cell BK1226.out 3).trans rfl
        have hcz258_4 : wr.cell? ⟨gb1226, 4, none⟩ = some (.int .i64 a0_4) := (blk_cell BK1226.out 4).trans rfl
        have hcz258_5 : wr.cell? ⟨gb1226, 5, none⟩ = some (.int .i64 a0_5) := (blk_cell BK1226.out 5).trans rfl
        have hcz258_6 : wr.cell? ⟨gb1226, 6, none⟩ = some (.string a0_6) := (blk_cell BK1226.out 6).trans rfl
        have hcz258_7 : wr.cell? ⟨gb1226, 7, none⟩ = some (.string a0_7) := (blk_cell BK1226.out 7).trans rfl
        have hcz258_8 : wr.cell? ⟨gb1226, 8, none⟩ = some (.int .i64 a0_8) := (blk_cell BK1226.out 8).trans rfl
        have hfz258_0 := blk_frozen BK1226.out 0
        have hfz258_1 := blk_frozen BK1226.out 1
        have hfz258_2 := blk_frozen BK1226.out 2
        have hfz258_3 := blk_frozen BK1226.out 3
        have hfz258_4 := blk_frozen BK1226.out 4
        have hfz258_5 := blk_frozen BK1226.out 5
        have hfz258_6 := blk_frozen BK1226.out 6
        have hfz258_7 := blk_frozen BK1226.out 7
        have hfz258_8 := blk_frozen BK1226.out 8
        have hnb259 := LB1250_1283.out
        have hnc259 := LB1250_1283.out
        have hnb260 := LB1251_1283.out
        have hnc260 := LB1251_1283.out
        have hnb261 := LB1252_1283.out
        have hnc261 := LB1252_1283.out
        have hnb262 := LB1270_1283.out
        have hnc262 := LB1270_1283.out
        have hnb263 := LB1275_1283.out
        have hnc263 := LB1275_1283.out
        have hcz264_0 : wr.cell? ⟨gb1283, 0, none⟩ = some (.string t1276) := (blk_cell BK1283.out 0).trans rfl
        have hcz264_1 : wr.cell? ⟨gb1283, 1, none⟩ = some (.string t1277) := (blk_cell BK1283.out 1).trans rfl
        have hcz264_2 : wr.cell? ⟨gb1283, 2, none⟩ = some (.bool t1278) := (blk_cell BK1283.out 2).trans rfl
        have hcz264_3 : wr.cell? ⟨gb1283, 3, none⟩ = some (.bool t1279) := (blk_cell BK1283.out 3).trans rfl
        have hcz264_4 : wr.cell? ⟨gb1283, 4, none⟩ = some (u1284004) := (blk_cell BK1283.out 4).trans rfl
        have hfz264_0 := blk_frozen BK1283.out 0
        have hfz264_1 := blk_frozen BK1283.out 1
        have hfz264_2 := blk_frozen BK1283.out 2
        have hfz264_3 := blk_frozen BK1283.out 3
        have hfz264_4 := blk_frozen BK1283.out 4
        obtain ⟨Ao265, co265, eo265⟩ := Kd.R_slice HO_1284004.out
        subst eo265
        go_wp2_with (first | ((with_reducible refine gate_callee (f := 52) rfl ?_); refine gL_ (some 165) Tryd.func52 #[.agg #[.bool a0_0, .string a0_1, .string a0_2, .string a0_3, .int .i64 a0_4, .int .i64 a0_5, .string a0_6, .string a0_7, .int .i64 a0_8], .agg #[.string t1276, .string t1277, .bool t1278, .bool t1279, .slice Ao265 x1284004_4.length co265]] ?_; (with_reducible refine (operand_In.calls k4 a0_0 a0_1 a0_2 a0_3 a0_4 a0_5 a0_6 a0_7 a0_8 t1276 t1277 t1278 t1279 _ _ x1284004_4 t1284 t1285 _ (TB.below HTB.out hb_) ?side1 ?side2 A195.out).mono ?_); (case side1 => repeat (first | exact (Kd.R_reads' HO_1284004.out).2.2 | (with_reducible refine Kd.C_alloc ?_ _) | (with_reducible refine Kd.C_drewN ?_ _) | (with_reducible refine Kd.C_drew ?_))); (case side2 => exact (Kd.R_reads' HO_1284004.out).2.1); rintro e w266 ⟨rfl, hb⟩; refine ⟨_, rfl, ?_⟩; replace HO_1251004 := bw_ HO_1251004 hb; replace HO_1252004 := bw_ HO_1252004 hb; replace HO_1253004 := bw_ HO_1253004 hb; replace HO_1284004 := bw_ HO_1284004 hb; replace BK1226 := BK1226.bl hb; replace BK1227 := BK1227.bl hb; replace BK1250 := BK1250.bl hb; replace BK1251 := BK1251.bl hb; replace BK1252 := BK1252.bl hb; replace BK1270 := BK1270.bl hb; replace BK1275 := BK1275.bl hb; replace BK1283 := BK1283.bl hb; replace HB := Aside0.mk (below_step hb_ hb)))
        go_ret
        exact fin_
theorem idiomlaw04_OperandLists.calls_r4 : idiomlaw04_OperandLists.calls_r3_s.1 := idiomlaw04_OperandLists.calls_r4_s.2 ⟨idiomlaw04_OperandLists.calls_r5⟩
theorem idiomlaw04_OperandLists.calls_r3 : idiomlaw04_OperandLists.calls_all_s.2.1 := idiomlaw04_OperandLists.calls_r3_s.2 ⟨idiomlaw04_OperandLists.calls_r4⟩
theorem idiomlaw04_OperandLists.calls_all : ∀ (k : Nat) (a0_0 : Bool) (a0_1 : ByteArray) (a0_2 : ByteArray) (a0_3 : ByteArray) (a0_4 : Int) (a0_5 : Int) (a0_6 : ByteArray) (a0_7 : ByteArray) (a0_8 : Int) (a1_0 : ByteArray) (a1_1 : ByteArray) (a1_2 : Bool) (a1_3 : Bool) (A1_4 : Option Addr) (c1_4 : Nat) (l1_4 : List (S60)) (r : Bool) (w : World) (ht : TB w) (hr1_4 : Kd.C k60 w A1_4 l1_4.length l1_4) (hc1_4 : l1_4.length ≤ c1_4) (h : idiomlaw04_OperandLists.f k a0_0 a0_1 a0_2 a0_3 a0_4 a0_5 a0_6 a0_7 a0_8 a1_0 a1_1 a1_2 a1_3 l1_4 = some r), Calls Tryd.prog 15 #[.agg #[.bool a0_0, .string a0_1, .string a0_2, .string a0_3, .int .i64 a0_4, .int .i64 a0_5, .string a0_6, .string a0_7, .int .i64 a0_8], .agg #[.string a1_0, .string a1_1, .bool a1_2, .bool a1_3, .slice A1_4 l1_4.length c1_4]] w fun e w' => e = .returned (.bool r) ∧ Below w.heap.size w w' := idiomlaw04_OperandLists.calls_all_s.2.2 ⟨idiomlaw04_OperandLists.calls_r0⟩ ⟨idiomlaw04_OperandLists.calls_r3⟩
theorem idiomlaw04_OperandLists.calls (k : Nat) (a0_0 : Bool) (a0_1 : ByteArray) (a0_2 : ByteArray) (a0_3 : ByteArray) (a0_4 : Int) (a0_5 : Int) (a0_6 : ByteArray) (a0_7 : ByteArray) (a0_8 : Int) (a1_0 : ByteArray) (a1_1 : ByteArray) (a1_2 : Bool) (a1_3 : Bool) (A1_4 : Option Addr) (c1_4 : Nat) (l1_4 : List (S60)) (r : Bool) (w : World) (ht : TB w) (hr1_4 : Kd.C k60 w A1_4 l1_4.length l1_4) (hc1_4 : l1_4.length ≤ c1_4) (h : idiomlaw04_OperandLists.f k a0_0 a0_1 a0_2 a0_3 a0_4 a0_5 a0_6 a0_7 a0_8 a1_0 a1_1 a1_2 a1_3 l1_4 = some r) :
    Calls Tryd.prog 15 #[.agg #[.bool a0_0, .string a0_1, .string a0_2, .string a0_3, .int .i64 a0_4, .int .i64 a0_5, .string a0_6, .string a0_7, .int .i64 a0_8], .agg #[.string a1_0, .string a1_1, .bool a1_2, .bool a1_3, .slice A1_4 l1_4.length c1_4]] w fun e w' => e = .returned (.bool r) ∧ Below w.heap.size w w' := idiomlaw04_OperandLists.calls_all k a0_0 a0_1 a0_2 a0_3 a0_4 a0_5 a0_6 a0_7 a0_8 a1_0 a1_1 a1_2 a1_3 A1_4 c1_4 l1_4 r w ht hr1_4 hc1_4 h
end Go.Proofs.YtihjcaglhjepdaaDoor.P
