/- The digest of the reference, a stage of its walk (5 of 6). Conditions: the text has at most 140737488351232 bytes. -/
import Derived.Test.YtomenklhgofjaaaXShaS4
set_option linter.unusedVariables false
set_option linter.unusedSimpArgs false
namespace Go.Proofs.Ytomenklhgofjaaa.Sh
open Go.RowKit Go.Proofs.YtomenklhgofjaaaW.PrintWords Go.Proofs.YtomenklhgofjaaaW.PrintLast Go.Proofs.YtomenklhgofjaaaW.PrintMore
set_option maxHeartbeats 16000000 in
set_option maxRecDepth 100000 in
def st5 (s : ByteArray) (hs : s.size ≤ 140737488351232) (w : World) : Stage ((st4 s hs w).P) := by
  apply Stage.mk
  case imp =>
    intro HREST
    intro hl kl pr EL L8 L64 P64 HG KG HS zz1_1 w1 gp cp zz1_2 zz2_1 zz1_3 u28 u29 u30 u31 u32 u33 u34 u35 u36 u37 u38 u39 u40 u41 u42 u43 u44 u45 u46 u47 u48 u49 zz1_4 zz1_5 zz1_6 zz1_7 c4 c5 zz2_2 zz2_3 hlt zz4_1 gh gq wb cb wc hcv BS zz1_8 zz1_9 v1_ w_ zz1_10 R2 HR2 zz2_4 u55 u56 u57 u58 u59 u60 u61 zz1_12 zz1_13 zz1_14 l gb cb' n7 N7 zz1_15 HZ HQ d1 d2 d3 EQ HL7 hsz zz2_5 zz2_6 zz2_7 zz2_8 zz2_9 u66 u67 u68 u69 u70 u71 u72 u73 u74 u75 u76 u77 u78 zz2_10 zz2_11 zz2_12 zz2_13 zz4_2 zz4_3 zz4_4 gc cc n8 hi8 zz4_5 B EB c9 BLN HGB NEB zz2_14 zz2_15 zz2_16 zz2_17 zz2_18 zz2_19 R5 HR5 zz4_6 u12 zz4_7 zz4_8 zz4_9 zz4_10 zz4_11 u18 u19 u20 u21 u22 u79 u80 u81 u82 u83 u84 u85 zz4_12 zz4_13 zz4_14 zz4_15 zz4_16 zz4_17 zz4_18 zz4_19 zz4_20 zz4_21 zz4_22 zz4_23 zz4_24 zz4_25 zz4_26 zz4_27 zz4_28 zz4_29 zz4_30 zz4_31 zz4_32 zz4_33 zz4_34 zz4_35 zz4_36 zz4_37 zz4_38 zz4_39 zz4_40 zz4_41 zz4_42 zz4_43 zz4_44 zz4_45 zz4_46 zz4_47 zz4_48 zz4_49 zz4_50 zz4_51 zz4_52 zz4_53 zz4_54 zz4_55 zz4_56 zz4_57 zz4_58 zz4_59 zz4_60 zz4_61 zz4_62 zz4_63 zz4_64 zz4_65 zz4_66 zz4_67 zz4_68 zz4_69 zz4_70 zz4_71 zz4_72 zz4_73 zz4_74 zz4_75 zz4_76 zz4_77 zz4_78 zz4_79 zz4_80 zz4_81 zz4_82 u157 u158 u159 u160 u161 u162 u163 u164 u165 u166 u167 u168 u169 u170 u171 u172 u173 u174 u175 u176 u177 u178 u179 u180 u181 u182 u183 u184 u185 u186 u187 u188 u189 u190 u191 u192 u193 u194 u195 u196 u197 u198 u199 u200 u201 u202 u203 u204 u205 u206 u207 u208 u209 u210 u211 u212 u213 u214 u215 u216 u217 u218 u219 u220 u221 u222 u223 u224 u225 u226 u227 u228 u229 u230 u231 u232 u233 u234 u235 u236 u237 u238 u239 u240 u241 u242 u243 u244 u245 u246 u247 u248 u249 u250 u251 u252 u253 u254 u255 u256 u257 u258 u259 u260 u261 u262 u263 u264 u265 u266 u267 u268 u269 u270 u271 u272 u273 u274 u275 u276 u277 u278 u279 u280 u281 u282 u283 u284 u285 u286 u287 zz2_20 zz2_21 zz2_22 m H g zz2_23 HMK HE p1 p2 HM64 hm47 zz4_83 zz4_84 zz4_85 wd M RB zz4_86 u13 u14 u86 u87 u88 u89 u90 u91 u92 u93 u94 u95 u96 u97 u98 u99 u100 u101 u102 u103 u104 u105 u106 u107 u108 u109 u110 zz4_87 zz4_88 zz4_89 i hi HB gk_ hki zz4_90 A11 c11 n11 hi16 q1 HO2 zz4_91 zz4_92 zz4_93 zz4_94 gk wr u11 u15 u16 u17 u111 u112 u113 u114 u115 u116 u117 u118 u119 u120 u121 u122 u123 u124 u125 u126 u127 u128 u129 u130 u131 u132 u133 u134 u135 u136 u137 u138 u139 u140 u141 u142 u143 u144 u145 u146 u147 u148 u149 u150 u151 u152 u153 u154 u155 u156 hrel zz4_95 zz4_96 zz4_97 zz4_98
    clear HO2 HB
    obtain ⟨i, hi1, hi, hki, rfl, HO, HB⟩ := hrel
    obtain ⟨A11, c11, e11⟩ := own_slice HO.out
    subst e11
    obtain ⟨n11, hn11⟩ : ∃ n, (wk2 B m i).length = n := ⟨_, rfl⟩
    have h11 := wk2_len B m i
    have HO_ := HO.out
    rw [hn11] at HO_ h11 ⊢
    clear HO
    have HO := Aside0.mk HO_
    have N11 := Aside0.mk hn11
    clear HO_ hn11
    obtain ⟨hn11e, g11, ea11, hg11, hz11⟩ := own_at_block HO.out (by omega) N11.out
    subst ea11
    by_cases hi64 : i < 64
    · have q1 : decide ((i : Int) < 64) = true := decide_eq_true (by omega)
      have w0 : IntKind.i64.wrap ((i : Int) - 15) = (i : Int) - 15 := by rw [IntKind.wrap_i64]; omega
      have w1_ : IntKind.i64.wrap ((i : Int) - 2) = (i : Int) - 2 := by rw [IntKind.wrap_i64]; omega
      have w2_ : IntKind.i64.wrap ((i : Int) - 16) = (i : Int) - 16 := by rw [IntKind.wrap_i64]; omega
      have w3_ : IntKind.i64.wrap ((i : Int) - 7) = (i : Int) - 7 := by rw [IntKind.wrap_i64]; omega
      have n0_ : ((i : Int) - 15).toNat = i - 15 := by omega
      have n1_ : ((i : Int) - 2).toNat = i - 2 := by omega
      have n2_ : ((i : Int) - 16).toNat = i - 16 := by omega
      have n3_ : ((i : Int) - 7).toNat = i - 7 := by omega
      have l0_ := eq_true (show (i : Int) - 15 < (n11 : Int) by omega)
      have l1_ := eq_true (show (i : Int) - 2 < (n11 : Int) by omega)
      have l2_ := eq_true (show (i : Int) - 16 < (n11 : Int) by omega)
      have l3_ := eq_true (show (i : Int) - 7 < (n11 : Int) by omega)
      have k0_ := eq_true (show (15 : Int) ≤ (i : Int) by omega)
      have k1_ := eq_true (show (2 : Int) ≤ (i : Int) by omega)
      have k2_ := eq_true (show (16 : Int) ≤ (i : Int) by omega)
      have k3_ := eq_true (show (7 : Int) ≤ (i : Int) by omega)
      have x0 := hz11.cell (i - 15) (by rw [N11.out]; omega)
      have x1 := hz11.cell (i - 2) (by rw [N11.out]; omega)
      have x2 := hz11.cell (i - 16) (by rw [N11.out]; omega)
      have x3 := hz11.cell (i - 7) (by rw [N11.out]; omega)
      have hW1 := (wk2_high (B := B) (m := m) (show ¬ i < 16 by omega))
      have H11 := Aside0.mk h11
      clear hz11 hn11e h11
      obtain ⟨x15, e15⟩ : ∃ x, (wk2 B m i).getD (i - 15) 0 = x := ⟨_, rfl⟩
      obtain ⟨x22, e22⟩ : ∃ x, (wk2 B m i).getD (i - 2) 0 = x := ⟨_, rfl⟩
      obtain ⟨x16, e16_⟩ : ∃ x, (wk2 B m i).getD (i - 16) 0 = x := ⟨_, rfl⟩
      obtain ⟨x77, e77⟩ : ∃ x, (wk2 B m i).getD (i - 7) 0 = x := ⟨_, rfl⟩
      rw [e15] at x0
      rw [e22] at x1
      rw [e16_] at x2
      rw [e77] at x3
      rw [e15, e22, e16_, e77] at hW1
      have HW1 := Aside0.mk hW1
      clear e15 e22 e16_ e77 hW1
      go_wp2
      go_quiet (fail)
      go_wp2
      refine wp_region_late 30 (by kernel_rfl) (by kernel_rfl) (v := .slice (some ⟨g11, 0, none⟩) n11 c11) (fun _ _ _ h => h) (Or.inl ⟨by rfl, fun _ => rfl⟩) ?_
      simp only [List.take_succ_cons, List.take_zero, List.drop_succ_cons, List.drop_zero]
      change wpStill _ _ (World.drew _) (fun a' => wpList _ _ _ _ a' (World.drew _)) _ _
      repeat still_step
      still_call (qright_calls _ 7 (by omega) _)
      repeat still_step
      still_call (qright_calls _ 18 (by omega) _)
      repeat still_step
      still_call (qright_calls _ 17 (by omega) _)
      repeat still_step
      still_call (qright_calls _ 19 (by omega) _)
      repeat still_step
      refine wpStill_nil ?_
      obtain ⟨wy, hwy⟩ : ∃ wy : World, wy = (wr.drewN nq).drew := ⟨_, rfl⟩
      have HOy := Aside0.mk (show wy.ownsRow wd.heap.size 63 1 (.slice (some ⟨g11, 0, none⟩) n11 c11) (wk2 B m i).length (nums .u32 (wk2 B m i)) by rw [hwy, N11.out]; exact HO.out)
      have HBy := Aside0.mk (show Below wd.heap.size wd wy by rw [hwy]; exact (pw_below_drewN HB.out nq).drew)
      rw [← hwy]
      clear hwy x0 x1 x2 x3
      go_wp2_with (first
        | ((with_reducible refine gate_builtin (b := .append) (xs := #[.tmp 125, .tmp 155]) rfl ?_); at_builtin; refine print_append_num (w0 := wd) wd.heap.size rfl (.tmp 125) (.tmp 155) 75 63 .u32 4 rfl Try.underlying75 info63 (by decide) (.slice (some ⟨g11, 0, none⟩) n11 c11) (wk2 B m i) _ rfl rfl HOy.out HBy.out HBy.out.size (by have := N11.out; have := H11.out; omega) ?_; intro v1_ w_ ho hb hg hat; have HO1 := Aside0.mk ho; have HB1 := Aside0.mk hb; clear ho hb hg hat))
      go_roundg (gk - 1)
      case measure => omega
      case rel =>
        have h9 := HO1.out
        rw [sch2_nested] at h9
        exact ⟨i + 1, by omega, by omega, by omega, rfl, ⟨HW1.out ▸ h9⟩, HB1⟩
    · have q1 : decide ((i : Int) < 64) = false := decide_eq_false (by omega)
      have e64 : i = 64 := by omega
      rw [e64] at hz11
      have HZW := Aside0.mk hz11.rk
      have n64 : n11 = 64 := by omega
      subst n64
      obtain ⟨W, hW⟩ : ∃ W, wk2 B m 64 = W := ⟨_, rfl⟩
      rw [hW] at HZW
      have LW := Aside0.mk (show W.length = 64 by rw [← hW]; exact wk2_len _ _ _)
      have EW := Aside0.mk hW
      have G11 := Aside0.mk hg11
      clear hW hz11 hg11 HO N11 h11 hn11e e64
      have MM := Aside0.mk (M.out.below HB.out)
      have RBB := Aside0.mk (RB.out.below HB.out)
      have hrd := Aside0.mk (show ReadsInt (wr.alloc (.cells #[] 63)) .u32 (some ⟨gh, 0, none⟩) 8 H by have h9 := (MM.out.h0.rk.alloc (.cells #[] 63)).reads (by rw [MM.out.lH]; omega); rw [MM.out.lH] at h9; exact h9)
      have hlit := Aside0.mk (own_lit wr wr.heap.size 63 .u32 [] (Nat.le_refl _) (by decide))
      go_wp2_with (first
        | ((with_reducible refine gate_builtin (b := .append) (xs := #[.tmp 157, .tmp 158]) rfl ?_); at_builtin; refine print_append_row (w0 := wr) wr.heap.size rfl (.tmp 157) (.tmp 158) 75 63 .u32 4 rfl Try.underlying75 info63 (by decide) (.slice (some ⟨wr.heap.size, 0, none⟩) 0 0) [] H (some ⟨gh, 0, none⟩) 8 c4 rfl rfl hlit.out hrd.out (below_alloc (Below.refl _ _) _) (by simp) (by decide) ?_; intro v1_ w5 ho hb hg hat; have HO1 := Aside0.mk ho; have HB1 := Aside0.mk hb; clear ho hb hg hat))
      obtain ⟨g18, c18, e18, hg18, hz18⟩ := own_rz HO1.out (by show 0 < ([] ++ H).length; rw [List.nil_append, MM_len M.out]; decide) rfl
      have hH8 := MM_len M.out
      rw [List.nil_append, hH8] at e18
      rw [List.nil_append] at hz18
      subst e18
      obtain ⟨a0, a1, a2, a3, a4, a5, a6, a7, eH⟩ := list8 hH8
      have V0 := Aside0.mk (V4.mk (MM.out.below HB1.out) (RBB.out.below HB1.out) (HZW.out.below HB1.out) (eH ▸ hz18.rk) (fun e => by have := MM.out.h0.rk.lt; omega) NEB.out (fun e => by have := M.out.h0.rk.lt; have := G11.out; omega))
      have EH8 := Aside0.mk eH
      clear hrd hlit MM RBB HO1 HB1 hz18 hH8 eH HZW hg18 HB
      go_loopg [19, 18] 64 (fun kq v19 v18 w' => ∃ (j g18 c18 : Nat) (a b c d e f g h : Int), j ≤ 64 ∧ kq + j = 64 ∧ v19 = .int .i64 j ∧ v18 = .slice (some ⟨g18, 0, none⟩) 8 c18 ∧ Aside0 (V4 w w' gh gq gc g11 g18 H kl B W [a, b, c, d, e, f, g, h]) ∧ Aside0 (rnds2 H kl W j = [a, b, c, d, e, f, g, h]))
      case atStart => exact ⟨0, g18, c18, a0, a1, a2, a3, a4, a5, a6, a7, by omega, by omega, rfl, rfl, V0, EH8⟩
      case round =>
          rename_i zz5_1 zz5_2 zz5_3 zz5_4 zz5_5 zz5_6 zz5_7 zz5_8 zz5_9 zz5_10 zz5_11 zz5_12 zz5_13 zz5_14 zz5_15 zz5_16 zz5_17 zz5_18 zz5_19 zz5_20 zz5_21 zz5_22 zz5_23 zz5_24 zz5_25 zz5_26 zz5_27 zz5_28 zz5_29 zz5_30 zz5_31 zz5_32 zz5_33 zz5_34 zz5_35 zz5_36 zz5_37 zz5_38 zz5_39 zz5_40 zz5_41 zz5_42 zz5_43 zz5_44 zz5_45 zz5_46 zz5_47 zz5_48 zz5_49 zz5_50 zz5_51 zz5_52 zz5_53 zz5_54 zz5_55 zz5_56 zz5_57 zz5_58 zz5_59 zz5_60 zz5_61 zz5_62 zz5_63 zz5_64 zz5_65 zz5_66 zz5_67 zz5_68 zz5_69 zz5_70 zz5_71 zz5_72 zz5_73 zz5_74 zz5_75 zz5_76 zz5_77 zz5_78 zz5_79 zz5_80 zz5_81 zz5_82 zz5_83 zz5_84 zz5_85 zz5_86 zz5_87 zz5_88 zz5_89 zz5_90 zz5_91 zz5_92 zz5_93 zz5_94 zz5_95 zz5_96 zz5_97 zz5_98 zz5_99 zz5_100 zz5_101 zz5_102 zz5_103 zz5_104 zz5_105 zz5_106 zz5_107 zz5_108 zz5_109 zz5_110 zz5_111 zz5_112 zz5_113 zz5_114 zz5_115 zz5_116 zz5_117 zz5_118 zz5_119 zz5_120 zz5_121 zz5_122 zz5_123 zz5_124 zz5_125 zz5_126 zz5_127 zz5_128 zz5_129 zz5_130 zz5_131 zz5_132 zz5_133
          revert hl kl pr EL L8 L64 P64 HG KG HS zz1_1 w1 gp cp zz1_2 zz2_1 zz1_3 u28 u29 u30 u31 u32 u33 u34 u35 u36 u37 u38 u39 u40 u41 u42 u43 u44 u45 u46 u47 u48 u49 zz1_4 zz1_5 zz1_6 zz1_7 c4 c5 zz2_2 zz2_3 hlt zz4_1 gh gq wb cb wc hcv BS zz1_8 zz1_9 v1_ w_ zz1_10 R2 HR2 zz2_4 u55 u56 u57 u58 u59 u60 u61 zz1_12 zz1_13 zz1_14 l gb cb' n7 N7 zz1_15 HZ HQ d1 d2 d3 EQ HL7 hsz zz2_5 zz2_6 zz2_7 zz2_8 zz2_9 u66 u67 u68 u69 u70 u71 u72 u73 u74 u75 u76 u77 u78 zz2_10 zz2_11 zz2_12 zz2_13 zz4_2 zz4_3 zz4_4 gc cc n8 hi8 zz4_5 B EB c9 BLN HGB NEB zz2_14 zz2_15 zz2_16 zz2_17 zz2_18 zz2_19 R5 HR5 zz4_6 u12 zz4_7 zz4_8 zz4_9 zz4_10 zz4_11 zz5_1 zz5_2 zz5_3 zz5_4 u22 u79 u80 u81 u82 u83 u84 u85 zz4_12 zz4_13 zz4_14 zz4_15 zz4_16 zz4_17 zz4_18 zz4_19 zz4_20 zz4_21 zz4_22 zz4_23 zz4_24 zz4_25 zz4_26 zz4_27 zz4_28 zz4_29 zz4_30 zz4_31 zz4_32 zz4_33 zz4_34 zz4_35 zz4_36 zz4_37 zz4_38 zz4_39 zz4_40 zz4_41 zz4_42 zz4_43 zz4_44 zz4_45 zz4_46 zz4_47 zz4_48 zz4_49 zz4_50 zz4_51 zz4_52 zz4_53 zz4_54 zz4_55 zz4_56 zz4_57 zz4_58 zz4_59 zz4_60 zz4_61 zz4_62 zz4_63 zz4_64 zz4_65 zz4_66 zz4_67 zz4_68 zz4_69 zz4_70 zz4_71 zz4_72 zz4_73 zz4_74 zz4_75 zz4_76 zz4_77 zz4_78 zz4_79 zz4_80 zz4_81 zz4_82 u157 u158 u159 zz5_5 zz5_6 zz5_7 zz5_8 zz5_9 zz5_10 zz5_11 zz5_12 zz5_13 zz5_14 zz5_15 zz5_16 zz5_17 zz5_18 zz5_19 zz5_20 zz5_21 zz5_22 zz5_23 zz5_24 zz5_25 zz5_26 zz5_27 zz5_28 zz5_29 zz5_30 zz5_31 zz5_32 zz5_33 zz5_34 zz5_35 zz5_36 zz5_37 zz5_38 zz5_39 zz5_40 zz5_41 zz5_42 zz5_43 zz5_44 zz5_45 zz5_46 zz5_47 zz5_48 zz5_49 zz5_50 zz5_51 zz5_52 zz5_53 zz5_54 zz5_55 zz5_56 zz5_57 zz5_58 zz5_59 zz5_60 zz5_61 zz5_62 zz5_63 zz5_64 zz5_65 zz5_66 zz5_67 zz5_68 zz5_69 zz5_70 zz5_71 zz5_72 zz5_73 zz5_74 zz5_75 zz5_76 zz5_77 zz5_78 zz5_79 zz5_80 zz5_81 zz5_82 zz5_83 zz5_84 zz5_85 zz5_86 zz5_87 zz5_88 zz5_89 zz5_90 zz5_91 zz5_92 zz5_93 zz5_94 zz5_95 zz5_96 zz5_97 zz5_98 zz5_99 zz5_100 zz5_101 zz5_102 zz5_103 zz5_104 zz5_105 zz5_106 zz5_107 zz5_108 zz5_109 zz5_110 zz5_111 zz5_112 zz5_113 zz5_114 zz5_115 zz5_116 zz5_117 zz5_118 u274 u275 u276 u277 u278 u279 u280 u281 u282 u283 u284 u285 u286 u287 zz2_20 zz2_21 zz2_22 m H g zz2_23 HMK HE p1 p2 HM64 hm47 zz4_83 zz4_84 zz4_85 wd M RB zz4_86 u13 u14 u86 u87 u88 u89 u90 u91 u92 u93 u94 u95 u96 u97 u98 u99 u100 u101 u102 u103 u104 u105 u106 u107 u108 u109 u110 zz4_87 zz4_88 zz4_89 zz5_119 zz5_120 gk_ zz5_121 zz4_90 A11 zz5_122 n11 hi16 zz5_123 zz4_91 zz4_92 zz4_93 zz5_124 zz5_125 u16 u17 u111 u112 u113 u114 u115 u116 u117 u118 u119 u120 u121 u122 u123 u124 u125 u126 u127 u128 u129 u130 u131 u132 u133 u134 u135 u136 u137 u138 u139 u140 u141 u142 u143 u144 u145 u146 u147 u148 u149 u150 u151 u152 u153 u154 u155 u156 zz4_95 zz4_96 zz4_97 zz4_98 i hi1 hi hki c11 g11 hi64 q1 W LW EW G11 zz5_126 zz5_127 w5 zz5_128 zz5_129 g18 c18 a0 a1 a2 a3 a4 a5 a6 a7 V0 EH8 gk wr u18 u19 u20 u21 u160 u161 u162 u163 u164 u165 u166 u167 u168 u169 u170 u171 u172 u173 u174 u175 u176 u177 u178 u179 u180 u181 u182 u183 u184 u185 u186 u187 u188 u189 u190 u191 u192 u193 u194 u195 u196 u197 u198 u199 u200 u201 u202 u203 u204 u205 u206 u207 u208 u209 u210 u211 u212 u213 u214 u215 u216 u217 u218 u219 u220 u221 u222 u223 u224 u225 u226 u227 u228 u229 u230 u231 u232 u233 u234 u235 u236 u237 u238 u239 u240 u241 u242 u243 u244 u245 u246 u247 u248 u249 u250 u251 u252 u253 u254 u255 u256 u257 u258 u259 u260 u261 u262 u263 u264 u265 u266 u267 u268 u269 u270 u271 u272 u273 hrel zz5_130 zz5_131 zz5_132 zz5_133
          exact HREST.out
end Go.Proofs.Ytomenklhgofjaaa.Sh
