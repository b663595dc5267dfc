/- The digest of the reference, a stage of its walk (4 of 6). Conditions: the text has at most 140737488351232 bytes. -/
import Derived.Test.YtomenklhgofjaaaXShaS3
set_option linter.unusedVariables false
set_option linter.unusedSimpArgs false
namespace Go.Proofs.Ytomenklhgofjaaa.Sh
open Go.RowKit Go.Proofs.YtomenklhgofjaaaW.PrintWords Go.Proofs.YtomenklhgofjaaaW.PrintLast Go.Proofs.YtomenklhgofjaaaW.PrintMore
set_option maxHeartbeats 16000000 in
set_option maxRecDepth 100000 in
def st4 (s : ByteArray) (hs : s.size ≤ 140737488351232) (w : World) : Stage ((st3 s hs w).P) := by
  apply Stage.mk
  case imp =>
    intro HREST
    intro hl kl pr EL L8 L64 P64 HG KG HS zz1_1 w1 gp cp zz1_2 zz2_1 zz1_3 u28 u29 u30 u31 u32 u33 u34 u35 u36 u37 u38 u39 u40 u41 u42 u43 u44 u45 u46 u47 u48 u49 zz1_4 zz1_5 zz1_6 zz1_7 c4 c5 zz2_2 zz2_3 hlt q1 gh gq wb cb wc hcv BS zz1_8 zz1_9 v1_ w_ zz1_10 R2 HR2 zz2_4 u55 u56 u57 u58 u59 u60 u61 zz1_12 zz1_13 zz1_14 l gb cb' n7 N7 zz1_15 HZ HQ d1 d2 d3 EQ HL7 hsz zz2_5 zz2_6 zz2_7 zz2_8 zz2_9 u66 u67 u68 u69 u70 u71 u72 u73 u74 u75 u76 u77 u78 zz2_10 zz2_11 zz2_12 zz2_13 i hi hki gc cc n8 hi8 p1 B EB c9 BLN HGB NEB zz2_14 zz2_15 zz2_16 zz2_17 zz2_18 zz2_19 R5 HR5 wr u11 u12 u13 u14 u15 u16 u17 u18 u19 u20 u21 u22 u79 u80 u81 u82 u83 u84 u85 u86 u87 u88 u89 u90 u91 u92 u93 u94 u95 u96 u97 u98 u99 u100 u101 u102 u103 u104 u105 u106 u107 u108 u109 u110 u111 u112 u113 u114 u115 u116 u117 u118 u119 u120 u121 u122 u123 u124 u125 u126 u127 u128 u129 u130 u131 u132 u133 u134 u135 u136 u137 u138 u139 u140 u141 u142 u143 u144 u145 u146 u147 u148 u149 u150 u151 u152 u153 u154 u155 u156 u157 u158 u159 u160 u161 u162 u163 u164 u165 u166 u167 u168 u169 u170 u171 u172 u173 u174 u175 u176 u177 u178 u179 u180 u181 u182 u183 u184 u185 u186 u187 u188 u189 u190 u191 u192 u193 u194 u195 u196 u197 u198 u199 u200 u201 u202 u203 u204 u205 u206 u207 u208 u209 u210 u211 u212 u213 u214 u215 u216 u217 u218 u219 u220 u221 u222 u223 u224 u225 u226 u227 u228 u229 u230 u231 u232 u233 u234 u235 u236 u237 u238 u239 u240 u241 u242 u243 u244 u245 u246 u247 u248 u249 u250 u251 u252 u253 u254 u255 u256 u257 u258 u259 u260 u261 u262 u263 u264 u265 u266 u267 u268 u269 u270 u271 u272 u273 u274 u275 u276 u277 u278 u279 u280 u281 u282 u283 u284 u285 u286 u287 zz2_20 zz2_21 zz2_22 m H M RB hbl3 hbl2 g zz2_23 HMK HE
    have p1 : decide ((m : Int) < (n8 : Int)) = true := decide_eq_true (by have := HMK.out; omega)
    have p2 : decide (m < n8) = true := decide_eq_true (by have := HMK.out; omega)
    have HM64 := Aside0.mk (show m + 64 ≤ B.length by have := HMK.out; omega)
    have hm47 : m ≤ 140737488351312 := by have := HMK.out; omega
    clear hbl3 hbl2
    go_wp2
    obtain ⟨wd, hwd⟩ : ∃ wd : World, wd = wr := ⟨_, rfl⟩
    subst hwd
    go_loopg [12, 11] 16 (fun kq v12 v11 w' => ∃ (i : Nat), i ≤ 16 ∧ kq + i = 16 ∧ v12 = .int .i64 i ∧ Aside0 (w'.ownsRow wd.heap.size 63 1 v11 (wk2 B m i).length (nums .u32 (wk2 B m i))) ∧ Aside0 (Below wd.heap.size wd w'))
    case atStart => exact ⟨0, by omega, by omega, rfl, ⟨own_lit wd wd.heap.size 63 .u32 [] (Nat.le_refl _) (by decide)⟩, ⟨below_alloc (Below.refl _ _) _⟩⟩
    case round =>
      obtain ⟨i, hi, hki, rfl, HO, HB⟩ := hrel
      obtain ⟨gk_, egk_⟩ : ∃ x, x = gk := ⟨_, rfl⟩
      rw [← egk_] at hki
      subst egk_
      obtain ⟨A11, c11, e11⟩ := own_slice HO.out
      subst e11
      obtain ⟨n11, hn11⟩ : ∃ n, (wk2 B m i).length = n := ⟨_, rfl⟩
      have h11 := wk2_len B m i
      have HO_ := HO.out
      rw [hn11] at HO_ h11 ⊢
      clear HO
      have HO := Aside0.mk HO_
      have N11 := Aside0.mk hn11
      have H11 := Aside0.mk h11
      clear HO_ hn11 h11
      by_cases hi16 : i < 16
      · have q1 : decide ((i : Int) < 16) = true := decide_eq_true (by omega)
        have RB' := Aside0.mk (RB.out.below HB.out)
        go_wp2
        obtain ⟨wx, hwx⟩ : ∃ wx : World, wx = wr := ⟨_, rfl⟩
        subst hwx
        go_loopg [14, 13] 4 (fun kq v14 v13 w' => ∃ (j : Nat), j ≤ 4 ∧ kq + j = 4 ∧ v14 = .int .i64 j ∧ v13 = .int .u32 (xj B (m + 4 * i) j) ∧ w' = wx)
        case atStart => exact ⟨0, by omega, by omega, rfl, rfl, rfl⟩
        case round => as_aux_lemma =>
          obtain ⟨j, hj, hkj, rfl, rfl, rfl⟩ := hrel
          by_cases hj4 : j < 4
          · have q2 : decide ((j : Int) < 4) = true := decide_eq_true (by omega)
            have hlt : m + 4 * i + j < B.length := by have := HM64.out; omega
            have x0 := RB'.out.cell (m + 4 * i + j) hlt
            obtain ⟨bv, hbv⟩ : ∃ x, B.getD (m + 4 * i + j) 0 = x := ⟨_, rfl⟩
            rw [hbv] at x0
            have HBV := Aside0.mk hbv
            obtain ⟨xv, hxv⟩ : ∃ x, xj B (m + 4 * i) j = x := ⟨_, rfl⟩
            rw [hxv]
            have HXV := Aside0.mk hxv
            have y0 : ((m : Int) + 4 * (i : Int) + (j : Int)).toNat = m + 4 * i + j := by omega
            have y1 := eq_true (show (m : Int) + 4 * (i : Int) + (j : Int) < (n8 : Int) by have := BLN.out; omega)
            have y2 := eq_true (show 0 ≤ (m : Int) + 4 * (i : Int) + (j : Int) by omega)
            have y3 : IntKind.i64.wrap (4 * (i : Int)) = 4 * (i : Int) := by rw [IntKind.wrap_i64]; omega
            have y4 : IntKind.i64.wrap ((m : Int) + 4 * (i : Int)) = (m : Int) + 4 * (i : Int) := by rw [IntKind.wrap_i64]; omega
            have y5 : IntKind.i64.wrap ((m : Int) + 4 * (i : Int) + (j : Int)) = (m : Int) + 4 * (i : Int) + (j : Int) := by rw [IntKind.wrap_i64]; omega
            clear hbv hxv hlt
            go_wp2
            go_roundg (gk - 1)
            case measure => omega
            case rel => exact ⟨j + 1, by omega, by omega, rfl, congrArg (Value.int .u32) (xj_step HXV.out HBV.out), rfl⟩
          · have q2 : decide ((j : Int) < 4) = false := decide_eq_false (by omega)
            obtain ⟨xv, hxv⟩ : ∃ x, xj B (m + 4 * i) j = x := ⟨_, rfl⟩
            rw [hxv]
            rw [show j = 4 by omega] at hxv
            have HW1 := Aside0.mk (wk2_low hi16 hxv)
            clear hxv
            go_wp2_with (first
              | ((with_reducible refine gate_builtin (b := .append) (xs := #[.tmp 107, .tmp 109]) rfl ?_); at_builtin; refine print_append_num (w0 := wd) wd.heap.size rfl (.tmp 107) (.tmp 109) 75 63 .u32 4 rfl Try.underlying75 info63 (by decide) (.slice A11 n11 c11) (wk2 B m i) xv rfl rfl (by rw [N11.out]; exact HO.out) HB.out HB.out.size (by have := N11.out; have := H11.out; omega) ?_; intro v1_ w_ ho hb hg hat; have HO1 := Aside0.mk ho; have HB1 := Aside0.mk hb; clear ho hb hg hat))
            go_roundg (gk_ - 1)
            case measure => omega
            case rel => exact ⟨i + 1, by omega, by omega, rfl, ⟨HW1.out ▸ HO1.out⟩, HB1⟩
      · have q1 : decide ((i : Int) < 16) = false := decide_eq_false (by omega)
        have e16 : i = 16 := by omega
        have HO_ := HO.out
        have hn_ := N11.out
        rw [e16] at HO_ hn_
        have HO2 := Aside0.mk (show wr.ownsRow wd.heap.size 63 1 (.slice A11 n11 c11) (wk2 B m 16).length (nums .u32 (wk2 B m 16)) by rw [hn_]; exact HO_)
        clear HO_ HO N11 H11 hn_ e16
        go_wp2
        go_loopg [15, 11] 48 (fun kq v15 v11 w' => ∃ (i : Nat), 16 ≤ i ∧ i ≤ 64 ∧ kq + i = 64 ∧ v15 = .int .i64 i ∧ Aside0 (w'.ownsRow wd.heap.size 63 1 v11 (wk2 B m i).length (nums .u32 (wk2 B m i))) ∧ Aside0 (Below wd.heap.size wd w'))
        case atStart => exact ⟨16, by omega, by omega, by omega, rfl, HO2, HB⟩
        case round =>
          rename_i zz4_1 zz4_2 zz4_3 zz4_4 zz4_5 zz4_6 zz4_7 zz4_8 zz4_9 zz4_10 zz4_11 zz4_12 zz4_13 zz4_14 zz4_15 zz4_16 zz4_17 zz4_18 zz4_19 zz4_20 zz4_21 zz4_22 zz4_23 zz4_24 zz4_25 zz4_26 zz4_27 zz4_28 zz4_29 zz4_30 zz4_31 zz4_32 zz4_33 zz4_34 zz4_35 zz4_36 zz4_37 zz4_38 zz4_39 zz4_40 zz4_41 zz4_42 zz4_43 zz4_44 zz4_45 zz4_46 zz4_47 zz4_48 zz4_49 zz4_50 zz4_51 zz4_52 zz4_53 zz4_54 zz4_55 zz4_56 zz4_57 zz4_58 zz4_59 zz4_60 zz4_61 zz4_62 zz4_63 zz4_64 zz4_65 zz4_66 zz4_67 zz4_68 zz4_69 zz4_70 zz4_71 zz4_72 zz4_73 zz4_74 zz4_75 zz4_76 zz4_77 zz4_78 zz4_79 zz4_80 zz4_81 zz4_82 zz4_83 zz4_84 zz4_85 zz4_86 zz4_87 zz4_88 zz4_89 zz4_90 zz4_91 zz4_92 zz4_93 zz4_94 zz4_95 zz4_96 zz4_97 zz4_98
          revert hl kl pr EL L8 L64 P64 HG KG HS zz1_1 w1 gp cp zz1_2 zz2_1 zz1_3 u28 u29 u30 u31 u32 u33 u34 u35 u36 u37 u38 u39 u40 u41 u42 u43 u44 u45 u46 u47 u48 u49 zz1_4 zz1_5 zz1_6 zz1_7 c4 c5 zz2_2 zz2_3 hlt zz4_1 gh gq wb cb wc hcv BS zz1_8 zz1_9 v1_ w_ zz1_10 R2 HR2 zz2_4 u55 u56 u57 u58 u59 u60 u61 zz1_12 zz1_13 zz1_14 l gb cb' n7 N7 zz1_15 HZ HQ d1 d2 d3 EQ HL7 hsz zz2_5 zz2_6 zz2_7 zz2_8 zz2_9 u66 u67 u68 u69 u70 u71 u72 u73 u74 u75 u76 u77 u78 zz2_10 zz2_11 zz2_12 zz2_13 zz4_2 zz4_3 zz4_4 gc cc n8 hi8 zz4_5 B EB c9 BLN HGB NEB zz2_14 zz2_15 zz2_16 zz2_17 zz2_18 zz2_19 R5 HR5 zz4_6 u12 zz4_7 zz4_8 zz4_9 zz4_10 zz4_11 u18 u19 u20 u21 u22 u79 u80 u81 u82 u83 u84 u85 zz4_12 zz4_13 zz4_14 zz4_15 zz4_16 zz4_17 zz4_18 zz4_19 zz4_20 zz4_21 zz4_22 zz4_23 zz4_24 zz4_25 zz4_26 zz4_27 zz4_28 zz4_29 zz4_30 zz4_31 zz4_32 zz4_33 zz4_34 zz4_35 zz4_36 zz4_37 zz4_38 zz4_39 zz4_40 zz4_41 zz4_42 zz4_43 zz4_44 zz4_45 zz4_46 zz4_47 zz4_48 zz4_49 zz4_50 zz4_51 zz4_52 zz4_53 zz4_54 zz4_55 zz4_56 zz4_57 zz4_58 zz4_59 zz4_60 zz4_61 zz4_62 zz4_63 zz4_64 zz4_65 zz4_66 zz4_67 zz4_68 zz4_69 zz4_70 zz4_71 zz4_72 zz4_73 zz4_74 zz4_75 zz4_76 zz4_77 zz4_78 zz4_79 zz4_80 zz4_81 zz4_82 u157 u158 u159 u160 u161 u162 u163 u164 u165 u166 u167 u168 u169 u170 u171 u172 u173 u174 u175 u176 u177 u178 u179 u180 u181 u182 u183 u184 u185 u186 u187 u188 u189 u190 u191 u192 u193 u194 u195 u196 u197 u198 u199 u200 u201 u202 u203 u204 u205 u206 u207 u208 u209 u210 u211 u212 u213 u214 u215 u216 u217 u218 u219 u220 u221 u222 u223 u224 u225 u226 u227 u228 u229 u230 u231 u232 u233 u234 u235 u236 u237 u238 u239 u240 u241 u242 u243 u244 u245 u246 u247 u248 u249 u250 u251 u252 u253 u254 u255 u256 u257 u258 u259 u260 u261 u262 u263 u264 u265 u266 u267 u268 u269 u270 u271 u272 u273 u274 u275 u276 u277 u278 u279 u280 u281 u282 u283 u284 u285 u286 u287 zz2_20 zz2_21 zz2_22 m H g zz2_23 HMK HE p1 p2 HM64 hm47 zz4_83 zz4_84 zz4_85 wd M RB zz4_86 u13 u14 u86 u87 u88 u89 u90 u91 u92 u93 u94 u95 u96 u97 u98 u99 u100 u101 u102 u103 u104 u105 u106 u107 u108 u109 u110 zz4_87 zz4_88 zz4_89 i hi HB gk_ hki zz4_90 A11 c11 n11 hi16 q1 HO2 zz4_91 zz4_92 zz4_93 zz4_94 gk wr u11 u15 u16 u17 u111 u112 u113 u114 u115 u116 u117 u118 u119 u120 u121 u122 u123 u124 u125 u126 u127 u128 u129 u130 u131 u132 u133 u134 u135 u136 u137 u138 u139 u140 u141 u142 u143 u144 u145 u146 u147 u148 u149 u150 u151 u152 u153 u154 u155 u156 hrel zz4_95 zz4_96 zz4_97 zz4_98
          exact HREST.out
end Go.Proofs.Ytomenklhgofjaaa.Sh
