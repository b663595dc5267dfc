/- The digest of the reference, a stage of its walk (6 of 6). Conditions: the text has at most 140737488351232 bytes. -/
import Derived.Test.YtomenklhgofjaaaXShaS5
import Derived.Test.YtomenklhgofjaaaXShaEq
set_option linter.unusedVariables false
set_option linter.unusedSimpArgs false
namespace Go.Proofs.Ytomenklhgofjaaa.Sh
open Go.RowKit Go.Proofs.YtomenklhgofjaaaW.PrintWords Go.Proofs.YtomenklhgofjaaaW.PrintLast Go.Proofs.YtomenklhgofjaaaW.PrintMore
set_option maxHeartbeats 16000000 in
set_option maxRecDepth 100000 in
theorem st6_all (s : ByteArray) (hs : s.size ≤ 140737488351232) (w : World) : (st5 s hs w).P := by
  intro hl kl pr EL L8 L64 P64 HG KG HS zz1_1 w1 gp cp zz1_2 zz2_1 zz1_3 u28 u29 u30 u31 u32 u33 u34 u35 u36 u37 u38 u39 u40 u41 u42 u43 u44 u45 u46 u47 u48 u49 zz1_4 zz1_5 zz1_6 zz1_7 c4 c5 zz2_2 zz2_3 hlt zz4_1 gh gq wb cb wc hcv BS zz1_8 zz1_9 v1_ w_ zz1_10 R2 HR2 zz2_4 u55 u56 u57 u58 u59 u60 u61 zz1_12 zz1_13 zz1_14 l gb cb' n7 N7 zz1_15 HZ HQ d1 d2 d3 EQ HL7 hsz zz2_5 zz2_6 zz2_7 zz2_8 zz2_9 u66 u67 u68 u69 u70 u71 u72 u73 u74 u75 u76 u77 u78 zz2_10 zz2_11 zz2_12 zz2_13 zz4_2 zz4_3 zz4_4 gc cc n8 hi8 zz4_5 B EB c9 BLN HGB NEB zz2_14 zz2_15 zz2_16 zz2_17 zz2_18 zz2_19 R5 HR5 zz4_6 u12 zz4_7 zz4_8 zz4_9 zz4_10 zz4_11 zz5_1 zz5_2 zz5_3 zz5_4 u22 u79 u80 u81 u82 u83 u84 u85 zz4_12 zz4_13 zz4_14 zz4_15 zz4_16 zz4_17 zz4_18 zz4_19 zz4_20 zz4_21 zz4_22 zz4_23 zz4_24 zz4_25 zz4_26 zz4_27 zz4_28 zz4_29 zz4_30 zz4_31 zz4_32 zz4_33 zz4_34 zz4_35 zz4_36 zz4_37 zz4_38 zz4_39 zz4_40 zz4_41 zz4_42 zz4_43 zz4_44 zz4_45 zz4_46 zz4_47 zz4_48 zz4_49 zz4_50 zz4_51 zz4_52 zz4_53 zz4_54 zz4_55 zz4_56 zz4_57 zz4_58 zz4_59 zz4_60 zz4_61 zz4_62 zz4_63 zz4_64 zz4_65 zz4_66 zz4_67 zz4_68 zz4_69 zz4_70 zz4_71 zz4_72 zz4_73 zz4_74 zz4_75 zz4_76 zz4_77 zz4_78 zz4_79 zz4_80 zz4_81 zz4_82 u157 u158 u159 zz5_5 zz5_6 zz5_7 zz5_8 zz5_9 zz5_10 zz5_11 zz5_12 zz5_13 zz5_14 zz5_15 zz5_16 zz5_17 zz5_18 zz5_19 zz5_20 zz5_21 zz5_22 zz5_23 zz5_24 zz5_25 zz5_26 zz5_27 zz5_28 zz5_29 zz5_30 zz5_31 zz5_32 zz5_33 zz5_34 zz5_35 zz5_36 zz5_37 zz5_38 zz5_39 zz5_40 zz5_41 zz5_42 zz5_43 zz5_44 zz5_45 zz5_46 zz5_47 zz5_48 zz5_49 zz5_50 zz5_51 zz5_52 zz5_53 zz5_54 zz5_55 zz5_56 zz5_57 zz5_58 zz5_59 zz5_60 zz5_61 zz5_62 zz5_63 zz5_64 zz5_65 zz5_66 zz5_67 zz5_68 zz5_69 zz5_70 zz5_71 zz5_72 zz5_73 zz5_74 zz5_75 zz5_76 zz5_77 zz5_78 zz5_79 zz5_80 zz5_81 zz5_82 zz5_83 zz5_84 zz5_85 zz5_86 zz5_87 zz5_88 zz5_89 zz5_90 zz5_91 zz5_92 zz5_93 zz5_94 zz5_95 zz5_96 zz5_97 zz5_98 zz5_99 zz5_100 zz5_101 zz5_102 zz5_103 zz5_104 zz5_105 zz5_106 zz5_107 zz5_108 zz5_109 zz5_110 zz5_111 zz5_112 zz5_113 zz5_114 zz5_115 zz5_116 zz5_117 zz5_118 u274 u275 u276 u277 u278 u279 u280 u281 u282 u283 u284 u285 u286 u287 zz2_20 zz2_21 zz2_22 m H g zz2_23 HMK HE p1 p2 HM64 hm47 zz4_83 zz4_84 zz4_85 wd M RB zz4_86 u13 u14 u86 u87 u88 u89 u90 u91 u92 u93 u94 u95 u96 u97 u98 u99 u100 u101 u102 u103 u104 u105 u106 u107 u108 u109 u110 zz4_87 zz4_88 zz4_89 zz5_119 zz5_120 gk_ zz5_121 zz4_90 A11 zz5_122 n11 hi16 zz5_123 zz4_91 zz4_92 zz4_93 zz5_124 zz5_125 u16 u17 u111 u112 u113 u114 u115 u116 u117 u118 u119 u120 u121 u122 u123 u124 u125 u126 u127 u128 u129 u130 u131 u132 u133 u134 u135 u136 u137 u138 u139 u140 u141 u142 u143 u144 u145 u146 u147 u148 u149 u150 u151 u152 u153 u154 u155 u156 zz4_95 zz4_96 zz4_97 zz4_98 i hi1 hi hki c11 g11 hi64 q1 W LW EW G11 zz5_126 zz5_127 w5 zz5_128 zz5_129 g18 c18 a0 a1 a2 a3 a4 a5 a6 a7 V0 EH8 gk wr u18 u19 u20 u21 u160 u161 u162 u163 u164 u165 u166 u167 u168 u169 u170 u171 u172 u173 u174 u175 u176 u177 u178 u179 u180 u181 u182 u183 u184 u185 u186 u187 u188 u189 u190 u191 u192 u193 u194 u195 u196 u197 u198 u199 u200 u201 u202 u203 u204 u205 u206 u207 u208 u209 u210 u211 u212 u213 u214 u215 u216 u217 u218 u219 u220 u221 u222 u223 u224 u225 u226 u227 u228 u229 u230 u231 u232 u233 u234 u235 u236 u237 u238 u239 u240 u241 u242 u243 u244 u245 u246 u247 u248 u249 u250 u251 u252 u253 u254 u255 u256 u257 u258 u259 u260 u261 u262 u263 u264 u265 u266 u267 u268 u269 u270 u271 u272 u273 hrel zz5_130 zz5_131 zz5_132 zz5_133
  clear V0 EH8
  obtain ⟨j, g18, c18, va, vb, vc, vd, ve, vf, vg, vh, hj, hkj, rfl, rfl, V, HR⟩ := hrel
  by_cases hj64 : j < 64
  · have q2 : decide ((j : Int) < 64) = true := decide_eq_true (by omega)
    have q3 := eq_true (show (j : Int) < 64 by omega)
    obtain ⟨kj, ekj⟩ : ∃ k, kl.getD j 0 = k := ⟨_, rfl⟩
    obtain ⟨wj, ewj⟩ : ∃ k, W.getD j 0 = k := ⟨_, rfl⟩
    have EKJ := Aside0.mk ekj
    have EWJ := Aside0.mk ewj
    clear ekj ewj
    obtain ⟨x0, x1, x2, x3, x4, x5, x6, x7, x8, x9⟩ := V.out.facts LW.out L64.out hj64 EKJ EWJ
    go_wp2
    go_quiet ((go_at_call 47; exact Calls.quiet_of_same (qright_calls _ _ (by omega) _)))
    have V' := Aside0.mk (V.out.drewN nq)
    clear V x0 x1 x2 x3 x4 x5 x6 x7 x8 x9
    obtain ⟨wr1, hwr1⟩ : ∃ x, x = wr.drewN nq := ⟨_, rfl⟩
    rw [← hwr1] at V' ⊢
    clear hwr1
    obtain ⟨x0, x1, x2, x3, x4, x5, x6, x7, x8, x9⟩ := V'.out.facts LW.out L64.out hj64 EKJ EWJ
    go_wp2
    go_quiet ((go_at_call 47; exact Calls.quiet_of_same (qright_calls _ _ (by omega) _)))
    have V := Aside0.mk (V'.out.drewN nq)
    clear V' x0 x1 x2 x3 x4 x5 x6 x7 x8 x9
    obtain ⟨wr2, hwr2⟩ : ∃ x, x = wr1.drewN nq := ⟨_, rfl⟩
    rw [← hwr2] at V ⊢
    clear hwr2
    go_wp2
    refine wp_region_still_tail 26 (by kernel_rfl) (by kernel_rfl) ?_
    simp only [List.take_succ_cons, List.take_zero, List.drop_succ_cons, List.drop_zero]
    change wpStill _ _ (World.drew _) (fun a' => wpList _ _ _ _ a' (World.drew _)) _ _
    have V' := Aside0.mk V.out.drew
    obtain ⟨wr3, hwr3⟩ : ∃ x, x = wr2.drew := ⟨_, rfl⟩
    rw [← hwr3] at V' ⊢
    clear hwr3
    obtain ⟨x0, x1, x2, x3, x4, x5, x6, x7, x8, x9⟩ := V'.out.facts LW.out L64.out hj64 EKJ EWJ
    repeat still_step
    refine wpStill_nil ?_
    go_wp2
    have V := Aside0.mk (V'.out.next [(oneG ve vf vg vh kj wj + twoG va vb vc) % 4294967296, va, vb, vc, (vd + oneG ve vf vg vh kj wj) % 4294967296, ve, vf, vg])
    clear V' x0 x1 x2 x3 x4 x5 x6 x7 x8 x9
    go_roundg (gk - 1)
    case measure => omega
    case rel => exact ⟨j + 1, _, 8, _, va, vb, vc, _, ve, vf, vg, by omega, by omega, rfl, rfl, V, ⟨rnds2_step HR.out EKJ.out EWJ.out⟩⟩
  · have q2 : decide ((j : Int) < 64) = false := decide_eq_false (by omega)
    have hr64 := HR.out
    rw [show j = 64 by omega] at hr64
    obtain ⟨Vv, hVv⟩ : ∃ x, x = [va, vb, vc, vd, ve, vf, vg, vh] := ⟨_, rfl⟩
    have V_ := V.out
    rw [← hVv] at hr64 V_
    have HV8 := Aside0.mk (show Vv.length = 8 by rw [hVv]; rfl)
    have HR64 := Aside0.mk hr64
    have V0 := Aside0.mk V_
    have HH8 := Aside0.mk V_.rm.lH
    clear hr64 hVv V_ V HR
    go_wp2
    go_loopg [22] 8 (fun kq v22 w' => ∃ (n : Nat), n ≤ 8 ∧ kq + n = 8 ∧ v22 = .int .i64 n ∧ Aside0 (V4 w w' gh gq gc g11 g18 (zs H Vv n) kl B W Vv))
    case atStart => exact ⟨0, by omega, by omega, rfl, V0⟩
    case round => as_aux_lemma =>
      clear V0
      obtain ⟨n, hn, hkn, rfl, V⟩ := hrel
      by_cases hn8 : n < 8
      · have q3 : decide ((n : Int) < 8) = true := decide_eq_true (by omega)
        have q4 := eq_true (show (n : Int) < 8 by omega)
        have x0 := V.out.rm.h0.cell n (by rw [zs_len HH8.out HV8.out (by omega)]; exact hn8)
        rw [zs_get HH8.out HV8.out hn8] at x0
        have x1 := V.out.rv.cell n (by rw [HV8.out]; exact hn8)
        have x2 := V.out.rm.h0.frozen n
        obtain ⟨cs, ecs⟩ : ∃ c, H.getD n 0 = c := ⟨_, rfl⟩
        obtain ⟨cv, ecv⟩ : ∃ c, Vv.getD n 0 = c := ⟨_, rfl⟩
        have V' := Aside0.mk (V.out.drew.put n ((cs + cv) % 4294967296) hn8 (H' := zs H Vv (n + 1)) (by rw [← ecs, ← ecv]; exact zs_set HH8.out HV8.out hn8))
        rw [ecs] at x0
        rw [ecv] at x1
        clear ecs ecv
        go_wp2
        refine wp_region_still_tail 10 (by kernel_rfl) (by kernel_rfl) ?_
        simp only [List.take_succ_cons, List.take_zero, List.drop_succ_cons, List.drop_zero]
        change wpStill _ _ (World.drew _) (fun a' => wpList _ _ _ _ a' (World.drew _)) _ _
        repeat still_step
        refine wpStill_nil ?_
        go_wp2
        go_roundg (gk - 1)
        case measure => omega
        case rel => exact ⟨n + 1, by omega, by omega, rfl, V'⟩
      · have q3 : decide ((n : Int) < 8) = false := decide_eq_false (by omega)
        have V_ := V.out
        rw [show n = 8 by omega, zs_all HH8.out HV8.out] at V_
        have hmix : sumF H Vv = mix2 H kl B m := by unfold mix2; rw [EW.out, HR64.out]
        rw [hmix] at V_
        have V' := Aside0.mk V_
        clear V_ V hmix
        have hm48 : IntKind.i64.wrap ((m : Int) + 64) = (m : Int) + 64 := by rw [IntKind.wrap_i64]; omega
        go_wp2
        go_roundg g
        case measure => omega
        case rel => exact ⟨m + 64, mix2 H kl B m, congrArg (Value.int .i64) (by omega), ⟨by have := HMK.out; omega⟩, HE, ⟨V'.out.rm⟩, ⟨V'.out.rb⟩⟩
theorem rsum_calls (s : ByteArray) (hs : s.size ≤ 140737488351232) (w : World) : Calls Try.prog 23 #[.string s] w fun e w' => e = .returned (.string (sha2G HL KL s)) ∧ Below w.heap.size w w' :=
  (st1 s hs w).imp ⟨(st2 s hs w).imp ⟨(st3 s hs w).imp ⟨(st4 s hs w).imp ⟨(st5 s hs w).imp ⟨st6_all s hs w⟩⟩⟩⟩⟩
theorem ref_SHA (t : ByteArray) (ht : t.size ≤ 140737488351232) (w : World) : Calls Try.prog 23 #[.string t] w fun e w' => e = .returned (.string (SHA t)) ∧ Below w.heap.size w w' := by
  have h := rsum_calls t ht w
  rw [SHA_ref] at h
  exact h
end Go.Proofs.Ytomenklhgofjaaa.Sh
