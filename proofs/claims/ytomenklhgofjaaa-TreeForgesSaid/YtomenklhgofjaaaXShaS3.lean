/- The digest of the reference, a stage of its walk (3 of 6). Conditions: the text has at most 140737488351232 bytes. -/
import Derived.Test.YtomenklhgofjaaaXShaS2
set_option linter.unusedVariables false
set_option linter.unusedSimpArgs false
namespace Go.Proofs.Ytomenklhgofjaaa.Sh
open Go.RowKit Go.Proofs.YtomenklhgofjaaaW.PrintWords Go.Proofs.YtomenklhgofjaaaW.PrintLast Go.Proofs.YtomenklhgofjaaaW.PrintMore
set_option maxHeartbeats 16000000 in
set_option maxRecDepth 100000 in
def st3 (s : ByteArray) (hs : s.size ≤ 140737488351232) (w : World) : Stage ((st2 s hs w).P) := by
  apply Stage.mk
  case imp =>
    intro HREST
    intro hl kl pr EL L8 L64 P64 HG KG HS zz1_1 w1 gp cp zz1_2 zz2_1 zz1_3 u28 u29 u30 u31 u32 u33 u34 u35 u36 u37 u38 u39 u40 u41 u42 u43 u44 u45 u46 u47 u48 u49 zz1_4 zz1_5 zz1_6 zz1_7 c4 c5 zz2_2 zz2_3 hlt q1 gh gq wb cb wc hcv BS zz1_8 zz1_9 v1_ w_ zz1_10 R2 HR2 zz2_4 u55 u56 u57 u58 u59 u60 u61 zz1_12 zz1_13 zz1_14 l gb cb' n7 N7 zz1_15 HZ HQ d1 d2 d3 EQ HL7 hsz zz2_5 zz2_6 zz2_7 zz2_8 zz2_9 u66 u67 u68 u69 u70 u71 u72 u73 u74 u75 u76 u77 u78 zz2_10 zz2_11 zz2_12 zz2_13 i hi hki gc cc n8 hi8 p1 B EB c9 BLN RB M2 HGB NEB zz2_14 zz2_15 zz2_16 zz2_17 zz2_18 zz2_19 R5 HR5 gk wr u10 u11 u12 u13 u14 u15 u16 u17 u18 u19 u20 u21 u22 u79 u80 u81 u82 u83 u84 u85 u86 u87 u88 u89 u90 u91 u92 u93 u94 u95 u96 u97 u98 u99 u100 u101 u102 u103 u104 u105 u106 u107 u108 u109 u110 u111 u112 u113 u114 u115 u116 u117 u118 u119 u120 u121 u122 u123 u124 u125 u126 u127 u128 u129 u130 u131 u132 u133 u134 u135 u136 u137 u138 u139 u140 u141 u142 u143 u144 u145 u146 u147 u148 u149 u150 u151 u152 u153 u154 u155 u156 u157 u158 u159 u160 u161 u162 u163 u164 u165 u166 u167 u168 u169 u170 u171 u172 u173 u174 u175 u176 u177 u178 u179 u180 u181 u182 u183 u184 u185 u186 u187 u188 u189 u190 u191 u192 u193 u194 u195 u196 u197 u198 u199 u200 u201 u202 u203 u204 u205 u206 u207 u208 u209 u210 u211 u212 u213 u214 u215 u216 u217 u218 u219 u220 u221 u222 u223 u224 u225 u226 u227 u228 u229 u230 u231 u232 u233 u234 u235 u236 u237 u238 u239 u240 u241 u242 u243 u244 u245 u246 u247 u248 u249 u250 u251 u252 u253 u254 u255 u256 u257 u258 u259 u260 u261 u262 u263 u264 u265 u266 u267 u268 u269 u270 u271 u272 u273 u274 u275 u276 u277 u278 u279 u280 u281 u282 u283 u284 u285 u286 u287 hrel zz2_20 zz2_21 zz2_22 zz2_23
    clear M2 RB
    obtain ⟨m, H, rfl, HMK, HE, M, RB⟩ := hrel
    have hbl3 := BLN.out.2.2
    have hbl2 : B.length ≤ 140737488351312 := by have := BLN.out.2.1; have := HS.out; omega
    cases gk with
    | zero => as_aux_lemma =>
      have p1 : decide ((m : Int) < (n8 : Int)) = false := decide_eq_false (by have := HMK.out; omega)
      have p2 : decide (m < n8) = false := decide_eq_false (by have := HMK.out; omega)
      clear hbl3 hbl2
      have EH5 := Aside0.mk (show H = R5 from HE.out)
      clear HE
      go_wp2
      obtain ⟨wo, hwo⟩ : ∃ wo : World, wo = wr := ⟨_, rfl⟩
      subst hwo
      go_loopg [24, 23] 8 (fun kq v24 v23 w' => ∃ (i : Nat), i ≤ 8 ∧ kq + i = 8 ∧ v24 = .int .i64 i ∧ Aside0 (w'.ownsRow wo.heap.size 5 1 v23 (outr H i).length (nums .u8 (outr H i))) ∧ Aside0 (Below wo.heap.size wo w'))
      case atStart => exact ⟨0, by omega, by omega, rfl, ⟨own_lit wo wo.heap.size 5 .u8 [] (Nat.le_refl _) (by decide)⟩, ⟨below_alloc (Below.refl _ _) _⟩⟩
      case round => as_aux_lemma =>
        obtain ⟨i, hi, hki, rfl, HO, HBo⟩ := hrel
        obtain ⟨A, c, hA⟩ := own_slice HO.out
        subst hA
        obtain ⟨n23, hn23⟩ : ∃ n, (outr H i).length = n := ⟨_, rfl⟩
        have h23 := outr_len H i
        have HO_ := HO.out
        rw [hn23] at HO_ h23 ⊢
        have N23 := Aside0.mk hn23
        have HO2 := Aside0.mk HO_
        have H23 := Aside0.mk (show n23 ≤ 32 by omega)
        clear HO HO_ hn23 h23
        by_cases hi8 : i < 8
        · have q1 : decide ((i : Int) < 8) = true := decide_eq_true (by omega)
          have q2 := eq_true (show (i : Int) < 8 by omega)
          have x0 := (M.out.h0.below HBo.out).cell i (by rw [M.out.lH]; exact hi8)
          obtain ⟨x, hx⟩ : ∃ x, H.getD i 0 = x := ⟨_, rfl⟩
          rw [hx] at x0
          have HX := Aside0.mk hx
          clear hx
          go_wp2
          refine wp_region_late 24 (by kernel_rfl) (by kernel_rfl) (v := .slice A n23 c) (fun _ _ _ h => h) (Or.inl ⟨by rfl, fun _ => rfl⟩) ?_
          simp only [List.take_succ_cons, List.take_zero, List.drop_succ_cons, List.drop_zero]
          change wpStill _ _ (World.drew _) (fun a' => wpList _ _ _ _ a' (World.drew _)) _ _
          obtain ⟨wy, hwy⟩ : ∃ wy : World, wy = wr.drew := ⟨_, rfl⟩
          have HOy := Aside0.mk (show wy.ownsRow wo.heap.size 5 1 (.slice A n23 c) (outr H i).length (nums .u8 (outr H i)) by rw [hwy, N23.out]; exact HO2.out)
          have HBy := Aside0.mk (show Below wo.heap.size wo wy by rw [hwy]; exact HBo.out.drew)
          rw [← hwy]
          have x1 : wy.cell? ⟨gh, i, none⟩ = some (.int .u32 x) := by rw [hwy]; exact x0
          clear hwy x0
          repeat still_step
          refine wpStill_nil ?_
          go_wp2_with (first
            | ((with_reducible refine gate_builtin (b := .append) (xs := #[.tmp 293, .tmp 317]) rfl ?_); at_builtin; refine print_append_row (w0 := wo) wo.heap.size rfl (.tmp 293) (.tmp 317) 26 5 .u8 1 rfl Try.underlying26 info5 (by decide) (.slice A n23 c) (outr H i) (byte4r x) (some ⟨wy.heap.size, 0, none⟩) 4 4 rfl rfl (HOy.out.alloc _) (reads_new wy (byte4r x) (by show 4 ≤ 100; omega)) (below_alloc HBy.out _) (by have := HBy.out.size; simp; omega) (by have := N23.out; have := H23.out; omega) ?_; intro v1_ w3 ho hb hg hat; have HO1 := Aside0.mk ho; have HB1 := Aside0.mk hb; clear ho hb hg hat))
          go_roundg (gk - 1)
          case measure => omega
          case rel => exact ⟨i + 1, by omega, by omega, rfl, ⟨by show World.ownsRow _ _ _ _ _ (outr H i ++ byte4r (H.getD i 0)).length (nums .u8 (outr H i ++ byte4r (H.getD i 0))); rw [HX.out]; exact HO1.out⟩, HB1⟩
        · have q1 : decide ((i : Int) < 8) = false := decide_eq_false (by omega)
          have hst := own_string (P := Try.prog) Try.underlying26 Try.underlying5 Try.underlying9 HO2.out
          go_wp2
          go_ret
          have hfin : strOfNums (outr H i) = sha2G HL KL s := by
            rw [show i = 8 by omega, ← EL.out.1, ← EL.out.2.1]
            unfold sha2G padl
            rw [HR2.out, ← EQ.out, EB.out, HR5.out, EH5.out]
          exact ⟨congrArg Ending.returned (congrArg Value.string hfin), below_step M.out.hb HBo.out⟩
    | succ g =>
      revert hl kl pr EL L8 L64 P64 HG KG HS zz1_1 w1 gp cp zz1_2 zz2_1 zz1_3 u28 u29 u30 u31 u32 u33 u34 u35 u36 u37 u38 u39 u40 u41 u42 u43 u44 u45 u46 u47 u48 u49 zz1_4 zz1_5 zz1_6 zz1_7 c4 c5 zz2_2 zz2_3 hlt q1 gh gq wb cb wc hcv BS zz1_8 zz1_9 v1_ w_ zz1_10 R2 HR2 zz2_4 u55 u56 u57 u58 u59 u60 u61 zz1_12 zz1_13 zz1_14 l gb cb' n7 N7 zz1_15 HZ HQ d1 d2 d3 EQ HL7 hsz zz2_5 zz2_6 zz2_7 zz2_8 zz2_9 u66 u67 u68 u69 u70 u71 u72 u73 u74 u75 u76 u77 u78 zz2_10 zz2_11 zz2_12 zz2_13 i hi hki gc cc n8 hi8 p1 B EB c9 BLN HGB NEB zz2_14 zz2_15 zz2_16 zz2_17 zz2_18 zz2_19 R5 HR5 wr u11 u12 u13 u14 u15 u16 u17 u18 u19 u20 u21 u22 u79 u80 u81 u82 u83 u84 u85 u86 u87 u88 u89 u90 u91 u92 u93 u94 u95 u96 u97 u98 u99 u100 u101 u102 u103 u104 u105 u106 u107 u108 u109 u110 u111 u112 u113 u114 u115 u116 u117 u118 u119 u120 u121 u122 u123 u124 u125 u126 u127 u128 u129 u130 u131 u132 u133 u134 u135 u136 u137 u138 u139 u140 u141 u142 u143 u144 u145 u146 u147 u148 u149 u150 u151 u152 u153 u154 u155 u156 u157 u158 u159 u160 u161 u162 u163 u164 u165 u166 u167 u168 u169 u170 u171 u172 u173 u174 u175 u176 u177 u178 u179 u180 u181 u182 u183 u184 u185 u186 u187 u188 u189 u190 u191 u192 u193 u194 u195 u196 u197 u198 u199 u200 u201 u202 u203 u204 u205 u206 u207 u208 u209 u210 u211 u212 u213 u214 u215 u216 u217 u218 u219 u220 u221 u222 u223 u224 u225 u226 u227 u228 u229 u230 u231 u232 u233 u234 u235 u236 u237 u238 u239 u240 u241 u242 u243 u244 u245 u246 u247 u248 u249 u250 u251 u252 u253 u254 u255 u256 u257 u258 u259 u260 u261 u262 u263 u264 u265 u266 u267 u268 u269 u270 u271 u272 u273 u274 u275 u276 u277 u278 u279 u280 u281 u282 u283 u284 u285 u286 u287 zz2_20 zz2_21 zz2_22 m H M RB hbl3 hbl2 g zz2_23 HMK HE
      exact HREST.out
end Go.Proofs.Ytomenklhgofjaaa.Sh
