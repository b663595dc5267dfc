/- The digest of the reference, a stage of its walk (2 of 6). Conditions: the text has at most 140737488351232 bytes. -/
import Derived.Test.YtomenklhgofjaaaXShaS1
set_option linter.unusedVariables false
set_option linter.unusedSimpArgs false
namespace Go.Proofs.Ytomenklhgofjaaa.Sh
open Go.RowKit Go.Proofs.YtomenklhgofjaaaW.PrintWords Go.Proofs.YtomenklhgofjaaaW.PrintLast Go.Proofs.YtomenklhgofjaaaW.PrintMore
set_option maxHeartbeats 16000000 in
set_option maxRecDepth 100000 in
def st2 (s : ByteArray) (hs : s.size ≤ 140737488351232) (w : World) : Stage ((st1 s hs w).P) := by
  apply Stage.mk
  case imp =>
    intro HREST
    intro hl kl pr EL L8 L64 P64 HG KG HS zz1_1 w1 gp cp zz1_2 gk zz1_3 u28 u29 u30 u31 u32 u33 u34 u35 u36 u37 u38 u39 u40 u41 u42 u43 u44 u45 u46 u47 u48 u49 zz1_4 zz1_5 zz1_6 zz1_7 c4 c5 hi hki hlt q1 gh gq wb M cb wc hcv BS zz1_8 zz1_9 v1_ w_ zz1_10 zz1_11 R2 HR2 wr u55 u56 u57 u58 u59 u60 u61 zz1_12 zz1_13 zz1_14 l HBB gb cb' n7 HRB hn7 N7 zz1_15 HZ HQ
    have hq := HQ.out
    have d1 : ((n7 : Int) % 64 == 56) = true := beq_iff_eq.mpr (by omega)
    have d2 : ((n7 : Int) % 64 != 56) = false := bne_eq_false_iff_eq.mpr (by omega)
    have d3 : (Int.tmod (n7 : Int) 64 != 56) = false := by rw [Int.tmod_eq_emod_of_nonneg (by omega)]; exact d2
    have EQ := Aside0.mk (show l = R2 from HZ.out)
    have HL7 := Aside0.mk (show l.length % 64 = 56 ∧ l.length ≤ s.size + 64 by omega)
    clear hq hn7
    have hsz : s.size ≤ 140737488351232 := HS.out
    go_wp2
    go_loopg [9, 7] 8 (fun kq v9 v7 w' => ∃ (i : Nat), i ≤ 8 ∧ kq + i = 8 ∧ v9 = .int .u64 i ∧ Aside0 (RowB w' wb.heap.size v7 (ll ((s.size : Int) * 8) l i)) ∧ Aside0 (Below wb.heap.size wb w'))
    case atStart => exact ⟨0, by omega, by omega, rfl, HRB, HBB⟩
    case round =>
      clear HRB HBB
      obtain ⟨i, hi, hki, rfl, HRC, HBC⟩ := hrel
      obtain ⟨gc, cc, rfl, -, -, -⟩ := HRC.out.rk
      obtain ⟨n8, hn8⟩ : ∃ n, (ll ((s.size : Int) * 8) l i).length = n := ⟨_, rfl⟩
      have hl8 := ll_len ((s.size : Int) * 8) l i
      rw [hn8] at HRC hl8 ⊢
      by_cases hi8 : i < 8
      · have hc : i = 0 ∨ i = 1 ∨ i = 2 ∨ i = 3 ∨ i = 4 ∨ i = 5 ∨ i = 6 ∨ i = 7 := by omega
        obtain ⟨l8, hP⟩ : ∃ P, ll ((s.size : Int) * 8) l i = P := ⟨_, rfl⟩
        rw [hP] at HRC hn8
        have HP := Aside0.mk hP
        have N8 := Aside0.mk hn8
        have HLL := Aside0.mk (show n8 ≤ s.size + 80 by have := HL7.out; omega)
        clear hP hn8 hl8
        rcases hc with rfl | rfl | rfl | rfl | rfl | rfl | rfl | rfl
        · go_wp2_with (first
            | ((with_reducible refine gate_builtin (b := .append) (xs := #[.tmp 70, .tmp 77]) rfl ?_); at_builtin; refine RowB.append (w0 := wb) wb.heap.size rfl (.tmp 70) (.tmp 77) 26 rfl Try.underlying26 info5 (.slice (some ⟨gc, 0, none⟩) n8 cc) l8 _ rfl rfl HRC.out HBC.out HBC.out.size (by have := N8.out; have := HLL.out; have := HS.out; omega) ?_; intro v1_ w_ hr hb; have HR1 := Aside0.mk hr; have HB1 := Aside0.mk hb; clear hr hb))
          go_roundg (gk - 1)
          case measure => omega
          case rel => exact ⟨1, by omega, by omega, rfl, ⟨HR1.out.cast HP.out (by first | (rw [show (2 : Int) ^ (56 - 8 * 0) = 72057594037927936 from rfl]; done) | (rw [show (2 : Int) ^ (56 - 8 * 0) = 72057594037927936 from rfl]; omega))⟩, HB1⟩
        · go_wp2_with (first
            | ((with_reducible refine gate_builtin (b := .append) (xs := #[.tmp 70, .tmp 77]) rfl ?_); at_builtin; refine RowB.append (w0 := wb) wb.heap.size rfl (.tmp 70) (.tmp 77) 26 rfl Try.underlying26 info5 (.slice (some ⟨gc, 0, none⟩) n8 cc) l8 _ rfl rfl HRC.out HBC.out HBC.out.size (by have := N8.out; have := HLL.out; have := HS.out; omega) ?_; intro v1_ w_ hr hb; have HR1 := Aside0.mk hr; have HB1 := Aside0.mk hb; clear hr hb))
          go_roundg (gk - 1)
          case measure => omega
          case rel => exact ⟨2, by omega, by omega, rfl, ⟨HR1.out.cast HP.out (by first | (rw [show (2 : Int) ^ (56 - 8 * 1) = 281474976710656 from rfl]; done) | (rw [show (2 : Int) ^ (56 - 8 * 1) = 281474976710656 from rfl]; omega))⟩, HB1⟩
        · go_wp2_with (first
            | ((with_reducible refine gate_builtin (b := .append) (xs := #[.tmp 70, .tmp 77]) rfl ?_); at_builtin; refine RowB.append (w0 := wb) wb.heap.size rfl (.tmp 70) (.tmp 77) 26 rfl Try.underlying26 info5 (.slice (some ⟨gc, 0, none⟩) n8 cc) l8 _ rfl rfl HRC.out HBC.out HBC.out.size (by have := N8.out; have := HLL.out; have := HS.out; omega) ?_; intro v1_ w_ hr hb; have HR1 := Aside0.mk hr; have HB1 := Aside0.mk hb; clear hr hb))
          go_roundg (gk - 1)
          case measure => omega
          case rel => exact ⟨3, by omega, by omega, rfl, ⟨HR1.out.cast HP.out (by first | (rw [show (2 : Int) ^ (56 - 8 * 2) = 1099511627776 from rfl]; done) | (rw [show (2 : Int) ^ (56 - 8 * 2) = 1099511627776 from rfl]; omega))⟩, HB1⟩
        · go_wp2_with (first
            | ((with_reducible refine gate_builtin (b := .append) (xs := #[.tmp 70, .tmp 77]) rfl ?_); at_builtin; refine RowB.append (w0 := wb) wb.heap.size rfl (.tmp 70) (.tmp 77) 26 rfl Try.underlying26 info5 (.slice (some ⟨gc, 0, none⟩) n8 cc) l8 _ rfl rfl HRC.out HBC.out HBC.out.size (by have := N8.out; have := HLL.out; have := HS.out; omega) ?_; intro v1_ w_ hr hb; have HR1 := Aside0.mk hr; have HB1 := Aside0.mk hb; clear hr hb))
          go_roundg (gk - 1)
          case measure => omega
          case rel => exact ⟨4, by omega, by omega, rfl, ⟨HR1.out.cast HP.out (by first | (rw [show (2 : Int) ^ (56 - 8 * 3) = 4294967296 from rfl]; done) | (rw [show (2 : Int) ^ (56 - 8 * 3) = 4294967296 from rfl]; omega))⟩, HB1⟩
        · go_wp2_with (first
            | ((with_reducible refine gate_builtin (b := .append) (xs := #[.tmp 70, .tmp 77]) rfl ?_); at_builtin; refine RowB.append (w0 := wb) wb.heap.size rfl (.tmp 70) (.tmp 77) 26 rfl Try.underlying26 info5 (.slice (some ⟨gc, 0, none⟩) n8 cc) l8 _ rfl rfl HRC.out HBC.out HBC.out.size (by have := N8.out; have := HLL.out; have := HS.out; omega) ?_; intro v1_ w_ hr hb; have HR1 := Aside0.mk hr; have HB1 := Aside0.mk hb; clear hr hb))
          go_roundg (gk - 1)
          case measure => omega
          case rel => exact ⟨5, by omega, by omega, rfl, ⟨HR1.out.cast HP.out (by first | (rw [show (2 : Int) ^ (56 - 8 * 4) = 16777216 from rfl]; done) | (rw [show (2 : Int) ^ (56 - 8 * 4) = 16777216 from rfl]; omega))⟩, HB1⟩
        · go_wp2_with (first
            | ((with_reducible refine gate_builtin (b := .append) (xs := #[.tmp 70, .tmp 77]) rfl ?_); at_builtin; refine RowB.append (w0 := wb) wb.heap.size rfl (.tmp 70) (.tmp 77) 26 rfl Try.underlying26 info5 (.slice (some ⟨gc, 0, none⟩) n8 cc) l8 _ rfl rfl HRC.out HBC.out HBC.out.size (by have := N8.out; have := HLL.out; have := HS.out; omega) ?_; intro v1_ w_ hr hb; have HR1 := Aside0.mk hr; have HB1 := Aside0.mk hb; clear hr hb))
          go_roundg (gk - 1)
          case measure => omega
          case rel => exact ⟨6, by omega, by omega, rfl, ⟨HR1.out.cast HP.out (by first | (rw [show (2 : Int) ^ (56 - 8 * 5) = 65536 from rfl]; done) | (rw [show (2 : Int) ^ (56 - 8 * 5) = 65536 from rfl]; omega))⟩, HB1⟩
        · go_wp2_with (first
            | ((with_reducible refine gate_builtin (b := .append) (xs := #[.tmp 70, .tmp 77]) rfl ?_); at_builtin; refine RowB.append (w0 := wb) wb.heap.size rfl (.tmp 70) (.tmp 77) 26 rfl Try.underlying26 info5 (.slice (some ⟨gc, 0, none⟩) n8 cc) l8 _ rfl rfl HRC.out HBC.out HBC.out.size (by have := N8.out; have := HLL.out; have := HS.out; omega) ?_; intro v1_ w_ hr hb; have HR1 := Aside0.mk hr; have HB1 := Aside0.mk hb; clear hr hb))
          go_roundg (gk - 1)
          case measure => omega
          case rel => exact ⟨7, by omega, by omega, rfl, ⟨HR1.out.cast HP.out (by first | (rw [show (2 : Int) ^ (56 - 8 * 6) = 256 from rfl]; done) | (rw [show (2 : Int) ^ (56 - 8 * 6) = 256 from rfl]; omega))⟩, HB1⟩
        · go_wp2_with (first
            | ((with_reducible refine gate_builtin (b := .append) (xs := #[.tmp 70, .tmp 77]) rfl ?_); at_builtin; refine RowB.append (w0 := wb) wb.heap.size rfl (.tmp 70) (.tmp 77) 26 rfl Try.underlying26 info5 (.slice (some ⟨gc, 0, none⟩) n8 cc) l8 _ rfl rfl HRC.out HBC.out HBC.out.size (by have := N8.out; have := HLL.out; have := HS.out; omega) ?_; intro v1_ w_ hr hb; have HR1 := Aside0.mk hr; have HB1 := Aside0.mk hb; clear hr hb))
          go_roundg (gk - 1)
          case measure => omega
          case rel => exact ⟨8, by omega, by omega, rfl, ⟨HR1.out.cast HP.out (by first | (rw [show (2 : Int) ^ (56 - 8 * 7) = 1 from rfl]; done) | (rw [show (2 : Int) ^ (56 - 8 * 7) = 1 from rfl]; omega))⟩, HB1⟩
      · have p1 : decide ((i : Int) < 8) = false := decide_eq_false (by omega)
        have e8 : i = 8 := by omega
        have HB8 := HRC.out
        rw [e8] at HB8 hn8
        obtain ⟨B, hB⟩ : ∃ B, ll ((s.size : Int) * 8) l 8 = B := ⟨_, rfl⟩
        rw [hB] at HB8 hn8
        have EB := Aside0.mk hB
        have hBl := ll_len ((s.size : Int) * 8) l 8
        rw [hB] at hBl
        obtain ⟨gb, c9, e9, hgb, -, hrb⟩ := HB8.rk
        injection e9 with e9a e9b e9c
        injection e9a with e9d
        injection e9d with e9e
        have RB := Aside0.mk hrb
        have BLN := Aside0.mk (show B.length % 64 = 0 ∧ B.length ≤ s.size + 80 ∧ B.length = n8 by have := HL7.out; exact ⟨by omega, by omega, hn8⟩)
        subst e9e
        have M2 := Aside0.mk (M.out.below HBC.out)
        have HGB := Aside0.mk (show wb.heap.size ≤ gc from hgb)
        have NEB := Aside0.mk (show gh ≠ gc from fun e => by have := (M.out.h0.rk).lt; omega)
        clear M HBC HRC HB8 hB hBl hgb hrb e8 hn8 hl8 e9b e9c
        go_wp2
        obtain ⟨R5, hR5⟩ : ∃ R, eat2 kl B (B.length / 64) 0 hl = R := ⟨_, rfl⟩
        have HR5 := Aside0.mk hR5
        clear hR5
        go_loopg [10] (B.length / 64) (fun kq v10 w' => ∃ (m : Nat) (H : List Int), v10 = .int .i64 m ∧ Aside0 (m + 64 * kq = B.length) ∧ Aside0 (eat2 kl B kq m H = R5) ∧ Aside0 (RM w w' gh gq H kl) ∧ Aside0 (Rk .u8 5 w' gc B))
        case atStart => exact ⟨0, hl, rfl, ⟨by have := BLN.out; omega⟩, HR5, M2, RB⟩
        case round =>
          rename_i zz2_1 zz2_2 zz2_3 zz2_4 zz2_5 zz2_6 zz2_7 zz2_8 zz2_9 zz2_10 zz2_11 zz2_12 zz2_13 zz2_14 zz2_15 zz2_16 zz2_17 zz2_18 zz2_19 zz2_20 zz2_21 zz2_22 zz2_23
          revert hl kl pr EL L8 L64 P64 HG KG HS zz1_1 w1 gp cp zz1_2 zz2_1 zz1_3 u28 u29 u30 u31 u32 u33 u34 u35 u36 u37 u38 u39 u40 u41 u42 u43 u44 u45 u46 u47 u48 u49 zz1_4 zz1_5 zz1_6 zz1_7 c4 c5 zz2_2 zz2_3 hlt q1 gh gq wb cb wc hcv BS zz1_8 zz1_9 v1_ w_ zz1_10 R2 HR2 zz2_4 u55 u56 u57 u58 u59 u60 u61 zz1_12 zz1_13 zz1_14 l gb cb' n7 N7 zz1_15 HZ HQ d1 d2 d3 EQ HL7 hsz zz2_5 zz2_6 zz2_7 zz2_8 zz2_9 u66 u67 u68 u69 u70 u71 u72 u73 u74 u75 u76 u77 u78 zz2_10 zz2_11 zz2_12 zz2_13 i hi hki gc cc n8 hi8 p1 B EB c9 BLN RB M2 HGB NEB zz2_14 zz2_15 zz2_16 zz2_17 zz2_18 zz2_19 R5 HR5 gk wr u10 u11 u12 u13 u14 u15 u16 u17 u18 u19 u20 u21 u22 u79 u80 u81 u82 u83 u84 u85 u86 u87 u88 u89 u90 u91 u92 u93 u94 u95 u96 u97 u98 u99 u100 u101 u102 u103 u104 u105 u106 u107 u108 u109 u110 u111 u112 u113 u114 u115 u116 u117 u118 u119 u120 u121 u122 u123 u124 u125 u126 u127 u128 u129 u130 u131 u132 u133 u134 u135 u136 u137 u138 u139 u140 u141 u142 u143 u144 u145 u146 u147 u148 u149 u150 u151 u152 u153 u154 u155 u156 u157 u158 u159 u160 u161 u162 u163 u164 u165 u166 u167 u168 u169 u170 u171 u172 u173 u174 u175 u176 u177 u178 u179 u180 u181 u182 u183 u184 u185 u186 u187 u188 u189 u190 u191 u192 u193 u194 u195 u196 u197 u198 u199 u200 u201 u202 u203 u204 u205 u206 u207 u208 u209 u210 u211 u212 u213 u214 u215 u216 u217 u218 u219 u220 u221 u222 u223 u224 u225 u226 u227 u228 u229 u230 u231 u232 u233 u234 u235 u236 u237 u238 u239 u240 u241 u242 u243 u244 u245 u246 u247 u248 u249 u250 u251 u252 u253 u254 u255 u256 u257 u258 u259 u260 u261 u262 u263 u264 u265 u266 u267 u268 u269 u270 u271 u272 u273 u274 u275 u276 u277 u278 u279 u280 u281 u282 u283 u284 u285 u286 u287 hrel zz2_20 zz2_21 zz2_22 zz2_23
          exact HREST.out
end Go.Proofs.Ytomenklhgofjaaa.Sh
