/- The digest of the reference, a stage of its walk (1 of 6). Conditions: the text has at most 140737488351232 bytes. -/
import Derived.Test.YtomenklhgofjaaaXShaR3
import Derived.Test.YtomenklhgofjaaaXLate
import Derived.Outline
set_option linter.unusedVariables false
set_option linter.unusedSimpArgs false
namespace Go.Proofs.Ytomenklhgofjaaa.Sh
open Go.RowKit Go.Proofs.YtomenklhgofjaaaW.PrintWords Go.Proofs.YtomenklhgofjaaaW.PrintLast Go.Proofs.YtomenklhgofjaaaW.PrintMore
structure Box (P : Prop) : Prop where
  out : P
structure Stage (G : Prop) where
  P : Prop
  imp : Box P → G
set_option maxHeartbeats 16000000 in
set_option maxRecDepth 100000 in
def st1 (s : ByteArray) (hs : s.size ≤ 140737488351232) (w : World) : Stage (Calls Try.prog 23 #[.string s] w fun e w' => e = .returned (.string (sha2G HL KL s)) ∧ Below w.heap.size w w') := by
  apply Stage.mk
  case imp =>
    intro HREST
    obtain ⟨hl, kl, pr, EL, hl8, kl64, pr64, hget, kget, hcalls⟩ := lists
    have L8 := Aside0.mk hl8
    have L64 := Aside0.mk kl64
    have P64 := Aside0.mk pr64
    have HG := Aside0.mk hget
    have KG := Aside0.mk kget
    clear hl8 kl64 pr64 hget kget
    have hconv := fun W => print_bytes (P := Try.prog) 9 26 5 Try.underlying9 Try.underlying26 Try.underlying5 s W
    have HS := Aside0.mk hs
    go_enter Try.func23, Try.ntmps23
    go_wp2_with (first
      | (go_at_call 45; (with_reducible refine (hcalls _).mono ?_); rintro e w1 ⟨gp, cp, rfl, hg, hp, hb⟩; have A0 := Aside0.mk (AInv.start (hl := hl) (kl := kl) hb hp); clear hg hp hb hcalls))
    go_loopg [6, 4, 5] 64 (fun kq v6 v4 v5 w' => ∃ (i : Nat), i ≤ 64 ∧ kq + i = 64 ∧ v6 = .int .i64 i ∧ Aside0 (AInv w w' w1.heap.size gp hl kl pr v4 v5 i i))
    case atStart => exact ⟨0, by omega, by omega, rfl, A0⟩
    case round =>
      clear A0
      obtain ⟨i, hi, hki, rfl, A⟩ := hrel
      obtain ⟨A4, c4, e4⟩ := own_slice A.out.h0
      obtain ⟨A5, c5, e5⟩ := own_slice A.out.k0
      subst e4
      subst e5
      obtain ⟨n4, hn4⟩ : ∃ n, (hl.take (min i 8)).length = n := ⟨_, rfl⟩
      obtain ⟨n5, hn5⟩ : ∃ n, (kl.take i).length = n := ⟨_, rfl⟩
      have N4 := Aside0.mk hn4
      have N5 := Aside0.mk hn5
      rw [hn4, hn5]
      have A_ := A.out
      rw [hn4, hn5] at A_
      clear A
      have A := Aside0.mk A_
      clear hn4 hn5 A_
      by_cases hlt : i < 64
      · have q1 : decide ((i : Int) < 64) = true := decide_eq_true (by omega)
        have q2 := eq_true (show (i : Int) < 64 by omega)
        have x0 := A.out.p0.cell i (by rw [P64.out]; exact hlt)
        obtain ⟨p, hp⟩ : ∃ p, pr.getD i 0 = p := ⟨_, rfl⟩
        rw [hp] at x0
        by_cases h8 : i < 8
        · have q3 : decide ((i : Int) < 8) = true := decide_eq_true (by omega)
          have EH := Aside0.mk (show hl.getD i 0 = rootS p by rw [HG.out i h8, hp])
          have EK := Aside0.mk (show kl.getD i 0 = rootC p by rw [KG.out i hlt, hp])
          have HPX := Aside0.mk hp
          clear hp
          go_wp2_with (first
            | (go_at_call 46; (with_reducible refine (root2_calls _ _).mono ?_); rintro e w2 ⟨rfl, hb⟩; have A2 := Aside0.mk (A.out.below hb); clear hb)
            | ((with_reducible refine gate_builtin (b := .append) (xs := #[.tmp 34, .tmp 40]) rfl ?_); at_builtin; refine print_append_num (w0 := w2) w1.heap.size rfl (.tmp 34) (.tmp 40) 75 63 .u32 4 rfl Try.underlying75 info63 (by decide) (.slice A4 n4 c4) (hl.take (min i 8)) (rootS p) rfl rfl A2.out.h0 (Below.refl _ _) A2.out.hz (by have := N4.out; have := len_take L8.out (show min i 8 ≤ 8 by omega); omega) ?_; intro v1_ w_ ho hb hg hat; have A3 := Aside0.mk (A2.out.putH h8 L8.out EH.out ho hg hat); have x0 := A3.out.p0.cell i (by rw [P64.out]; exact hlt); rw [HPX.out] at x0; clear ho hb hg hat)
            | (go_at_call 46; (with_reducible refine (root3_calls _ _).mono ?_); rintro e w4 ⟨rfl, hb⟩; have A4_ := Aside0.mk (A3.out.below hb); clear hb)
            | ((with_reducible refine gate_builtin (b := .append) (xs := #[.tmp 42, .tmp 48]) rfl ?_); at_builtin; refine print_append_num (w0 := w4) w1.heap.size rfl (.tmp 42) (.tmp 48) 75 63 .u32 4 rfl Try.underlying75 info63 (by decide) (.slice A5 n5 c5) (kl.take i) (rootC p) rfl rfl A4_.out.k0 (Below.refl _ _) A4_.out.hz (by have := N5.out; have := len_take L64.out hi; omega) ?_; intro v1_ w_ ho hb hg hat; have A5_ := Aside0.mk (A4_.out.putK hlt L64.out EK.out ho hg hat); clear ho hb hg hat))
          go_roundg (gk - 1)
          case measure => omega
          case rel => exact ⟨i + 1, by omega, by omega, rfl, A5_⟩
        · have q3 : decide ((i : Int) < 8) = false := decide_eq_false (by omega)
          have EK := Aside0.mk (show kl.getD i 0 = rootC p by rw [KG.out i hlt, hp])
          have A3 := Aside0.mk (A.out.skip (by omega))
          clear hp A
          go_wp2_with (first
            | (go_at_call 46; (with_reducible refine (root3_calls _ _).mono ?_); rintro e w4 ⟨rfl, hb⟩; have A4_ := Aside0.mk (A3.out.below hb); clear hb)
            | ((with_reducible refine gate_builtin (b := .append) (xs := #[.tmp 42, .tmp 48]) rfl ?_); at_builtin; refine print_append_num (w0 := w4) w1.heap.size rfl (.tmp 42) (.tmp 48) 75 63 .u32 4 rfl Try.underlying75 info63 (by decide) (.slice A5 n5 c5) (kl.take i) (rootC p) rfl rfl A4_.out.k0 (Below.refl _ _) A4_.out.hz (by have := N5.out; have := len_take L64.out hi; omega) ?_; intro v1_ w_ ho hb hg hat; have A5_ := Aside0.mk (A4_.out.putK hlt L64.out EK.out ho hg hat); clear ho hb hg hat))
          go_roundg (gk - 1)
          case measure => omega
          case rel => exact ⟨i + 1, by omega, by omega, rfl, A5_⟩
      · have q1 : decide ((i : Int) < 64) = false := decide_eq_false (by omega)
        obtain rfl : i = 64 := by omega
        have hn5 : (kl.take 64).length = 64 := len_take L64.out (by omega)
        have hn4 : (hl.take (min 64 8)).length = 8 := len_take L8.out (by omega)
        have e4 : hl.take (min 64 8) = hl := List.take_of_length_le (by rw [L8.out]; omega)
        have e5 : kl.take 64 = kl := List.take_of_length_le (by rw [L64.out]; omega)
        have h0 := A.out.h0
        have k0 := A.out.k0
        rw [hn4, e4] at h0
        rw [hn5, e5] at k0
        obtain ⟨rfl, gh, rfl, hgh, hz⟩ := own_at_block h0 (by omega) L8.out
        obtain ⟨rfl, gq, rfl, hgk, kz⟩ := own_at_block k0 (by omega) L64.out
        have M := Aside0.mk (RM.mk A.out.hb hz kz.rk (fun e => A.out.ne (by rw [e]; rfl)) L8.out L64.out (Nat.le_trans A.out.hw hgh))
        clear A hn5 hn4 e4 e5 h0 k0 hgh hgk hz kz N4 N5
        have hst := Aside0.mk (RowB.start wr s HS.out rfl)
        have hbl := Aside0.mk (bytes_below (Below.refl wr.heap.size wr) (Nat.le_refl _) 5 s)
        obtain ⟨wb, hwb⟩ : ∃ wb, wb = wr := ⟨_, rfl⟩
        rw [← hwb] at M hst hbl ⊢
        clear hwb
        have hcv := hconv wb
        clear hconv
        obtain ⟨cb, hcb⟩ : ∃ c, grownCap wb s.size 0 5 = c := ⟨_, rfl⟩
        obtain ⟨wc, hwc⟩ : ∃ c, Lib.bytesWorld wb 5 s = c := ⟨_, rfl⟩
        rw [hcb, hwc] at hcv hst
        rw [hwc] at hbl
        clear hcb hwc
        have BS := Aside0.mk (bytesOf_length s)
        go_wp2_with (first
          | ((with_reducible refine gate_builtin (b := .append) (xs := #[.tmp 52, .tmp 53]) rfl ?_); at_builtin; refine RowB.append (w0 := wb) wb.heap.size rfl (.tmp 52) (.tmp 53) 26 rfl Try.underlying26 info5 (.slice (some ⟨wb.heap.size, 0, none⟩) s.size cb) (bytesOf s) 128 rfl rfl hst.out hbl.out hbl.out.size (by have := BS.out; have := HS.out; omega) ?_; intro v1_ w_ hr hb; have HR0 := Aside0.mk hr; have HB0 := Aside0.mk hb; clear hr hb hst hbl))
        obtain ⟨R2, hR2⟩ : ∃ R, zl (bytesOf s ++ [128]) ((119 - s.size % 64) % 64) = R := ⟨_, rfl⟩
        have HR2 := Aside0.mk hR2
        clear hR2
        go_loopg [7] ((119 - s.size % 64) % 64) (fun kq v7 w' => ∃ (l : List Int), Aside0 (zl l kq = R2) ∧ Aside0 ((l.length + kq) % 64 = 56 ∧ kq < 64 ∧ l.length + kq ≤ s.size + 64) ∧ Aside0 (RowB w' wb.heap.size v7 l) ∧ Aside0 (Below wb.heap.size wb w'))
        case atStart => exact ⟨bytesOf s ++ [128], HR2, ⟨by have := BS.out; rw [List.length_append]; show (_ + 1 + _) % 64 = 56 ∧ _ ∧ _ + 1 + _ ≤ _ + 64; omega⟩, HR0, HB0⟩
        case round =>
          clear HR0 HB0
          obtain ⟨l, HZ, HQ, HRB, HBB⟩ := hrel
          obtain ⟨gb, cb', rfl, -, -, -⟩ := HRB.out.rk
          obtain ⟨n7, hn7⟩ : ∃ n, l.length = n := ⟨_, rfl⟩
          rw [hn7] at HRB ⊢
          have N7 := Aside0.mk hn7
          cases gk with
          | zero =>
            rename_i zz1_1 zz1_2 zz1_3 zz1_4 zz1_5 zz1_6 zz1_7 zz1_8 zz1_9 zz1_10 zz1_11 zz1_12 zz1_13 zz1_14 zz1_15
            revert hl kl pr EL L8 L64 P64 HG KG HS zz1_1 w1 gp cp zz1_2 gk zz1_3 u28 u29 u30 u31 u32 u33 u34 u35 u36 u37 u38 u39 u40 u41 u42 u43 u44 u45 u46 u47 u48 u49 zz1_4 zz1_5 zz1_6 zz1_7 c4 c5 hi hki hlt q1 gh gq wb M cb wc hcv BS zz1_8 zz1_9 v1_ w_ zz1_10 zz1_11 R2 HR2 wr u55 u56 u57 u58 u59 u60 u61 zz1_12 zz1_13 zz1_14 l HBB gb cb' n7 HRB hn7 N7 zz1_15 HZ HQ
            exact HREST.out
          | succ n => as_aux_lemma =>
            have hq := HQ.out
            have d1 : ((n7 : Int) % 64 == 56) = false := beq_eq_false_iff_ne.mpr (by omega)
            have d2 : ((n7 : Int) % 64 != 56) = true := bne_iff_ne.mpr (by omega)
            have d3 : (Int.tmod (n7 : Int) 64 != 56) = true := by rw [Int.tmod_eq_emod_of_nonneg (by omega)]; exact d2
            clear hq hn7
            go_wp2_with (first
              | ((with_reducible refine gate_builtin (b := .append) (xs := #[.tmp 59, .tmp 60]) rfl ?_); at_builtin; refine RowB.append (w0 := wb) wb.heap.size rfl (.tmp 59) (.tmp 60) 26 rfl Try.underlying26 info5 (.slice (some ⟨gb, 0, none⟩) n7 cb') l 0 rfl rfl HRB.out HBB.out HBB.out.size (by have := N7.out; have := HQ.out; have := HS.out; omega) ?_; intro v1_ w_ hr hb; have HR1 := Aside0.mk hr; have HB1 := Aside0.mk hb; clear hr hb))
            go_roundg n
            case measure => omega
            case rel => exact ⟨l ++ [0], HZ, ⟨by have := HQ.out; rw [List.length_append]; show (_ + 1 + _) % 64 = 56 ∧ _ ∧ _ + 1 + _ ≤ _; omega⟩, HR1, HB1⟩
end Go.Proofs.Ytomenklhgofjaaa.Sh
