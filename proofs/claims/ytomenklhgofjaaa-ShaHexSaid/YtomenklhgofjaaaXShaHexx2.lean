-- Written by xprint.py of this repo (the kit's print with turns of our own) out of the translation.
import Derived.Test.YtomenklhgofjaaaXShaHexx0
import Derived.Test.YtomenklhgofjaaaXShaHexx1
namespace Go.Proofs.Ytomenklhgofjaaa.XShaHex
open Go.RowKit Go.Proofs.YtomenklhgofjaaaW.PrintWords Go.Proofs.YtomenklhgofjaaaW.PrintLast Go.Proofs.YtomenklhgofjaaaW.PrintMore
attribute [local go_sem] max2_int min2_int max_two min_two max_three min_three max_four min_four   -- for this text's walks alone
set_option linter.unusedVariables false
set_option linter.unusedSimpArgs false

/-! ### tinderboxlaw02_ShaHex: function 8 -/
mutual
def tinderboxlaw02_ShaHex.j0 : Nat → ByteArray → ByteArray → Int → Bool → Option (Bool)
  | 0, _, _, _, _ => none
  | k + 1, x3, x6, x7, x41 => if x41 = true then (some false) else (tinderboxlaw02_ShaHex.l0 k x3 x6 x7 0 0)
def tinderboxlaw02_ShaHex.l0 : Nat → ByteArray → ByteArray → Int → Int → Int → Option (Bool)
  | 0, _, _, _, _, _ => none
  | k + 1, x3, x6, x7, x8, x9 => if x9 < (x3.size : Int) then (if 0 ≤ x9 then (if (bt x3 x9) ≥ 48 then (if (bt x3 x9) ≤ 57 then (tinderboxlaw02_ShaHex.l0 k x3 x6 x7 x8 (wrap64 (x9 + 1))) else (if (bt x3 x9) ≥ 97 then (if ((bt x3 x9) ≤ 102) then (tinderboxlaw02_ShaHex.l0 k x3 x6 x7 x8 (wrap64 (x9 + 1))) else (tinderboxlaw02_ShaHex.l0 k x3 x6 x7 3 (wrap64 (x9 + 1)))) else (tinderboxlaw02_ShaHex.l0 k x3 x6 x7 3 (wrap64 (x9 + 1))))) else (if (bt x3 x9) ≥ 97 then (if ((bt x3 x9) ≤ 102) then (tinderboxlaw02_ShaHex.l0 k x3 x6 x7 x8 (wrap64 (x9 + 1))) else (tinderboxlaw02_ShaHex.l0 k x3 x6 x7 3 (wrap64 (x9 + 1)))) else (tinderboxlaw02_ShaHex.l0 k x3 x6 x7 3 (wrap64 (x9 + 1))))) else (none)) else (if ((x3.size : Int) % 2) = 1 then (if x7 = 2 then (if x7 = 0 then ((sha_Hex.f x6).bind fun t138 => (if t138.toList = x3.toList then (some true) else (some false))) else (some (x6.toList == ([] : List UInt8)))) else (some false)) else (if x7 = x8 then (if x7 = 0 then ((sha_Hex.f x6).bind fun t139 => (if t139.toList = x3.toList then (some true) else (some false))) else (some (x6.toList == ([] : List UInt8)))) else (some false)))
end
def tinderboxlaw02_ShaHex.f (k : Nat) (a0 : ByteArray) : Option (Bool) := (tinderboxlaw02_few.f a0).bind fun t129 => ((sha_Hex.f t129).bind fun t130 => ((sha_Bytes.f k t130).bind fun bt131 => ((sha_Bytes.f k t129).bind fun bt133 => ((tinderboxlaw02_awake.f).bind fun t135 => (if t135 = true then ((sha_Hex.f t129).bind fun t136 => ((tinderboxref02_Hex.f k t129).bind fun t137 => (if t136.toList = t137.toList then (if bt131.2 = 0 then (tinderboxlaw02_ShaHex.j0 k t129 bt133.1 bt133.2 (bt131.1.toList != t129.toList)) else (tinderboxlaw02_ShaHex.j0 k t129 bt133.1 bt133.2 true)) else (tinderboxlaw02_ShaHex.j0 k t129 bt133.1 bt133.2 true)))) else (tinderboxlaw02_ShaHex.j0 k t129 bt133.1 bt133.2 true))))))
theorem tinderboxlaw02_ShaHex.mono_l : ∀ k, (∀ y0 y1 y2 y3, LeO (tinderboxlaw02_ShaHex.j0 k y0 y1 y2 y3) (tinderboxlaw02_ShaHex.j0 (k + 1) y0 y1 y2 y3)) ∧ (∀ y0 y1 y2 y3 y4, LeO (tinderboxlaw02_ShaHex.l0 k y0 y1 y2 y3 y4) (tinderboxlaw02_ShaHex.l0 (k + 1) y0 y1 y2 y3 y4))
  | 0 => ⟨fun _ _ _ _ r h => by simp [tinderboxlaw02_ShaHex.j0] at h, fun _ _ _ _ _ r h => by simp [tinderboxlaw02_ShaHex.l0] at h⟩
  | k + 1 => by
    obtain ⟨ih0, ih1⟩ := tinderboxlaw02_ShaHex.mono_l k
    refine ⟨?_, ?_⟩
    · intro y0 y1 y2 y3
      unfold tinderboxlaw02_ShaHex.j0
      repeat' first
      | (with_reducible exact ih0 _ _ _ _)
      | (with_reducible exact ih1 _ _ _ _ _)
      | (with_reducible exact sha_Bytes.mono _ _)
      | (with_reducible exact tinderboxref02_Hex.mono _ _)
      | (with_reducible exact LeO.refl _)
      | (with_reducible exact LeO.none _)
      | (with_reducible refine LeO.ite ?_ ?_)
      | (with_reducible refine LeO.bind ?_ (fun _ => ?_))
      | exact ih0 _ _ _ _
      | exact ih1 _ _ _ _ _
      | exact sha_Bytes.mono _ _
      | exact tinderboxref02_Hex.mono _ _
      | exact LeO.none _
      | refine LeO.ite ?_ ?_
      | refine LeO.bind ?_ (fun _ => ?_)
    · intro y0 y1 y2 y3 y4
      unfold tinderboxlaw02_ShaHex.l0
      repeat' first
      | (with_reducible exact ih0 _ _ _ _)
      | (with_reducible exact ih1 _ _ _ _ _)
      | (with_reducible exact sha_Bytes.mono _ _)
      | (with_reducible exact tinderboxref02_Hex.mono _ _)
      | (with_reducible exact LeO.refl _)
      | (with_reducible exact LeO.none _)
      | (with_reducible refine LeO.ite ?_ ?_)
      | (with_reducible refine LeO.bind ?_ (fun _ => ?_))
      | exact ih0 _ _ _ _
      | exact ih1 _ _ _ _ _
      | exact sha_Bytes.mono _ _
      | exact tinderboxref02_Hex.mono _ _
      | exact LeO.none _
      | refine LeO.ite ?_ ?_
      | refine LeO.bind ?_ (fun _ => ?_)
theorem tinderboxlaw02_ShaHex.mono : ∀ a0 k, LeO (tinderboxlaw02_ShaHex.f k a0) (tinderboxlaw02_ShaHex.f (k + 1) a0) := by
  intro a0 k
  obtain ⟨ih0, ih1⟩ := tinderboxlaw02_ShaHex.mono_l k
  unfold tinderboxlaw02_ShaHex.f
  repeat' first
      | (with_reducible exact ih0 _ _ _ _)
      | (with_reducible exact ih1 _ _ _ _ _)
      | (with_reducible exact sha_Bytes.mono _ _)
      | (with_reducible exact tinderboxref02_Hex.mono _ _)
      | (with_reducible exact LeO.refl _)
      | (with_reducible exact LeO.none _)
      | (with_reducible refine LeO.ite ?_ ?_)
      | (with_reducible refine LeO.bind ?_ (fun _ => ?_))
      | exact ih0 _ _ _ _
      | exact ih1 _ _ _ _ _
      | exact sha_Bytes.mono _ _
      | exact tinderboxref02_Hex.mono _ _
      | exact LeO.none _
      | refine LeO.ite ?_ ?_
      | refine LeO.bind ?_ (fun _ => ?_)
set_option maxHeartbeats 8000000 in
set_option maxRecDepth 100000 in
theorem tinderboxlaw02_ShaHex.calls (k : Nat) (a0 : ByteArray) (r : Bool) (w : World) (h : tinderboxlaw02_ShaHex.f k a0 = some r) (hr_ : r = true) :
    Calls Try.prog 8 #[.string a0] w fun e w' => e = .returned (.bool r) ∧ Below w.heap.size w w' := by
  have HB := Aside0.mk (Below.refl w.heap.size w)
  have H : ((tinderboxlaw02_few.f a0).bind fun t129 => ((sha_Hex.f t129).bind fun t130 => ((sha_Bytes.f k t130).bind fun bt131 => ((sha_Bytes.f k t129).bind fun bt133 => ((tinderboxlaw02_awake.f).bind fun t135 => (if t135 = true then ((sha_Hex.f t129).bind fun t136 => ((tinderboxref02_Hex.f k t129).bind fun t137 => (if t136.toList = t137.toList then (if bt131.2 = 0 then (tinderboxlaw02_ShaHex.j0 k t129 bt133.1 bt133.2 (bt131.1.toList != t129.toList)) else (tinderboxlaw02_ShaHex.j0 k t129 bt133.1 bt133.2 true)) else (tinderboxlaw02_ShaHex.j0 k t129 bt133.1 bt133.2 true)))) else (tinderboxlaw02_ShaHex.j0 k t129 bt133.1 bt133.2 true))))))) = some r := h
  clear h
  replace H := Option.bind_eq_some_iff.mp H
  obtain ⟨t129, A20, H⟩ := H
  replace H : ((sha_Hex.f t129).bind fun t130 => ((sha_Bytes.f k t130).bind fun bt131 => ((sha_Bytes.f k t129).bind fun bt133 => ((tinderboxlaw02_awake.f).bind fun t135 => (if t135 = true then ((sha_Hex.f t129).bind fun t136 => ((tinderboxref02_Hex.f k t129).bind fun t137 => (if t136.toList = t137.toList then (if bt131.2 = 0 then (tinderboxlaw02_ShaHex.j0 k t129 bt133.1 bt133.2 (bt131.1.toList != t129.toList)) else (tinderboxlaw02_ShaHex.j0 k t129 bt133.1 bt133.2 true)) else (tinderboxlaw02_ShaHex.j0 k t129 bt133.1 bt133.2 true)))) else (tinderboxlaw02_ShaHex.j0 k t129 bt133.1 bt133.2 true)))))) = some r := H
  have A2 := Aside0.mk A20
  clear A20
  replace H := Option.bind_eq_some_iff.mp H
  obtain ⟨t130, A30, H⟩ := H
  replace H : ((sha_Bytes.f k t130).bind fun bt131 => ((sha_Bytes.f k t129).bind fun bt133 => ((tinderboxlaw02_awake.f).bind fun t135 => (if t135 = true then ((sha_Hex.f t129).bind fun t136 => ((tinderboxref02_Hex.f k t129).bind fun t137 => (if t136.toList = t137.toList then (if bt131.2 = 0 then (tinderboxlaw02_ShaHex.j0 k t129 bt133.1 bt133.2 (bt131.1.toList != t129.toList)) else (tinderboxlaw02_ShaHex.j0 k t129 bt133.1 bt133.2 true)) else (tinderboxlaw02_ShaHex.j0 k t129 bt133.1 bt133.2 true)))) else (tinderboxlaw02_ShaHex.j0 k t129 bt133.1 bt133.2 true))))) = some r := H
  have A3 := Aside0.mk A30
  clear A30
  replace H := Option.bind_eq_some_iff.mp H
  obtain ⟨⟨t131, t132⟩, A40, H⟩ := H
  replace H : ((sha_Bytes.f k t129).bind fun bt133 => ((tinderboxlaw02_awake.f).bind fun t135 => (if t135 = true then ((sha_Hex.f t129).bind fun t136 => ((tinderboxref02_Hex.f k t129).bind fun t137 => (if t136.toList = t137.toList then (if t132 = 0 then (tinderboxlaw02_ShaHex.j0 k t129 bt133.1 bt133.2 (t131.toList != t129.toList)) else (tinderboxlaw02_ShaHex.j0 k t129 bt133.1 bt133.2 true)) else (tinderboxlaw02_ShaHex.j0 k t129 bt133.1 bt133.2 true)))) else (tinderboxlaw02_ShaHex.j0 k t129 bt133.1 bt133.2 true)))) = some r := H
  have A4 := Aside0.mk A40
  clear A40
  replace H := Option.bind_eq_some_iff.mp H
  obtain ⟨⟨t133, t134⟩, A50, H⟩ := H
  replace H : ((tinderboxlaw02_awake.f).bind fun t135 => (if t135 = true then ((sha_Hex.f t129).bind fun t136 => ((tinderboxref02_Hex.f k t129).bind fun t137 => (if t136.toList = t137.toList then (if t132 = 0 then (tinderboxlaw02_ShaHex.j0 k t129 t133 t134 (t131.toList != t129.toList)) else (tinderboxlaw02_ShaHex.j0 k t129 t133 t134 true)) else (tinderboxlaw02_ShaHex.j0 k t129 t133 t134 true)))) else (tinderboxlaw02_ShaHex.j0 k t129 t133 t134 true))) = some r := H
  have A5 := Aside0.mk A50
  clear A50
  have HC6 := Aside0.mk H
  clear H
  go_enter Try.func8, Try.ntmps8
  go_upto_region 4 with (first | ((with_reducible refine gate_callee (f := 20) rfl ?_); refine goesL_ (some 12) rfl rfl Try.func20 (by kernel_rfl) rfl #[.string a0] rfl (by (try simp only [List.map_toArray, List.map_cons, List.map_nil]); first | done | rfl | (simp only [List.length_drop, List.length_take]; rfl)) ?_; (with_reducible refine (tinderboxlaw02_few.calls a0 t129 _ A2.out).mono ?_); rintro e w' ⟨rfl, ⟨nd, rfl⟩⟩; refine ⟨_, rfl, ?_⟩) | ((with_reducible refine gate_callee (f := 25) rfl ?_); refine goesL_ (some 15) rfl rfl Try.func25 (by kernel_rfl) rfl #[.string t129] rfl (by (try simp only [List.map_toArray, List.map_cons, List.map_nil]); first | done | rfl | (simp only [List.length_drop, List.length_take]; rfl)) ?_; (with_reducible refine (sha_Hex.calls t129 t130 _ A3.out).mono ?_); rintro e w7 ⟨rfl, hb⟩; refine ⟨_, rfl, ?_⟩; have n0_ := Aside0.mk (below_step (by repeat (first | (with_reducible first | exact HB.out | apply below_alloc | apply pw_below_drewN | apply below_drew1) | exact HB.out)) hb); clear HB; have HB := n0_; clear n0_; (try clear hb); (try clear hb2); (try clear hk); (try clear hi)) | ((with_reducible refine gate_callee (f := 24) rfl ?_); refine goesL_ (some 16) rfl rfl Try.func24 (by kernel_rfl) rfl #[.string t130] rfl (by (try simp only [List.map_toArray, List.map_cons, List.map_nil]); first | done | rfl | (simp only [List.length_drop, List.length_take]; rfl)) ?_; (with_reducible refine (sha_Bytes.calls k t130 t131 t132 _ A4.out).mono ?_); rintro e w8 ⟨rfl, hb⟩; refine ⟨_, rfl, ?_⟩; have n0_ := Aside0.mk (below_step (by repeat (first | (with_reducible first | exact HB.out | apply below_alloc | apply pw_below_drewN | apply below_drew1) | exact HB.out)) hb); clear HB; have HB := n0_; clear n0_; (try clear hb); (try clear hb2); (try clear hk); (try clear hi)) | ((with_reducible refine gate_callee (f := 24) rfl ?_); refine goesL_ (some 21) rfl rfl Try.func24 (by kernel_rfl) rfl #[.string t129] rfl (by (try simp only [List.map_toArray, List.map_cons, List.map_nil]); first | done | rfl | (simp only [List.length_drop, List.length_take]; rfl)) ?_; (with_reducible refine (sha_Bytes.calls k t129 t133 t134 _ A5.out).mono ?_); rintro e w9 ⟨rfl, hb⟩; refine ⟨_, rfl, ?_⟩; have n0_ := Aside0.mk (below_step (by repeat (first | (with_reducible first | exact HB.out | apply below_alloc | apply pw_below_drewN | apply below_drew1) | exact HB.out)) hb); clear HB; have HB := n0_; clear n0_; (try clear hb); (try clear hb2); (try clear hk); (try clear hi)))
  (try simp only [Act.put, List.setIfInBounds_toArray, List.set_cons_zero, List.set_cons_succ])
  go_cut [41] (fun v41 wc => ∃ (kq : Nat) (x41_5 : Bool), v41 = .bool x41_5 ∧ Aside0 (tinderboxlaw02_ShaHex.j0 kq t129 t133 t134 x41_5 = some r) ∧ Aside0 (kq ≤ k) ∧ Aside0 (Below w.heap.size w wc))
  case first =>
    have H := HC6.out
    clear HC6
    replace H := Option.bind_eq_some_iff.mp H
    obtain ⟨t135, A100, H⟩ := H
    replace H : (if t135 = true then ((sha_Hex.f t129).bind fun t136 => ((tinderboxref02_Hex.f k t129).bind fun t137 => (if t136.toList = t137.toList then (if t132 = 0 then (tinderboxlaw02_ShaHex.j0 k t129 t133 t134 (t131.toList != t129.toList)) else (tinderboxlaw02_ShaHex.j0 k t129 t133 t134 true)) else (tinderboxlaw02_ShaHex.j0 k t129 t133 t134 true)))) else (tinderboxlaw02_ShaHex.j0 k t129 t133 t134 true)) = some r := H
    have A10 := Aside0.mk A100
    clear A100
    by_cases c11 : t135 = true
    · subst c11
      have H1 : ((sha_Hex.f t129).bind fun t136 => ((tinderboxref02_Hex.f k t129).bind fun t137 => (if t136.toList = t137.toList then (if t132 = 0 then (tinderboxlaw02_ShaHex.j0 k t129 t133 t134 (t131.toList != t129.toList)) else (tinderboxlaw02_ShaHex.j0 k t129 t133 t134 true)) else (tinderboxlaw02_ShaHex.j0 k t129 t133 t134 true)))) = some r := by rw [if_pos rfl] at H; exact H
      clear H
      have H := H1
      clear H1
      replace H := Option.bind_eq_some_iff.mp H
      obtain ⟨t136, A120, H⟩ := H
      replace H : ((tinderboxref02_Hex.f k t129).bind fun t137 => (if t136.toList = t137.toList then (if t132 = 0 then (tinderboxlaw02_ShaHex.j0 k t129 t133 t134 (t131.toList != t129.toList)) else (tinderboxlaw02_ShaHex.j0 k t129 t133 t134 true)) else (tinderboxlaw02_ShaHex.j0 k t129 t133 t134 true))) = some r := H
      have A12 := Aside0.mk A120
      clear A120
      replace H := Option.bind_eq_some_iff.mp H
      obtain ⟨t137, A130, H⟩ := H
      replace H : (if t136.toList = t137.toList then (if t132 = 0 then (tinderboxlaw02_ShaHex.j0 k t129 t133 t134 (t131.toList != t129.toList)) else (tinderboxlaw02_ShaHex.j0 k t129 t133 t134 true)) else (tinderboxlaw02_ShaHex.j0 k t129 t133 t134 true)) = some r := H
      have A13 := Aside0.mk A130
      clear A130
      by_cases c14 : t136.toList = t137.toList
      · rw [if_pos c14] at H
        have c14b0 : (t136.toList == t137.toList) = true := beq_iff_eq.mpr c14
        have c14b1 : (t136.toList != t137.toList) = false := bne_eq_false_iff_eq.mpr c14
        clear c14
        (first | rw [c14b0] | (simp only [i64_w, i32_w]; rw [c14b0]) | skip)
        by_cases c15 : t132 = 0
        · rw [if_pos c15] at H
          have c15b0 : (t132 == 0) = true := beq_iff_eq.mpr c15
          have c15b1 : (t132 != 0) = false := bne_eq_false_iff_eq.mpr c15
          clear c15
          have H' := Aside0.mk H
          clear H
          go_wp2_with (first | ((with_reducible refine gate_callee (f := 21) rfl ?_); refine goesL_ (some 24) rfl rfl Try.func21 (by kernel_rfl) rfl #[] rfl (by (try simp only [List.map_toArray, List.map_cons, List.map_nil]); first | done | rfl | (simp only [List.length_drop, List.length_take]; rfl)) ?_; (with_reducible refine (tinderboxlaw02_awake.calls  true _ A10.out).mono ?_); rintro e w16 ⟨rfl, hb⟩; refine ⟨_, rfl, ?_⟩; have n0_ := Aside0.mk (below_step (by repeat (first | (with_reducible first | exact HB.out | apply below_alloc | apply pw_below_drewN | apply below_drew1) | exact HB.out)) hb); clear HB; have HB := n0_; clear n0_; (try clear hb); (try clear hb2); (try clear hk); (try clear hi)) | (go_at_call 25; (with_reducible refine (sha_Hex.calls t129 t136 _ A12.out).mono ?_); rintro e w17 ⟨rfl, hb⟩; have n0_ := Aside0.mk (below_step (by repeat (first | (with_reducible first | exact HB.out | apply below_alloc | apply pw_below_drewN | apply below_drew1) | exact HB.out)) hb); clear HB; have HB := n0_; clear n0_; (try clear hb); (try clear hb2); (try clear hk); (try clear hi)) | (go_at_call 26; (with_reducible refine (tinderboxref02_Hex.calls k t129 t137 _ A13.out).mono ?_); rintro e w18 ⟨rfl, hb⟩; have n0_ := Aside0.mk (below_step (by repeat (first | (with_reducible first | exact HB.out | apply below_alloc | apply pw_below_drewN | apply below_drew1) | exact HB.out)) hb); clear HB; have HB := n0_; clear n0_; (try clear hb); (try clear hb2); (try clear hk); (try clear hi)))
          go_meet
          case rel => exact ⟨_, ((t131.toList != t129.toList)), (by first | rfl | (simp; done) | (simp [*]; done)), H', ⟨by first | omega | exact Nat.le_refl _⟩, ⟨by repeat (first | (with_reducible first | exact HB.out | apply below_alloc | apply pw_below_drewN | apply below_drew1) | exact HB.out)⟩⟩
        · rw [if_neg c15] at H
          have c15b0 : (t132 == 0) = false := beq_eq_false_iff_ne.mpr c15
          have c15b1 : (t132 != 0) = true := bne_iff_ne.mpr c15
          have H' := Aside0.mk H
          clear H
          go_wp2_with (first | ((with_reducible refine gate_callee (f := 21) rfl ?_); refine goesL_ (some 24) rfl rfl Try.func21 (by kernel_rfl) rfl #[] rfl (by (try simp only [List.map_toArray, List.map_cons, List.map_nil]); first | done | rfl | (simp only [List.length_drop, List.length_take]; rfl)) ?_; (with_reducible refine (tinderboxlaw02_awake.calls  true _ A10.out).mono ?_); rintro e w19 ⟨rfl, hb⟩; refine ⟨_, rfl, ?_⟩; have n0_ := Aside0.mk (below_step (by repeat (first | (with_reducible first | exact HB.out | apply below_alloc | apply pw_below_drewN | apply below_drew1) | exact HB.out)) hb); clear HB; have HB := n0_; clear n0_; (try clear hb); (try clear hb2); (try clear hk); (try clear hi)) | (go_at_call 25; (with_reducible refine (sha_Hex.calls t129 t136 _ A12.out).mono ?_); rintro e w20 ⟨rfl, hb⟩; have n0_ := Aside0.mk (below_step (by repeat (first | (with_reducible first | exact HB.out | apply below_alloc | apply pw_below_drewN | apply below_drew1) | exact HB.out)) hb); clear HB; have HB := n0_; clear n0_; (try clear hb); (try clear hb2); (try clear hk); (try clear hi)) | (go_at_call 26; (with_reducible refine (tinderboxref02_Hex.calls k t129 t137 _ A13.out).mono ?_); rintro e w21 ⟨rfl, hb⟩; have n0_ := Aside0.mk (below_step (by repeat (first | (with_reducible first | exact HB.out | apply below_alloc | apply pw_below_drewN | apply below_drew1) | exact HB.out)) hb); clear HB; have HB := n0_; clear n0_; (try clear hb); (try clear hb2); (try clear hk); (try clear hi)))
          go_meet
          case rel => exact ⟨_, (true), (by first | rfl | (simp; done) | (simp [*]; done)), H', ⟨by first | omega | exact Nat.le_refl _⟩, ⟨by repeat (first | (with_reducible first | exact HB.out | apply below_alloc | apply pw_below_drewN | apply below_drew1) | exact HB.out)⟩⟩
      · rw [if_neg c14] at H
        have c14b0 : (t136.toList == t137.toList) = false := beq_eq_false_iff_ne.mpr c14
        have c14b1 : (t136.toList != t137.toList) = true := bne_iff_ne.mpr c14
        (first | rw [c14b0] | (simp only [i64_w, i32_w]; rw [c14b0]) | skip)
        have H' := Aside0.mk H
        clear H
        go_wp2_with (first | ((with_reducible refine gate_callee (f := 21) rfl ?_); refine goesL_ (some 24) rfl rfl Try.func21 (by kernel_rfl) rfl #[] rfl (by (try simp only [List.map_toArray, List.map_cons, List.map_nil]); first | done | rfl | (simp only [List.length_drop, List.length_take]; rfl)) ?_; (with_reducible refine (tinderboxlaw02_awake.calls  true _ A10.out).mono ?_); rintro e w22 ⟨rfl, hb⟩; refine ⟨_, rfl, ?_⟩; have n0_ := Aside0.mk (below_step (by repeat (first | (with_reducible first | exact HB.out | apply below_alloc | apply pw_below_drewN | apply below_drew1) | exact HB.out)) hb); clear HB; have HB := n0_; clear n0_; (try clear hb); (try clear hb2); (try clear hk); (try clear hi)) | (go_at_call 25; (with_reducible refine (sha_Hex.calls t129 t136 _ A12.out).mono ?_); rintro e w23 ⟨rfl, hb⟩; have n0_ := Aside0.mk (below_step (by repeat (first | (with_reducible first | exact HB.out | apply below_alloc | apply pw_below_drewN | apply below_drew1) | exact HB.out)) hb); clear HB; have HB := n0_; clear n0_; (try clear hb); (try clear hb2); (try clear hk); (try clear hi)) | (go_at_call 26; (with_reducible refine (tinderboxref02_Hex.calls k t129 t137 _ A13.out).mono ?_); rintro e w24 ⟨rfl, hb⟩; have n0_ := Aside0.mk (below_step (by repeat (first | (with_reducible first | exact HB.out | apply below_alloc | apply pw_below_drewN | apply below_drew1) | exact HB.out)) hb); clear HB; have HB := n0_; clear n0_; (try clear hb); (try clear hb2); (try clear hk); (try clear hi)))
        go_meet
        case rel => exact ⟨_, (true), (by first | rfl | (simp; done) | (simp [*]; done)), H', ⟨by first | omega | exact Nat.le_refl _⟩, ⟨by repeat (first | (with_reducible first | exact HB.out | apply below_alloc | apply pw_below_drewN | apply below_drew1) | exact HB.out)⟩⟩
    · replace c11 := Bool.eq_false_iff.mpr c11
      subst c11
      have H1 : (tinderboxlaw02_ShaHex.j0 k t129 t133 t134 true) = some r := by rw [if_neg (show ¬ (false = true) by decide)] at H; exact H
      clear H
      have H := H1
      clear H1
      have H' := Aside0.mk H
      clear H
      go_wp2_with (first | ((with_reducible refine gate_callee (f := 21) rfl ?_); refine goesL_ (some 24) rfl rfl Try.func21 (by kernel_rfl) rfl #[] rfl (by (try simp only [List.map_toArray, List.map_cons, List.map_nil]); first | done | rfl | (simp only [List.length_drop, List.length_take]; rfl)) ?_; (with_reducible refine (tinderboxlaw02_awake.calls  false _ A10.out).mono ?_); rintro e w25 ⟨rfl, hb⟩; refine ⟨_, rfl, ?_⟩; have n0_ := Aside0.mk (below_step (by repeat (first | (with_reducible first | exact HB.out | apply below_alloc | apply pw_below_drewN | apply below_drew1) | exact HB.out)) hb); clear HB; have HB := n0_; clear n0_; (try clear hb); (try clear hb2); (try clear hk); (try clear hi)))
      go_meet
      case rel => exact ⟨_, (true), (by first | rfl | (simp; done) | (simp [*]; done)), H', ⟨by first | omega | exact Nat.le_refl _⟩, ⟨by repeat (first | (with_reducible first | exact HB.out | apply below_alloc | apply pw_below_drewN | apply below_drew1) | exact HB.out)⟩⟩
  case rest =>
    clear HC6
    try clear c1
    try clear c2
    try clear p2
    try clear c8
    try clear c11
    try clear c14
    try clear c14b0
    try clear c14b1
    try clear c15
    try clear c15b0
    try clear c15b1
    try clear c20
    try clear c21
    try clear c24
    try clear c25
    obtain ⟨kq, x41_5, rfl, HA, HJ5, HB⟩ := hcut
    cases kq with
    | zero => exact absurd HA.out (by simp [tinderboxlaw02_ShaHex.j0])
    | succ kj5 =>
      have H := HA.out
      clear HA
      simp only [tinderboxlaw02_ShaHex.j0] at H
      by_cases c26 : x41_5 = true
      · subst c26
        have H1 : (some false) = some r := by rw [if_pos rfl] at H; exact H
        clear H
        have H := H1
        clear H1
        exact absurd ((Option.some.inj H).trans hr_) (by decide)
      · replace c26 := Bool.eq_false_iff.mpr c26
        subst c26
        have H1 : (tinderboxlaw02_ShaHex.l0 kj5 t129 t133 t134 0 0) = some r := by rw [if_neg (show ¬ (false = true) by decide)] at H; exact H
        clear H
        have H := H1
        clear H1
        have H' := Aside0.mk H
        clear H
        go_wp2
        go_loopg [8, 9] kj5 (fun kq v8 v9 w' => ∃ (x8_2 : Int) (x9_2 : Int), v8 = .int .i64 x8_2 ∧ v9 = .int .i64 x9_2 ∧ Aside0 (tinderboxlaw02_ShaHex.l0 kq t129 t133 t134 x8_2 x9_2 = some r) ∧ Aside0 (kq ≤ kj5) ∧ Aside0 (Below w.heap.size w w'))
        case atStart => exact ⟨(0), (0), (by first | rfl | (simp; done) | (simp [*]; done)), (by first | rfl | (simp; done) | (simp [*]; done)), H', ⟨Nat.le_refl _⟩, ⟨by repeat (first | (with_reducible first | exact HB.out | apply below_alloc | apply pw_below_drewN | apply below_drew1) | exact HB.out)⟩⟩
        case round =>
          clear H'
          try clear c1
          try clear c2
          try clear p2
          try clear c8
          try clear c11
          try clear c14
          try clear c14b0
          try clear c14b1
          try clear c15
          try clear c15b0
          try clear c15b1
          try clear c20
          try clear c21
          try clear c24
          try clear c25
          try clear c26
          try clear p2
          obtain ⟨x8_2, x9_2, rfl, rfl, HA, HK2, HB⟩ := hrel
          cases gk with
          | zero => exact absurd HA.out (by simp [tinderboxlaw02_ShaHex.l0])
          | succ k2 =>
            have H := HA.out
            clear HA
            simp only [tinderboxlaw02_ShaHex.l0] at H
            by_cases c27 : x9_2 < (t129.size : Int)
            · rw [if_pos c27] at H
              have c27b0 : decide (x9_2 < (t129.size : Int)) = true := decide_eq_true c27
              clear c27
              by_cases c28 : 0 ≤ x9_2
              · rw [if_pos c28] at H
                have c28b0 : decide (0 ≤ x9_2) = true := decide_eq_true c28
                clear c28
                by_cases c30 : (bt t129 x9_2) ≥ 48
                · rw [if_pos c30] at H
                  have c30b0 : decide (48 ≤ (bt t129 x9_2)) = true := decide_eq_true c30
                  clear c30
                  by_cases c31 : (bt t129 x9_2) ≤ 57
                  · rw [if_pos c31] at H
                    have c31b0 : decide ((bt t129 x9_2) ≤ 57) = true := decide_eq_true c31
                    clear c31
                    have H' := Aside0.mk H
                    clear H
                    have p29 : 0 ≤ (x9_2 : Int) := of_decide_eq_true (by first | (with_reducible assumption) | assumption)
                    have q29 : x9_2 < (t129.size : Int) := of_decide_eq_true (by first | (with_reducible assumption) | assumption)
                    have hx29 := bt_at t129 x9_2
                    replace p29 := eq_true p29
                    replace q29 := eq_true q29
                    go_wp2
                    go_roundg k2
                    case measure => have := HJ5.out; have := HK2.out; omega
                    case rel => exact ⟨(x8_2), (wrap64 (x9_2 + 1)), (by first | rfl | (simp; done) | (simp [*]; done)), (by first | rfl | (simp; done) | (simp [*]; done)), H', ⟨by have := HJ5.out; have := HK2.out; omega⟩, ⟨by repeat (first | (with_reducible first | exact HB.out | apply below_alloc | apply pw_below_drewN | apply below_drew1) | exact HB.out)⟩⟩
                  · rw [if_neg c31] at H
                    have c31b0 : decide ((bt t129 x9_2) ≤ 57) = false := decide_eq_false c31
                    clear c31
                    by_cases c32 : (bt t129 x9_2) ≥ 97
                    · rw [if_pos c32] at H
                      have c32b0 : decide (97 ≤ (bt t129 x9_2)) = true := decide_eq_true c32
                      clear c32
                      by_cases c33 : ((bt t129 x9_2) ≤ 102)
                      · rw [if_pos c33] at H
                        have c33b0 : decide ((bt t129 x9_2) ≤ 102) = true := decide_eq_true c33
                        clear c33
                        have H' := Aside0.mk H
                        clear H
                        have p29 : 0 ≤ (x9_2 : Int) := of_decide_eq_true (by first | (with_reducible assumption) | assumption)
                        have q29 : x9_2 < (t129.size : Int) := of_decide_eq_true (by first | (with_reducible assumption) | assumption)
                        have hx29 := bt_at t129 x9_2
                        replace p29 := eq_true p29
                        replace q29 := eq_true q29
                        go_wp2
                        go_roundg k2
                        case measure => have := HJ5.out; have := HK2.out; omega
                        case rel => exact ⟨(x8_2), (wrap64 (x9_2 + 1)), (by first | rfl | (simp; done) | (simp [*]; done)), (by first | rfl | (simp; done) | (simp [*]; done)), H', ⟨by have := HJ5.out; have := HK2.out; omega⟩, ⟨by repeat (first | (with_reducible first | exact HB.out | apply below_alloc | apply pw_below_drewN | apply below_drew1) | exact HB.out)⟩⟩
                      · rw [if_neg c33] at H
                        have c33b0 : decide ((bt t129 x9_2) ≤ 102) = false := decide_eq_false c33
                        clear c33
                        have H' := Aside0.mk H
                        clear H
                        have p29 : 0 ≤ (x9_2 : Int) := of_decide_eq_true (by first | (with_reducible assumption) | assumption)
                        have q29 : x9_2 < (t129.size : Int) := of_decide_eq_true (by first | (with_reducible assumption) | assumption)
                        have hx29 := bt_at t129 x9_2
                        replace p29 := eq_true p29
                        replace q29 := eq_true q29
                        go_wp2
                        go_roundg k2
                        case measure => have := HJ5.out; have := HK2.out; omega
                        case rel => exact ⟨(3), (wrap64 (x9_2 + 1)), (by first | rfl | (simp; done) | (simp [*]; done)), (by first | rfl | (simp; done) | (simp [*]; done)), H', ⟨by have := HJ5.out; have := HK2.out; omega⟩, ⟨by repeat (first | (with_reducible first | exact HB.out | apply below_alloc | apply pw_below_drewN | apply below_drew1) | exact HB.out)⟩⟩
                    · rw [if_neg c32] at H
                      have c32b0 : decide (97 ≤ (bt t129 x9_2)) = false := decide_eq_false c32
                      clear c32
                      have H' := Aside0.mk H
                      clear H
                      have p29 : 0 ≤ (x9_2 : Int) := of_decide_eq_true (by first | (with_reducible assumption) | assumption)
                      have q29 : x9_2 < (t129.size : Int) := of_decide_eq_true (by first | (with_reducible assumption) | assumption)
                      have hx29 := bt_at t129 x9_2
                      replace p29 := eq_true p29
                      replace q29 := eq_true q29
                      go_wp2
                      go_roundg k2
                      case measure => have := HJ5.out; have := HK2.out; omega
                      case rel => exact ⟨(3), (wrap64 (x9_2 + 1)), (by first | rfl | (simp; done) | (simp [*]; done)), (by first | rfl | (simp; done) | (simp [*]; done)), H', ⟨by have := HJ5.out; have := HK2.out; omega⟩, ⟨by repeat (first | (with_reducible first | exact HB.out | apply below_alloc | apply pw_below_drewN | apply below_drew1) | exact HB.out)⟩⟩
                · rw [if_neg c30] at H
                  have c30b0 : decide (48 ≤ (bt t129 x9_2)) = false := decide_eq_false c30
                  clear c30
                  by_cases c34 : (bt t129 x9_2) ≥ 97
                  · rw [if_pos c34] at H
                    have c34b0 : decide (97 ≤ (bt t129 x9_2)) = true := decide_eq_true c34
                    clear c34
                    by_cases c35 : ((bt t129 x9_2) ≤ 102)
                    · rw [if_pos c35] at H
                      have c35b0 : decide ((bt t129 x9_2) ≤ 102) = true := decide_eq_true c35
                      clear c35
                      have H' := Aside0.mk H
                      clear H
                      have p29 : 0 ≤ (x9_2 : Int) := of_decide_eq_true (by first | (with_reducible assumption) | assumption)
                      have q29 : x9_2 < (t129.size : Int) := of_decide_eq_true (by first | (with_reducible assumption) | assumption)
                      have hx29 := bt_at t129 x9_2
                      replace p29 := eq_true p29
                      replace q29 := eq_true q29
                      go_wp2
                      go_roundg k2
                      case measure => have := HJ5.out; have := HK2.out; omega
                      case rel => exact ⟨(x8_2), (wrap64 (x9_2 + 1)), (by first | rfl | (simp; done) | (simp [*]; done)), (by first | rfl | (simp; done) | (simp [*]; done)), H', ⟨by have := HJ5.out; have := HK2.out; omega⟩, ⟨by repeat (first | (with_reducible first | exact HB.out | apply below_alloc | apply pw_below_drewN | apply below_drew1) | exact HB.out)⟩⟩
                    · rw [if_neg c35] at H
                      have c35b0 : decide ((bt t129 x9_2) ≤ 102) = false := decide_eq_false c35
                      clear c35
                      have H' := Aside0.mk H
                      clear H
                      have p29 : 0 ≤ (x9_2 : Int) := of_decide_eq_true (by first | (with_reducible assumption) | assumption)
                      have q29 : x9_2 < (t129.size : Int) := of_decide_eq_true (by first | (with_reducible assumption) | assumption)
                      have hx29 := bt_at t129 x9_2
                      replace p29 := eq_true p29
                      replace q29 := eq_true q29
                      go_wp2
                      go_roundg k2
                      case measure => have := HJ5.out; have := HK2.out; omega
                      case rel => exact ⟨(3), (wrap64 (x9_2 + 1)), (by first | rfl | (simp; done) | (simp [*]; done)), (by first | rfl | (simp; done) | (simp [*]; done)), H', ⟨by have := HJ5.out; have := HK2.out; omega⟩, ⟨by repeat (first | (with_reducible first | exact HB.out | apply below_alloc | apply pw_below_drewN | apply below_drew1) | exact HB.out)⟩⟩
                  · rw [if_neg c34] at H
                    have c34b0 : decide (97 ≤ (bt t129 x9_2)) = false := decide_eq_false c34
                    clear c34
                    have H' := Aside0.mk H
                    clear H
                    have p29 : 0 ≤ (x9_2 : Int) := of_decide_eq_true (by first | (with_reducible assumption) | assumption)
                    have q29 : x9_2 < (t129.size : Int) := of_decide_eq_true (by first | (with_reducible assumption) | assumption)
                    have hx29 := bt_at t129 x9_2
                    replace p29 := eq_true p29
                    replace q29 := eq_true q29
                    go_wp2
                    go_roundg k2
                    case measure => have := HJ5.out; have := HK2.out; omega
                    case rel => exact ⟨(3), (wrap64 (x9_2 + 1)), (by first | rfl | (simp; done) | (simp [*]; done)), (by first | rfl | (simp; done) | (simp [*]; done)), H', ⟨by have := HJ5.out; have := HK2.out; omega⟩, ⟨by repeat (first | (with_reducible first | exact HB.out | apply below_alloc | apply pw_below_drewN | apply below_drew1) | exact HB.out)⟩⟩
              · rw [if_neg c28] at H
                exact absurd H (by simp)
            · rw [if_neg c27] at H
              have c27b0 : decide (x9_2 < (t129.size : Int)) = false := decide_eq_false c27
              clear c27
              by_cases c36 : ((t129.size : Int) % 2) = 1
              · rw [if_pos c36] at H
                have c36b0 : (((t129.size : Int) % 2) == 1) = true := beq_iff_eq.mpr c36
                have c36b1 : (((t129.size : Int) % 2) != 1) = false := bne_eq_false_iff_eq.mpr c36
                clear c36
                by_cases c37 : t134 = 2
                · rw [if_pos c37] at H
                  have c37b0 : (t134 == 2) = true := beq_iff_eq.mpr c37
                  have c37b1 : (t134 != 2) = false := bne_eq_false_iff_eq.mpr c37
                  clear c37
                  by_cases c38 : t134 = 0
                  · rw [if_pos c38] at H
                    have c38b0 : (t134 == 0) = true := beq_iff_eq.mpr c38
                    have c38b1 : (t134 != 0) = false := bne_eq_false_iff_eq.mpr c38
                    clear c38
                    replace H := Option.bind_eq_some_iff.mp H
                    obtain ⟨t138, A390, H⟩ := H
                    replace H : (if t138.toList = t129.toList then (some true) else (some false)) = some r := H
                    have A39 := Aside0.mk A390
                    clear A390
                    by_cases c40 : t138.toList = t129.toList
                    · rw [if_pos c40] at H
                      have c40b0 : (t138.toList == t129.toList) = true := beq_iff_eq.mpr c40
                      have c40b1 : (t138.toList != t129.toList) = false := bne_eq_false_iff_eq.mpr c40
                      clear c40
                      clear hr_
                      obtain rfl := Option.some.inj H
                      go_wp2_with (first | (go_at_call 25; (with_reducible refine (sha_Hex.calls t133 t138 _ A39.out).mono ?_); rintro e w41 ⟨rfl, hb⟩; have n0_ := Aside0.mk (below_step (by repeat (first | (with_reducible first | exact HB.out | apply below_alloc | apply pw_below_drewN | apply below_drew1) | exact HB.out)) hb); clear HB; have HB := n0_; clear n0_; (try clear hb); (try clear hb2); (try clear hk); (try clear hi)))
                      go_ret
                      exact ⟨by first | rfl | (simp [errW_none, errW_some] <;> rfl) | (simp [*, errW_none, errW_some] <;> rfl), by repeat (first | (with_reducible first | exact HB.out | apply below_alloc | apply pw_below_drewN | apply below_drew1) | exact HB.out)⟩
                    · rw [if_neg c40] at H
                      have c40b0 : (t138.toList == t129.toList) = false := beq_eq_false_iff_ne.mpr c40
                      have c40b1 : (t138.toList != t129.toList) = true := bne_iff_ne.mpr c40
                      exact absurd ((Option.some.inj H).trans hr_) (by decide)
                  · rw [if_neg c38] at H
                    have c38b0 : (t134 == 0) = false := beq_eq_false_iff_ne.mpr c38
                    have c38b1 : (t134 != 0) = true := bne_iff_ne.mpr c38
                    clear hr_
                    obtain rfl := Option.some.inj H
                    go_wp2
                    go_ret
                    exact ⟨by first | rfl | (simp [errW_none, errW_some] <;> rfl) | (simp [*, errW_none, errW_some] <;> rfl), by repeat (first | (with_reducible first | exact HB.out | apply below_alloc | apply pw_below_drewN | apply below_drew1) | exact HB.out)⟩
                · rw [if_neg c37] at H
                  have c37b0 : (t134 == 2) = false := beq_eq_false_iff_ne.mpr c37
                  have c37b1 : (t134 != 2) = true := bne_iff_ne.mpr c37
                  exact absurd ((Option.some.inj H).trans hr_) (by decide)
              · rw [if_neg c36] at H
                have c36b0 : (((t129.size : Int) % 2) == 1) = false := beq_eq_false_iff_ne.mpr c36
                have c36b1 : (((t129.size : Int) % 2) != 1) = true := bne_iff_ne.mpr c36
                by_cases c42 : t134 = x8_2
                · rw [if_pos c42] at H
                  have c42b0 : (t134 == x8_2) = true := beq_iff_eq.mpr c42
                  have c42b1 : (t134 != x8_2) = false := bne_eq_false_iff_eq.mpr c42
                  clear c42
                  by_cases c43 : t134 = 0
                  · rw [if_pos c43] at H
                    have c43b0 : (t134 == 0) = true := beq_iff_eq.mpr c43
                    have c43b1 : (t134 != 0) = false := bne_eq_false_iff_eq.mpr c43
                    clear c43
                    replace H := Option.bind_eq_some_iff.mp H
                    obtain ⟨t139, A440, H⟩ := H
                    replace H : (if t139.toList = t129.toList then (some true) else (some false)) = some r := H
                    have A44 := Aside0.mk A440
                    clear A440
                    by_cases c45 : t139.toList = t129.toList
                    · rw [if_pos c45] at H
                      have c45b0 : (t139.toList == t129.toList) = true := beq_iff_eq.mpr c45
                      have c45b1 : (t139.toList != t129.toList) = false := bne_eq_false_iff_eq.mpr c45
                      clear c45
                      clear hr_
                      obtain rfl := Option.some.inj H
                      go_wp2_with (first | (go_at_call 25; (with_reducible refine (sha_Hex.calls t133 t139 _ A44.out).mono ?_); rintro e w46 ⟨rfl, hb⟩; have n0_ := Aside0.mk (below_step (by repeat (first | (with_reducible first | exact HB.out | apply below_alloc | apply pw_below_drewN | apply below_drew1) | exact HB.out)) hb); clear HB; have HB := n0_; clear n0_; (try clear hb); (try clear hb2); (try clear hk); (try clear hi)))
                      go_ret
                      exact ⟨by first | rfl | (simp [errW_none, errW_some] <;> rfl) | (simp [*, errW_none, errW_some] <;> rfl), by repeat (first | (with_reducible first | exact HB.out | apply below_alloc | apply pw_below_drewN | apply below_drew1) | exact HB.out)⟩
                    · rw [if_neg c45] at H
                      have c45b0 : (t139.toList == t129.toList) = false := beq_eq_false_iff_ne.mpr c45
                      have c45b1 : (t139.toList != t129.toList) = true := bne_iff_ne.mpr c45
                      exact absurd ((Option.some.inj H).trans hr_) (by decide)
                  · rw [if_neg c43] at H
                    have c43b0 : (t134 == 0) = false := beq_eq_false_iff_ne.mpr c43
                    have c43b1 : (t134 != 0) = true := bne_iff_ne.mpr c43
                    clear hr_
                    obtain rfl := Option.some.inj H
                    go_wp2
                    go_ret
                    exact ⟨by first | rfl | (simp [errW_none, errW_some] <;> rfl) | (simp [*, errW_none, errW_some] <;> rfl), by repeat (first | (with_reducible first | exact HB.out | apply below_alloc | apply pw_below_drewN | apply below_drew1) | exact HB.out)⟩
                · rw [if_neg c42] at H
                  have c42b0 : (t134 == x8_2) = false := beq_eq_false_iff_ne.mpr c42
                  have c42b1 : (t134 != x8_2) = true := bne_iff_ne.mpr c42
                  exact absurd ((Option.some.inj H).trans hr_) (by decide)

/-- THE ONE PURE STATEMENT of tinderboxlaw02_ShaHex: yours. -/
def tinderboxlaw02_ShaHex.Pure : Prop := ∀ (a0 : ByteArray), a0.size ≤ 140737488351232 → ∃ k, tinderboxlaw02_ShaHex.f k a0 = some true
theorem tinderboxlaw02_ShaHex.walk (P : tinderboxlaw02_ShaHex.Pure) (a0 : ByteArray) (w : World) (w0 : a0.size ≤ 140737488351232) :
    Calls Try.prog 8 #[.string a0] w fun e w' => e = .returned (.bool true) ∧ Below w.heap.size w w' := by
  obtain ⟨k, h⟩ := P a0 w0
  refine (tinderboxlaw02_ShaHex.calls k a0 true w h rfl).mono ?_
  rintro e w' ⟨rfl, hd⟩
  exact ⟨rfl, hd⟩

end Go.Proofs.Ytomenklhgofjaaa.XShaHex
