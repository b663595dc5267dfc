-- Written by xprint.py of this repo (the kit's print with turns of our own) out of the translation.
import Derived.Test.YtpidfledopnhpaaXGfPowx0
import Derived.Test.YtpidfledopnhpaaXGfPowx1
namespace Go.Proofs.Ytpidfledopnhpaa.XGfPow
open Go.RowKit Go.Proofs.YtpidfledopnhpaaW.PrintWords Go.Proofs.YtpidfledopnhpaaW.PrintLast Go.Proofs.YtpidfledopnhpaaW.PrintMore
attribute [local go_sem] max2_int min2_int max_two min_two max_three min_three max_four min_four   -- for this text's walks alone
set_option linter.unusedVariables false
set_option linter.unusedSimpArgs false

/-! ### tinderboxlaw27_GfPow: function 9 -/
def tinderboxlaw27_GfPow.f (k : Nat) (a0 : Int) (a1 : Int) : Option (Bool) := (tinderboxref27_Pow.f k a0 (Go.bits .and .i64 a1 511)).bind fun t114 => (if a0 = 0 then ((tinderboxlaw27_awake.f k).bind fun t115 => (if t115 = true then ((gf_Pow.f k a0 (Go.bits .and .i64 a1 511)).bind fun t116 => (if t116 = t114 then ((gf_Pow.f k a0 (wrap64 ((-1) - (Go.bits .and .i64 a1 511)))).bind fun t117 => (some (t117 == 0))) else (some false))) else (some false))) else ((tinderboxlaw27_awake.f k).bind fun t118 => (if t118 = true then ((gf_Pow.f k a0 (Go.bits .and .i64 a1 511)).bind fun t119 => (if t119 = t114 then ((gf_Pow.f k a0 (wrap64 (-(Go.bits .and .i64 a1 511)))).bind fun t120 => ((gf_Mul.f k t120 t114).bind fun t121 => (if t121 = 1 then ((gf_Root.f k (Go.bits .and .i64 a1 511)).bind fun t122 => ((tinderboxref27_Pow.f k 2 (Go.bits .and .i64 a1 511)).bind fun t123 => (some (t122 == t123)))) else (some false)))) else (some false))) else (some false))))
theorem tinderboxlaw27_GfPow.mono : ∀ a0 a1 k, LeO (tinderboxlaw27_GfPow.f k a0 a1) (tinderboxlaw27_GfPow.f (k + 1) a0 a1) := by
  intro a0 a1 k
  unfold tinderboxlaw27_GfPow.f
  repeat' first
      | (with_reducible exact gf_Mul.mono _ _ _)
      | (with_reducible exact gf_Pow.mono _ _ _)
      | (with_reducible exact gf_Root.mono _ _)
      | (with_reducible exact tinderboxlaw27_awake.mono _)
      | (with_reducible exact tinderboxref27_Pow.mono _ _ _)
      | (with_reducible exact LeO.refl _)
      | (with_reducible exact LeO.none _)
      | (with_reducible refine LeO.ite ?_ ?_)
      | (with_reducible refine LeO.bind ?_ (fun _ => ?_))
      | exact gf_Mul.mono _ _ _
      | exact gf_Pow.mono _ _ _
      | exact gf_Root.mono _ _
      | exact tinderboxlaw27_awake.mono _
      | exact tinderboxref27_Pow.mono _ _ _
      | exact LeO.none _
      | refine LeO.ite ?_ ?_
      | refine LeO.bind ?_ (fun _ => ?_)
set_option maxHeartbeats 8000000 in
set_option maxRecDepth 100000 in
theorem tinderboxlaw27_GfPow.calls (k : Nat) (a0 : Int) (a1 : Int) (r : Bool) (w : World) (h : tinderboxlaw27_GfPow.f k a0 a1 = some r) :
    Calls Try.prog 9 #[.int .u8 a0, .int .i64 a1] w fun e w' => e = .returned (.bool r) ∧ Below w.heap.size w w' := by
  have HB := Aside0.mk (Below.refl w.heap.size w)
  have H : ((tinderboxref27_Pow.f k a0 (Go.bits .and .i64 a1 511)).bind fun t114 => (if a0 = 0 then ((tinderboxlaw27_awake.f k).bind fun t115 => (if t115 = true then ((gf_Pow.f k a0 (Go.bits .and .i64 a1 511)).bind fun t116 => (if t116 = t114 then ((gf_Pow.f k a0 (wrap64 ((-1) - (Go.bits .and .i64 a1 511)))).bind fun t117 => (some (t117 == 0))) else (some false))) else (some false))) else ((tinderboxlaw27_awake.f k).bind fun t118 => (if t118 = true then ((gf_Pow.f k a0 (Go.bits .and .i64 a1 511)).bind fun t119 => (if t119 = t114 then ((gf_Pow.f k a0 (wrap64 (-(Go.bits .and .i64 a1 511)))).bind fun t120 => ((gf_Mul.f k t120 t114).bind fun t121 => (if t121 = 1 then ((gf_Root.f k (Go.bits .and .i64 a1 511)).bind fun t122 => ((tinderboxref27_Pow.f k 2 (Go.bits .and .i64 a1 511)).bind fun t123 => (some (t122 == t123)))) else (some false)))) else (some false))) else (some false))))) = some r := h
  clear h
  replace H := Option.bind_eq_some_iff.mp H
  obtain ⟨t114, A30, H⟩ := H
  replace H : (if a0 = 0 then ((tinderboxlaw27_awake.f k).bind fun t115 => (if t115 = true then ((gf_Pow.f k a0 (Go.bits .and .i64 a1 511)).bind fun t116 => (if t116 = t114 then ((gf_Pow.f k a0 (wrap64 ((-1) - (Go.bits .and .i64 a1 511)))).bind fun t117 => (some (t117 == 0))) else (some false))) else (some false))) else ((tinderboxlaw27_awake.f k).bind fun t118 => (if t118 = true then ((gf_Pow.f k a0 (Go.bits .and .i64 a1 511)).bind fun t119 => (if t119 = t114 then ((gf_Pow.f k a0 (wrap64 (-(Go.bits .and .i64 a1 511)))).bind fun t120 => ((gf_Mul.f k t120 t114).bind fun t121 => (if t121 = 1 then ((gf_Root.f k (Go.bits .and .i64 a1 511)).bind fun t122 => ((tinderboxref27_Pow.f k 2 (Go.bits .and .i64 a1 511)).bind fun t123 => (some (t122 == t123)))) else (some false)))) else (some false))) else (some false)))) = some r := H
  have A3 := Aside0.mk A30
  clear A30
  by_cases c4 : a0 = 0
  · rw [if_pos c4] at H
    have c4b0 : (a0 == 0) = true := beq_iff_eq.mpr c4
    have c4b1 : (a0 != 0) = false := bne_eq_false_iff_eq.mpr c4
    clear c4
    replace H := Option.bind_eq_some_iff.mp H
    obtain ⟨t115, A50, H⟩ := H
    replace H : (if t115 = true then ((gf_Pow.f k a0 (Go.bits .and .i64 a1 511)).bind fun t116 => (if t116 = t114 then ((gf_Pow.f k a0 (wrap64 ((-1) - (Go.bits .and .i64 a1 511)))).bind fun t117 => (some (t117 == 0))) else (some false))) else (some false)) = some r := H
    have A5 := Aside0.mk A50
    clear A50
    by_cases c6 : t115 = true
    · subst c6
      have H1 : ((gf_Pow.f k a0 (Go.bits .and .i64 a1 511)).bind fun t116 => (if t116 = t114 then ((gf_Pow.f k a0 (wrap64 ((-1) - (Go.bits .and .i64 a1 511)))).bind fun t117 => (some (t117 == 0))) else (some false))) = some r := by rw [if_pos rfl] at H; exact H
      clear H
      have H := H1
      clear H1
      replace H := Option.bind_eq_some_iff.mp H
      obtain ⟨t116, A70, H⟩ := H
      replace H : (if t116 = t114 then ((gf_Pow.f k a0 (wrap64 ((-1) - (Go.bits .and .i64 a1 511)))).bind fun t117 => (some (t117 == 0))) else (some false)) = some r := H
      have A7 := Aside0.mk A70
      clear A70
      by_cases c8 : t116 = t114
      · rw [if_pos c8] at H
        have c8b0 : (t116 == t114) = true := beq_iff_eq.mpr c8
        have c8b1 : (t116 != t114) = false := bne_eq_false_iff_eq.mpr c8
        clear c8
        replace H := Option.bind_eq_some_iff.mp H
        obtain ⟨t117, A90, H⟩ := H
        replace H : (some (t117 == 0)) = some r := H
        have A9 := Aside0.mk A90
        clear A90
        obtain rfl := Option.some.inj H
        go_enter Try.func9, Try.ntmps9
        go_wp2_with (first | ((with_reducible refine gate_callee (f := 25) rfl ?_); refine goesL_ (some 11) rfl rfl Try.func25 (by kernel_rfl) rfl #[.int .u8 a0, .int .i64 (Go.bits .and .i64 a1 511)] rfl (by (try simp only [List.map_toArray, List.map_cons, List.map_nil]); first | done | rfl | (simp only [List.length_drop, List.length_take]; rfl)) ?_; (with_reducible refine (tinderboxref27_Pow.calls k a0 (Go.bits .and .i64 a1 511) t114 _ A3.out).mono ?_); rintro e w' ⟨rfl, ⟨nd, rfl⟩⟩; refine ⟨_, rfl, ?_⟩) | ((with_reducible refine gate_callee (f := 20) rfl ?_); refine goesL_ (some 14) rfl rfl Try.func20 (by kernel_rfl) rfl #[] rfl (by (try simp only [List.map_toArray, List.map_cons, List.map_nil]); first | done | rfl | (simp only [List.length_drop, List.length_take]; rfl)) ?_; (with_reducible refine (tinderboxlaw27_awake.calls k  true _ A5.out).mono ?_); rintro e w10 ⟨rfl, hb⟩; refine ⟨_, rfl, ?_⟩; have n0_ := Aside0.mk (below_step (by repeat (first | (with_reducible first | exact HB.out | apply below_alloc | apply pw_below_drewN | apply below_drew1) | exact HB.out)) hb); clear HB; have HB := n0_; clear n0_; (try clear hb); (try clear hb2); (try clear hk); (try clear hi)) | (go_at_call 26; (with_reducible refine (gf_Pow.calls k a0 (Go.bits .and .i64 a1 511) t116 _ A7.out).mono ?_); rintro e w' ⟨rfl, ⟨nd, rfl⟩⟩) | (go_at_call 26; (with_reducible refine (gf_Pow.calls k a0 (wrap64 ((-1) - (Go.bits .and .i64 a1 511))) t117 _ A9.out).mono ?_); rintro e w' ⟨rfl, ⟨nd, rfl⟩⟩))
        go_ret
        exact ⟨by first | rfl | (simp [errW_none, errW_some] <;> rfl) | (simp [*, errW_none, errW_some] <;> rfl), by repeat (first | (with_reducible first | exact HB.out | apply below_alloc | apply pw_below_drewN | apply below_drew1) | exact HB.out)⟩
      · rw [if_neg c8] at H
        have c8b0 : (t116 == t114) = false := beq_eq_false_iff_ne.mpr c8
        have c8b1 : (t116 != t114) = true := bne_iff_ne.mpr c8
        obtain rfl := Option.some.inj H
        go_enter Try.func9, Try.ntmps9
        go_wp2_with (first | ((with_reducible refine gate_callee (f := 25) rfl ?_); refine goesL_ (some 11) rfl rfl Try.func25 (by kernel_rfl) rfl #[.int .u8 a0, .int .i64 (Go.bits .and .i64 a1 511)] rfl (by (try simp only [List.map_toArray, List.map_cons, List.map_nil]); first | done | rfl | (simp only [List.length_drop, List.length_take]; rfl)) ?_; (with_reducible refine (tinderboxref27_Pow.calls k a0 (Go.bits .and .i64 a1 511) t114 _ A3.out).mono ?_); rintro e w' ⟨rfl, ⟨nd, rfl⟩⟩; refine ⟨_, rfl, ?_⟩) | ((with_reducible refine gate_callee (f := 20) rfl ?_); refine goesL_ (some 14) rfl rfl Try.func20 (by kernel_rfl) rfl #[] rfl (by (try simp only [List.map_toArray, List.map_cons, List.map_nil]); first | done | rfl | (simp only [List.length_drop, List.length_take]; rfl)) ?_; (with_reducible refine (tinderboxlaw27_awake.calls k  true _ A5.out).mono ?_); rintro e w11 ⟨rfl, hb⟩; refine ⟨_, rfl, ?_⟩; have n0_ := Aside0.mk (below_step (by repeat (first | (with_reducible first | exact HB.out | apply below_alloc | apply pw_below_drewN | apply below_drew1) | exact HB.out)) hb); clear HB; have HB := n0_; clear n0_; (try clear hb); (try clear hb2); (try clear hk); (try clear hi)) | (go_at_call 26; (with_reducible refine (gf_Pow.calls k a0 (Go.bits .and .i64 a1 511) t116 _ A7.out).mono ?_); rintro e w' ⟨rfl, ⟨nd, rfl⟩⟩))
        go_ret
        exact ⟨by first | rfl | (simp [errW_none, errW_some] <;> rfl) | (simp [*, errW_none, errW_some] <;> rfl), by repeat (first | (with_reducible first | exact HB.out | apply below_alloc | apply pw_below_drewN | apply below_drew1) | exact HB.out)⟩
    · replace c6 := Bool.eq_false_iff.mpr c6
      subst c6
      have H1 : (some false) = some r := by rw [if_neg (show ¬ (false = true) by decide)] at H; exact H
      clear H
      have H := H1
      clear H1
      obtain rfl := Option.some.inj H
      go_enter Try.func9, Try.ntmps9
      go_wp2_with (first | ((with_reducible refine gate_callee (f := 25) rfl ?_); refine goesL_ (some 11) rfl rfl Try.func25 (by kernel_rfl) rfl #[.int .u8 a0, .int .i64 (Go.bits .and .i64 a1 511)] rfl (by (try simp only [List.map_toArray, List.map_cons, List.map_nil]); first | done | rfl | (simp only [List.length_drop, List.length_take]; rfl)) ?_; (with_reducible refine (tinderboxref27_Pow.calls k a0 (Go.bits .and .i64 a1 511) t114 _ A3.out).mono ?_); rintro e w' ⟨rfl, ⟨nd, rfl⟩⟩; refine ⟨_, rfl, ?_⟩) | ((with_reducible refine gate_callee (f := 20) rfl ?_); refine goesL_ (some 14) rfl rfl Try.func20 (by kernel_rfl) rfl #[] rfl (by (try simp only [List.map_toArray, List.map_cons, List.map_nil]); first | done | rfl | (simp only [List.length_drop, List.length_take]; rfl)) ?_; (with_reducible refine (tinderboxlaw27_awake.calls k  false _ A5.out).mono ?_); rintro e w12 ⟨rfl, hb⟩; refine ⟨_, rfl, ?_⟩; have n0_ := Aside0.mk (below_step (by repeat (first | (with_reducible first | exact HB.out | apply below_alloc | apply pw_below_drewN | apply below_drew1) | exact HB.out)) hb); clear HB; have HB := n0_; clear n0_; (try clear hb); (try clear hb2); (try clear hk); (try clear hi)))
      go_ret
      exact ⟨by first | rfl | (simp [errW_none, errW_some] <;> rfl) | (simp [*, errW_none, errW_some] <;> rfl), by repeat (first | (with_reducible first | exact HB.out | apply below_alloc | apply pw_below_drewN | apply below_drew1) | exact HB.out)⟩
  · rw [if_neg c4] at H
    have c4b0 : (a0 == 0) = false := beq_eq_false_iff_ne.mpr c4
    have c4b1 : (a0 != 0) = true := bne_iff_ne.mpr c4
    replace H := Option.bind_eq_some_iff.mp H
    obtain ⟨t118, A130, H⟩ := H
    replace H : (if t118 = true then ((gf_Pow.f k a0 (Go.bits .and .i64 a1 511)).bind fun t119 => (if t119 = t114 then ((gf_Pow.f k a0 (wrap64 (-(Go.bits .and .i64 a1 511)))).bind fun t120 => ((gf_Mul.f k t120 t114).bind fun t121 => (if t121 = 1 then ((gf_Root.f k (Go.bits .and .i64 a1 511)).bind fun t122 => ((tinderboxref27_Pow.f k 2 (Go.bits .and .i64 a1 511)).bind fun t123 => (some (t122 == t123)))) else (some false)))) else (some false))) else (some false)) = some r := H
    have A13 := Aside0.mk A130
    clear A130
    by_cases c14 : t118 = true
    · subst c14
      have H1 : ((gf_Pow.f k a0 (Go.bits .and .i64 a1 511)).bind fun t119 => (if t119 = t114 then ((gf_Pow.f k a0 (wrap64 (-(Go.bits .and .i64 a1 511)))).bind fun t120 => ((gf_Mul.f k t120 t114).bind fun t121 => (if t121 = 1 then ((gf_Root.f k (Go.bits .and .i64 a1 511)).bind fun t122 => ((tinderboxref27_Pow.f k 2 (Go.bits .and .i64 a1 511)).bind fun t123 => (some (t122 == t123)))) else (some false)))) else (some false))) = some r := by rw [if_pos rfl] at H; exact H
      clear H
      have H := H1
      clear H1
      replace H := Option.bind_eq_some_iff.mp H
      obtain ⟨t119, A150, H⟩ := H
      replace H : (if t119 = t114 then ((gf_Pow.f k a0 (wrap64 (-(Go.bits .and .i64 a1 511)))).bind fun t120 => ((gf_Mul.f k t120 t114).bind fun t121 => (if t121 = 1 then ((gf_Root.f k (Go.bits .and .i64 a1 511)).bind fun t122 => ((tinderboxref27_Pow.f k 2 (Go.bits .and .i64 a1 511)).bind fun t123 => (some (t122 == t123)))) else (some false)))) else (some false)) = some r := H
      have A15 := Aside0.mk A150
      clear A150
      by_cases c16 : t119 = t114
      · rw [if_pos c16] at H
        have c16b0 : (t119 == t114) = true := beq_iff_eq.mpr c16
        have c16b1 : (t119 != t114) = false := bne_eq_false_iff_eq.mpr c16
        clear c16
        replace H := Option.bind_eq_some_iff.mp H
        obtain ⟨t120, A170, H⟩ := H
        replace H : ((gf_Mul.f k t120 t114).bind fun t121 => (if t121 = 1 then ((gf_Root.f k (Go.bits .and .i64 a1 511)).bind fun t122 => ((tinderboxref27_Pow.f k 2 (Go.bits .and .i64 a1 511)).bind fun t123 => (some (t122 == t123)))) else (some false))) = some r := H
        have A17 := Aside0.mk A170
        clear A170
        replace H := Option.bind_eq_some_iff.mp H
        obtain ⟨t121, A180, H⟩ := H
        replace H : (if t121 = 1 then ((gf_Root.f k (Go.bits .and .i64 a1 511)).bind fun t122 => ((tinderboxref27_Pow.f k 2 (Go.bits .and .i64 a1 511)).bind fun t123 => (some (t122 == t123)))) else (some false)) = some r := H
        have A18 := Aside0.mk A180
        clear A180
        by_cases c19 : t121 = 1
        · rw [if_pos c19] at H
          have c19b0 : (t121 == 1) = true := beq_iff_eq.mpr c19
          have c19b1 : (t121 != 1) = false := bne_eq_false_iff_eq.mpr c19
          clear c19
          replace H := Option.bind_eq_some_iff.mp H
          obtain ⟨t122, A200, H⟩ := H
          replace H : ((tinderboxref27_Pow.f k 2 (Go.bits .and .i64 a1 511)).bind fun t123 => (some (t122 == t123))) = some r := H
          have A20 := Aside0.mk A200
          clear A200
          replace H := Option.bind_eq_some_iff.mp H
          obtain ⟨t123, A210, H⟩ := H
          replace H : (some (t122 == t123)) = some r := H
          have A21 := Aside0.mk A210
          clear A210
          obtain rfl := Option.some.inj H
          go_enter Try.func9, Try.ntmps9
          go_wp2_with (first | ((with_reducible refine gate_callee (f := 25) rfl ?_); refine goesL_ (some 11) rfl rfl Try.func25 (by kernel_rfl) rfl #[.int .u8 a0, .int .i64 (Go.bits .and .i64 a1 511)] rfl (by (try simp only [List.map_toArray, List.map_cons, List.map_nil]); first | done | rfl | (simp only [List.length_drop, List.length_take]; rfl)) ?_; (with_reducible refine (tinderboxref27_Pow.calls k a0 (Go.bits .and .i64 a1 511) t114 _ A3.out).mono ?_); rintro e w' ⟨rfl, ⟨nd, rfl⟩⟩; refine ⟨_, rfl, ?_⟩) | ((with_reducible refine gate_callee (f := 20) rfl ?_); refine goesL_ (some 29) rfl rfl Try.func20 (by kernel_rfl) rfl #[] rfl (by (try simp only [List.map_toArray, List.map_cons, List.map_nil]); first | done | rfl | (simp only [List.length_drop, List.length_take]; rfl)) ?_; (with_reducible refine (tinderboxlaw27_awake.calls k  true _ A13.out).mono ?_); rintro e w22 ⟨rfl, hb⟩; refine ⟨_, rfl, ?_⟩; have n0_ := Aside0.mk (below_step (by repeat (first | (with_reducible first | exact HB.out | apply below_alloc | apply pw_below_drewN | apply below_drew1) | exact HB.out)) hb); clear HB; have HB := n0_; clear n0_; (try clear hb); (try clear hb2); (try clear hk); (try clear hi)) | (go_at_call 26; (with_reducible refine (gf_Pow.calls k a0 (Go.bits .and .i64 a1 511) t119 _ A15.out).mono ?_); rintro e w' ⟨rfl, ⟨nd, rfl⟩⟩) | (go_at_call 26; (with_reducible refine (gf_Pow.calls k a0 (wrap64 (-(Go.bits .and .i64 a1 511))) t120 _ A17.out).mono ?_); rintro e w' ⟨rfl, ⟨nd, rfl⟩⟩) | (go_at_call 21; (with_reducible refine (gf_Mul.calls k t120 t114 t121 _ A18.out).mono ?_); rintro e w' ⟨rfl, ⟨nd, rfl⟩⟩) | (go_at_call 27; (with_reducible refine (gf_Root.calls k (Go.bits .and .i64 a1 511) t122 _ A20.out).mono ?_); rintro e w' ⟨rfl, ⟨nd, rfl⟩⟩) | (go_at_call 25; (with_reducible refine (tinderboxref27_Pow.calls k 2 (Go.bits .and .i64 a1 511) t123 _ A21.out).mono ?_); rintro e w' ⟨rfl, ⟨nd, rfl⟩⟩))
          go_ret
          exact ⟨by first | rfl | (simp [errW_none, errW_some] <;> rfl) | (simp [*, errW_none, errW_some] <;> rfl), by repeat (first | (with_reducible first | exact HB.out | apply below_alloc | apply pw_below_drewN | apply below_drew1) | exact HB.out)⟩
        · rw [if_neg c19] at H
          have c19b0 : (t121 == 1) = false := beq_eq_false_iff_ne.mpr c19
          have c19b1 : (t121 != 1) = true := bne_iff_ne.mpr c19
          obtain rfl := Option.some.inj H
          go_enter Try.func9, Try.ntmps9
          go_wp2_with (first | ((with_reducible refine gate_callee (f := 25) rfl ?_); refine goesL_ (some 11) rfl rfl Try.func25 (by kernel_rfl) rfl #[.int .u8 a0, .int .i64 (Go.bits .and .i64 a1 511)] rfl (by (try simp only [List.map_toArray, List.map_cons, List.map_nil]); first | done | rfl | (simp only [List.length_drop, List.length_take]; rfl)) ?_; (with_reducible refine (tinderboxref27_Pow.calls k a0 (Go.bits .and .i64 a1 511) t114 _ A3.out).mono ?_); rintro e w' ⟨rfl, ⟨nd, rfl⟩⟩; refine ⟨_, rfl, ?_⟩) | ((with_reducible refine gate_callee (f := 20) rfl ?_); refine goesL_ (some 29) rfl rfl Try.func20 (by kernel_rfl) rfl #[] rfl (by (try simp only [List.map_toArray, List.map_cons, List.map_nil]); first | done | rfl | (simp only [List.length_drop, List.length_take]; rfl)) ?_; (with_reducible refine (tinderboxlaw27_awake.calls k  true _ A13.out).mono ?_); rintro e w23 ⟨rfl, hb⟩; refine ⟨_, rfl, ?_⟩; have n0_ := Aside0.mk (below_step (by repeat (first | (with_reducible first | exact HB.out | apply below_alloc | apply pw_below_drewN | apply below_drew1) | exact HB.out)) hb); clear HB; have HB := n0_; clear n0_; (try clear hb); (try clear hb2); (try clear hk); (try clear hi)) | (go_at_call 26; (with_reducible refine (gf_Pow.calls k a0 (Go.bits .and .i64 a1 511) t119 _ A15.out).mono ?_); rintro e w' ⟨rfl, ⟨nd, rfl⟩⟩) | (go_at_call 26; (with_reducible refine (gf_Pow.calls k a0 (wrap64 (-(Go.bits .and .i64 a1 511))) t120 _ A17.out).mono ?_); rintro e w' ⟨rfl, ⟨nd, rfl⟩⟩) | (go_at_call 21; (with_reducible refine (gf_Mul.calls k t120 t114 t121 _ A18.out).mono ?_); rintro e w' ⟨rfl, ⟨nd, rfl⟩⟩))
          go_ret
          exact ⟨by first | rfl | (simp [errW_none, errW_some] <;> rfl) | (simp [*, errW_none, errW_some] <;> rfl), by repeat (first | (with_reducible first | exact HB.out | apply below_alloc | apply pw_below_drewN | apply below_drew1) | exact HB.out)⟩
      · rw [if_neg c16] at H
        have c16b0 : (t119 == t114) = false := beq_eq_false_iff_ne.mpr c16
        have c16b1 : (t119 != t114) = true := bne_iff_ne.mpr c16
        obtain rfl := Option.some.inj H
        go_enter Try.func9, Try.ntmps9
        go_wp2_with (first | ((with_reducible refine gate_callee (f := 25) rfl ?_); refine goesL_ (some 11) rfl rfl Try.func25 (by kernel_rfl) rfl #[.int .u8 a0, .int .i64 (Go.bits .and .i64 a1 511)] rfl (by (try simp only [List.map_toArray, List.map_cons, List.map_nil]); first | done | rfl | (simp only [List.length_drop, List.length_take]; rfl)) ?_; (with_reducible refine (tinderboxref27_Pow.calls k a0 (Go.bits .and .i64 a1 511) t114 _ A3.out).mono ?_); rintro e w' ⟨rfl, ⟨nd, rfl⟩⟩; refine ⟨_, rfl, ?_⟩) | ((with_reducible refine gate_callee (f := 20) rfl ?_); refine goesL_ (some 29) rfl rfl Try.func20 (by kernel_rfl) rfl #[] rfl (by (try simp only [List.map_toArray, List.map_cons, List.map_nil]); first | done | rfl | (simp only [List.length_drop, List.length_take]; rfl)) ?_; (with_reducible refine (tinderboxlaw27_awake.calls k  true _ A13.out).mono ?_); rintro e w24 ⟨rfl, hb⟩; refine ⟨_, rfl, ?_⟩; have n0_ := Aside0.mk (below_step (by repeat (first | (with_reducible first | exact HB.out | apply below_alloc | apply pw_below_drewN | apply below_drew1) | exact HB.out)) hb); clear HB; have HB := n0_; clear n0_; (try clear hb); (try clear hb2); (try clear hk); (try clear hi)) | (go_at_call 26; (with_reducible refine (gf_Pow.calls k a0 (Go.bits .and .i64 a1 511) t119 _ A15.out).mono ?_); rintro e w' ⟨rfl, ⟨nd, rfl⟩⟩))
        go_ret
        exact ⟨by first | rfl | (simp [errW_none, errW_some] <;> rfl) | (simp [*, errW_none, errW_some] <;> rfl), by repeat (first | (with_reducible first | exact HB.out | apply below_alloc | apply pw_below_drewN | apply below_drew1) | exact HB.out)⟩
    · replace c14 := Bool.eq_false_iff.mpr c14
      subst c14
      have H1 : (some false) = some r := by rw [if_neg (show ¬ (false = true) by decide)] at H; exact H
      clear H
      have H := H1
      clear H1
      obtain rfl := Option.some.inj H
      go_enter Try.func9, Try.ntmps9
      go_wp2_with (first | ((with_reducible refine gate_callee (f := 25) rfl ?_); refine goesL_ (some 11) rfl rfl Try.func25 (by kernel_rfl) rfl #[.int .u8 a0, .int .i64 (Go.bits .and .i64 a1 511)] rfl (by (try simp only [List.map_toArray, List.map_cons, List.map_nil]); first | done | rfl | (simp only [List.length_drop, List.length_take]; rfl)) ?_; (with_reducible refine (tinderboxref27_Pow.calls k a0 (Go.bits .and .i64 a1 511) t114 _ A3.out).mono ?_); rintro e w' ⟨rfl, ⟨nd, rfl⟩⟩; refine ⟨_, rfl, ?_⟩) | ((with_reducible refine gate_callee (f := 20) rfl ?_); refine goesL_ (some 29) rfl rfl Try.func20 (by kernel_rfl) rfl #[] rfl (by (try simp only [List.map_toArray, List.map_cons, List.map_nil]); first | done | rfl | (simp only [List.length_drop, List.length_take]; rfl)) ?_; (with_reducible refine (tinderboxlaw27_awake.calls k  false _ A13.out).mono ?_); rintro e w25 ⟨rfl, hb⟩; refine ⟨_, rfl, ?_⟩; have n0_ := Aside0.mk (below_step (by repeat (first | (with_reducible first | exact HB.out | apply below_alloc | apply pw_below_drewN | apply below_drew1) | exact HB.out)) hb); clear HB; have HB := n0_; clear n0_; (try clear hb); (try clear hb2); (try clear hk); (try clear hi)))
      go_ret
      exact ⟨by first | rfl | (simp [errW_none, errW_some] <;> rfl) | (simp [*, errW_none, errW_some] <;> rfl), by repeat (first | (with_reducible first | exact HB.out | apply below_alloc | apply pw_below_drewN | apply below_drew1) | exact HB.out)⟩

/-- THE ONE PURE STATEMENT of tinderboxlaw27_GfPow: yours. -/
def tinderboxlaw27_GfPow.Pure : Prop := ∀ (a0 : Int) (a1 : Int), (Lit.int .u8 a0).wf = true → (Lit.int .i64 a1).wf = true → ∃ k, tinderboxlaw27_GfPow.f k a0 a1 = some true
theorem tinderboxlaw27_GfPow.walk (P : tinderboxlaw27_GfPow.Pure) (a0 : Int) (a1 : Int) (w : World) (w0 : (Lit.int .u8 a0).wf = true) (w1 : (Lit.int .i64 a1).wf = true) :
    Calls Try.prog 9 #[.int .u8 a0, .int .i64 a1] w fun e w' => e = .returned (.bool true) ∧ Below w.heap.size w w' := by
  obtain ⟨k, h⟩ := P a0 a1 w0 w1
  refine (tinderboxlaw27_GfPow.calls k a0 a1 true w h).mono ?_
  rintro e w' ⟨rfl, hd⟩
  exact ⟨rfl, hd⟩

end Go.Proofs.Ytpidfledopnhpaa.XGfPow
