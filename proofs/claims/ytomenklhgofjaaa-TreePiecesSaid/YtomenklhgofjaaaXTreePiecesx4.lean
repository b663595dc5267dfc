-- Written by xprint.py of this repo (the kit's print with turns of our own) out of the translation.
import Derived.Test.YtomenklhgofjaaaXTreePiecesx0
import Derived.Test.YtomenklhgofjaaaXTreePiecesx3
namespace Go.Proofs.Ytomenklhgofjaaa.XTreePieces
open Go.RowKit Go.Proofs.YtomenklhgofjaaaW.PrintWords Go.Proofs.YtomenklhgofjaaaW.PrintLast Go.Proofs.YtomenklhgofjaaaW.PrintMore
attribute [local go_sem] max2_int min2_int max_two min_two max_three min_three max_four min_four   -- for this text's walks alone
set_option linter.unusedVariables false
set_option linter.unusedSimpArgs false

/-! ### tinderboxlaw37_TreePieces: function 11 -/
mutual
def tinderboxlaw37_TreePieces.j0 : Nat → Int → ByteArray → Int → Option (Bool)
  | 0, _, _, _ => none
  | k + 1, x1, x5, x6 => (tree_Pieces.f k x5 x1).bind fun t198 => (tinderboxlaw37_TreePieces.l0 k x5 x6 t198 (⟨#[]⟩ : ByteArray) 0)
def tinderboxlaw37_TreePieces.l0 : Nat → ByteArray → Int → List ByteArray → ByteArray → Int → Option (Bool)
  | 0, _, _, _, _, _ => none
  | k + 1, x5, x6, x7, x8, x9 => if x9 < (x7.length : Int) then (if 0 ≤ x9 then (if ((rdOf ByteArray.empty x7 x9).size : Int) < 1 then (some false) else (if ((rdOf ByteArray.empty x7 x9).size : Int) > x6 then (some false) else (if x9 < (wrap64 ((x7.length : Int) - 1)) then (if ((rdOf ByteArray.empty x7 x9).size : Int) = x6 then (if x8.size + (rdOf ByteArray.empty x7 x9).size ≤ 9223372036854775807 then (tinderboxlaw37_TreePieces.l0 k x5 x6 x7 (x8 ++ (rdOf ByteArray.empty x7 x9)) (wrap64 (x9 + 1))) else (none)) else (some false)) else (if x8.size + (rdOf ByteArray.empty x7 x9).size ≤ 9223372036854775807 then (tinderboxlaw37_TreePieces.l0 k x5 x6 x7 (x8 ++ (rdOf ByteArray.empty x7 x9)) (wrap64 (x9 + 1))) else (none))))) else (none)) else ((tinderboxlaw37_awake.f k).bind fun t206 => (if t206 = true then (some (x8.toList == x5.toList)) else (some false)))
end
def tinderboxlaw37_TreePieces.f (k : Nat) (a0 : ByteArray) (a1 : Int) : Option (Bool) := if 0 ≤ (mn (a0.size : Int) 200) then (if (mn (a0.size : Int) 200) ≤ (a0.size : Int) then (if a1 < 1 then (tinderboxlaw37_TreePieces.j0 k a1 (a0.extract 0 ((mn (a0.size : Int) 200) : Int).toNat) 1) else (tinderboxlaw37_TreePieces.j0 k a1 (a0.extract 0 ((mn (a0.size : Int) 200) : Int).toNat) a1)) else (none)) else (none)
theorem tinderboxlaw37_TreePieces.mono_l : ∀ k, (∀ y0 y1 y2, LeO (tinderboxlaw37_TreePieces.j0 k y0 y1 y2) (tinderboxlaw37_TreePieces.j0 (k + 1) y0 y1 y2)) ∧ (∀ y0 y1 y2 y3 y4, LeO (tinderboxlaw37_TreePieces.l0 k y0 y1 y2 y3 y4) (tinderboxlaw37_TreePieces.l0 (k + 1) y0 y1 y2 y3 y4))
  | 0 => ⟨fun _ _ _ r h => by simp [tinderboxlaw37_TreePieces.j0] at h, fun _ _ _ _ _ r h => by simp [tinderboxlaw37_TreePieces.l0] at h⟩
  | k + 1 => by
    obtain ⟨ih0, ih1⟩ := tinderboxlaw37_TreePieces.mono_l k
    refine ⟨?_, ?_⟩
    · intro y0 y1 y2
      unfold tinderboxlaw37_TreePieces.j0
      repeat' first
      | (with_reducible exact ih0 _ _ _)
      | (with_reducible exact ih1 _ _ _ _ _)
      | (with_reducible exact tinderboxlaw37_awake.mono _)
      | (with_reducible exact tree_Pieces.mono _ _ _)
      | (with_reducible exact LeO.refl _)
      | (with_reducible exact LeO.none _)
      | (with_reducible refine LeO.ite ?_ ?_)
      | (with_reducible refine LeO.bind ?_ (fun _ => ?_))
      | exact ih0 _ _ _
      | exact ih1 _ _ _ _ _
      | exact tinderboxlaw37_awake.mono _
      | exact tree_Pieces.mono _ _ _
      | exact LeO.none _
      | refine LeO.ite ?_ ?_
      | refine LeO.bind ?_ (fun _ => ?_)
    · intro y0 y1 y2 y3 y4
      unfold tinderboxlaw37_TreePieces.l0
      repeat' first
      | (with_reducible exact ih0 _ _ _)
      | (with_reducible exact ih1 _ _ _ _ _)
      | (with_reducible exact tinderboxlaw37_awake.mono _)
      | (with_reducible exact tree_Pieces.mono _ _ _)
      | (with_reducible exact LeO.refl _)
      | (with_reducible exact LeO.none _)
      | (with_reducible refine LeO.ite ?_ ?_)
      | (with_reducible refine LeO.bind ?_ (fun _ => ?_))
      | exact ih0 _ _ _
      | exact ih1 _ _ _ _ _
      | exact tinderboxlaw37_awake.mono _
      | exact tree_Pieces.mono _ _ _
      | exact LeO.none _
      | refine LeO.ite ?_ ?_
      | refine LeO.bind ?_ (fun _ => ?_)
theorem tinderboxlaw37_TreePieces.mono : ∀ a0 a1 k, LeO (tinderboxlaw37_TreePieces.f k a0 a1) (tinderboxlaw37_TreePieces.f (k + 1) a0 a1) := by
  intro a0 a1 k
  obtain ⟨ih0, ih1⟩ := tinderboxlaw37_TreePieces.mono_l k
  unfold tinderboxlaw37_TreePieces.f
  repeat' first
      | (with_reducible exact ih0 _ _ _)
      | (with_reducible exact ih1 _ _ _ _ _)
      | (with_reducible exact tinderboxlaw37_awake.mono _)
      | (with_reducible exact tree_Pieces.mono _ _ _)
      | (with_reducible exact LeO.refl _)
      | (with_reducible exact LeO.none _)
      | (with_reducible refine LeO.ite ?_ ?_)
      | (with_reducible refine LeO.bind ?_ (fun _ => ?_))
      | exact ih0 _ _ _
      | exact ih1 _ _ _ _ _
      | exact tinderboxlaw37_awake.mono _
      | exact tree_Pieces.mono _ _ _
      | exact LeO.none _
      | refine LeO.ite ?_ ?_
      | refine LeO.bind ?_ (fun _ => ?_)
set_option maxHeartbeats 8000000 in
set_option maxRecDepth 100000 in
theorem tinderboxlaw37_TreePieces.calls (k : Nat) (a0 : ByteArray) (a1 : Int) (r : Bool) (w : World) (h : tinderboxlaw37_TreePieces.f k a0 a1 = some r) (hr_ : r = true) :
    Calls Try.prog 11 #[.string a0, .int .i64 a1] w fun e w' => e = .returned (.bool r) ∧ Below w.heap.size w w' := by
  have HB := Aside0.mk (Below.refl w.heap.size w)
  have H : (if 0 ≤ (mn (a0.size : Int) 200) then (if (mn (a0.size : Int) 200) ≤ (a0.size : Int) then (if a1 < 1 then (tinderboxlaw37_TreePieces.j0 k a1 (a0.extract 0 ((mn (a0.size : Int) 200) : Int).toNat) 1) else (tinderboxlaw37_TreePieces.j0 k a1 (a0.extract 0 ((mn (a0.size : Int) 200) : Int).toNat) a1)) else (none)) else (none)) = some r := h
  clear h
  obtain ⟨ji3, hji3⟩ : ∃ j_ : Int, (mn (a0.size : Int) 200) = j_ := ⟨_, rfl⟩
  replace H : (if 0 ≤ (ji3) then (if (ji3) ≤ (a0.size : Int) then (if a1 < 1 then (tinderboxlaw37_TreePieces.j0 k a1 (a0.extract 0 ((ji3) : Int).toNat) 1) else (tinderboxlaw37_TreePieces.j0 k a1 (a0.extract 0 ((ji3) : Int).toNat) a1)) else (none)) else (none)) = some r := by first | (rw [hji3] at H; exact H) | (simp only [hji3] at H ⊢; exact H)
  (try (have hji3h : ji3 ≤ 200 := by (rw [← hji3]; unfold mn; (repeat' split) <;> omega)))
  (try (have hji3g : ji3 ≤ 64 := by omega))
  (try (have hji3l : 0 ≤ ji3 := by (rw [← hji3]; unfold mn; (repeat' split) <;> omega)))
  (try (have hji3m : 0 ≤ ji3 := by omega))
  have hji3_ : (if 200 < (a0.size : Int) then 200 else (a0.size : Int)) = ji3 := hji3
  have hji3n : (if 200 < a0.size then (200 : Int) else ((a0.size : Int) : Int)) = ji3 := by rw [← hji3_]; (first | (by_cases h_ : 200 < a0.size <;> simp [h_] <;> omega) | (by_cases h_ : 200 < a0.size <;> simp [h_]) | (split <;> split <;> omega))
  by_cases c4 : 0 ≤ (ji3)
  · rw [if_pos c4] at H
    have c4b0 := eq_true c4
    have c4b1 : decide (0 ≤ (ji3)) = true := decide_eq_true c4
    clear c4
    by_cases c5 : (ji3) ≤ (a0.size : Int)
    · rw [if_pos c5] at H
      have c5b0 := eq_true c5
      have c5b1 : decide ((ji3) ≤ (a0.size : Int)) = true := decide_eq_true c5
      clear c5
      have HC6 := Aside0.mk H
      clear H
      go_enter Try.func11, Try.ntmps11
      go_upto_if 17 with (fail)
      go_cut [6] (fun v6 wc => ∃ (kq : Nat) (x6_5 : Int), v6 = .int .i64 x6_5 ∧ Aside0 (tinderboxlaw37_TreePieces.j0 kq a1 (a0.extract 0 ((ji3) : Int).toNat) x6_5 = some r) ∧ Aside0 (kq ≤ k) ∧ Aside0 (Below w.heap.size w wc))
      case first =>
        have H := HC6.out
        clear HC6
        by_cases c7 : a1 < 1
        · rw [if_pos c7] at H
          have c7b0 : decide (a1 < 1) = true := decide_eq_true c7
          clear c7
          (first | rw [c7b0] | (simp only [i64_w, i32_w]; rw [c7b0]) | skip)
          have H' := Aside0.mk H
          clear H
          go_wp2
          go_meet
          case rel => exact ⟨_, (1), (by first | rfl | (simp; done) | (simp [*]; done)), H', ⟨by first | omega | exact Nat.le_refl _⟩, ⟨by repeat (first | (with_reducible first | exact HB.out | apply below_alloc | apply pw_below_drewN | apply below_drew1) | exact HB.out)⟩⟩
        · rw [if_neg c7] at H
          have c7b0 : decide (a1 < 1) = false := decide_eq_false c7
          clear c7
          (first | rw [c7b0] | (simp only [i64_w, i32_w]; rw [c7b0]) | skip)
          have H' := Aside0.mk H
          clear H
          go_wp2
          go_meet
          case rel => exact ⟨_, (a1), (by first | rfl | (simp; done) | (simp [*]; done)), H', ⟨by first | omega | exact Nat.le_refl _⟩, ⟨by repeat (first | (with_reducible first | exact HB.out | apply below_alloc | apply pw_below_drewN | apply below_drew1) | exact HB.out)⟩⟩
      case rest =>
        clear HC6
        try clear c1
        try clear p2
        try clear c4
        try clear c4b0
        try clear c4b1
        try clear c5
        try clear c5b0
        try clear c5b1
        try clear c7
        try clear c7b0
        obtain ⟨kq, x6_5, rfl, HA, HJ5, HB⟩ := hcut
        cases kq with
        | zero => exact absurd HA.out (by simp [tinderboxlaw37_TreePieces.j0])
        | succ kj5 =>
          have H := HA.out
          clear HA
          simp only [tinderboxlaw37_TreePieces.j0] at H
          replace H := Option.bind_eq_some_iff.mp H
          obtain ⟨t198, A80, H⟩ := H
          replace H : (tinderboxlaw37_TreePieces.l0 kj5 (a0.extract 0 ((ji3) : Int).toNat) x6_5 t198 (⟨#[]⟩ : ByteArray) 0) = some r := H
          have A8 := Aside0.mk A80
          clear A80
          have H' := Aside0.mk H
          clear H
          go_wp2_with (first | ((with_reducible refine gate_callee (f := 35) rfl ?_); refine goesL_ (some 20) rfl rfl Try.func35 (by kernel_rfl) rfl #[.string (a0.extract 0 ((ji3) : Int).toNat), .int .i64 a1] rfl (by (try simp only [List.map_toArray, List.map_cons, List.map_nil]); first | done | (simp only [hji3]; rfl) | rfl | (simp only [List.length_drop, List.length_take]; rfl)) ?_; (with_reducible refine (tree_Pieces.calls kj5 (a0.extract 0 ((ji3) : Int).toNat) a1 t198 _ A8.out).mono ?_); rintro e w9 ⟨v199, rfl, ho0, hb⟩; refine ⟨_, rfl, ?_⟩; have n0_ := Aside0.mk (Kd.R_lower ho0 (below_size (by repeat (first | (with_reducible first | exact HB.out | apply below_alloc | apply pw_below_drewN | apply below_drew1) | exact HB.out)))); have n1_ := Aside0.mk (below_step (by repeat (first | (with_reducible first | exact HB.out | apply below_alloc | apply pw_below_drewN | apply below_drew1) | exact HB.out)) hb); clear HB; have HO200 := n0_; have HB := n1_; clear n0_ n1_; (try clear hb); (try clear hb2); (try clear hk); (try clear hi); (try clear ho0)))
          go_loopg [8, 9] kj5 (fun kq v8 v9 w' => ∃ (x8_2 : ByteArray) (x9_2 : Int), v8 = .string x8_2 ∧ v9 = .int .i64 x9_2 ∧ Aside0 (tinderboxlaw37_TreePieces.l0 kq (a0.extract 0 ((ji3) : Int).toNat) x6_5 t198 x8_2 x9_2 = some r) ∧ Aside0 (kq ≤ kj5) ∧ Aside0 (Kd.R Kd.string 9 w' w.heap.size (fun _ => True) v199 t198) ∧ Aside0 (Below w.heap.size w w'))
          case atStart => exact ⟨((⟨#[]⟩ : ByteArray)), (0), (by first | rfl | (simp; done) | (simp [*]; done)), (by first | rfl | (simp; done) | (simp [*]; done)), H', ⟨Nat.le_refl _⟩, ⟨by (with_reducible repeat (first | apply Kd.R_alloc | apply Kd.R_drewN | apply Kd.R_drew)); exact HO200.out⟩, ⟨by repeat (first | (with_reducible first | exact HB.out | apply below_alloc | apply pw_below_drewN | apply below_drew1) | exact HB.out)⟩⟩
          case round =>
            clear H'
            try clear c1
            try clear p2
            try clear c3
            try clear c4
            try clear c4b0
            try clear c4b1
            try clear c5
            try clear c5b0
            try clear c5b1
            try clear c7
            try clear c7b0
            try clear p2
            obtain ⟨x8_2, x9_2, rfl, rfl, HA, HK2, HO_7, HB⟩ := hrel
            cases gk with
            | zero => exact absurd HA.out (by simp [tinderboxlaw37_TreePieces.l0])
            | succ k2 =>
              have H := HA.out
              clear HA
              simp only [tinderboxlaw37_TreePieces.l0] at H
              by_cases c10 : x9_2 < (t198.length : Int)
              · rw [if_pos c10] at H
                have c10b0 : decide (x9_2 < (t198.length : Int)) = true := decide_eq_true c10
                clear c10
                by_cases c11 : 0 ≤ x9_2
                · rw [if_pos c11] at H
                  have c11b0 : decide (0 ≤ x9_2) = true := decide_eq_true c11
                  clear c11
                  by_cases c12 : ((rdOf ByteArray.empty t198 x9_2).size : Int) < 1
                  · rw [if_pos c12] at H
                    have c12b0 : decide (((rdOf ByteArray.empty t198 x9_2).size : Int) < 1) = true := decide_eq_true c12
                    have c12b1 : decide ((rdOf ByteArray.empty t198 x9_2).size < 1) = true := decide_eq_true (by omega)
                    clear c12
                    exact absurd ((Option.some.inj H).trans hr_) (by decide)
                  · rw [if_neg c12] at H
                    have c12b0 : decide (((rdOf ByteArray.empty t198 x9_2).size : Int) < 1) = false := decide_eq_false c12
                    have c12b1 : decide ((rdOf ByteArray.empty t198 x9_2).size < 1) = false := decide_eq_false (by omega)
                    clear c12
                    by_cases c13 : ((rdOf ByteArray.empty t198 x9_2).size : Int) > x6_5
                    · rw [if_pos c13] at H
                      have c13b0 : decide (x6_5 < ((rdOf ByteArray.empty t198 x9_2).size : Int)) = true := decide_eq_true c13
                      clear c13
                      exact absurd ((Option.some.inj H).trans hr_) (by decide)
                    · rw [if_neg c13] at H
                      have c13b0 : decide (x6_5 < ((rdOf ByteArray.empty t198 x9_2).size : Int)) = false := decide_eq_false c13
                      clear c13
                      by_cases c14 : x9_2 < (wrap64 ((t198.length : Int) - 1))
                      · rw [if_pos c14] at H
                        have c14b0 : decide (x9_2 < (wrap64 ((t198.length : Int) - 1))) = true := decide_eq_true c14
                        clear c14
                        by_cases c15 : ((rdOf ByteArray.empty t198 x9_2).size : Int) = x6_5
                        · rw [if_pos c15] at H
                          have c15b0 : (((rdOf ByteArray.empty t198 x9_2).size : Int) == x6_5) = true := beq_iff_eq.mpr c15
                          have c15b1 : (((rdOf ByteArray.empty t198 x9_2).size : Int) != x6_5) = false := bne_eq_false_iff_eq.mpr c15
                          clear c15
                          by_cases c16 : x8_2.size + (rdOf ByteArray.empty t198 x9_2).size ≤ 9223372036854775807
                          · rw [if_pos c16] at H
                            have c16b0 := eq_true c16
                            have c16b1 : decide (x8_2.size + (rdOf ByteArray.empty t198 x9_2).size ≤ 9223372036854775807) = true := decide_eq_true c16
                            try have c16b2 : (9223372036854775807 < x8_2.size + (rdOf ByteArray.empty t198 x9_2).size) = False := eq_false (Nat.not_lt.2 c16)
                            have H' := Aside0.mk H
                            clear H
                            obtain ⟨Ao17, co17, eo17⟩ := Kd.R_slice HO_7.out
                            subst eo17
                            have p201 : 0 ≤ (x9_2 : Int) := of_decide_eq_true (by first | (with_reducible assumption) | assumption)
                            have q201 : x9_2 < (t198.length : Int) := of_decide_eq_true (by first | (with_reducible assumption) | assumption)
                            obtain ⟨ad201, e201, hx201_0⟩ := Kd.at_string (Kd.R_reads' HO_7.out).2.2 x9_2 p201 q201
                            cases e201
                            replace p201 := eq_true p201
                            replace q201 := eq_true q201
                            have p202 : 0 ≤ (x9_2 : Int) := of_decide_eq_true (by first | (with_reducible assumption) | assumption)
                            have q202 : x9_2 < (t198.length : Int) := of_decide_eq_true (by first | (with_reducible assumption) | assumption)
                            obtain ⟨ad202, e202, hx202_0⟩ := Kd.at_string (Kd.R_reads' HO_7.out).2.2 x9_2 p202 q202
                            obtain rfl : ad201 = ad202 := (by injection e202)
                            replace p202 := eq_true p202
                            replace q202 := eq_true q202
                            have p203 : 0 ≤ (x9_2 : Int) := of_decide_eq_true (by first | (with_reducible assumption) | assumption)
                            have q203 : x9_2 < (t198.length : Int) := of_decide_eq_true (by first | (with_reducible assumption) | assumption)
                            obtain ⟨ad203, e203, hx203_0⟩ := Kd.at_string (Kd.R_reads' HO_7.out).2.2 x9_2 p203 q203
                            obtain rfl : ad201 = ad203 := (by injection e203)
                            replace p203 := eq_true p203
                            replace q203 := eq_true q203
                            have p204 : 0 ≤ (x9_2 : Int) := of_decide_eq_true (by first | (with_reducible assumption) | assumption)
                            have q204 : x9_2 < (t198.length : Int) := of_decide_eq_true (by first | (with_reducible assumption) | assumption)
                            obtain ⟨ad204, e204, hx204_0⟩ := Kd.at_string (Kd.R_reads' HO_7.out).2.2 x9_2 p204 q204
                            obtain rfl : ad201 = ad204 := (by injection e204)
                            replace p204 := eq_true p204
                            replace q204 := eq_true q204
                            go_wp2
                            go_roundg k2
                            case measure => have := HJ5.out; have := HK2.out; omega
                            case rel => exact ⟨(x8_2 ++ (rdOf ByteArray.empty t198 x9_2)), (wrap64 (x9_2 + 1)), (by first | rfl | (simp; done) | (simp [*]; done)), (by first | rfl | (simp; done) | (simp [*]; done)), H', ⟨by have := HJ5.out; have := HK2.out; omega⟩, ⟨by (with_reducible repeat (first | apply Kd.R_alloc | apply Kd.R_drewN | apply Kd.R_drew)); exact HO_7.out⟩, ⟨by repeat (first | (with_reducible first | exact HB.out | apply below_alloc | apply pw_below_drewN | apply below_drew1) | exact HB.out)⟩⟩
                          · rw [if_neg c16] at H
                            exact absurd H (by simp)
                        · rw [if_neg c15] at H
                          have c15b0 : (((rdOf ByteArray.empty t198 x9_2).size : Int) == x6_5) = false := beq_eq_false_iff_ne.mpr c15
                          have c15b1 : (((rdOf ByteArray.empty t198 x9_2).size : Int) != x6_5) = true := bne_iff_ne.mpr c15
                          exact absurd ((Option.some.inj H).trans hr_) (by decide)
                      · rw [if_neg c14] at H
                        have c14b0 : decide (x9_2 < (wrap64 ((t198.length : Int) - 1))) = false := decide_eq_false c14
                        clear c14
                        by_cases c18 : x8_2.size + (rdOf ByteArray.empty t198 x9_2).size ≤ 9223372036854775807
                        · rw [if_pos c18] at H
                          have c18b0 := eq_true c18
                          have c18b1 : decide (x8_2.size + (rdOf ByteArray.empty t198 x9_2).size ≤ 9223372036854775807) = true := decide_eq_true c18
                          try have c18b2 : (9223372036854775807 < x8_2.size + (rdOf ByteArray.empty t198 x9_2).size) = False := eq_false (Nat.not_lt.2 c18)
                          have H' := Aside0.mk H
                          clear H
                          obtain ⟨Ao19, co19, eo19⟩ := Kd.R_slice HO_7.out
                          subst eo19
                          have p201 : 0 ≤ (x9_2 : Int) := of_decide_eq_true (by first | (with_reducible assumption) | assumption)
                          have q201 : x9_2 < (t198.length : Int) := of_decide_eq_true (by first | (with_reducible assumption) | assumption)
                          obtain ⟨ad201, e201, hx201_0⟩ := Kd.at_string (Kd.R_reads' HO_7.out).2.2 x9_2 p201 q201
                          cases e201
                          replace p201 := eq_true p201
                          replace q201 := eq_true q201
                          have p202 : 0 ≤ (x9_2 : Int) := of_decide_eq_true (by first | (with_reducible assumption) | assumption)
                          have q202 : x9_2 < (t198.length : Int) := of_decide_eq_true (by first | (with_reducible assumption) | assumption)
                          obtain ⟨ad202, e202, hx202_0⟩ := Kd.at_string (Kd.R_reads' HO_7.out).2.2 x9_2 p202 q202
                          obtain rfl : ad201 = ad202 := (by injection e202)
                          replace p202 := eq_true p202
                          replace q202 := eq_true q202
                          have p205 : 0 ≤ (x9_2 : Int) := of_decide_eq_true (by first | (with_reducible assumption) | assumption)
                          have q205 : x9_2 < (t198.length : Int) := of_decide_eq_true (by first | (with_reducible assumption) | assumption)
                          obtain ⟨ad205, e205, hx205_0⟩ := Kd.at_string (Kd.R_reads' HO_7.out).2.2 x9_2 p205 q205
                          obtain rfl : ad201 = ad205 := (by injection e205)
                          replace p205 := eq_true p205
                          replace q205 := eq_true q205
                          go_wp2
                          go_roundg k2
                          case measure => have := HJ5.out; have := HK2.out; omega
                          case rel => exact ⟨(x8_2 ++ (rdOf ByteArray.empty t198 x9_2)), (wrap64 (x9_2 + 1)), (by first | rfl | (simp; done) | (simp [*]; done)), (by first | rfl | (simp; done) | (simp [*]; done)), H', ⟨by have := HJ5.out; have := HK2.out; omega⟩, ⟨by (with_reducible repeat (first | apply Kd.R_alloc | apply Kd.R_drewN | apply Kd.R_drew)); exact HO_7.out⟩, ⟨by repeat (first | (with_reducible first | exact HB.out | apply below_alloc | apply pw_below_drewN | apply below_drew1) | exact HB.out)⟩⟩
                        · rw [if_neg c18] at H
                          exact absurd H (by simp)
                · rw [if_neg c11] at H
                  exact absurd H (by simp)
              · rw [if_neg c10] at H
                have c10b0 : decide (x9_2 < (t198.length : Int)) = false := decide_eq_false c10
                clear c10
                replace H := Option.bind_eq_some_iff.mp H
                obtain ⟨t206, A200, H⟩ := H
                replace H : (if t206 = true then (some (x8_2.toList == (a0.extract 0 ((ji3) : Int).toNat).toList)) else (some false)) = some r := H
                have A20 := Aside0.mk A200
                clear A200
                by_cases c21 : t206 = true
                · subst c21
                  have H1 : (some (x8_2.toList == (a0.extract 0 ((ji3) : Int).toNat).toList)) = some r := by rw [if_pos rfl] at H; exact H
                  clear H
                  have H := H1
                  clear H1
                  clear hr_
                  obtain rfl := Option.some.inj H
                  obtain ⟨Ao22, co22, eo22⟩ := Kd.R_slice HO_7.out
                  subst eo22
                  go_wp2_with (first | ((with_reducible refine gate_callee (f := 29) rfl ?_); refine goesL_ (some 64) rfl rfl Try.func29 (by kernel_rfl) rfl #[] rfl (by (try simp only [List.map_toArray, List.map_cons, List.map_nil]); first | done | rfl | (simp only [List.length_drop, List.length_take]; rfl)) ?_; (with_reducible refine (tinderboxlaw37_awake.calls k2  true _ A20.out).mono ?_); rintro e w23 ⟨rfl, hb⟩; refine ⟨_, rfl, ?_⟩; have n0_ := Aside0.mk (Kd.R_below (by (with_reducible repeat (first | apply Kd.R_alloc | apply Kd.R_drewN | apply Kd.R_drew)); exact HO_7.out) hb); have n1_ := Aside0.mk (below_step (by repeat (first | (with_reducible first | exact HB.out | apply below_alloc | apply pw_below_drewN | apply below_drew1) | exact HB.out)) hb); clear HO_7; clear HB; have HO_7 := n0_; have HB := n1_; clear n0_ n1_; (try clear hb); (try clear hb2); (try clear hk); (try clear hi)))
                  go_ret
                  exact ⟨by first | rfl | (simp [errW_none, errW_some] <;> rfl) | (simp only [← hji3]; first | rfl | (simp [errW_none, errW_some] <;> rfl)) | (simp [*, errW_none, errW_some] <;> rfl), by repeat (first | (with_reducible first | exact HB.out | apply below_alloc | apply pw_below_drewN | apply below_drew1) | exact HB.out)⟩
                · replace c21 := Bool.eq_false_iff.mpr c21
                  subst c21
                  have H1 : (some false) = some r := by rw [if_neg (show ¬ (false = true) by decide)] at H; exact H
                  clear H
                  have H := H1
                  clear H1
                  exact absurd ((Option.some.inj H).trans hr_) (by decide)
    · rw [if_neg c5] at H
      exact absurd H (by simp)
  · rw [if_neg c4] at H
    exact absurd H (by simp)

/-- THE ONE PURE STATEMENT of tinderboxlaw37_TreePieces: yours. -/
def tinderboxlaw37_TreePieces.Pure : Prop := ∀ (a0 : ByteArray) (a1 : Int), a0.size ≤ 140737488351232 → (Lit.int .i64 a1).wf = true → ∃ k, tinderboxlaw37_TreePieces.f k a0 a1 = some true
theorem tinderboxlaw37_TreePieces.walk (P : tinderboxlaw37_TreePieces.Pure) (a0 : ByteArray) (a1 : Int) (w : World) (w0 : a0.size ≤ 140737488351232) (w1 : (Lit.int .i64 a1).wf = true) :
    Calls Try.prog 11 #[.string a0, .int .i64 a1] w fun e w' => e = .returned (.bool true) ∧ Below w.heap.size w w' := by
  obtain ⟨k, h⟩ := P a0 a1 w0 w1
  refine (tinderboxlaw37_TreePieces.calls k a0 a1 true w h rfl).mono ?_
  rintro e w' ⟨rfl, hd⟩
  exact ⟨rfl, hd⟩

end Go.Proofs.Ytomenklhgofjaaa.XTreePieces
