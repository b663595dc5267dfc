-- Written by xprint.py of this repo (the kit's print with turns of our own) out of the translation.
import Derived.Test.YtomenklhgofjaaaXMacDerivesx0
import Derived.Test.YtomenklhgofjaaaXMacDerivesx1
import Derived.Test.YtomenklhgofjaaaXMacDerivesx2
namespace Go.Proofs.Ytomenklhgofjaaa.XMacDerives
open Go.RowKit Go.Proofs.YtomenklhgofjaaaW.PrintWords Go.Proofs.YtomenklhgofjaaaW.PrintLast Go.Proofs.YtomenklhgofjaaaW.PrintMore
attribute [local go_sem] max2_int min2_int max_two min_two max_three min_three max_four min_four   -- for this text's walks alone
set_option linter.unusedVariables false
set_option linter.unusedSimpArgs false

/-! ### tinderboxlaw33_MacDerives: function 4 -/
def tinderboxlaw33_MacDerives.l0 : Nat → ByteArray → ByteArray → Int → ByteArray → ByteArray → Int → Option (Bool)
  | 0, _, _, _, _, _, _ => none
  | k + 1, x7, x8, x9, x10, x11, x12 => if x12 < 5 then (if x11.size + x8.size ≤ 9223372036854775807 then ((some (([(x12) % 256] : List Int) : List Int)).bind fun y172 => (if (x11 ++ x8).size + (strOfNums y172).size ≤ 9223372036854775807 then ((tinderboxref33_Sum.f k x7 ((x11 ++ x8) ++ (strOfNums y172))).bind fun t175 => (if x10.size + t175.size ≤ 9223372036854775807 then (tinderboxlaw33_MacDerives.l0 k x7 x8 x9 (x10 ++ t175) t175 (wrap64 (x12 + 1))) else (none))) else (none))) else (none)) else (if x9 > 0 then (if 0 ≤ x9 then (if x9 ≤ (x10.size : Int) then ((mac_Derive.f k x7 x8 x9).bind fun t176 => (if t176.toList = (x10.extract 0 (x9 : Int).toNat).toList then ((mac_Derive.f k (⟨#[107]⟩ : ByteArray) (⟨#[117]⟩ : ByteArray) 5000).bind fun t177 => (some ((t177.size : Int) == 2016))) else (some false))) else (none)) else (none)) else ((mac_Derive.f k x7 x8 x9).bind fun t178 => (if t178.toList = ([] : List UInt8) then ((mac_Derive.f k (⟨#[107]⟩ : ByteArray) (⟨#[117]⟩ : ByteArray) 5000).bind fun t179 => (some ((t179.size : Int) == 2016))) else (some false))))
def tinderboxlaw33_MacDerives.f (k : Nat) (a0 : ByteArray) (a1 : ByteArray) (a2 : Int) : Option (Bool) := (tinderboxlaw33_few.f a0).bind fun t169 => ((tinderboxlaw33_few.f a1).bind fun t170 => ((tinderboxlaw33_awake.f k).bind fun t171 => (if t171 = true then (tinderboxlaw33_MacDerives.l0 k t169 t170 (Int.tmod a2 120) (⟨#[]⟩ : ByteArray) (⟨#[]⟩ : ByteArray) 1) else (some false))))
theorem tinderboxlaw33_MacDerives.mono_l : ∀ k, (∀ y0 y1 y2 y3 y4 y5, LeO (tinderboxlaw33_MacDerives.l0 k y0 y1 y2 y3 y4 y5) (tinderboxlaw33_MacDerives.l0 (k + 1) y0 y1 y2 y3 y4 y5))
  | 0 => fun _ _ _ _ _ _ r h => by simp [tinderboxlaw33_MacDerives.l0] at h
  | k + 1 => by
    have ih0 := tinderboxlaw33_MacDerives.mono_l k
    · intro y0 y1 y2 y3 y4 y5
      unfold tinderboxlaw33_MacDerives.l0
      repeat' first
      | (with_reducible exact ih0 _ _ _ _ _ _)
      | (with_reducible exact mac_Derive.mono _ _ _ _)
      | (with_reducible exact tinderboxlaw33_awake.mono _)
      | (with_reducible exact tinderboxref33_Sum.mono _ _ _)
      | (with_reducible exact LeO.refl _)
      | (with_reducible exact LeO.none _)
      | (with_reducible refine LeO.ite ?_ ?_)
      | (with_reducible refine LeO.bind ?_ (fun _ => ?_))
      | exact ih0 _ _ _ _ _ _
      | exact mac_Derive.mono _ _ _ _
      | exact tinderboxlaw33_awake.mono _
      | exact tinderboxref33_Sum.mono _ _ _
      | exact LeO.none _
      | refine LeO.ite ?_ ?_
      | refine LeO.bind ?_ (fun _ => ?_)
theorem tinderboxlaw33_MacDerives.mono : ∀ a0 a1 a2 k, LeO (tinderboxlaw33_MacDerives.f k a0 a1 a2) (tinderboxlaw33_MacDerives.f (k + 1) a0 a1 a2) := by
  intro a0 a1 a2 k
  have ih0 := tinderboxlaw33_MacDerives.mono_l k
  unfold tinderboxlaw33_MacDerives.f
  repeat' first
      | (with_reducible exact ih0 _ _ _ _ _ _)
      | (with_reducible exact mac_Derive.mono _ _ _ _)
      | (with_reducible exact tinderboxlaw33_awake.mono _)
      | (with_reducible exact tinderboxref33_Sum.mono _ _ _)
      | (with_reducible exact LeO.refl _)
      | (with_reducible exact LeO.none _)
      | (with_reducible refine LeO.ite ?_ ?_)
      | (with_reducible refine LeO.bind ?_ (fun _ => ?_))
      | exact ih0 _ _ _ _ _ _
      | exact mac_Derive.mono _ _ _ _
      | exact tinderboxlaw33_awake.mono _
      | exact tinderboxref33_Sum.mono _ _ _
      | exact LeO.none _
      | refine LeO.ite ?_ ?_
      | refine LeO.bind ?_ (fun _ => ?_)
set_option maxHeartbeats 8000000 in
set_option maxRecDepth 100000 in
theorem tinderboxlaw33_MacDerives.calls (k : Nat) (a0 : ByteArray) (a1 : ByteArray) (a2 : Int) (r : Bool) (w : World) (h : tinderboxlaw33_MacDerives.f k a0 a1 a2 = some r) (hr_ : r = true) :
    Calls Try.prog 4 #[.string a0, .string a1, .int .i64 a2] w fun e w' => e = .returned (.bool r) ∧ Below w.heap.size w w' := by
  have HB := Aside0.mk (Below.refl w.heap.size w)
  have H : ((tinderboxlaw33_few.f a0).bind fun t169 => ((tinderboxlaw33_few.f a1).bind fun t170 => ((tinderboxlaw33_awake.f k).bind fun t171 => (if t171 = true then (tinderboxlaw33_MacDerives.l0 k t169 t170 (Int.tmod a2 120) (⟨#[]⟩ : ByteArray) (⟨#[]⟩ : ByteArray) 1) else (some false))))) = some r := h
  clear h
  replace H := Option.bind_eq_some_iff.mp H
  obtain ⟨t169, A40, H⟩ := H
  replace H : ((tinderboxlaw33_few.f a1).bind fun t170 => ((tinderboxlaw33_awake.f k).bind fun t171 => (if t171 = true then (tinderboxlaw33_MacDerives.l0 k t169 t170 (Int.tmod a2 120) (⟨#[]⟩ : ByteArray) (⟨#[]⟩ : ByteArray) 1) else (some false)))) = some r := H
  have A4 := Aside0.mk A40
  clear A40
  replace H := Option.bind_eq_some_iff.mp H
  obtain ⟨t170, A50, H⟩ := H
  replace H : ((tinderboxlaw33_awake.f k).bind fun t171 => (if t171 = true then (tinderboxlaw33_MacDerives.l0 k t169 t170 (Int.tmod a2 120) (⟨#[]⟩ : ByteArray) (⟨#[]⟩ : ByteArray) 1) else (some false))) = some r := H
  have A5 := Aside0.mk A50
  clear A50
  replace H := Option.bind_eq_some_iff.mp H
  obtain ⟨t171, A60, H⟩ := H
  replace H : (if t171 = true then (tinderboxlaw33_MacDerives.l0 k t169 t170 (Int.tmod a2 120) (⟨#[]⟩ : ByteArray) (⟨#[]⟩ : ByteArray) 1) else (some false)) = some r := H
  have A6 := Aside0.mk A60
  clear A60
  by_cases c7 : t171 = true
  · subst c7
    have H1 : (tinderboxlaw33_MacDerives.l0 k t169 t170 (Int.tmod a2 120) (⟨#[]⟩ : ByteArray) (⟨#[]⟩ : ByteArray) 1) = some r := by rw [if_pos rfl] at H; exact H
    clear H
    have H := H1
    clear H1
    have H' := Aside0.mk H
    clear H
    go_enter Try.func4, Try.ntmps4
    go_wp2_with (first | ((with_reducible refine gate_callee (f := 14) rfl ?_); refine goesL_ (some 15) rfl rfl Try.func14 (by kernel_rfl) rfl #[.string a0] rfl (by (try simp only [List.map_toArray, List.map_cons, List.map_nil]); first | done | rfl | (simp only [List.length_drop, List.length_take]; rfl)) ?_; (with_reducible refine (tinderboxlaw33_few.calls a0 t169 _ A4.out).mono ?_); rintro e w' ⟨rfl, ⟨nd, rfl⟩⟩; refine ⟨_, rfl, ?_⟩) | ((with_reducible refine gate_callee (f := 14) rfl ?_); refine goesL_ (some 17) rfl rfl Try.func14 (by kernel_rfl) rfl #[.string a1] rfl (by (try simp only [List.map_toArray, List.map_cons, List.map_nil]); first | done | rfl | (simp only [List.length_drop, List.length_take]; rfl)) ?_; (with_reducible refine (tinderboxlaw33_few.calls a1 t170 _ A5.out).mono ?_); rintro e w' ⟨rfl, ⟨nd, rfl⟩⟩; refine ⟨_, rfl, ?_⟩) | ((with_reducible refine gate_callee (f := 15) rfl ?_); refine goesL_ (some 20) rfl rfl Try.func15 (by kernel_rfl) rfl #[] rfl (by (try simp only [List.map_toArray, List.map_cons, List.map_nil]); first | done | rfl | (simp only [List.length_drop, List.length_take]; rfl)) ?_; (with_reducible refine (tinderboxlaw33_awake.calls k  true _ A6.out).mono ?_); rintro e w8 ⟨rfl, hb⟩; refine ⟨_, rfl, ?_⟩; have n0_ := Aside0.mk (below_step (by repeat (first | (with_reducible first | exact HB.out | apply below_alloc | apply pw_below_drewN | apply below_drew1) | exact HB.out)) hb); clear HB; have HB := n0_; clear n0_; (try clear hb); (try clear hb2); (try clear hk); (try clear hi)))
    go_loopg [10, 11, 12] k (fun kq v10 v11 v12 w' => ∃ (x10_1 : ByteArray) (x11_1 : ByteArray) (x12_1 : Int), v10 = .string x10_1 ∧ v11 = .string x11_1 ∧ v12 = .int .i64 x12_1 ∧ Aside0 (tinderboxlaw33_MacDerives.l0 kq t169 t170 (Int.tmod a2 120) x10_1 x11_1 x12_1 = some r) ∧ Aside0 (kq ≤ k) ∧ Aside0 (Below w.heap.size w w'))
    case atStart => exact ⟨((⟨#[]⟩ : ByteArray)), ((⟨#[]⟩ : ByteArray)), (1), (by first | rfl | (simp; done) | (simp [*]; done)), (by first | rfl | (simp; done) | (simp [*]; done)), (by first | rfl | (simp; done) | (simp [*]; done)), H', ⟨Nat.le_refl _⟩, ⟨by repeat (first | (with_reducible first | exact HB.out | apply below_alloc | apply pw_below_drewN | apply below_drew1) | exact HB.out)⟩⟩
    case round =>
      clear H'
      try clear c1
      try clear p2
      try clear c4
      try clear c7
      obtain ⟨x10_1, x11_1, x12_1, rfl, rfl, rfl, HA, HK1, HB⟩ := hrel
      cases gk with
      | zero => exact absurd HA.out (by simp [tinderboxlaw33_MacDerives.l0])
      | succ k1 =>
        have H := HA.out
        clear HA
        simp only [tinderboxlaw33_MacDerives.l0] at H
        by_cases c9 : x12_1 < 5
        · rw [if_pos c9] at H
          have c9b0 : decide (x12_1 < 5) = true := decide_eq_true c9
          clear c9
          by_cases c10 : x11_1.size + t170.size ≤ 9223372036854775807
          · rw [if_pos c10] at H
            have c10b0 := eq_true c10
            have c10b1 : decide (x11_1.size + t170.size ≤ 9223372036854775807) = true := decide_eq_true c10
            try have c10b2 : (9223372036854775807 < x11_1.size + t170.size) = False := eq_false (Nat.not_lt.2 c10)
            obtain ⟨y172, hy172⟩ : ∃ y_ : List Int, y_ = (([(x12_1) % 256] : List Int)) := ⟨_, rfl⟩
            replace H : (if (x11_1 ++ t170).size + (strOfNums y172).size ≤ 9223372036854775807 then ((tinderboxref33_Sum.f k1 t169 ((x11_1 ++ t170) ++ (strOfNums y172))).bind fun t175 => (if x10_1.size + t175.size ≤ 9223372036854775807 then (tinderboxlaw33_MacDerives.l0 k1 t169 t170 (Int.tmod a2 120) (x10_1 ++ t175) t175 (wrap64 (x12_1 + 1))) else (none))) else (none)) = some r := by first | (rw [hy172]; with_reducible exact H) | (have H2_ := (Option.bind_some _ _).symm.trans H; rw [hy172]; with_reducible exact H2_) | (have H2_ := (Option.bind_some _ _).symm.trans H; with_reducible exact H2_) | with_reducible exact H | (rw [hy172]; exact H) | exact H
            have Ny172 := Aside0.mk hy172
            clear hy172
            by_cases c11 : (x11_1 ++ t170).size + (strOfNums y172).size ≤ 9223372036854775807
            · rw [if_pos c11] at H
              have c11b0 := eq_true c11
              have c11b1 : decide ((x11_1 ++ t170).size + (strOfNums y172).size ≤ 9223372036854775807) = true := decide_eq_true c11
              try have c11b2 : (9223372036854775807 < (x11_1 ++ t170).size + (strOfNums y172).size) = False := eq_false (Nat.not_lt.2 c11)
              replace H := Option.bind_eq_some_iff.mp H
              obtain ⟨t175, A120, H⟩ := H
              replace H : (if x10_1.size + t175.size ≤ 9223372036854775807 then (tinderboxlaw33_MacDerives.l0 k1 t169 t170 (Int.tmod a2 120) (x10_1 ++ t175) t175 (wrap64 (x12_1 + 1))) else (none)) = some r := H
              have A12 := Aside0.mk A120
              clear A120
              by_cases c13 : x10_1.size + t175.size ≤ 9223372036854775807
              · rw [if_pos c13] at H
                have c13b0 := eq_true c13
                have c13b1 : decide (x10_1.size + t175.size ≤ 9223372036854775807) = true := decide_eq_true c13
                try have c13b2 : (9223372036854775807 < x10_1.size + t175.size) = False := eq_false (Nat.not_lt.2 c13)
                have H' := Aside0.mk H
                clear H
                go_wp2_with (first | ((with_reducible refine gate_dst (N := 32) rfl ?_); (try (refine gate_guard (by rfl) ?_; dsimp only)); refine Kd.R_lit (Kd.int .u8) _ 5 ?hg (N := 32) ?hd (xs := ([(x12_1) % 256] : List Int)) (inner := [.int .u8 ((x12_1) % 256)]) (ok := fun _ => True) (okp := fun _ => True) ?hr ?hp (fun _ hk => hk) trivial (Below.refl _ _) (Nat.le_refl _) (by simp) ?_; (case hd => rfl); (case hg => rfl); (case hr => first | (go_simp; done) | (go_simp; rfl)); (case hp => exact (Reps.one (show Kd.M (Kd.int .u8) _ _ _ ((x12_1) % 256) [.int .u8 ((x12_1) % 256)] from rfl) (Reps.none _ _))); intro v173 w14 ho15 hb hg_ hnew_; clear hg_ hnew_; (first | rw [← Ny172.out] at ho15 | (simp only [Int.reduceToNat] at ho15; rw [← Ny172.out] at ho15)); have n0_ := Aside0.mk (Kd.R_lower ho15 (below_size (by repeat (first | (with_reducible first | exact HB.out | apply below_alloc | apply pw_below_drewN | apply below_drew1) | exact HB.out)))); have n1_ := Aside0.mk (below_step (by repeat (first | (with_reducible first | exact HB.out | apply below_alloc | apply pw_below_drewN | apply below_drew1) | exact HB.out)) hb); clear HB; have HO174 := n0_; have HB := n1_; clear n0_ n1_; clear hb ho15; have hcv16 := own_string (P := Try.prog) Try.underlying26 Try.underlying5 Try.underlying9 (Kd.own_of_R HO174.out)) | ((with_reducible refine gate_callee (f := 17) rfl ?_); refine goesL_ (some 35) rfl rfl Try.func17 (by kernel_rfl) rfl #[.string t169, .string ((x11_1 ++ t170) ++ (strOfNums y172))] rfl (by (try simp only [List.map_toArray, List.map_cons, List.map_nil]); first | done | rfl | (simp only [List.length_drop, List.length_take]; rfl)) ?_; (with_reducible refine (tinderboxref33_Sum.calls k1 t169 ((x11_1 ++ t170) ++ (strOfNums y172)) t175 _ A12.out).mono ?_); rintro e w17 ⟨rfl, hb⟩; refine ⟨_, rfl, ?_⟩; have n0_ := Aside0.mk (Kd.R_below (by (with_reducible repeat (first | apply Kd.R_alloc | apply Kd.R_drewN | apply Kd.R_drew)); exact HO174.out) hb); have n1_ := Aside0.mk (below_step (by repeat (first | (with_reducible first | exact HB.out | apply below_alloc | apply pw_below_drewN | apply below_drew1) | exact HB.out)) hb); clear HO174; clear HB; have HO174 := n0_; have HB := n1_; clear n0_ n1_; (try clear hb); (try clear hb2); (try clear hk); (try clear hi)))
                go_roundg k1
                case measure => have := HK1.out; omega
                case rel => exact ⟨(x10_1 ++ t175), (t175), (wrap64 (x12_1 + 1)), (by first | rfl | (simp; done) | (simp [*]; done)), (by first | rfl | (simp; done) | (simp [*]; done)), (by first | rfl | (simp; done) | (simp [*]; done)), H', ⟨by have := HK1.out; omega⟩, ⟨by repeat (first | (with_reducible first | exact HB.out | apply below_alloc | apply pw_below_drewN | apply below_drew1) | exact HB.out)⟩⟩
              · rw [if_neg c13] at H
                exact absurd H (by simp)
            · rw [if_neg c11] at H
              exact absurd H (by simp)
          · rw [if_neg c10] at H
            exact absurd H (by simp)
        · rw [if_neg c9] at H
          have c9b0 : decide (x12_1 < 5) = false := decide_eq_false c9
          clear c9
          by_cases c18 : (Int.tmod a2 120) > 0
          · rw [if_pos c18] at H
            have c18b0 : decide (0 < (Int.tmod a2 120)) = true := decide_eq_true c18
            clear c18
            obtain ⟨ji19, hji19⟩ : ∃ j_ : Int, (Int.tmod a2 120) = j_ := ⟨_, rfl⟩
            replace H : (if 0 ≤ (ji19) then (if (ji19) ≤ (x10_1.size : Int) then ((mac_Derive.f k1 t169 t170 (ji19)).bind fun t176 => (if t176.toList = (x10_1.extract 0 ((ji19) : Int).toNat).toList then ((mac_Derive.f k1 (⟨#[107]⟩ : ByteArray) (⟨#[117]⟩ : ByteArray) 5000).bind fun t177 => (some ((t177.size : Int) == 2016))) else (some false))) else (none)) else (none)) = some r := by first | (rw [hji19] at H; exact H) | (simp only [hji19] at H ⊢; exact H)
            (try rw [hji19] at c18b0)
            by_cases c20 : 0 ≤ (ji19)
            · rw [if_pos c20] at H
              have c20b0 := eq_true c20
              have c20b1 : decide (0 ≤ (ji19)) = true := decide_eq_true c20
              clear c20
              by_cases c21 : (ji19) ≤ (x10_1.size : Int)
              · rw [if_pos c21] at H
                have c21b0 := eq_true c21
                have c21b1 : decide ((ji19) ≤ (x10_1.size : Int)) = true := decide_eq_true c21
                clear c21
                replace H := Option.bind_eq_some_iff.mp H
                obtain ⟨t176, A220, H⟩ := H
                replace H : (if t176.toList = (x10_1.extract 0 ((ji19) : Int).toNat).toList then ((mac_Derive.f k1 (⟨#[107]⟩ : ByteArray) (⟨#[117]⟩ : ByteArray) 5000).bind fun t177 => (some ((t177.size : Int) == 2016))) else (some false)) = some r := H
                have A22 := Aside0.mk A220
                clear A220
                by_cases c23 : t176.toList = (x10_1.extract 0 ((ji19) : Int).toNat).toList
                · rw [if_pos c23] at H
                  have c23b0 : (t176.toList == (x10_1.extract 0 ((ji19) : Int).toNat).toList) = true := beq_iff_eq.mpr c23
                  have c23b1 : (t176.toList != (x10_1.extract 0 ((ji19) : Int).toNat).toList) = false := bne_eq_false_iff_eq.mpr c23
                  clear c23
                  replace H := Option.bind_eq_some_iff.mp H
                  obtain ⟨t177, A240, H⟩ := H
                  replace H : (some ((t177.size : Int) == 2016)) = some r := H
                  have A24 := Aside0.mk A240
                  clear A240
                  clear hr_
                  obtain rfl := Option.some.inj H
                  go_wp2_with (first | ((with_reducible refine gate_callee (f := 18) rfl ?_); refine goesL_ (some 47) rfl rfl Try.func18 (by kernel_rfl) rfl #[.string t169, .string t170, .int .i64 (ji19)] rfl (by (try simp only [List.map_toArray, List.map_cons, List.map_nil]); first | done | (simp only [hji19]; rfl) | rfl | (simp only [List.length_drop, List.length_take]; rfl)) ?_; (with_reducible refine (mac_Derive.calls k1 t169 t170 (ji19) t176 _ A22.out).mono ?_); rintro e w25 ⟨rfl, hb⟩; refine ⟨_, rfl, ?_⟩; have n0_ := Aside0.mk (below_step (by repeat (first | (with_reducible first | exact HB.out | apply below_alloc | apply pw_below_drewN | apply below_drew1) | exact HB.out)) hb); clear HB; have HB := n0_; clear n0_; (try clear hb); (try clear hb2); (try clear hk); (try clear hi)) | (go_at_call 18; (with_reducible refine (mac_Derive.calls k1 (⟨#[107]⟩ : ByteArray) (⟨#[117]⟩ : ByteArray) 5000 t177 _ A24.out).mono ?_); rintro e w26 ⟨rfl, hb⟩; have n0_ := Aside0.mk (below_step (by repeat (first | (with_reducible first | exact HB.out | apply below_alloc | apply pw_below_drewN | apply below_drew1) | exact HB.out)) hb); clear HB; have HB := n0_; clear n0_; (try clear hb); (try clear hb2); (try clear hk); (try clear hi)))
                  go_ret
                  exact ⟨by first | rfl | (simp [errW_none, errW_some] <;> rfl) | (simp only [← hji19]; first | rfl | (simp [errW_none, errW_some] <;> rfl)) | (simp [*, errW_none, errW_some] <;> rfl), by repeat (first | (with_reducible first | exact HB.out | apply below_alloc | apply pw_below_drewN | apply below_drew1) | exact HB.out)⟩
                · rw [if_neg c23] at H
                  have c23b0 : (t176.toList == (x10_1.extract 0 ((ji19) : Int).toNat).toList) = false := beq_eq_false_iff_ne.mpr c23
                  have c23b1 : (t176.toList != (x10_1.extract 0 ((ji19) : Int).toNat).toList) = true := bne_iff_ne.mpr c23
                  exact absurd ((Option.some.inj H).trans hr_) (by decide)
              · rw [if_neg c21] at H
                exact absurd H (by simp)
            · rw [if_neg c20] at H
              exact absurd H (by simp)
          · rw [if_neg c18] at H
            have c18b0 : decide (0 < (Int.tmod a2 120)) = false := decide_eq_false c18
            clear c18
            replace H := Option.bind_eq_some_iff.mp H
            obtain ⟨t178, A270, H⟩ := H
            replace H : (if t178.toList = ([] : List UInt8) then ((mac_Derive.f k1 (⟨#[107]⟩ : ByteArray) (⟨#[117]⟩ : ByteArray) 5000).bind fun t179 => (some ((t179.size : Int) == 2016))) else (some false)) = some r := H
            have A27 := Aside0.mk A270
            clear A270
            by_cases c28 : t178.toList = ([] : List UInt8)
            · rw [if_pos c28] at H
              have c28b0 : (t178.toList == ([] : List UInt8)) = true := beq_iff_eq.mpr c28
              have c28b1 : (t178.toList != ([] : List UInt8)) = false := bne_eq_false_iff_eq.mpr c28
              clear c28
              replace H := Option.bind_eq_some_iff.mp H
              obtain ⟨t179, A290, H⟩ := H
              replace H : (some ((t179.size : Int) == 2016)) = some r := H
              have A29 := Aside0.mk A290
              clear A290
              clear hr_
              obtain rfl := Option.some.inj H
              go_wp2_with (first | ((with_reducible refine gate_callee (f := 18) rfl ?_); refine goesL_ (some 47) rfl rfl Try.func18 (by kernel_rfl) rfl #[.string t169, .string t170, .int .i64 (Int.tmod a2 120)] rfl (by (try simp only [List.map_toArray, List.map_cons, List.map_nil]); first | done | rfl | (simp only [List.length_drop, List.length_take]; rfl)) ?_; (with_reducible refine (mac_Derive.calls k1 t169 t170 (Int.tmod a2 120) t178 _ A27.out).mono ?_); rintro e w30 ⟨rfl, hb⟩; refine ⟨_, rfl, ?_⟩; have n0_ := Aside0.mk (below_step (by repeat (first | (with_reducible first | exact HB.out | apply below_alloc | apply pw_below_drewN | apply below_drew1) | exact HB.out)) hb); clear HB; have HB := n0_; clear n0_; (try clear hb); (try clear hb2); (try clear hk); (try clear hi)) | (go_at_call 18; (with_reducible refine (mac_Derive.calls k1 (⟨#[107]⟩ : ByteArray) (⟨#[117]⟩ : ByteArray) 5000 t179 _ A29.out).mono ?_); rintro e w31 ⟨rfl, hb⟩; have n0_ := Aside0.mk (below_step (by repeat (first | (with_reducible first | exact HB.out | apply below_alloc | apply pw_below_drewN | apply below_drew1) | exact HB.out)) hb); clear HB; have HB := n0_; clear n0_; (try clear hb); (try clear hb2); (try clear hk); (try clear hi)))
              go_ret
              exact ⟨by first | rfl | (simp [errW_none, errW_some] <;> rfl) | (simp [*, errW_none, errW_some] <;> rfl), by repeat (first | (with_reducible first | exact HB.out | apply below_alloc | apply pw_below_drewN | apply below_drew1) | exact HB.out)⟩
            · rw [if_neg c28] at H
              have c28b0 : (t178.toList == ([] : List UInt8)) = false := beq_eq_false_iff_ne.mpr c28
              have c28b1 : (t178.toList != ([] : List UInt8)) = true := bne_iff_ne.mpr c28
              exact absurd ((Option.some.inj H).trans hr_) (by decide)
  · replace c7 := Bool.eq_false_iff.mpr c7
    subst c7
    have H1 : (some false) = some r := by rw [if_neg (show ¬ (false = true) by decide)] at H; exact H
    clear H
    have H := H1
    clear H1
    exact absurd ((Option.some.inj H).trans hr_) (by decide)

/-- THE ONE PURE STATEMENT of tinderboxlaw33_MacDerives: yours. -/
def tinderboxlaw33_MacDerives.Pure : Prop := ∀ (a0 : ByteArray) (a1 : ByteArray) (a2 : Int), a0.size ≤ 140737488351232 → a1.size ≤ 140737488351232 → (Lit.int .i64 a2).wf = true → ∃ k, tinderboxlaw33_MacDerives.f k a0 a1 a2 = some true
theorem tinderboxlaw33_MacDerives.walk (P : tinderboxlaw33_MacDerives.Pure) (a0 : ByteArray) (a1 : ByteArray) (a2 : Int) (w : World) (w0 : a0.size ≤ 140737488351232) (w1 : a1.size ≤ 140737488351232) (w2 : (Lit.int .i64 a2).wf = true) :
    Calls Try.prog 4 #[.string a0, .string a1, .int .i64 a2] w fun e w' => e = .returned (.bool true) ∧ Below w.heap.size w w' := by
  obtain ⟨k, h⟩ := P a0 a1 a2 w0 w1 w2
  refine (tinderboxlaw33_MacDerives.calls k a0 a1 a2 true w h rfl).mono ?_
  rintro e w' ⟨rfl, hd⟩
  exact ⟨rfl, hd⟩

end Go.Proofs.Ytomenklhgofjaaa.XMacDerives
