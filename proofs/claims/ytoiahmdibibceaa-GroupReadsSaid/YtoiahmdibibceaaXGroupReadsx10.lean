-- Written by xprint.py of this repo (the kit's print with turns of our own) out of the translation.
import Derived.Test.YtoiahmdibibceaaXGroupReadsx0
import Derived.Test.YtoiahmdibibceaaXGroupReadsx1
import Derived.Test.YtoiahmdibibceaaXGroupReadsx9
namespace Go.Proofs.Ytoiahmdibibceaa.XGroupReads
open Go.RowKit Go.Proofs.YtoiahmdibibceaaW.PrintWords Go.Proofs.YtoiahmdibibceaaW.PrintLast Go.Proofs.YtoiahmdibibceaaW.PrintMore
attribute [local go_sem] max2_int min2_int max_two min_two max_three min_three max_four min_four   -- for this text's walks alone
set_option linter.unusedVariables false
set_option linter.unusedSimpArgs false

attribute [local go_sem high] eqA58
/-! ### group_Pack: function 72 -/
def group_Pack.l0 : Nat → Int → List ByteArray → List (S58) → Int → Int → Option (List ByteArray)
  | 0, _, _, _, _, _ => none
  | k + 1, x1, x5, x11, x12, x13 => if x13 < x12 then (if 0 ≤ x13 then (if x13 < (x11.length : Int) then ((rec_Put.f k ((rd_T58 x11 x13).f0) ((rd_T58 x11 x13).f1) ((rd_T58 x11 x13).f2) ((rd_T58 x11 x13).f3) ((rd_T58 x11 x13).f4) ((rd_T58 x11 x13).f5)).bind fun t247 => (if 0 ≤ (wrap64 ((x5.length : Int) - 1)) then (if (wrap64 ((x5.length : Int) - 1)) < (x5.length : Int) then (if (wrap64 (((rdOf ByteArray.empty x5 (wrap64 ((x5.length : Int) - 1))).size : Int) + (t247.size : Int))) ≤ x1 then (if (rdOf ByteArray.empty x5 (wrap64 ((x5.length : Int) - 1))).size + t247.size ≤ 9223372036854775807 then (group_Pack.l0 k x1 (x5.set ((wrap64 ((x5.length : Int) - 1)) : Int).toNat ((rdOf ByteArray.empty x5 (wrap64 ((x5.length : Int) - 1))) ++ t247)) x11 x12 (wrap64 (x13 + 1))) else (none)) else (if x5.length < 8796093022208 then (group_Pack.l0 k x1 (x5 ++ [t247]) x11 x12 (wrap64 (x13 + 1))) else (none))) else (none)) else (none))) else (none)) else (none)) else (some x5)
def group_Pack.f (k : Nat) (l0 : List (S58)) (a1 : Int) : Option (List ByteArray) := group_Pack.l0 k a1 (([(⟨#[]⟩ : ByteArray)] : List ByteArray)) l0 (l0.length : Int) 0
theorem group_Pack.mono_l : ∀ k, (∀ y0 y1 y2 y3 y4, LeO (group_Pack.l0 k y0 y1 y2 y3 y4) (group_Pack.l0 (k + 1) y0 y1 y2 y3 y4))
  | 0 => fun _ _ _ _ _ r h => by simp [group_Pack.l0] at h
  | k + 1 => by
    have ih0 := group_Pack.mono_l k
    · intro y0 y1 y2 y3 y4
      unfold group_Pack.l0
      repeat' first
      | (with_reducible exact ih0 _ _ _ _ _)
      | (with_reducible exact rec_Put.mono _ _ _ _ _ _ _)
      | (with_reducible exact LeO.refl _)
      | (with_reducible exact LeO.none _)
      | (with_reducible refine LeO.ite ?_ ?_)
      | (with_reducible refine LeO.bind ?_ (fun _ => ?_))
      | exact ih0 _ _ _ _ _
      | exact rec_Put.mono _ _ _ _ _ _ _
      | exact LeO.none _
      | refine LeO.ite ?_ ?_
      | refine LeO.bind ?_ (fun _ => ?_)
theorem group_Pack.mono : ∀ a0 a1 k, LeO (group_Pack.f k a0 a1) (group_Pack.f (k + 1) a0 a1) := by
  intro a0 a1 k
  have ih0 := group_Pack.mono_l k
  unfold group_Pack.f
  repeat' first
      | (with_reducible exact ih0 _ _ _ _ _)
      | (with_reducible exact rec_Put.mono _ _ _ _ _ _ _)
      | (with_reducible exact LeO.refl _)
      | (with_reducible exact LeO.none _)
      | (with_reducible refine LeO.ite ?_ ?_)
      | (with_reducible refine LeO.bind ?_ (fun _ => ?_))
      | exact ih0 _ _ _ _ _
      | exact rec_Put.mono _ _ _ _ _ _ _
      | exact LeO.none _
      | refine LeO.ite ?_ ?_
      | refine LeO.bind ?_ (fun _ => ?_)
set_option maxHeartbeats 8000000 in
set_option maxRecDepth 100000 in
theorem group_Pack.calls (k : Nat) (A0 : Option Addr) (c0 : Nat) (l0 : List (S58)) (a1 : Int) (r : List ByteArray) (w : World) (hr0 : Kd.C k58 w A0 l0.length l0) (hc0 : l0.length ≤ c0) (h : group_Pack.f k l0 a1 = some r) :
    Calls Try.prog 72 #[.slice A0 l0.length c0, .int .i64 a1] w fun e w' => ∃ v0_ : Value, e = .returned (v0_) ∧ Kd.R Kd.string 9 w' w.heap.size (fun _ => True) v0_ r ∧ Below w.heap.size w w' := by
  have hu58 := Try.underlying58
  have HR0 := Aside0.mk hr0
  have HC0 := Aside0.mk hc0
  clear hr0 hc0
  have HB := Aside0.mk (Below.refl w.heap.size w)
  have H : (group_Pack.l0 k a1 (([(⟨#[]⟩ : ByteArray)] : List ByteArray)) l0 (l0.length : Int) 0) = some r := h
  clear h
  obtain ⟨y242, hy242⟩ : ∃ y_ : List ByteArray, y_ = (([(⟨#[]⟩ : ByteArray)] : List ByteArray)) := ⟨_, rfl⟩
  replace H : (group_Pack.l0 k a1 y242 l0 (l0.length : Int) 0) = some r := by first | (rw [hy242]; with_reducible exact H) | (have H2_ := (Option.bind_some _ _).symm.trans H; rw [hy242]; with_reducible exact H2_) | (have H2_ := (Option.bind_some _ _).symm.trans H; with_reducible exact H2_) | with_reducible exact H | (rw [hy242]; exact H) | exact H
  have Ny242 := Aside0.mk hy242
  clear hy242
  have H' := Aside0.mk H
  clear H
  go_enter Try.func72, Try.ntmps72
  go_wp2_with (first | ((with_reducible refine gate_dst (N := 10) rfl ?_); refine Kd.R_lit Kd.string _ 9 ?hg (N := 10) ?hd (xs := ([(⟨#[]⟩ : ByteArray)] : List ByteArray)) (inner := [.string (⟨#[]⟩ : ByteArray)]) (ok := fun _ => True) (okp := fun _ => True) ?hr ?hp (fun _ hk => hk) trivial (Below.refl _ _) (Nat.le_refl _) (by simp) ?_; (case hd => rfl); (case hg => rfl); (case hr => first | (go_simp; done) | (go_simp; rfl)); (case hp => exact (Reps.one (show Kd.M Kd.string _ _ _ (⟨#[]⟩ : ByteArray) [.string (⟨#[]⟩ : ByteArray)] from rfl) (Reps.none _ _))); intro v243 w3 ho4 hb hg_ hnew_; clear hg_ hnew_; (first | rw [← Ny242.out] at ho4 | (simp only [Int.reduceToNat] at ho4; rw [← Ny242.out] at ho4)); have n0_ := Aside0.mk (Kd.R_lower ho4 (below_size (by repeat (first | (with_reducible first | exact HB.out | apply below_alloc | apply pw_below_drewN | apply below_drew1) | exact HB.out)))); have n1_ := Aside0.mk (below_step (by repeat (first | (with_reducible first | exact HB.out | apply below_alloc | apply pw_below_drewN | apply below_drew1) | exact HB.out)) hb); clear HB; have HO244 := n0_; have HB := n1_; clear n0_ n1_; clear hb ho4))
  go_loopg [5, 13] k (fun kq v5 v13 w' => ∃ (x5_1 : List ByteArray) (x13_1 : Int), v13 = .int .i64 x13_1 ∧ Aside0 (group_Pack.l0 kq a1 x5_1 l0 (l0.length : Int) x13_1 = some r) ∧ Aside0 (kq ≤ k) ∧ Aside0 (Kd.R Kd.string 9 w' w.heap.size (fun _ => True) v5 x5_1) ∧ Aside0 (Below w.heap.size w w'))
  case atStart => exact ⟨(y242), (0), (by first | rfl | (simp; done) | (simp [*]; done)), H', ⟨Nat.le_refl _⟩, ⟨by (with_reducible repeat (first | apply Kd.R_alloc | apply Kd.R_drewN | apply Kd.R_drew)); exact HO244.out⟩, ⟨by repeat (first | (with_reducible first | exact HB.out | apply below_alloc | apply pw_below_drewN | apply below_drew1) | exact HB.out)⟩⟩
  case round =>
    clear H'
    try clear p2
    obtain ⟨x5_1, x13_1, rfl, HA, HK1, HO_5, HB⟩ := hrel
    cases gk with
    | zero => exact absurd HA.out (by simp [group_Pack.l0])
    | succ k1 =>
      have H := HA.out
      clear HA
      simp only [group_Pack.l0] at H
      by_cases c5 : x13_1 < (l0.length : Int)
      · rw [if_pos c5] at H
        have c5b0 : decide (x13_1 < (l0.length : Int)) = true := decide_eq_true c5
        clear c5
        by_cases c6 : 0 ≤ x13_1
        · rw [if_pos c6] at H
          have c6b0 : decide (0 ≤ x13_1) = true := decide_eq_true c6
          clear c6
          by_cases c7 : x13_1 < (l0.length : Int)
          · rw [if_pos c7] at H
            have c7b0 : decide (x13_1 < (l0.length : Int)) = true := decide_eq_true c7
            clear c7
            replace H := Option.bind_eq_some_iff.mp H
            obtain ⟨t247, A80, H⟩ := H
            replace H : (if 0 ≤ (wrap64 ((x5_1.length : Int) - 1)) then (if (wrap64 ((x5_1.length : Int) - 1)) < (x5_1.length : Int) then (if (wrap64 (((rdOf ByteArray.empty x5_1 (wrap64 ((x5_1.length : Int) - 1))).size : Int) + (t247.size : Int))) ≤ a1 then (if (rdOf ByteArray.empty x5_1 (wrap64 ((x5_1.length : Int) - 1))).size + t247.size ≤ 9223372036854775807 then (group_Pack.l0 k1 a1 (x5_1.set ((wrap64 ((x5_1.length : Int) - 1)) : Int).toNat ((rdOf ByteArray.empty x5_1 (wrap64 ((x5_1.length : Int) - 1))) ++ t247)) l0 (l0.length : Int) (wrap64 (x13_1 + 1))) else (none)) else (if x5_1.length < 8796093022208 then (group_Pack.l0 k1 a1 (x5_1 ++ [t247]) l0 (l0.length : Int) (wrap64 (x13_1 + 1))) else (none))) else (none)) else (none)) = some r := H
            have A8 := Aside0.mk A80
            clear A80
            obtain ⟨ji9, hji9⟩ : ∃ j_ : Int, (wrap64 ((x5_1.length : Int) - 1)) = j_ := ⟨_, rfl⟩
            replace H : (if 0 ≤ (ji9) then (if (ji9) < (x5_1.length : Int) then (if (wrap64 (((rdOf ByteArray.empty x5_1 (ji9)).size : Int) + (t247.size : Int))) ≤ a1 then (if (rdOf ByteArray.empty x5_1 (ji9)).size + t247.size ≤ 9223372036854775807 then (group_Pack.l0 k1 a1 (x5_1.set ((ji9) : Int).toNat ((rdOf ByteArray.empty x5_1 (ji9)) ++ t247)) l0 (l0.length : Int) (wrap64 (x13_1 + 1))) else (none)) else (if x5_1.length < 8796093022208 then (group_Pack.l0 k1 a1 (x5_1 ++ [t247]) l0 (l0.length : Int) (wrap64 (x13_1 + 1))) else (none))) else (none)) else (none)) = some r := by first | (rw [hji9] at H; exact H) | (simp only [hji9] at H ⊢; exact H)
            (try rw [hji9] at A8)
            have hji9w : (IntKind.i64.wrap ((x5_1.length : Int) - 1)) = ji9 := (i64_w _).trans hji9
            by_cases c10 : 0 ≤ (ji9)
            · rw [if_pos c10] at H
              have c10b0 : decide (0 ≤ (ji9)) = true := decide_eq_true c10
              clear c10
              by_cases c11 : (ji9) < (x5_1.length : Int)
              · rw [if_pos c11] at H
                have c11b0 : decide ((ji9) < (x5_1.length : Int)) = true := decide_eq_true c11
                clear c11
                by_cases c12 : (wrap64 (((rdOf ByteArray.empty x5_1 (ji9)).size : Int) + (t247.size : Int))) ≤ a1
                · rw [if_pos c12] at H
                  have c12b0 : decide ((wrap64 (((rdOf ByteArray.empty x5_1 (ji9)).size : Int) + (t247.size : Int))) ≤ a1) = true := decide_eq_true c12
                  clear c12
                  by_cases c13 : (rdOf ByteArray.empty x5_1 (ji9)).size + t247.size ≤ 9223372036854775807
                  · rw [if_pos c13] at H
                    have c13b0 := eq_true c13
                    have c13b1 : decide ((rdOf ByteArray.empty x5_1 (ji9)).size + t247.size ≤ 9223372036854775807) = true := decide_eq_true c13
                    try have c13b2 : (9223372036854775807 < (rdOf ByteArray.empty x5_1 (ji9)).size + t247.size) = False := eq_false (Nat.not_lt.2 c13)
                    try have c12b5 : decide (((rdOf ByteArray.empty x5_1 (ji9)).size : Int) + (t247.size : Int) ≤ a1) = true := by have t_ := c12b0; rw [show wrap64 (((rdOf ByteArray.empty x5_1 (ji9)).size : Int) + (t247.size : Int)) = ((rdOf ByteArray.empty x5_1 (ji9)).size : Int) + (t247.size : Int) from by unfold wrap64; omega] at t_; exact t_
                    obtain ⟨y250, hy250⟩ : ∃ y_ : List ByteArray, y_ = (x5_1.set ((ji9) : Int).toNat ((rdOf ByteArray.empty x5_1 (ji9)) ++ t247)) := ⟨_, rfl⟩
                    replace H : (group_Pack.l0 k1 a1 y250 l0 (l0.length : Int) (wrap64 (x13_1 + 1))) = some r := by first | (rw [hy250]; with_reducible exact H) | (have H2_ := (Option.bind_some _ _).symm.trans H; rw [hy250]; with_reducible exact H2_) | (have H2_ := (Option.bind_some _ _).symm.trans H; with_reducible exact H2_) | with_reducible exact H | (rw [hy250]; exact H) | exact H
                    have Ny250 := Aside0.mk hy250
                    clear hy250
                    have H' := Aside0.mk H
                    clear H
                    have p245 : 0 ≤ (x13_1 : Int) := of_decide_eq_true (by first | (with_reducible assumption) | assumption)
                    have q245 : x13_1 < (l0.length : Int) := of_decide_eq_true (by first | (with_reducible assumption) | assumption)
                    obtain ⟨ad245, e245, hx245_0, hx245_1, hx245_2, hx245_3, hx245_4, hx245_5⟩ := at_T58 HR0.out x13_1 p245 q245
                    cases e245
                    replace hx245_0 := (HB.out.cell (World.block_lt_of_cell? w _ hx245_0)).trans hx245_0
                    replace hx245_1 := (HB.out.cell (World.block_lt_of_cell? w _ hx245_1)).trans hx245_1
                    replace hx245_2 := (HB.out.cell (World.block_lt_of_cell? w _ hx245_2)).trans hx245_2
                    replace hx245_3 := (HB.out.cell (World.block_lt_of_cell? w _ hx245_3)).trans hx245_3
                    replace hx245_4 := (HB.out.cell (World.block_lt_of_cell? w _ hx245_4)).trans hx245_4
                    replace hx245_5 := (HB.out.cell (World.block_lt_of_cell? w _ hx245_5)).trans hx245_5
                    replace p245 := eq_true p245
                    replace q245 := eq_true q245
                    go_wp2_with (first | ((with_reducible refine gate_dst (N := 7) rfl ?_); refine box_event ?hg (N := 7) ?hd (cs := #[.int .i64 0, .int .i64 0, .int .i64 0, .int .i64 0, .int .i64 0, .int .i64 0]) (t := 58) ?hr ?_; (case hd => rfl); (case hg => rfl); (case hr => first | (go_simp; done) | (go_simp; rfl)); intro gb246 hg w15 hbox hb; have n0_ := Aside0.mk (Kd.R_below (by (with_reducible repeat (first | apply Kd.R_alloc | apply Kd.R_drewN | apply Kd.R_drew)); exact HO_5.out) hb); have n1_ := Aside0.mk (below_step (by repeat (first | (with_reducible first | exact HB.out | apply below_alloc | apply pw_below_drewN | apply below_drew1) | exact HB.out)) hb); have n2_ := Aside0.mk (hbox); have n3_ := Aside0.mk ((by rw [hg]; exact (below_size (by repeat (first | (with_reducible first | exact HB.out | apply below_alloc | apply pw_below_drewN | apply below_drew1) | exact HB.out))) : w.heap.size ≤ gb246)); have n4_ := Aside0.mk ((by rw [hg]; exact (below_size (by repeat (first | (with_reducible first | exact HB.out | apply below_alloc | apply pw_below_drewN | apply below_drew1) | exact HB.out))) : w.heap.size ≤ gb246)); clear HO_5; clear HB; have HO_5 := n0_; have HB := n1_; have BK246 := n2_; have GW246 := n3_; have GE246 := n4_; clear n0_ n1_ n2_ n3_ n4_; clear hb hbox hg; have hcz16_0 : w15.cell? ⟨gb246, 0, none⟩ = some (.int .i64 0) := (blk_cell BK246.out 0).trans rfl; have hcz16_1 : w15.cell? ⟨gb246, 1, none⟩ = some (.int .i64 0) := (blk_cell BK246.out 1).trans rfl; have hcz16_2 : w15.cell? ⟨gb246, 2, none⟩ = some (.int .i64 0) := (blk_cell BK246.out 2).trans rfl; have hcz16_3 : w15.cell? ⟨gb246, 3, none⟩ = some (.int .i64 0) := (blk_cell BK246.out 3).trans rfl; have hcz16_4 : w15.cell? ⟨gb246, 4, none⟩ = some (.int .i64 0) := (blk_cell BK246.out 4).trans rfl; have hcz16_5 : w15.cell? ⟨gb246, 5, none⟩ = some (.int .i64 0) := (blk_cell BK246.out 5).trans rfl; have hfz16_0 := blk_frozen BK246.out 0; have hfz16_1 := blk_frozen BK246.out 1; have hfz16_2 := blk_frozen BK246.out 2; have hfz16_3 := blk_frozen BK246.out 3; have hfz16_4 := blk_frozen BK246.out 4; have hfz16_5 := blk_frozen BK246.out 5) | ((with_reducible refine gate_callee (f := 43) rfl ?_); refine goesL_ (some 18) rfl rfl Try.func43 (by kernel_rfl) rfl #[.agg #[.int .i64 ((rd_T58 l0 x13_1).f0), .int .i64 ((rd_T58 l0 x13_1).f1), .int .i64 ((rd_T58 l0 x13_1).f2), .int .i64 ((rd_T58 l0 x13_1).f3), .int .i64 ((rd_T58 l0 x13_1).f4), .int .i64 ((rd_T58 l0 x13_1).f5)]] rfl (by (try simp only [List.map_toArray, List.map_cons, List.map_nil]); first | done | rfl | (simp only [List.length_drop, List.length_take]; rfl)) ?_; (with_reducible refine (rec_Put.calls k1 ((rd_T58 l0 x13_1).f0) ((rd_T58 l0 x13_1).f1) ((rd_T58 l0 x13_1).f2) ((rd_T58 l0 x13_1).f3) ((rd_T58 l0 x13_1).f4) ((rd_T58 l0 x13_1).f5) t247 _ A8.out).mono ?_); rintro e w17 ⟨rfl, hb⟩; refine ⟨_, rfl, ?_⟩; have n0_ := Aside0.mk (Kd.R_below (by (with_reducible repeat (first | apply Kd.R_alloc | apply Kd.R_drewN | apply Kd.R_drew)); exact (Kd.R_mono (Kd.R_far (p := ⟨gb246, 5, none⟩) (Kd.R_far (p := ⟨gb246, 4, none⟩) (Kd.R_far (p := ⟨gb246, 3, none⟩) (Kd.R_far (p := ⟨gb246, 2, none⟩) (Kd.R_far (p := ⟨gb246, 1, none⟩) (Kd.R_far (p := ⟨gb246, 0, none⟩) (Kd.R_types HO_5.out BK246.out (by decide)) (fun _ hk => hk.2) (.int .i64 ((rd_T58 l0 x13_1).f0))) (fun _ hk => hk.2) (.int .i64 ((rd_T58 l0 x13_1).f1))) (fun _ hk => hk.2) (.int .i64 ((rd_T58 l0 x13_1).f2))) (fun _ hk => hk.2) (.int .i64 ((rd_T58 l0 x13_1).f3))) (fun _ hk => hk.2) (.int .i64 ((rd_T58 l0 x13_1).f4))) (fun _ hk => hk.2) (.int .i64 ((rd_T58 l0 x13_1).f5))) (fun _ h_ => h_.1))) hb); have n1_ := Aside0.mk (blk_below (g := gb246) (o := .cells #[.int .i64 ((rd_T58 l0 x13_1).f0), .int .i64 ((rd_T58 l0 x13_1).f1), .int .i64 ((rd_T58 l0 x13_1).f2), .int .i64 ((rd_T58 l0 x13_1).f3), .int .i64 ((rd_T58 l0 x13_1).f4), .int .i64 ((rd_T58 l0 x13_1).f5)] 58 (0, 0)) (by (with_reducible repeat (first | refine blk_drewN ?_ _ | refine blk_drew ?_ | refine blk_alloc ?_ _)); refine blk_put (cs := #[.int .i64 ((rd_T58 l0 x13_1).f0), .int .i64 ((rd_T58 l0 x13_1).f1), .int .i64 ((rd_T58 l0 x13_1).f2), .int .i64 ((rd_T58 l0 x13_1).f3), .int .i64 ((rd_T58 l0 x13_1).f4), .int .i64 0]) ?_ 5 _ rfl; (with_reducible repeat (first | refine blk_drewN ?_ _ | refine blk_drew ?_ | refine blk_alloc ?_ _)); refine blk_put (cs := #[.int .i64 ((rd_T58 l0 x13_1).f0), .int .i64 ((rd_T58 l0 x13_1).f1), .int .i64 ((rd_T58 l0 x13_1).f2), .int .i64 ((rd_T58 l0 x13_1).f3), .int .i64 0, .int .i64 0]) ?_ 4 _ rfl; (with_reducible repeat (first | refine blk_drewN ?_ _ | refine blk_drew ?_ | refine blk_alloc ?_ _)); refine blk_put (cs := #[.int .i64 ((rd_T58 l0 x13_1).f0), .int .i64 ((rd_T58 l0 x13_1).f1), .int .i64 ((rd_T58 l0 x13_1).f2), .int .i64 0, .int .i64 0, .int .i64 0]) ?_ 3 _ rfl; (with_reducible repeat (first | refine blk_drewN ?_ _ | refine blk_drew ?_ | refine blk_alloc ?_ _)); refine blk_put (cs := #[.int .i64 ((rd_T58 l0 x13_1).f0), .int .i64 ((rd_T58 l0 x13_1).f1), .int .i64 0, .int .i64 0, .int .i64 0, .int .i64 0]) ?_ 2 _ rfl; (with_reducible repeat (first | refine blk_drewN ?_ _ | refine blk_drew ?_ | refine blk_alloc ?_ _)); refine blk_put (cs := #[.int .i64 ((rd_T58 l0 x13_1).f0), .int .i64 0, .int .i64 0, .int .i64 0, .int .i64 0, .int .i64 0]) ?_ 1 _ rfl; (with_reducible repeat (first | refine blk_drewN ?_ _ | refine blk_drew ?_ | refine blk_alloc ?_ _)); refine blk_put (cs := #[.int .i64 0, .int .i64 0, .int .i64 0, .int .i64 0, .int .i64 0, .int .i64 0]) ?_ 0 _ rfl; (with_reducible repeat (first | refine blk_drewN ?_ _ | refine blk_drew ?_ | refine blk_alloc ?_ _)); exact BK246.out) hb); have n2_ := Aside0.mk (below_step (by repeat (first | (with_reducible first | exact HB.out | apply below_alloc | apply pw_below_drewN | apply below_drew1 | refine below_set ?_ GE246.out) | exact HB.out)) hb); clear HO_5; clear BK246; clear HB; have HO_5 := n0_; have BK246 := n1_; have HB := n2_; clear n0_ n1_ n2_; (try clear hb); (try clear hb2); (try clear hk); (try clear hi); obtain ⟨Ao18, co18, eo18⟩ := Kd.R_slice HO_5.out; subst eo18; have p248 : 0 ≤ ((ji9) : Int) := of_decide_eq_true (by first | (with_reducible assumption) | assumption); have q248 : (ji9) < (x5_1.length : Int) := of_decide_eq_true (by first | (with_reducible assumption) | assumption); obtain ⟨ad248, e248, hx248_0⟩ := Kd.at_string (Kd.R_reads' HO_5.out).2.2 (ji9) p248 q248; cases e248; replace p248 := eq_true p248; replace q248 := eq_true q248; have p249 : 0 ≤ ((ji9) : Int) := of_decide_eq_true (by first | (with_reducible assumption) | assumption); have q249 : (ji9) < (x5_1.length : Int) := of_decide_eq_true (by first | (with_reducible assumption) | assumption); obtain ⟨ad249, e249, hx249_0⟩ := Kd.at_string (Kd.R_reads' HO_5.out).2.2 (ji9) p249 q249; obtain rfl : ad248 = ad249 := (by injection e249); replace p249 := eq_true p249; replace q249 := eq_true q249; have p14 : 0 ≤ ((ji9) : Int) := of_decide_eq_true (by first | (with_reducible assumption) | assumption); have q14 : ((ji9) : Int) < ((x5_1.length : Int) : Int) := of_decide_eq_true (by first | (with_reducible assumption) | assumption); obtain ⟨go14, co14, eo14, gb14, gl14, cl14, HG14⟩ := Kd.R_form HO_5.out (by omega); (first | cases eo14 | (injection eo14 with ea_ en_ ec_; (first | subst ea_ | (injection ea_ with ea_; subst ea_)); subst ec_; clear en_)); have GB14 := Aside0.mk gb14; have GG14 := Aside0.mk HG14; clear gb14 gl14 HG14; (first | simp only [add_plain] at hx248_0 | skip); (first | simp only [add_plain] at hx249_0 | skip); obtain ⟨hx14_0, hf14_0⟩ := Kd.R_celln (⟨#[]⟩ : ByteArray) HO_5.out ((ji9) : Int) p14 q14; replace p14 := eq_true p14; replace q14 := eq_true q14; obtain ⟨hy19_, hz19_⟩ := Kd.R_celln (⟨#[]⟩ : ByteArray) HO_5.out ((ji9) : Int) (of_decide_eq_true (by first | (with_reducible assumption) | assumption)) (of_decide_eq_true (by first | (with_reducible assumption) | assumption)); have HP19 := Kd.R_putg HO_5.out ((ji9) : Int) ((rdOf ByteArray.empty x5_1 (ji9)) ++ t247)) | ((with_reducible refine gate_store (t := 9) (p := 38) rfl ?_); refine store_event (t := 9) (p := 38) (v := ?vo_w20) (w1 := (w17.setCell ⟨go14, ((ji9) : Int).toNat, none⟩ (.string ((rdOf ByteArray.empty x5_1 (ji9)) ++ t247)))) ?hg ?ho ?hn ?hr ?_; (case ho => rfl); (case hg => rfl); (case hn => rfl); (case hr => first | (go_simp; done) | (go_simp; rfl)); intro w20 hw; have hg : w17.grownBy w20 (some go14) := (by rw [hw]; exact HP19.2); have hp_ : Kd.R Kd.string 9 w20 w.heap.size (fun _ => True) (.slice (some ⟨go14, 0, none⟩) x5_1.length co18) y250 := (by rw [hw, Ny250.out]; exact HP19.1); clear HP19; have n0_ := Aside0.mk (hp_); have n1_ := Aside0.mk (blk_grown (g := gb246) (o := .cells #[.int .i64 ((rd_T58 l0 x13_1).f0), .int .i64 ((rd_T58 l0 x13_1).f1), .int .i64 ((rd_T58 l0 x13_1).f2), .int .i64 ((rd_T58 l0 x13_1).f3), .int .i64 ((rd_T58 l0 x13_1).f4), .int .i64 ((rd_T58 l0 x13_1).f5)] 58 (0, 0)) (by (with_reducible repeat (first | refine blk_drewN ?_ _ | refine blk_drew ?_ | refine blk_alloc ?_ _)); exact BK246.out) hg (Kd.R_ne HO_5.out BK246.out (by decide))); have n2_ := Aside0.mk ((by rw [hw]; exact below_set (HB.out) GB14.out : Below w.heap.size w w20)); clear HO_5; clear BK246; clear HB; have HO_5 := n0_; have BK246 := n1_; have HB := n2_; clear n0_ n1_ n2_; clear hg hw hp_))
                    go_roundg k1
                    case measure => have := HK1.out; omega
                    case rel => exact ⟨(y250), (wrap64 (x13_1 + 1)), (by first | rfl | (simp; done) | (simp [*]; done)), H', ⟨by have := HK1.out; omega⟩, ⟨by (with_reducible repeat (first | apply Kd.R_alloc | apply Kd.R_drewN | apply Kd.R_drew)); exact HO_5.out⟩, ⟨by repeat (first | (with_reducible first | exact HB.out | apply below_alloc | apply pw_below_drewN | apply below_drew1 | refine below_set ?_ GE246.out) | exact HB.out)⟩⟩
                  · rw [if_neg c13] at H
                    exact absurd H (by simp)
                · rw [if_neg c12] at H
                  have c12b0 : decide ((wrap64 (((rdOf ByteArray.empty x5_1 (ji9)).size : Int) + (t247.size : Int))) ≤ a1) = false := decide_eq_false c12
                  clear c12
                  by_cases c21 : x5_1.length < 8796093022208
                  · rw [if_pos c21] at H
                    have LMc21 := Aside0.mk c21
                    clear c21
                    obtain ⟨y251, hy251⟩ : ∃ y_ : List ByteArray, y_ = (x5_1 ++ [t247]) := ⟨_, rfl⟩
                    replace H : (group_Pack.l0 k1 a1 y251 l0 (l0.length : Int) (wrap64 (x13_1 + 1))) = some r := by first | (rw [hy251]; with_reducible exact H) | (have H2_ := (Option.bind_some _ _).symm.trans H; rw [hy251]; with_reducible exact H2_) | (have H2_ := (Option.bind_some _ _).symm.trans H; with_reducible exact H2_) | with_reducible exact H | (rw [hy251]; exact H) | exact H
                    have Ny251 := Aside0.mk hy251
                    clear hy251
                    have H' := Aside0.mk H
                    clear H
                    have p245 : 0 ≤ (x13_1 : Int) := of_decide_eq_true (by first | (with_reducible assumption) | assumption)
                    have q245 : x13_1 < (l0.length : Int) := of_decide_eq_true (by first | (with_reducible assumption) | assumption)
                    obtain ⟨ad245, e245, hx245_0, hx245_1, hx245_2, hx245_3, hx245_4, hx245_5⟩ := at_T58 HR0.out x13_1 p245 q245
                    cases e245
                    replace hx245_0 := (HB.out.cell (World.block_lt_of_cell? w _ hx245_0)).trans hx245_0
                    replace hx245_1 := (HB.out.cell (World.block_lt_of_cell? w _ hx245_1)).trans hx245_1
                    replace hx245_2 := (HB.out.cell (World.block_lt_of_cell? w _ hx245_2)).trans hx245_2
                    replace hx245_3 := (HB.out.cell (World.block_lt_of_cell? w _ hx245_3)).trans hx245_3
                    replace hx245_4 := (HB.out.cell (World.block_lt_of_cell? w _ hx245_4)).trans hx245_4
                    replace hx245_5 := (HB.out.cell (World.block_lt_of_cell? w _ hx245_5)).trans hx245_5
                    replace p245 := eq_true p245
                    replace q245 := eq_true q245
                    go_wp2_with (first | ((with_reducible refine gate_dst (N := 7) rfl ?_); refine box_event ?hg (N := 7) ?hd (cs := #[.int .i64 0, .int .i64 0, .int .i64 0, .int .i64 0, .int .i64 0, .int .i64 0]) (t := 58) ?hr ?_; (case hd => rfl); (case hg => rfl); (case hr => first | (go_simp; done) | (go_simp; rfl)); intro gb246 hg w22 hbox hb; have n0_ := Aside0.mk (Kd.R_below (by (with_reducible repeat (first | apply Kd.R_alloc | apply Kd.R_drewN | apply Kd.R_drew)); exact HO_5.out) hb); have n1_ := Aside0.mk (below_step (by repeat (first | (with_reducible first | exact HB.out | apply below_alloc | apply pw_below_drewN | apply below_drew1) | exact HB.out)) hb); have n2_ := Aside0.mk (hbox); have n3_ := Aside0.mk ((by rw [hg]; exact (below_size (by repeat (first | (with_reducible first | exact HB.out | apply below_alloc | apply pw_below_drewN | apply below_drew1) | exact HB.out))) : w.heap.size ≤ gb246)); have n4_ := Aside0.mk ((by rw [hg]; exact (below_size (by repeat (first | (with_reducible first | exact HB.out | apply below_alloc | apply pw_below_drewN | apply below_drew1) | exact HB.out))) : w.heap.size ≤ gb246)); clear HO_5; clear HB; have HO_5 := n0_; have HB := n1_; have BK246 := n2_; have GW246 := n3_; have GE246 := n4_; clear n0_ n1_ n2_ n3_ n4_; clear hb hbox hg; have hcz23_0 : w22.cell? ⟨gb246, 0, none⟩ = some (.int .i64 0) := (blk_cell BK246.out 0).trans rfl; have hcz23_1 : w22.cell? ⟨gb246, 1, none⟩ = some (.int .i64 0) := (blk_cell BK246.out 1).trans rfl; have hcz23_2 : w22.cell? ⟨gb246, 2, none⟩ = some (.int .i64 0) := (blk_cell BK246.out 2).trans rfl; have hcz23_3 : w22.cell? ⟨gb246, 3, none⟩ = some (.int .i64 0) := (blk_cell BK246.out 3).trans rfl; have hcz23_4 : w22.cell? ⟨gb246, 4, none⟩ = some (.int .i64 0) := (blk_cell BK246.out 4).trans rfl; have hcz23_5 : w22.cell? ⟨gb246, 5, none⟩ = some (.int .i64 0) := (blk_cell BK246.out 5).trans rfl; have hfz23_0 := blk_frozen BK246.out 0; have hfz23_1 := blk_frozen BK246.out 1; have hfz23_2 := blk_frozen BK246.out 2; have hfz23_3 := blk_frozen BK246.out 3; have hfz23_4 := blk_frozen BK246.out 4; have hfz23_5 := blk_frozen BK246.out 5) | ((with_reducible refine gate_callee (f := 43) rfl ?_); refine goesL_ (some 18) rfl rfl Try.func43 (by kernel_rfl) rfl #[.agg #[.int .i64 ((rd_T58 l0 x13_1).f0), .int .i64 ((rd_T58 l0 x13_1).f1), .int .i64 ((rd_T58 l0 x13_1).f2), .int .i64 ((rd_T58 l0 x13_1).f3), .int .i64 ((rd_T58 l0 x13_1).f4), .int .i64 ((rd_T58 l0 x13_1).f5)]] rfl (by (try simp only [List.map_toArray, List.map_cons, List.map_nil]); first | done | rfl | (simp only [List.length_drop, List.length_take]; rfl)) ?_; (with_reducible refine (rec_Put.calls k1 ((rd_T58 l0 x13_1).f0) ((rd_T58 l0 x13_1).f1) ((rd_T58 l0 x13_1).f2) ((rd_T58 l0 x13_1).f3) ((rd_T58 l0 x13_1).f4) ((rd_T58 l0 x13_1).f5) t247 _ A8.out).mono ?_); rintro e w24 ⟨rfl, hb⟩; refine ⟨_, rfl, ?_⟩; have n0_ := Aside0.mk (Kd.R_below (by (with_reducible repeat (first | apply Kd.R_alloc | apply Kd.R_drewN | apply Kd.R_drew)); exact (Kd.R_mono (Kd.R_far (p := ⟨gb246, 5, none⟩) (Kd.R_far (p := ⟨gb246, 4, none⟩) (Kd.R_far (p := ⟨gb246, 3, none⟩) (Kd.R_far (p := ⟨gb246, 2, none⟩) (Kd.R_far (p := ⟨gb246, 1, none⟩) (Kd.R_far (p := ⟨gb246, 0, none⟩) (Kd.R_types HO_5.out BK246.out (by decide)) (fun _ hk => hk.2) (.int .i64 ((rd_T58 l0 x13_1).f0))) (fun _ hk => hk.2) (.int .i64 ((rd_T58 l0 x13_1).f1))) (fun _ hk => hk.2) (.int .i64 ((rd_T58 l0 x13_1).f2))) (fun _ hk => hk.2) (.int .i64 ((rd_T58 l0 x13_1).f3))) (fun _ hk => hk.2) (.int .i64 ((rd_T58 l0 x13_1).f4))) (fun _ hk => hk.2) (.int .i64 ((rd_T58 l0 x13_1).f5))) (fun _ h_ => h_.1))) hb); have n1_ := Aside0.mk (blk_below (g := gb246) (o := .cells #[.int .i64 ((rd_T58 l0 x13_1).f0), .int .i64 ((rd_T58 l0 x13_1).f1), .int .i64 ((rd_T58 l0 x13_1).f2), .int .i64 ((rd_T58 l0 x13_1).f3), .int .i64 ((rd_T58 l0 x13_1).f4), .int .i64 ((rd_T58 l0 x13_1).f5)] 58 (0, 0)) (by (with_reducible repeat (first | refine blk_drewN ?_ _ | refine blk_drew ?_ | refine blk_alloc ?_ _)); refine blk_put (cs := #[.int .i64 ((rd_T58 l0 x13_1).f0), .int .i64 ((rd_T58 l0 x13_1).f1), .int .i64 ((rd_T58 l0 x13_1).f2), .int .i64 ((rd_T58 l0 x13_1).f3), .int .i64 ((rd_T58 l0 x13_1).f4), .int .i64 0]) ?_ 5 _ rfl; (with_reducible repeat (first | refine blk_drewN ?_ _ | refine blk_drew ?_ | refine blk_alloc ?_ _)); refine blk_put (cs := #[.int .i64 ((rd_T58 l0 x13_1).f0), .int .i64 ((rd_T58 l0 x13_1).f1), .int .i64 ((rd_T58 l0 x13_1).f2), .int .i64 ((rd_T58 l0 x13_1).f3), .int .i64 0, .int .i64 0]) ?_ 4 _ rfl; (with_reducible repeat (first | refine blk_drewN ?_ _ | refine blk_drew ?_ | refine blk_alloc ?_ _)); refine blk_put (cs := #[.int .i64 ((rd_T58 l0 x13_1).f0), .int .i64 ((rd_T58 l0 x13_1).f1), .int .i64 ((rd_T58 l0 x13_1).f2), .int .i64 0, .int .i64 0, .int .i64 0]) ?_ 3 _ rfl; (with_reducible repeat (first | refine blk_drewN ?_ _ | refine blk_drew ?_ | refine blk_alloc ?_ _)); refine blk_put (cs := #[.int .i64 ((rd_T58 l0 x13_1).f0), .int .i64 ((rd_T58 l0 x13_1).f1), .int .i64 0, .int .i64 0, .int .i64 0, .int .i64 0]) ?_ 2 _ rfl; (with_reducible repeat (first | refine blk_drewN ?_ _ | refine blk_drew ?_ | refine blk_alloc ?_ _)); refine blk_put (cs := #[.int .i64 ((rd_T58 l0 x13_1).f0), .int .i64 0, .int .i64 0, .int .i64 0, .int .i64 0, .int .i64 0]) ?_ 1 _ rfl; (with_reducible repeat (first | refine blk_drewN ?_ _ | refine blk_drew ?_ | refine blk_alloc ?_ _)); refine blk_put (cs := #[.int .i64 0, .int .i64 0, .int .i64 0, .int .i64 0, .int .i64 0, .int .i64 0]) ?_ 0 _ rfl; (with_reducible repeat (first | refine blk_drewN ?_ _ | refine blk_drew ?_ | refine blk_alloc ?_ _)); exact BK246.out) hb); have n2_ := Aside0.mk (below_step (by repeat (first | (with_reducible first | exact HB.out | apply below_alloc | apply pw_below_drewN | apply below_drew1 | refine below_set ?_ GE246.out) | exact HB.out)) hb); clear HO_5; clear BK246; clear HB; have HO_5 := n0_; have BK246 := n1_; have HB := n2_; clear n0_ n1_ n2_; (try clear hb); (try clear hb2); (try clear hk); (try clear hi); obtain ⟨Ao25, co25, eo25⟩ := Kd.R_slice HO_5.out; subst eo25; have p248 : 0 ≤ ((ji9) : Int) := of_decide_eq_true (by first | (with_reducible assumption) | assumption); have q248 : (ji9) < (x5_1.length : Int) := of_decide_eq_true (by first | (with_reducible assumption) | assumption); obtain ⟨ad248, e248, hx248_0⟩ := Kd.at_string (Kd.R_reads' HO_5.out).2.2 (ji9) p248 q248; cases e248; replace p248 := eq_true p248; replace q248 := eq_true q248) | ((with_reducible refine gate_builtin (b := .append) (xs := #[.tmp 39, .tmp 41]) rfl ?_); at_builtin; refine Kd.R_append Kd.string (w0 := w) w.heap.size rfl (.tmp 39) (.tmp 41) 74 9 (.string ⟨#[]⟩) 16 rfl Try.underlying74 info9 rfl (by decide) (by omega) (.slice (some ad248) x5_1.length co25) x5_1 t247 [.string t247] (fun _ => True) (fun _ => False) rfl rfl ?aP (fun _ hk => hk.elim) ?aF ?aO ?aB ?aS ?aL ?_; (case aP => exact rfl); (case aB => exact (by repeat (first | (with_reducible first | exact HB.out | apply below_alloc | apply pw_below_drewN | apply below_drew1 | refine below_set ?_ GE246.out) | exact HB.out))); (case aF => exact (fun _ _ => trivial)); (case aO => exact (by (with_reducible repeat (first | apply Kd.R_alloc | apply Kd.R_drewN | apply Kd.R_drew)); exact HO_5.out)); (case aS => exact (below_size (by repeat (first | (with_reducible first | exact HB.out | apply below_alloc | apply pw_below_drewN | apply below_drew1 | refine below_set ?_ GE246.out) | exact HB.out)))); (case aL => have := LMc21.out; omega); intro v252 w26 ho hb hg hat; rw [← Ny251.out] at ho; have n0_ := Aside0.mk (blk_grown (g := gb246) (o := .cells #[.int .i64 ((rd_T58 l0 x13_1).f0), .int .i64 ((rd_T58 l0 x13_1).f1), .int .i64 ((rd_T58 l0 x13_1).f2), .int .i64 ((rd_T58 l0 x13_1).f3), .int .i64 ((rd_T58 l0 x13_1).f4), .int .i64 ((rd_T58 l0 x13_1).f5)] 58 (0, 0)) (by (with_reducible repeat (first | refine blk_drewN ?_ _ | refine blk_drew ?_ | refine blk_alloc ?_ _)); exact BK246.out) hg (Kd.R_ne HO_5.out BK246.out (by decide))); have n1_ := Aside0.mk (hb); have n2_ := Aside0.mk (ho); clear BK246; clear HB; clear HO_5; have BK246 := n0_; have HB := n1_; have HO253 := n2_; clear n0_ n1_ n2_; clear ho hb hg hat))
                    go_roundg k1
                    case measure => have := HK1.out; omega
                    case rel => exact ⟨(y251), (wrap64 (x13_1 + 1)), (by first | rfl | (simp; done) | (simp [*]; done)), H', ⟨by have := HK1.out; omega⟩, ⟨by (with_reducible repeat (first | apply Kd.R_alloc | apply Kd.R_drewN | apply Kd.R_drew)); exact HO253.out⟩, ⟨by repeat (first | (with_reducible first | exact HB.out | apply below_alloc | apply pw_below_drewN | apply below_drew1 | refine below_set ?_ GE246.out) | exact HB.out)⟩⟩
                  · rw [if_neg c21] at H
                    exact absurd H (by simp)
              · rw [if_neg c11] at H
                exact absurd H (by simp)
            · rw [if_neg c10] at H
              exact absurd H (by simp)
          · rw [if_neg c7] at H
            exact absurd H (by simp)
        · rw [if_neg c6] at H
          exact absurd H (by simp)
      · rw [if_neg c5] at H
        have c5b0 : decide (x13_1 < (l0.length : Int)) = false := decide_eq_false c5
        clear c5
        obtain rfl := Option.some.inj H
        go_wp2
        go_ret
        exact ⟨_, by first | rfl | (simp [errW_none, errW_some] <;> rfl) | (simp [*, errW_none, errW_some] <;> rfl), by (with_reducible repeat (first | apply Kd.R_alloc | apply Kd.R_drewN | apply Kd.R_drew)); exact HO_5.out, by repeat (first | (with_reducible first | exact HB.out | apply below_alloc | apply pw_below_drewN | apply below_drew1) | exact HB.out)⟩

/-! ### group_Pages: function 54 -/
def group_Pages.f (k : Nat) (l0 : List (S58)) (a1 : Int) : Option (Int) := (group_Pack.f k l0 a1).bind fun t254 => (some (t254.length : Int))
theorem group_Pages.mono : ∀ a0 a1 k, LeO (group_Pages.f k a0 a1) (group_Pages.f (k + 1) a0 a1) := by
  intro a0 a1 k
  unfold group_Pages.f
  repeat' first
      | (with_reducible exact group_Pack.mono _ _ _)
      | (with_reducible exact LeO.refl _)
      | (with_reducible exact LeO.none _)
      | (with_reducible refine LeO.ite ?_ ?_)
      | (with_reducible refine LeO.bind ?_ (fun _ => ?_))
      | exact group_Pack.mono _ _ _
      | exact LeO.none _
      | refine LeO.ite ?_ ?_
      | refine LeO.bind ?_ (fun _ => ?_)
set_option maxHeartbeats 8000000 in
set_option maxRecDepth 100000 in
theorem group_Pages.calls (k : Nat) (A0 : Option Addr) (c0 : Nat) (l0 : List (S58)) (a1 : Int) (r : Int) (w : World) (hr0 : Kd.C k58 w A0 l0.length l0) (hc0 : l0.length ≤ c0) (h : group_Pages.f k l0 a1 = some r) :
    Calls Try.prog 54 #[.slice A0 l0.length c0, .int .i64 a1] w fun e w' => e = .returned (.int .i64 r) ∧ Below w.heap.size w w' := by
  have HR0 := Aside0.mk hr0
  have HC0 := Aside0.mk hc0
  clear hr0 hc0
  have HB := Aside0.mk (Below.refl w.heap.size w)
  have H : ((group_Pack.f k l0 a1).bind fun t254 => (some (t254.length : Int))) = some r := h
  clear h
  replace H := Option.bind_eq_some_iff.mp H
  obtain ⟨t254, A30, H⟩ := H
  replace H : (some (t254.length : Int)) = some r := H
  have A3 := Aside0.mk A30
  clear A30
  obtain rfl := Option.some.inj H
  go_enter Try.func54, Try.ntmps54
  go_wp2_with (first | ((with_reducible refine gate_callee (f := 72) rfl ?_); refine goesL_ (some 7) rfl rfl Try.func72 (by kernel_rfl) rfl #[.slice A0 l0.length c0, .int .i64 a1] rfl (by (try simp only [List.map_toArray, List.map_cons, List.map_nil]); first | done | rfl | (simp only [List.length_drop, List.length_take]; rfl)) ?_; (with_reducible refine (group_Pack.calls k _ _ l0 a1 t254 _ ?side1 ?side2 A3.out).mono ?_); (case side1 => repeat (first | exact HR0.out | (with_reducible refine Kd.C_alloc ?_ _) | (with_reducible refine Kd.C_drewN ?_ _) | (with_reducible refine Kd.C_drew ?_))); (case side2 => exact HC0.out); rintro e w4 ⟨v255, rfl, ho0, hb⟩; refine ⟨_, rfl, ?_⟩; have n0_ := Aside0.mk (Kd.R_lower ho0 (below_size (by repeat (first | (with_reducible first | exact HB.out | apply below_alloc | apply pw_below_drewN | apply below_drew1) | exact HB.out)))); have n1_ := Aside0.mk (below_step (by repeat (first | (with_reducible first | exact HB.out | apply below_alloc | apply pw_below_drewN | apply below_drew1) | exact HB.out)) hb); clear HB; have HO256 := n0_; have HB := n1_; clear n0_ n1_; (try clear hb); (try clear hb2); (try clear hk); (try clear hi); (try clear ho0); obtain ⟨Ao5, co5, eo5⟩ := Kd.R_slice HO256.out; subst eo5))
  go_ret
  exact ⟨by first | rfl | (simp [errW_none, errW_some] <;> rfl) | (simp [*, errW_none, errW_some] <;> rfl), by repeat (first | (with_reducible first | exact HB.out | apply below_alloc | apply pw_below_drewN | apply below_drew1) | exact HB.out)⟩

/-! ### tinderboxlaw09_awake: function 52 -/
def tinderboxlaw09_awake.f (k : Nat)  : Option (Bool) := (some (([(⟨5, 3, 0, 0, 0, 0⟩ : S58), (⟨7, 2, 0, 0, 0, 0⟩ : S58)] : List (S58)) : List (S58))).bind fun y257 => ((group_Pack.f k y257 64).bind fun t260 => ((group_Unpack.f k t260).bind fun bt263 => (if (t260.length : Int) = 1 then (if bt263.2 = 0 then (if (bt263.1.length : Int) = 2 then (if 0 < (bt263.1.length : Int) then (if 0 < (y257.length : Int) then (if (((rd_T58 bt263.1 0).f0) == ((rd_T58 y257 0).f0) && (((rd_T58 bt263.1 0).f1) == ((rd_T58 y257 0).f1) && (((rd_T58 bt263.1 0).f2) == ((rd_T58 y257 0).f2) && (((rd_T58 bt263.1 0).f3) == ((rd_T58 y257 0).f3) && (((rd_T58 bt263.1 0).f4) == ((rd_T58 y257 0).f4) && (((rd_T58 bt263.1 0).f5) == ((rd_T58 y257 0).f5))))))) = true then ((group_Pages.f k y257 3).bind fun t269 => (some (t269 == 2))) else (some false)) else (none)) else (none)) else (some false)) else (some false)) else (some false))))
theorem tinderboxlaw09_awake.mono : ∀ k, LeO (tinderboxlaw09_awake.f k ) (tinderboxlaw09_awake.f (k + 1) ) := by
  intro  k
  unfold tinderboxlaw09_awake.f
  repeat' first
      | (with_reducible exact group_Pack.mono _ _ _)
      | (with_reducible exact group_Pages.mono _ _ _)
      | (with_reducible exact group_Unpack.mono _ _)
      | (with_reducible exact LeO.refl _)
      | (with_reducible exact LeO.none _)
      | (with_reducible refine LeO.ite ?_ ?_)
      | (with_reducible refine LeO.bind ?_ (fun _ => ?_))
      | exact group_Pack.mono _ _ _
      | exact group_Pages.mono _ _ _
      | exact group_Unpack.mono _ _
      | exact LeO.none _
      | refine LeO.ite ?_ ?_
      | refine LeO.bind ?_ (fun _ => ?_)
def tinderboxlaw09_awake.T4 : Bool × List (List Nat × List Nat) := (true, [([], []), ([0], [0]), ([1], [1]), ([2], [2]), ([3], [3]), ([4, 3], [3, 4]), ([3, 5], [3, 5]), ([6, 3], [6]), ([7], [7]), ([8, 7], [7, 8]), ([9, 7], [7, 9]), ([7, 10], [7, 10]), ([11, 7], [11]), ([12], [12]), ([13, 12], [12, 13]), ([14, 12], [12, 14]), ([12], [12]), ([16, 12], [12, 16]), ([17, 12], [12, 17]), ([15, 18, 12], [12, 15, 18]), ([12, 19], [12, 19]), ([20, 12], [20]), ([21], [21]), ([22, 21, 21], [21, 22]), ([23, 21], [21, 23]), ([21, 24], [21, 24]), ([25, 23, 0, 1, 2, 3, 4, 5, 6, 7, 8, 9, 10, 11, 12, 13, 14, 15, 16, 17, 18, 19, 20, 21, 22, 23, 24, 25], [25])])
def tinderboxlaw09_awake.B4 : List Nat := [0, 1, 3, 7, 15, 31, 63, 127, 255, 511, 1023, 2047, 4095, 8191, 16383, 32767, 8191, 73727, 204799, 524287, 1048575, 2097151, 4194303, 8388607, 16777215, 33554431, 67108863]
theorem tinderboxlaw09_awake.tab4 : rtab .any (opsOf Try.f52 4) = tinderboxlaw09_awake.T4 := by kernel_rfl
theorem tinderboxlaw09_awake.bits4 : waitsOk tinderboxlaw09_awake.T4.2 tinderboxlaw09_awake.B4 = true := by kernel_rfl
set_option maxRecDepth 100000 in
theorem tinderboxlaw09_awake.det (k : Nat) (r : Bool) (h : tinderboxlaw09_awake.f k = some r) : r = true := by
  have h0 : tinderboxlaw09_awake.f 60 = some true := by decide +kernel
  have up : ∀ j k r, tinderboxlaw09_awake.f k = some r → tinderboxlaw09_awake.f (k + j) = some r := by
    intro j
    induction j with
    | zero => exact fun _ _ h => h
    | succ j ih => exact fun k r h => tinderboxlaw09_awake.mono _ _ (ih k r h)
  have h1 := up 60 k r h
  have h2 := up k 60 true h0
  rw [Nat.add_comm, h1] at h2
  exact Option.some.inj h2
set_option maxHeartbeats 8000000 in
set_option maxRecDepth 100000 in
theorem tinderboxlaw09_awake.calls (k : Nat)  (r : Bool) (w : World) (h : tinderboxlaw09_awake.f k  = some r) :
    Calls Try.prog 52 #[] w fun e w' => e = .returned (.bool r) ∧ Below w.heap.size w w' := by
  have hr_ := tinderboxlaw09_awake.det k r h
  have hu58 := Try.underlying58
  have HB := Aside0.mk (Below.refl w.heap.size w)
  have H : ((some (([(⟨5, 3, 0, 0, 0, 0⟩ : S58), (⟨7, 2, 0, 0, 0, 0⟩ : S58)] : List (S58)) : List (S58))).bind fun y257 => ((group_Pack.f k y257 64).bind fun t260 => ((group_Unpack.f k t260).bind fun bt263 => (if (t260.length : Int) = 1 then (if bt263.2 = 0 then (if (bt263.1.length : Int) = 2 then (if 0 < (bt263.1.length : Int) then (if 0 < (y257.length : Int) then (if (((rd_T58 bt263.1 0).f0) == ((rd_T58 y257 0).f0) && (((rd_T58 bt263.1 0).f1) == ((rd_T58 y257 0).f1) && (((rd_T58 bt263.1 0).f2) == ((rd_T58 y257 0).f2) && (((rd_T58 bt263.1 0).f3) == ((rd_T58 y257 0).f3) && (((rd_T58 bt263.1 0).f4) == ((rd_T58 y257 0).f4) && (((rd_T58 bt263.1 0).f5) == ((rd_T58 y257 0).f5))))))) = true then ((group_Pages.f k y257 3).bind fun t269 => (some (t269 == 2))) else (some false)) else (none)) else (none)) else (some false)) else (some false)) else (some false))))) = some r := h
  clear h
  obtain ⟨y257, hy257⟩ : ∃ y_ : List (S58), y_ = (([(⟨5, 3, 0, 0, 0, 0⟩ : S58), (⟨7, 2, 0, 0, 0, 0⟩ : S58)] : List (S58))) := ⟨_, rfl⟩
  replace H : ((group_Pack.f k y257 64).bind fun t260 => ((group_Unpack.f k t260).bind fun bt263 => (if (t260.length : Int) = 1 then (if bt263.2 = 0 then (if (bt263.1.length : Int) = 2 then (if 0 < (bt263.1.length : Int) then (if 0 < (y257.length : Int) then (if (((rd_T58 bt263.1 0).f0) == ((rd_T58 y257 0).f0) && (((rd_T58 bt263.1 0).f1) == ((rd_T58 y257 0).f1) && (((rd_T58 bt263.1 0).f2) == ((rd_T58 y257 0).f2) && (((rd_T58 bt263.1 0).f3) == ((rd_T58 y257 0).f3) && (((rd_T58 bt263.1 0).f4) == ((rd_T58 y257 0).f4) && (((rd_T58 bt263.1 0).f5) == ((rd_T58 y257 0).f5))))))) = true then ((group_Pages.f k y257 3).bind fun t269 => (some (t269 == 2))) else (some false)) else (none)) else (none)) else (some false)) else (some false)) else (some false)))) = some r := by first | (rw [hy257]; with_reducible exact H) | (have H2_ := (Option.bind_some _ _).symm.trans H; rw [hy257]; with_reducible exact H2_) | (have H2_ := (Option.bind_some _ _).symm.trans H; with_reducible exact H2_) | with_reducible exact H | (rw [hy257]; exact H) | exact H
  have Ny257 := Aside0.mk hy257
  clear hy257
  replace H := Option.bind_eq_some_iff.mp H
  obtain ⟨t260, A10, H⟩ := H
  replace H : ((group_Unpack.f k t260).bind fun bt263 => (if (t260.length : Int) = 1 then (if bt263.2 = 0 then (if (bt263.1.length : Int) = 2 then (if 0 < (bt263.1.length : Int) then (if 0 < (y257.length : Int) then (if (((rd_T58 bt263.1 0).f0) == ((rd_T58 y257 0).f0) && (((rd_T58 bt263.1 0).f1) == ((rd_T58 y257 0).f1) && (((rd_T58 bt263.1 0).f2) == ((rd_T58 y257 0).f2) && (((rd_T58 bt263.1 0).f3) == ((rd_T58 y257 0).f3) && (((rd_T58 bt263.1 0).f4) == ((rd_T58 y257 0).f4) && (((rd_T58 bt263.1 0).f5) == ((rd_T58 y257 0).f5))))))) = true then ((group_Pages.f k y257 3).bind fun t269 => (some (t269 == 2))) else (some false)) else (none)) else (none)) else (some false)) else (some false)) else (some false))) = some r := H
  have A1 := Aside0.mk A10
  clear A10
  replace H := Option.bind_eq_some_iff.mp H
  obtain ⟨⟨t263, t264⟩, A20, H⟩ := H
  replace H : (if (t260.length : Int) = 1 then (if t264 = 0 then (if (t263.length : Int) = 2 then (if 0 < (t263.length : Int) then (if 0 < (y257.length : Int) then (if (((rd_T58 t263 0).f0) == ((rd_T58 y257 0).f0) && (((rd_T58 t263 0).f1) == ((rd_T58 y257 0).f1) && (((rd_T58 t263 0).f2) == ((rd_T58 y257 0).f2) && (((rd_T58 t263 0).f3) == ((rd_T58 y257 0).f3) && (((rd_T58 t263 0).f4) == ((rd_T58 y257 0).f4) && (((rd_T58 t263 0).f5) == ((rd_T58 y257 0).f5))))))) = true then ((group_Pages.f k y257 3).bind fun t269 => (some (t269 == 2))) else (some false)) else (none)) else (none)) else (some false)) else (some false)) else (some false)) = some r := H
  have A2 := Aside0.mk A20
  clear A20
  by_cases c3 : (t260.length : Int) = 1
  · rw [if_pos c3] at H
    have c3b0 : ((t260.length : Int) == 1) = true := beq_iff_eq.mpr c3
    have c3b1 : ((t260.length : Int) != 1) = false := bne_eq_false_iff_eq.mpr c3
    clear c3
    by_cases c4 : t264 = 0
    · rw [if_pos c4] at H
      have c4b0 : (t264 == 0) = true := beq_iff_eq.mpr c4
      have c4b1 : (t264 != 0) = false := bne_eq_false_iff_eq.mpr c4
      clear c4
      by_cases c5 : (t263.length : Int) = 2
      · rw [if_pos c5] at H
        have c5b0 : ((t263.length : Int) == 2) = true := beq_iff_eq.mpr c5
        have c5b1 : ((t263.length : Int) != 2) = false := bne_eq_false_iff_eq.mpr c5
        clear c5
        by_cases c6 : 0 < (t263.length : Int)
        · rw [if_pos c6] at H
          have c6b0 : decide (0 < (t263.length : Int)) = true := decide_eq_true c6
          have c6b1 : decide (0 < t263.length) = true := decide_eq_true (by omega)
          clear c6
          by_cases c7 : 0 < (y257.length : Int)
          · rw [if_pos c7] at H
            have c7b0 : decide (0 < (y257.length : Int)) = true := decide_eq_true c7
            have c7b1 : decide (0 < y257.length) = true := decide_eq_true (by omega)
            clear c7
            by_cases c8 : (((rd_T58 t263 0).f0) == ((rd_T58 y257 0).f0) && (((rd_T58 t263 0).f1) == ((rd_T58 y257 0).f1) && (((rd_T58 t263 0).f2) == ((rd_T58 y257 0).f2) && (((rd_T58 t263 0).f3) == ((rd_T58 y257 0).f3) && (((rd_T58 t263 0).f4) == ((rd_T58 y257 0).f4) && (((rd_T58 t263 0).f5) == ((rd_T58 y257 0).f5))))))) = true
            · rw [if_pos c8] at H
              have c8b0 : (((rd_T58 t263 0).f0) == ((rd_T58 y257 0).f0) && (((rd_T58 t263 0).f1) == ((rd_T58 y257 0).f1) && (((rd_T58 t263 0).f2) == ((rd_T58 y257 0).f2) && (((rd_T58 t263 0).f3) == ((rd_T58 y257 0).f3) && (((rd_T58 t263 0).f4) == ((rd_T58 y257 0).f4) && (((rd_T58 t263 0).f5) == ((rd_T58 y257 0).f5))))))) = true := c8
              (try (have c8b1 : decide (((rd_T58 t263 0).f0) = ((rd_T58 y257 0).f0) && (((rd_T58 t263 0).f1) == ((rd_T58 y257 0).f1) && (((rd_T58 t263 0).f2) == ((rd_T58 y257 0).f2) && (((rd_T58 t263 0).f3) == ((rd_T58 y257 0).f3) && (((rd_T58 t263 0).f4) == ((rd_T58 y257 0).f4) && (((rd_T58 t263 0).f5) == ((rd_T58 y257 0).f5))))))) = true := by simpa using c8))
              (try (have c8b2 : (((rd_T58 t263 0).f0) == ((rd_T58 y257 0).f0) && (((rd_T58 t263 0).f1) == ((rd_T58 y257 0).f1) && (((rd_T58 t263 0).f2) == ((rd_T58 y257 0).f2) && (((rd_T58 t263 0).f3) == ((rd_T58 y257 0).f3) && (((rd_T58 t263 0).f4) == ((rd_T58 y257 0).f4) && (((rd_T58 t263 0).f5) == ((rd_T58 y257 0).f5))))))) = true := by simpa using c8))
              clear c8
              replace H := Option.bind_eq_some_iff.mp H
              obtain ⟨t269, A90, H⟩ := H
              replace H : (some (t269 == 2)) = some r := H
              have A9 := Aside0.mk A90
              clear A90
              clear hr_
              obtain rfl := Option.some.inj H
              go_enter Try.func52, Try.ntmps52
              try go_wp2_with (first | ((with_reducible refine gate_dst (N := 7) rfl ?_); (try (refine gate_guard (by rfl) ?_; dsimp only)); refine Kd.R_lit k58 _ 58 ?hg (N := 7) ?hd (xs := ([(⟨5, 3, 0, 0, 0, 0⟩ : S58), (⟨7, 2, 0, 0, 0, 0⟩ : S58)] : List (S58))) (inner := [.int .i64 5, .int .i64 3, .int .i64 0, .int .i64 0, .int .i64 0, .int .i64 0, .int .i64 7, .int .i64 2, .int .i64 0, .int .i64 0, .int .i64 0, .int .i64 0]) (ok := fun _ => True) (okp := fun _ => True) ?hr ?hp (fun _ hk => hk) trivial (Below.refl _ _) (Nat.le_refl _) (by simp) ?_; (case hd => rfl); (case hg => rfl); (case hr => first | (go_simp; done) | (go_simp; rfl)); (case hp => exact (Reps.c6 (show Kd.M k58 _ _ _ (⟨5, 3, 0, 0, 0, 0⟩ : S58) [.int .i64 5, .int .i64 3, .int .i64 0, .int .i64 0, .int .i64 0, .int .i64 0] from (k58_mkM _ _ _ (⟨5, 3, 0, 0, 0, 0⟩ : S58) )) (Reps.c6 (show Kd.M k58 _ _ _ (⟨7, 2, 0, 0, 0, 0⟩ : S58) [.int .i64 7, .int .i64 2, .int .i64 0, .int .i64 0, .int .i64 0, .int .i64 0] from (k58_mkM _ _ _ (⟨7, 2, 0, 0, 0, 0⟩ : S58) )) (Reps.none _ _)))); intro v258 w10 ho11 hb hg_ hnew_; clear hg_ hnew_; (first | rw [← Ny257.out] at ho11 | (simp only [Int.reduceToNat] at ho11; rw [← Ny257.out] at ho11)); have n0_ := Aside0.mk (Kd.R_lower ho11 (below_size (by repeat (first | (with_reducible first | exact HB.out | apply below_alloc | apply pw_below_drewN | apply below_drew1) | exact HB.out)))); have n1_ := Aside0.mk (below_step (by repeat (first | (with_reducible first | exact HB.out | apply below_alloc | apply pw_below_drewN | apply below_drew1) | exact HB.out)) hb); clear HB; have HO259 := n0_; have HB := n1_; clear n0_ n1_; clear hb ho11; obtain ⟨Ao12, co12, eo12⟩ := Kd.R_slice HO259.out; subst eo12) | ((with_reducible refine gate_callee (f := 72) rfl ?_); refine goesL_ (some 9) rfl rfl Try.func72 (by kernel_rfl) rfl #[.slice Ao12 y257.length co12, .int .i64 64] rfl (by (try simp only [List.map_toArray, List.map_cons, List.map_nil]); first | done | rfl | (simp only [List.length_drop, List.length_take]; rfl)) ?_; (with_reducible refine (group_Pack.calls k _ _ y257 64 t260 _ ?side1 ?side2 A1.out).mono ?_); (case side1 => repeat (first | exact (Kd.R_reads' HO259.out).2.2 | (with_reducible refine Kd.C_alloc ?_ _) | (with_reducible refine Kd.C_drewN ?_ _) | (with_reducible refine Kd.C_drew ?_))); (case side2 => exact (Kd.R_reads' HO259.out).2.1); rintro e w13 ⟨v261, rfl, ho0, hb⟩; refine ⟨_, rfl, ?_⟩; have n0_ := Aside0.mk (Kd.R_below (by (with_reducible repeat (first | apply Kd.R_alloc | apply Kd.R_drewN | apply Kd.R_drew)); exact HO259.out) hb); have n1_ := Aside0.mk (Kd.R_lower ho0 (below_size (by repeat (first | (with_reducible first | exact HB.out | apply below_alloc | apply pw_below_drewN | apply below_drew1) | exact HB.out)))); have n2_ := Aside0.mk (below_step (by repeat (first | (with_reducible first | exact HB.out | apply below_alloc | apply pw_below_drewN | apply below_drew1) | exact HB.out)) hb); clear HO259; clear HB; have HO259 := n0_; have HO262 := n1_; have HB := n2_; clear n0_ n1_ n2_; (try clear hb); (try clear hb2); (try clear hk); (try clear hi); (try clear ho0); obtain ⟨Ao14, co14, eo14⟩ := Kd.R_slice HO262.out; subst eo14) | ((with_reducible refine gate_callee (f := 51) rfl ?_); refine goesL_ (some 12) rfl rfl Try.func51 (by kernel_rfl) rfl #[.slice Ao14 t260.length co14] rfl (by (try simp only [List.map_toArray, List.map_cons, List.map_nil]); first | done | rfl | (simp only [List.length_drop, List.length_take]; rfl)) ?_; (with_reducible refine (group_Unpack.calls k _ _ t260 t263 t264 _ ?side1 ?side2 A2.out).mono ?_); (case side1 => repeat (first | exact (Kd.R_reads' HO262.out).2.2 | (with_reducible refine Kd.C_alloc ?_ _) | (with_reducible refine Kd.C_drewN ?_ _) | (with_reducible refine Kd.C_drew ?_))); (case side2 => exact (Kd.R_reads' HO262.out).2.1); rintro e w15 ⟨v265, rfl, ho0, hb⟩; refine ⟨_, rfl, ?_⟩; have n0_ := Aside0.mk (Kd.R_elder' (by (with_reducible repeat (first | apply Kd.R_alloc | apply Kd.R_drewN | apply Kd.R_drew)); exact HO259.out) (Kd.R_base ho0) hb); have n1_ := Aside0.mk (Kd.R_below (by (with_reducible repeat (first | apply Kd.R_alloc | apply Kd.R_drewN | apply Kd.R_drew)); exact HO262.out) hb); have n2_ := Aside0.mk (Kd.R_lower (Kd.R_new' ho0 (Kd.R_lt (by (with_reducible repeat (first | apply Kd.R_alloc | apply Kd.R_drewN | apply Kd.R_drew)); exact HO259.out))) (below_size (by repeat (first | (with_reducible first | exact HB.out | apply below_alloc | apply pw_below_drewN | apply below_drew1) | exact HB.out)))); have n3_ := Aside0.mk (below_step (by repeat (first | (with_reducible first | exact HB.out | apply below_alloc | apply pw_below_drewN | apply below_drew1) | exact HB.out)) hb); clear HO259; clear HO262; clear HB; have HO259 := n0_; have HO262 := n1_; have HO266 := n2_; have HB := n3_; clear n0_ n1_ n2_ n3_; (try clear hb); (try clear hb2); (try clear hk); (try clear hi); (try clear ho0)))
              have n0_ := Aside0.mk (Kd.R_drew HO259.out)
              have n1_ := Aside0.mk (Kd.R_drew HO262.out)
              have n2_ := Aside0.mk (Kd.R_drew HO266.out)
              have n3_ := Aside0.mk (below_drew1 HB.out)
              clear HO259
              clear HO262
              clear HO266
              clear HB
              have HO259 := n0_
              have HO262 := n1_
              have HO266 := n2_
              have HB := n3_
              clear n0_ n1_ n2_ n3_
              obtain ⟨Ao17, co17, eo17⟩ := Kd.R_slice HO266.out
              (first | subst eo17 | (injection eo17 with f1_ f2_ f3_; have f4_ := f1_.symm; have f5_ := f3_.symm; clear f1_ f2_ f3_; subst f4_; subst f5_))
              have p267 : 0 ≤ (0 : Int) := (by omega)
              have q267 : 0 < (t263.length : Int) := of_decide_eq_true (by first | (with_reducible assumption) | assumption)
              obtain ⟨ad267, e267, hx267_0, hx267_1, hx267_2, hx267_3, hx267_4, hx267_5⟩ := at_T58 (Kd.R_reads' HO266.out).2.2 0 p267 q267
              cases e267
              have qi267 : (0 < t263.length) = True := eq_true (by omega)
              (try rw [show ((0 : Int)).toNat = 0 from rfl] at hx267_0)
              (try rw [show 0 * 6 = 0 from rfl] at hx267_0)
              (try rw [Addr.add_zero'] at hx267_0)
              (try rw [show ((0 : Int)).toNat = 0 from rfl] at hx267_1)
              (try rw [show 0 * 6 = 0 from rfl] at hx267_1)
              (try rw [Addr.add_zero'] at hx267_1)
              (try rw [show ((0 : Int)).toNat = 0 from rfl] at hx267_2)
              (try rw [show 0 * 6 = 0 from rfl] at hx267_2)
              (try rw [Addr.add_zero'] at hx267_2)
              (try rw [show ((0 : Int)).toNat = 0 from rfl] at hx267_3)
              (try rw [show 0 * 6 = 0 from rfl] at hx267_3)
              (try rw [Addr.add_zero'] at hx267_3)
              (try rw [show ((0 : Int)).toNat = 0 from rfl] at hx267_4)
              (try rw [show 0 * 6 = 0 from rfl] at hx267_4)
              (try rw [Addr.add_zero'] at hx267_4)
              (try rw [show ((0 : Int)).toNat = 0 from rfl] at hx267_5)
              (try rw [show 0 * 6 = 0 from rfl] at hx267_5)
              (try rw [Addr.add_zero'] at hx267_5)
              replace p267 := eq_true p267
              replace q267 := eq_true q267
              have p268 : 0 ≤ (0 : Int) := (by omega)
              have q268 : 0 < (y257.length : Int) := of_decide_eq_true (by first | (with_reducible assumption) | assumption)
              obtain ⟨ad268, e268, hx268_0, hx268_1, hx268_2, hx268_3, hx268_4, hx268_5⟩ := at_T58 (Kd.R_reads' HO259.out).2.2 0 p268 q268
              cases e268
              have qi268 : (0 < y257.length) = True := eq_true (by omega)
              (try rw [show ((0 : Int)).toNat = 0 from rfl] at hx268_0)
              (try rw [show 0 * 6 = 0 from rfl] at hx268_0)
              (try rw [Addr.add_zero'] at hx268_0)
              (try rw [show ((0 : Int)).toNat = 0 from rfl] at hx268_1)
              (try rw [show 0 * 6 = 0 from rfl] at hx268_1)
              (try rw [Addr.add_zero'] at hx268_1)
              (try rw [show ((0 : Int)).toNat = 0 from rfl] at hx268_2)
              (try rw [show 0 * 6 = 0 from rfl] at hx268_2)
              (try rw [Addr.add_zero'] at hx268_2)
              (try rw [show ((0 : Int)).toNat = 0 from rfl] at hx268_3)
              (try rw [show 0 * 6 = 0 from rfl] at hx268_3)
              (try rw [Addr.add_zero'] at hx268_3)
              (try rw [show ((0 : Int)).toNat = 0 from rfl] at hx268_4)
              (try rw [show 0 * 6 = 0 from rfl] at hx268_4)
              (try rw [Addr.add_zero'] at hx268_4)
              (try rw [show ((0 : Int)).toNat = 0 from rfl] at hx268_5)
              (try rw [show 0 * 6 = 0 from rfl] at hx268_5)
              (try rw [Addr.add_zero'] at hx268_5)
              replace p268 := eq_true p268
              replace q268 := eq_true q268
              refine start_ (n := 27) (S := fun w' => w'.cell? ad267 = some (.int .i64 ((rd_T58 t263 0).f0)) ∧ w'.cell? ⟨ad267.block, ad267.off + 1, none⟩ = some (.int .i64 ((rd_T58 t263 0).f1)) ∧ w'.cell? ⟨ad267.block, ad267.off + 2, none⟩ = some (.int .i64 ((rd_T58 t263 0).f2)) ∧ w'.cell? ⟨ad267.block, ad267.off + 3, none⟩ = some (.int .i64 ((rd_T58 t263 0).f3)) ∧ w'.cell? ⟨ad267.block, ad267.off + 4, none⟩ = some (.int .i64 ((rd_T58 t263 0).f4)) ∧ w'.cell? ⟨ad267.block, ad267.off + 5, none⟩ = some (.int .i64 ((rd_T58 t263 0).f5)) ∧ w'.cell? ad268 = some (.int .i64 ((rd_T58 y257 0).f0)) ∧ w'.cell? ⟨ad268.block, ad268.off + 1, none⟩ = some (.int .i64 ((rd_T58 y257 0).f1)) ∧ w'.cell? ⟨ad268.block, ad268.off + 2, none⟩ = some (.int .i64 ((rd_T58 y257 0).f2)) ∧ w'.cell? ⟨ad268.block, ad268.off + 3, none⟩ = some (.int .i64 ((rd_T58 y257 0).f3)) ∧ w'.cell? ⟨ad268.block, ad268.off + 4, none⟩ = some (.int .i64 ((rd_T58 y257 0).f4)) ∧ w'.cell? ⟨ad268.block, ad268.off + 5, none⟩ = some (.int .i64 ((rd_T58 y257 0).f5))) (ds := []) #[false, false, false, false, false, false, false, false, false, false, false, false, false, false, false, false, false, false, false, false, false, false, false, false, false, false, false] (by kernel_rfl) rfl rfl ⟨hx267_0, hx267_1, hx267_2, hx267_3, hx267_4, hx267_5, hx268_0, hx268_1, hx268_2, hx268_3, hx268_4, hx268_5⟩ (fun hHeld => ?_); refine with_tabW tinderboxlaw09_awake.tab4 tinderboxlaw09_awake.bits4 (fun HT_ HW_ => ?_)
              generalize w15.drew = w16 at HO259 HO262 HO266 HB hx267_0 hx267_1 hx267_2 hx267_3 hx267_4 hx267_5 hx268_0 hx268_1 hx268_2 hx268_3 hx268_4 hx268_5 hHeld ⊢
              refine pure_ (i := 0) (N := some 15) (v := ?_) (a' := ?_) #[true, false, false, false, false, false, false, false, false, false, false, false, false, false, false, false, false, false, false, false, false, false, false, false, false, false, false] rfl rfl (any_of HT_.out (by kernel_rfl)) (fun _ _ _ h => h) (Or.inl ⟨by rfl, ?_⟩) ?_ ?_
              rotate_left
              · intro w'
                go_simp
                with_reducible rfl
              rotate_left
              · simp only [Act.put, List.setIfInBounds_toArray, List.set_cons_zero, List.set_cons_succ, i64_w, i32_w]
                rfl
              refine pure_ (i := 1) (N := some 16) (v := ?_) (a' := ?_) #[true, true, false, false, false, false, false, false, false, false, false, false, false, false, false, false, false, false, false, false, false, false, false, false, false, false, false] rfl rfl (any_of HT_.out (by kernel_rfl)) (fun _ _ _ h => h) (Or.inl ⟨by rfl, ?_⟩) ?_ ?_
              rotate_left
              · intro w'
                go_simp
                with_reducible rfl
              rotate_left
              · simp only [Act.put, List.setIfInBounds_toArray, List.set_cons_zero, List.set_cons_succ, i64_w, i32_w]
                rfl
              refine pure_ (i := 2) (N := some 17) (v := ?_) (a' := ?_) #[true, true, true, false, false, false, false, false, false, false, false, false, false, false, false, false, false, false, false, false, false, false, false, false, false, false, false] rfl rfl (any_of HT_.out (by kernel_rfl)) (fun _ _ _ h => h) (Or.inl ⟨by rfl, ?_⟩) ?_ ?_
              rotate_left
              · intro w'
                go_simp
                with_reducible rfl
              rotate_left
              · simp only [Act.put, List.setIfInBounds_toArray, List.set_cons_zero, List.set_cons_succ, i64_w, i32_w]
                rfl
              refine pure_ (i := 3) (N := some 18) (v := ?_) (a' := ?_) #[true, true, true, true, false, false, false, false, false, false, false, false, false, false, false, false, false, false, false, false, false, false, false, false, false, false, false] rfl rfl (any_of HT_.out (by kernel_rfl)) (fun _ _ _ h => h) (Or.inl ⟨by rfl, ?_⟩) ?_ ?_
              rotate_left
              · intro w'
                go_simp
                with_reducible rfl
              rotate_left
              · simp only [Act.put, List.setIfInBounds_toArray, List.set_cons_zero, List.set_cons_succ, i64_w, i32_w]
                rfl
              refine pure_ (i := 4) (N := some 19) (v := ?_) (a' := ?_) #[true, true, true, true, true, false, false, false, false, false, false, false, false, false, false, false, false, false, false, false, false, false, false, false, false, false, false] rfl rfl (any_of HT_.out (by kernel_rfl)) (fun _ _ _ h => h) (Or.inl ⟨by rfl, ?_⟩) ?_ ?_
              rotate_left
              · intro w'
                go_simp
                with_reducible rfl
              rotate_left
              · simp only [Act.put, List.setIfInBounds_toArray, List.set_cons_zero, List.set_cons_succ, i64_w, i32_w]
                rfl
              refine pure_ (i := 5) (N := some 20) (v := ?_) (a' := ?_) #[true, true, true, true, true, true, false, false, false, false, false, false, false, false, false, false, false, false, false, false, false, false, false, false, false, false, false] rfl rfl (any_of HT_.out (by kernel_rfl)) (fun _ _ _ h => h) (Or.inl ⟨by rfl, ?_⟩) ?_ ?_
              rotate_left
              · intro w'
                go_simp
                with_reducible rfl
              rotate_left
              · simp only [Act.put, List.setIfInBounds_toArray, List.set_cons_zero, List.set_cons_succ, i64_w, i32_w]
                rfl
              refine pure_ (i := 6) (N := some 21) (v := ?_) (a' := ?_) #[true, true, true, true, true, true, true, false, false, false, false, false, false, false, false, false, false, false, false, false, false, false, false, false, false, false, false] rfl rfl (any_of HT_.out (by kernel_rfl)) (fun _ _ _ h => h) (Or.inl ⟨by rfl, ?_⟩) ?_ ?_
              rotate_left
              · intro w'
                go_simp
                with_reducible rfl
              rotate_left
              · simp only [Act.put, List.setIfInBounds_toArray, List.set_cons_zero, List.set_cons_succ, i64_w, i32_w]
                rfl
              refine pure_ (i := 7) (N := some 22) (v := ?_) (a' := ?_) #[true, true, true, true, true, true, true, true, false, false, false, false, false, false, false, false, false, false, false, false, false, false, false, false, false, false, false] rfl rfl (any_of HT_.out (by kernel_rfl)) (fun _ _ _ h => h) (Or.inl ⟨by rfl, ?_⟩) ?_ ?_
              rotate_left
              · intro w'
                go_simp
                with_reducible rfl
              rotate_left
              · simp only [Act.put, List.setIfInBounds_toArray, List.set_cons_zero, List.set_cons_succ, i64_w, i32_w]
                rfl
              refine pure_ (i := 8) (N := some 23) (v := ?_) (a' := ?_) #[true, true, true, true, true, true, true, true, true, false, false, false, false, false, false, false, false, false, false, false, false, false, false, false, false, false, false] rfl rfl (any_of HT_.out (by kernel_rfl)) (fun _ _ _ h => h) (Or.inl ⟨by rfl, ?_⟩) ?_ ?_
              rotate_left
              · intro w'
                go_simp
                with_reducible rfl
              rotate_left
              · simp only [Act.put, List.setIfInBounds_toArray, List.set_cons_zero, List.set_cons_succ, i64_w, i32_w]
                rfl
              refine pure_ (i := 9) (N := some 24) (v := ?_) (a' := ?_) #[true, true, true, true, true, true, true, true, true, true, false, false, false, false, false, false, false, false, false, false, false, false, false, false, false, false, false] rfl rfl (any_of HT_.out (by kernel_rfl)) (fun _ _ _ h => h) (Or.inl ⟨by rfl, ?_⟩) ?_ ?_
              rotate_left
              · intro w'
                go_simp
                with_reducible rfl
              rotate_left
              · simp only [Act.put, List.setIfInBounds_toArray, List.set_cons_zero, List.set_cons_succ, i64_w, i32_w]
                rfl
              refine pure_ (i := 10) (N := some 25) (v := ?_) (a' := ?_) #[true, true, true, true, true, true, true, true, true, true, true, false, false, false, false, false, false, false, false, false, false, false, false, false, false, false, false] rfl rfl (any_of HT_.out (by kernel_rfl)) (fun _ _ _ h => h) (Or.inl ⟨by rfl, ?_⟩) ?_ ?_
              rotate_left
              · intro w'
                go_simp
                with_reducible rfl
              rotate_left
              · simp only [Act.put, List.setIfInBounds_toArray, List.set_cons_zero, List.set_cons_succ, i64_w, i32_w]
                rfl
              refine pure_ (i := 11) (N := some 26) (v := ?_) (a' := ?_) #[true, true, true, true, true, true, true, true, true, true, true, true, false, false, false, false, false, false, false, false, false, false, false, false, false, false, false] rfl rfl (any_of HT_.out (by kernel_rfl)) (fun _ _ _ h => h) (Or.inl ⟨by rfl, ?_⟩) ?_ ?_
              rotate_left
              · intro w'
                go_simp
                with_reducible rfl
              rotate_left
              · simp only [Act.put, List.setIfInBounds_toArray, List.set_cons_zero, List.set_cons_succ, i64_w, i32_w]
                rfl
              refine pure_ (i := 12) (N := some 27) (v := ?_) (a' := ?_) #[true, true, true, true, true, true, true, true, true, true, true, true, true, false, false, false, false, false, false, false, false, false, false, false, false, false, false] rfl rfl (any_of HT_.out (by kernel_rfl)) (fun _ _ _ h => h) (Or.inl ⟨by rfl, ?_⟩) ?_ ?_
              rotate_left
              · intro w'
                go_simp
                with_reducible rfl
              rotate_left
              · simp only [Act.put, List.setIfInBounds_toArray, List.set_cons_zero, List.set_cons_succ, i64_w, i32_w]
                rfl
              refine pure_ (i := 13) (N := some 28) (v := ?_) (a' := ?_) #[true, true, true, true, true, true, true, true, true, true, true, true, true, true, false, false, false, false, false, false, false, false, false, false, false, false, false] rfl rfl (any_of HT_.out (by kernel_rfl)) (fun _ _ _ h => h) (Or.inl ⟨by rfl, ?_⟩) ?_ ?_
              rotate_left
              · intro w'
                go_simp
                with_reducible rfl
              rotate_left
              · simp only [Act.put, List.setIfInBounds_toArray, List.set_cons_zero, List.set_cons_succ, i64_w, i32_w]
                rfl
              refine pure_ (i := 14) (N := some 29) (v := ?_) (a' := ?_) #[true, true, true, true, true, true, true, true, true, true, true, true, true, true, true, false, false, false, false, false, false, false, false, false, false, false, false] rfl rfl (any_of HT_.out (by kernel_rfl)) (fun _ _ _ h => h) (Or.inl ⟨by rfl, ?_⟩) ?_ ?_
              rotate_left
              · intro w'
                go_simp
                with_reducible rfl
              rotate_left
              · simp only [Act.put, List.setIfInBounds_toArray, List.set_cons_zero, List.set_cons_succ, i64_w, i32_w]
                rfl
              refine pure_ (i := 16) (N := some 31) (v := ?_) (a' := ?_) #[true, true, true, true, true, true, true, true, true, true, true, true, true, true, true, false, true, false, false, false, false, false, false, false, false, false, false] rfl rfl (any_of HT_.out (by kernel_rfl)) (fun _ _ _ h => h) (Or.inl ⟨by rfl, ?_⟩) ?_ ?_
              rotate_left
              · intro w'
                go_simp
                with_reducible rfl
              rotate_left
              · simp only [Act.put, List.setIfInBounds_toArray, List.set_cons_zero, List.set_cons_succ, i64_w, i32_w]
                rfl
              refine pure_ (i := 17) (N := some 32) (v := ?_) (a' := ?_) #[true, true, true, true, true, true, true, true, true, true, true, true, true, true, true, false, true, true, false, false, false, false, false, false, false, false, false] rfl rfl (any_of HT_.out (by kernel_rfl)) (fun _ _ _ h => h) (Or.inl ⟨by rfl, ?_⟩) ?_ ?_
              rotate_left
              · intro w'
                go_simp
                with_reducible rfl
              rotate_left
              · simp only [Act.put, List.setIfInBounds_toArray, List.set_cons_zero, List.set_cons_succ, i64_w, i32_w]
                rfl
              refine take_ (i := 15) (N := some 30) (v := ?_) (a' := ?_) #[true, true, true, true, true, true, true, true, true, true, true, true, true, true, true, true, true, true, false, false, false, false, false, false, false, false, false] rfl rfl (take_ofW HT_.out HW_.out (by kernel_rfl)) (fun _ _ _ h => h) (Or.inl ⟨by rfl, ?_⟩) hHeld ?_ ?_
              rotate_left
              · rintro w' ⟨s0, s1, s2, s3, s4, s5, s6, s7, s8, s9, s10, s11⟩
                go_simp
                with_reducible rfl
              rotate_left
              · simp only [Act.put, List.setIfInBounds_toArray, List.set_cons_zero, List.set_cons_succ, i64_w, i32_w]
                rfl
              refine take_ (i := 18) (N := some 33) (v := ?_) (a' := ?_) #[true, true, true, true, true, true, true, true, true, true, true, true, true, true, true, true, true, true, true, false, false, false, false, false, false, false, false] rfl rfl (take_ofW HT_.out HW_.out (by kernel_rfl)) (fun _ _ _ h => h) (Or.inl ⟨by rfl, ?_⟩) hHeld ?_ ?_
              rotate_left
              · rintro w' ⟨s0, s1, s2, s3, s4, s5, s6, s7, s8, s9, s10, s11⟩
                go_simp
                with_reducible rfl
              rotate_left
              · simp only [Act.put, List.setIfInBounds_toArray, List.set_cons_zero, List.set_cons_succ, i64_w, i32_w]
                rfl
              refine pure_ (i := 19) (N := some 34) (v := ?_) (a' := ?_) #[true, true, true, true, true, true, true, true, true, true, true, true, true, true, true, true, true, true, true, true, false, false, false, false, false, false, false] rfl rfl (any_of HT_.out (by kernel_rfl)) (fun _ _ _ h => h) (Or.inl ⟨by rfl, ?_⟩) ?_ ?_
              rotate_left
              · intro w'
                go_simp
                with_reducible rfl
              rotate_left
              · simp only [Act.put, List.setIfInBounds_toArray, List.set_cons_zero, List.set_cons_succ, i64_w, i32_w]
                rfl
              refine pure_ (i := 20) (N := some 35) (v := ?_) (a' := ?_) #[true, true, true, true, true, true, true, true, true, true, true, true, true, true, true, true, true, true, true, true, true, false, false, false, false, false, false] rfl rfl (any_of HT_.out (by kernel_rfl)) (fun _ _ _ h => h) (Or.inl ⟨by rfl, ?_⟩) ?_ ?_
              rotate_left
              · intro w'
                go_simp
                with_reducible rfl
              rotate_left
              · simp only [Act.put, List.setIfInBounds_toArray, List.set_cons_zero, List.set_cons_succ, i64_w, i32_w]
                rfl
              refine pure_ (i := 21) (N := some 36) (v := ?_) (a' := ?_) #[true, true, true, true, true, true, true, true, true, true, true, true, true, true, true, true, true, true, true, true, true, true, false, false, false, false, false] rfl rfl (any_of HT_.out (by kernel_rfl)) (fun _ _ _ h => h) (Or.inl ⟨by rfl, ?_⟩) ?_ ?_
              rotate_left
              · intro w'
                go_simp
                with_reducible rfl
              rotate_left
              · simp only [Act.put, List.setIfInBounds_toArray, List.set_cons_zero, List.set_cons_succ, i64_w, i32_w]
                rfl
              refine pure_ (i := 22) (N := some 37) (v := ?_) (a' := ?_) #[true, true, true, true, true, true, true, true, true, true, true, true, true, true, true, true, true, true, true, true, true, true, true, false, false, false, false] rfl rfl (any_of HT_.out (by kernel_rfl)) (fun _ _ _ h => h) (Or.inl ⟨by rfl, ?_⟩) ?_ ?_
              rotate_left
              · intro w'
                go_simp
                with_reducible rfl
              rotate_left
              · simp only [Act.put, List.setIfInBounds_toArray, List.set_cons_zero, List.set_cons_succ, i64_w, i32_w]
                rfl
              refine one_ (i := 23) (N := some 38) #[true, true, true, true, true, true, true, true, true, true, true, true, true, true, true, true, true, true, true, true, true, true, true, true, false, false, false] rfl rfl (one_of HT_.out (by kernel_rfl)) (by decide) (fun K hK => ?_)
              refine goes_ Try.func54 (by kernel_rfl) rfl #[.slice (some ad268) y257.length co12, .int .i64 3] (by rfl) rfl rfl (by (try simp only [List.map_toArray, List.map_cons, List.map_nil]); first | done | rfl | (simp only [List.length_drop, List.length_take]; rfl)) ?_
              with_reducible refine (group_Pages.calls k _ _ y257 3 t269 _ ?side1 ?side2 A9.out).mono ?_
              (case side1 => repeat (first | exact (Kd.R_reads' HO259.out).2.2 | (with_reducible refine Kd.C_alloc ?_ _) | (with_reducible refine Kd.C_drewN ?_ _) | (with_reducible refine Kd.C_drew ?_)))
              (case side2 => exact (Kd.R_reads' HO259.out).2.1)
              rintro e w18 ⟨rfl, hb⟩
              have HS0_ := (hb.cell (World.block_lt_of_cell? _ _ (hHeld.1))).trans (hHeld.1)
              have HS1_ := (hb.cell (World.block_lt_of_cell? _ _ (hHeld.2.1))).trans (hHeld.2.1)
              have HS2_ := (hb.cell (World.block_lt_of_cell? _ _ (hHeld.2.2.1))).trans (hHeld.2.2.1)
              have HS3_ := (hb.cell (World.block_lt_of_cell? _ _ (hHeld.2.2.2.1))).trans (hHeld.2.2.2.1)
              have HS4_ := (hb.cell (World.block_lt_of_cell? _ _ (hHeld.2.2.2.2.1))).trans (hHeld.2.2.2.2.1)
              have HS5_ := (hb.cell (World.block_lt_of_cell? _ _ (hHeld.2.2.2.2.2.1))).trans (hHeld.2.2.2.2.2.1)
              have HS6_ := (hb.cell (World.block_lt_of_cell? _ _ (hHeld.2.2.2.2.2.2.1))).trans (hHeld.2.2.2.2.2.2.1)
              have HS7_ := (hb.cell (World.block_lt_of_cell? _ _ (hHeld.2.2.2.2.2.2.2.1))).trans (hHeld.2.2.2.2.2.2.2.1)
              have HS8_ := (hb.cell (World.block_lt_of_cell? _ _ (hHeld.2.2.2.2.2.2.2.2.1))).trans (hHeld.2.2.2.2.2.2.2.2.1)
              have HS9_ := (hb.cell (World.block_lt_of_cell? _ _ (hHeld.2.2.2.2.2.2.2.2.2.1))).trans (hHeld.2.2.2.2.2.2.2.2.2.1)
              have HS10_ := (hb.cell (World.block_lt_of_cell? _ _ (hHeld.2.2.2.2.2.2.2.2.2.2.1))).trans (hHeld.2.2.2.2.2.2.2.2.2.2.1)
              have HS11_ := (hb.cell (World.block_lt_of_cell? _ _ (hHeld.2.2.2.2.2.2.2.2.2.2.2))).trans (hHeld.2.2.2.2.2.2.2.2.2.2.2)
              refine ⟨_, rfl, ?_⟩
              have n0_ := Aside0.mk (Kd.R_below (by (with_reducible repeat (first | apply Kd.R_alloc | apply Kd.R_drewN | apply Kd.R_drew)); exact HO259.out) hb)
              have n1_ := Aside0.mk (Kd.R_below (by (with_reducible repeat (first | apply Kd.R_alloc | apply Kd.R_drewN | apply Kd.R_drew)); exact HO262.out) hb)
              have n2_ := Aside0.mk (Kd.R_below (by (with_reducible repeat (first | apply Kd.R_alloc | apply Kd.R_drewN | apply Kd.R_drew)); exact HO266.out) hb)
              have n3_ := Aside0.mk (below_step (by repeat (first | (with_reducible first | exact HB.out | apply below_alloc | apply pw_below_drewN | apply below_drew1) | exact HB.out)) hb)
              clear HO259
              clear HO262
              clear HO266
              clear HB
              have HO259 := n0_
              have HO262 := n1_
              have HO266 := n2_
              have HB := n3_
              clear n0_ n1_ n2_ n3_
              (try clear hb)
              (try clear hb2)
              (try clear hk)
              (try clear hi)
              refine hK.out _ _ ⟨HS0_, HS1_, HS2_, HS3_, HS4_, HS5_, HS6_, HS7_, HS8_, HS9_, HS10_, HS11_⟩ (fun hHeld => ?_)
              clear hK K
              refine norm_ (a' := ?_) ?_ ?_
              rotate_left
              · show Act.put _ (some 38) _ = _
                simp only [Act.put, List.setIfInBounds_toArray, List.set_cons_zero, List.set_cons_succ, i64_w, i32_w]
                rfl
              refine pure_ (i := 24) (N := some 39) (v := ?_) (a' := ?_) #[true, true, true, true, true, true, true, true, true, true, true, true, true, true, true, true, true, true, true, true, true, true, true, true, true, false, false] rfl rfl (any_of HT_.out (by kernel_rfl)) (fun _ _ _ h => h) (Or.inl ⟨by rfl, ?_⟩) ?_ ?_
              rotate_left
              · intro w'
                go_simp
                with_reducible rfl
              rotate_left
              · simp only [Act.put, List.setIfInBounds_toArray, List.set_cons_zero, List.set_cons_succ, i64_w, i32_w]
                rfl
              refine pure_ (i := 25) (N := some 40) (v := ?_) (a' := ?_) #[true, true, true, true, true, true, true, true, true, true, true, true, true, true, true, true, true, true, true, true, true, true, true, true, true, true, false] rfl rfl (any_of HT_.out (by kernel_rfl)) (fun _ _ _ h => h) (Or.inl ⟨by rfl, ?_⟩) ?_ ?_
              rotate_left
              · intro w'
                go_simp
                with_reducible rfl
              rotate_left
              · simp only [Act.put, List.setIfInBounds_toArray, List.set_cons_zero, List.set_cons_succ, i64_w, i32_w]
                rfl
              refine pure_ (i := 26) (N := some 0) (v := ?_) (a' := ?_) #[true, true, true, true, true, true, true, true, true, true, true, true, true, true, true, true, true, true, true, true, true, true, true, true, true, true, true] rfl rfl (any_of HT_.out (by kernel_rfl)) (fun _ _ _ h => h) (Or.inl ⟨by rfl, ?_⟩) ?_ ?_
              rotate_left
              · intro w'
                go_simp
                with_reducible rfl
              rotate_left
              · simp only [Act.put, List.setIfInBounds_toArray, List.set_cons_zero, List.set_cons_succ, i64_w, i32_w]
                rfl
              refine done_ (done_of HT_.out (by kernel_rfl)) ?_
              try go_wp2
              go_ret
              exact ⟨by first | rfl | (simp [errW_none, errW_some] <;> rfl) | (simp [*, errW_none, errW_some] <;> rfl), by repeat (first | (with_reducible first | exact HB.out | apply below_alloc | apply pw_below_drewN | apply below_drew1) | exact HB.out)⟩
            · rw [if_neg c8] at H
              have c8b0 : (((rd_T58 t263 0).f0) == ((rd_T58 y257 0).f0) && (((rd_T58 t263 0).f1) == ((rd_T58 y257 0).f1) && (((rd_T58 t263 0).f2) == ((rd_T58 y257 0).f2) && (((rd_T58 t263 0).f3) == ((rd_T58 y257 0).f3) && (((rd_T58 t263 0).f4) == ((rd_T58 y257 0).f4) && (((rd_T58 t263 0).f5) == ((rd_T58 y257 0).f5))))))) = false := by simpa using c8
              (try (have c8b1 : decide (((rd_T58 t263 0).f0) = ((rd_T58 y257 0).f0) && (((rd_T58 t263 0).f1) == ((rd_T58 y257 0).f1) && (((rd_T58 t263 0).f2) == ((rd_T58 y257 0).f2) && (((rd_T58 t263 0).f3) == ((rd_T58 y257 0).f3) && (((rd_T58 t263 0).f4) == ((rd_T58 y257 0).f4) && (((rd_T58 t263 0).f5) == ((rd_T58 y257 0).f5))))))) = false := by simpa using c8))
              (try (have c8b2 : (((rd_T58 t263 0).f0) == ((rd_T58 y257 0).f0) && (((rd_T58 t263 0).f1) == ((rd_T58 y257 0).f1) && (((rd_T58 t263 0).f2) == ((rd_T58 y257 0).f2) && (((rd_T58 t263 0).f3) == ((rd_T58 y257 0).f3) && (((rd_T58 t263 0).f4) == ((rd_T58 y257 0).f4) && (((rd_T58 t263 0).f5) == ((rd_T58 y257 0).f5))))))) = false := by simpa using c8))
              (try (have c8b3 : ¬ (((rd_T58 t263 0).f0) = ((rd_T58 y257 0).f0) && (((rd_T58 t263 0).f1) == ((rd_T58 y257 0).f1) && (((rd_T58 t263 0).f2) == ((rd_T58 y257 0).f2) && (((rd_T58 t263 0).f3) == ((rd_T58 y257 0).f3) && (((rd_T58 t263 0).f4) == ((rd_T58 y257 0).f4) && (((rd_T58 t263 0).f5) == ((rd_T58 y257 0).f5))))))) := by simpa using c8))
              clear c8
              exact absurd ((Option.some.inj H).trans hr_) (by decide)
          · rw [if_neg c7] at H
            exact absurd H (by simp)
        · rw [if_neg c6] at H
          exact absurd H (by simp)
      · rw [if_neg c5] at H
        have c5b0 : ((t263.length : Int) == 2) = false := beq_eq_false_iff_ne.mpr c5
        have c5b1 : ((t263.length : Int) != 2) = true := bne_iff_ne.mpr c5
        exact absurd ((Option.some.inj H).trans hr_) (by decide)
    · rw [if_neg c4] at H
      have c4b0 : (t264 == 0) = false := beq_eq_false_iff_ne.mpr c4
      have c4b1 : (t264 != 0) = true := bne_iff_ne.mpr c4
      exact absurd ((Option.some.inj H).trans hr_) (by decide)
  · rw [if_neg c3] at H
    have c3b0 : ((t260.length : Int) == 1) = false := beq_eq_false_iff_ne.mpr c3
    have c3b1 : ((t260.length : Int) != 1) = true := bne_iff_ne.mpr c3
    exact absurd ((Option.some.inj H).trans hr_) (by decide)

end Go.Proofs.Ytoiahmdibibceaa.XGroupReads
