-- Written by xprint.py of this repo (the kit's print with turns of our own) out of the translation.
import Derived.Test.YtoiahmdibibceaaXRecChecksx0
import Derived.Test.YtoiahmdibibceaaXRecChecksx1
import Derived.Test.YtoiahmdibibceaaXRecChecksx2
import Derived.Test.YtoiahmdibibceaaXRecChecksx4
namespace Go.Proofs.Ytoiahmdibibceaa.XRecChecks
open Go.RowKit Go.Proofs.YtoiahmdibibceaaW.PrintWords Go.Proofs.YtoiahmdibibceaaW.PrintLast Go.Proofs.YtoiahmdibibceaaW.PrintMore
attribute [local go_sem] max2_int min2_int max_two min_two max_three min_three max_four min_four   -- for this text's walks alone
set_option linter.unusedVariables false
set_option linter.unusedSimpArgs false

attribute [local go_sem high] eqA58
/-! ### tinderboxlaw07_awake: function 40 -/
def tinderboxlaw07_awake.f (k : Nat)  : Option (Bool) := (rec_Put.f k 1 3 300 9 0 0).bind fun t147 => ((code_New.f t147).bind fun bt148 => ((rec_Take.f k bt148.1 bt148.2).bind fun bt151 => (if bt151.2.2.2.2.2.2.1 = 0 then (if (1 == bt151.1 && (3 == bt151.2.1 && (300 == bt151.2.2.1 && (9 == bt151.2.2.2.1 && (0 == bt151.2.2.2.2.1 && (0 == bt151.2.2.2.2.2.1)))))) = true then ((code_Reader_End.f bt151.2.2.2.2.2.2.2.1 bt151.2.2.2.2.2.2.2.2).bind fun bt161 => (if bt161.1 = 0 then ((rec_Check.f 1 3 300 9 0 0).bind fun t164 => (if t164 = true then ((rec_Check.f 0 0 0 0 0 0).bind fun t165 => (some (!t165))) else (some false))) else (some false))) else (some false)) else (some false))))
theorem tinderboxlaw07_awake.mono : ∀ k, LeO (tinderboxlaw07_awake.f k ) (tinderboxlaw07_awake.f (k + 1) ) := by
  intro  k
  unfold tinderboxlaw07_awake.f
  repeat' first
      | (with_reducible exact rec_Put.mono _ _ _ _ _ _ _)
      | (with_reducible exact rec_Take.mono _ _ _)
      | (with_reducible exact LeO.refl _)
      | (with_reducible exact LeO.none _)
      | (with_reducible refine LeO.ite ?_ ?_)
      | (with_reducible refine LeO.bind ?_ (fun _ => ?_))
      | exact rec_Put.mono _ _ _ _ _ _ _
      | exact rec_Take.mono _ _ _
      | exact LeO.none _
      | refine LeO.ite ?_ ?_
      | refine LeO.bind ?_ (fun _ => ?_)
set_option maxRecDepth 100000 in
theorem tinderboxlaw07_awake.det (k : Nat) (r : Bool) (h : tinderboxlaw07_awake.f k = some r) : r = true := by
  have h0 : tinderboxlaw07_awake.f 60 = some true := by decide +kernel
  have up : ∀ j k r, tinderboxlaw07_awake.f k = some r → tinderboxlaw07_awake.f (k + j) = some r := by
    intro j
    induction j with
    | zero => exact fun _ _ h => h
    | succ j ih => exact fun k r h => tinderboxlaw07_awake.mono _ _ (ih k r h)
  have h1 := up 60 k r h
  have h2 := up k 60 true h0
  rw [Nat.add_comm, h1] at h2
  exact Option.some.inj h2
set_option maxHeartbeats 8000000 in
set_option maxRecDepth 100000 in
theorem tinderboxlaw07_awake.calls (k : Nat)  (r : Bool) (w : World) (h : tinderboxlaw07_awake.f k  = some r) :
    Calls Try.prog 40 #[] w fun e w' => e = .returned (.bool r) ∧ Below w.heap.size w w' := by
  have hr_ := tinderboxlaw07_awake.det k r h
  have hu58 := Try.underlying58
  have HB := Aside0.mk (Below.refl w.heap.size w)
  have H : ((rec_Put.f k 1 3 300 9 0 0).bind fun t147 => ((code_New.f t147).bind fun bt148 => ((rec_Take.f k bt148.1 bt148.2).bind fun bt151 => (if bt151.2.2.2.2.2.2.1 = 0 then (if (1 == bt151.1 && (3 == bt151.2.1 && (300 == bt151.2.2.1 && (9 == bt151.2.2.2.1 && (0 == bt151.2.2.2.2.1 && (0 == bt151.2.2.2.2.2.1)))))) = true then ((code_Reader_End.f bt151.2.2.2.2.2.2.2.1 bt151.2.2.2.2.2.2.2.2).bind fun bt161 => (if bt161.1 = 0 then ((rec_Check.f 1 3 300 9 0 0).bind fun t164 => (if t164 = true then ((rec_Check.f 0 0 0 0 0 0).bind fun t165 => (some (!t165))) else (some false))) else (some false))) else (some false)) else (some false))))) = some r := h
  clear h
  replace H := Option.bind_eq_some_iff.mp H
  obtain ⟨t147, A10, H⟩ := H
  replace H : ((code_New.f t147).bind fun bt148 => ((rec_Take.f k bt148.1 bt148.2).bind fun bt151 => (if bt151.2.2.2.2.2.2.1 = 0 then (if (1 == bt151.1 && (3 == bt151.2.1 && (300 == bt151.2.2.1 && (9 == bt151.2.2.2.1 && (0 == bt151.2.2.2.2.1 && (0 == bt151.2.2.2.2.2.1)))))) = true then ((code_Reader_End.f bt151.2.2.2.2.2.2.2.1 bt151.2.2.2.2.2.2.2.2).bind fun bt161 => (if bt161.1 = 0 then ((rec_Check.f 1 3 300 9 0 0).bind fun t164 => (if t164 = true then ((rec_Check.f 0 0 0 0 0 0).bind fun t165 => (some (!t165))) else (some false))) else (some false))) else (some false)) else (some false)))) = some r := H
  have A1 := Aside0.mk A10
  clear A10
  replace H := Option.bind_eq_some_iff.mp H
  obtain ⟨⟨t148, t149⟩, A20, H⟩ := H
  replace H : ((rec_Take.f k t148 t149).bind fun bt151 => (if bt151.2.2.2.2.2.2.1 = 0 then (if (1 == bt151.1 && (3 == bt151.2.1 && (300 == bt151.2.2.1 && (9 == bt151.2.2.2.1 && (0 == bt151.2.2.2.2.1 && (0 == bt151.2.2.2.2.2.1)))))) = true then ((code_Reader_End.f bt151.2.2.2.2.2.2.2.1 bt151.2.2.2.2.2.2.2.2).bind fun bt161 => (if bt161.1 = 0 then ((rec_Check.f 1 3 300 9 0 0).bind fun t164 => (if t164 = true then ((rec_Check.f 0 0 0 0 0 0).bind fun t165 => (some (!t165))) else (some false))) else (some false))) else (some false)) else (some false))) = some r := H
  have A2 := Aside0.mk A20
  clear A20
  replace H := Option.bind_eq_some_iff.mp H
  obtain ⟨⟨t151, t152, t153, t154, t155, t156, t157, t158, t159⟩, A30, H⟩ := H
  replace H : (if t157 = 0 then (if (1 == t151 && (3 == t152 && (300 == t153 && (9 == t154 && (0 == t155 && (0 == t156)))))) = true then ((code_Reader_End.f t158 t159).bind fun bt161 => (if bt161.1 = 0 then ((rec_Check.f 1 3 300 9 0 0).bind fun t164 => (if t164 = true then ((rec_Check.f 0 0 0 0 0 0).bind fun t165 => (some (!t165))) else (some false))) else (some false))) else (some false)) else (some false)) = some r := H
  have A3 := Aside0.mk A30
  clear A30
  by_cases c4 : t157 = 0
  · rw [if_pos c4] at H
    have c4b0 : (t157 == 0) = true := beq_iff_eq.mpr c4
    have c4b1 : (t157 != 0) = false := bne_eq_false_iff_eq.mpr c4
    clear c4
    by_cases c5 : (1 == t151 && (3 == t152 && (300 == t153 && (9 == t154 && (0 == t155 && (0 == t156)))))) = true
    · rw [if_pos c5] at H
      have c5b0 : (1 == t151 && (3 == t152 && (300 == t153 && (9 == t154 && (0 == t155 && (0 == t156)))))) = true := c5
      (try (have c5b1 : decide (1 = t151 && (3 == t152 && (300 == t153 && (9 == t154 && (0 == t155 && (0 == t156)))))) = true := by simpa using c5))
      (try (have c5b2 : (1 == t151 && (3 == t152 && (300 == t153 && (9 == t154 && (0 == t155 && (0 == t156)))))) = true := by simpa using c5))
      clear c5
      replace H := Option.bind_eq_some_iff.mp H
      obtain ⟨⟨t161, t162, t163⟩, A60, H⟩ := H
      replace H : (if t161 = 0 then ((rec_Check.f 1 3 300 9 0 0).bind fun t164 => (if t164 = true then ((rec_Check.f 0 0 0 0 0 0).bind fun t165 => (some (!t165))) else (some false))) else (some false)) = some r := H
      have A6 := Aside0.mk A60
      clear A60
      by_cases c7 : t161 = 0
      · rw [if_pos c7] at H
        have c7b0 : (t161 == 0) = true := beq_iff_eq.mpr c7
        have c7b1 : (t161 != 0) = false := bne_eq_false_iff_eq.mpr c7
        clear c7
        replace H := Option.bind_eq_some_iff.mp H
        obtain ⟨t164, A80, H⟩ := H
        replace H : (if t164 = true then ((rec_Check.f 0 0 0 0 0 0).bind fun t165 => (some (!t165))) else (some false)) = some r := H
        have A8 := Aside0.mk A80
        clear A80
        by_cases c9 : t164 = true
        · subst c9
          have H1 : ((rec_Check.f 0 0 0 0 0 0).bind fun t165 => (some (!t165))) = some r := by rw [if_pos rfl] at H; exact H
          clear H
          have H := H1
          clear H1
          replace H := Option.bind_eq_some_iff.mp H
          obtain ⟨t165, A100, H⟩ := H
          replace H : (some (!t165)) = some r := H
          have A10 := Aside0.mk A100
          clear A100
          clear hr_
          obtain rfl := Option.some.inj H
          go_enter Try.func40, Try.ntmps40
          go_wp2_with (first | ((with_reducible refine gate_dst (N := 1) rfl ?_); refine box_event ?hg (N := 1) ?hd (cs := #[.int .i64 0, .int .i64 0, .int .i64 0, .int .i64 0, .int .i64 0, .int .i64 0]) (t := 58) ?hr ?_; (case hd => rfl); (case hg => rfl); (case hr => first | (go_simp; done) | (go_simp; rfl)); intro gb146 hg w11 hbox hb; have n0_ := Aside0.mk (below_step (by repeat (first | (with_reducible first | exact HB.out | apply below_alloc | apply pw_below_drewN | apply below_drew1) | exact HB.out)) hb); have n1_ := Aside0.mk (hbox); have n2_ := Aside0.mk ((by rw [hg]; exact (below_size (by repeat (first | (with_reducible first | exact HB.out | apply below_alloc | apply pw_below_drewN | apply below_drew1) | exact HB.out))) : w.heap.size ≤ gb146)); have n3_ := Aside0.mk ((by rw [hg]; exact (below_size (by repeat (first | (with_reducible first | exact HB.out | apply below_alloc | apply pw_below_drewN | apply below_drew1) | exact HB.out))) : w.heap.size ≤ gb146)); clear HB; have HB := n0_; have BK146 := n1_; have GW146 := n2_; have GE146 := n3_; clear n0_ n1_ n2_ n3_; clear hb hbox hg; have hcz12_0 : w11.cell? ⟨gb146, 0, none⟩ = some (.int .i64 0) := (blk_cell BK146.out 0).trans rfl; have hcz12_1 : w11.cell? ⟨gb146, 1, none⟩ = some (.int .i64 0) := (blk_cell BK146.out 1).trans rfl; have hcz12_2 : w11.cell? ⟨gb146, 2, none⟩ = some (.int .i64 0) := (blk_cell BK146.out 2).trans rfl; have hcz12_3 : w11.cell? ⟨gb146, 3, none⟩ = some (.int .i64 0) := (blk_cell BK146.out 3).trans rfl; have hcz12_4 : w11.cell? ⟨gb146, 4, none⟩ = some (.int .i64 0) := (blk_cell BK146.out 4).trans rfl; have hcz12_5 : w11.cell? ⟨gb146, 5, none⟩ = some (.int .i64 0) := (blk_cell BK146.out 5).trans rfl; have hfz12_0 := blk_frozen BK146.out 0; have hfz12_1 := blk_frozen BK146.out 1; have hfz12_2 := blk_frozen BK146.out 2; have hfz12_3 := blk_frozen BK146.out 3; have hfz12_4 := blk_frozen BK146.out 4; have hfz12_5 := blk_frozen BK146.out 5) | ((with_reducible refine gate_callee (f := 43) rfl ?_); refine goesL_ (some 7) rfl rfl Try.func43 (by kernel_rfl) rfl #[.agg #[.int .i64 1, .int .i64 3, .int .i64 300, .int .i64 9, .int .i64 0, .int .i64 0]] rfl (by (try simp only [List.map_toArray, List.map_cons, List.map_nil]); first | done | rfl | (simp only [List.length_drop, List.length_take]; rfl)) ?_; (with_reducible refine (rec_Put.calls k 1 3 300 9 0 0 t147 _ A1.out).mono ?_); rintro e w13 ⟨rfl, hb⟩; refine ⟨_, rfl, ?_⟩; have n0_ := Aside0.mk (blk_below (g := gb146) (o := .cells #[.int .i64 1, .int .i64 3, .int .i64 300, .int .i64 9, .int .i64 0, .int .i64 0] 58 (0, 0)) (by (with_reducible repeat (first | refine blk_drewN ?_ _ | refine blk_drew ?_ | refine blk_alloc ?_ _)); refine blk_put (cs := #[.int .i64 1, .int .i64 3, .int .i64 300, .int .i64 9, .int .i64 0, .int .i64 0]) ?_ 5 _ rfl; (with_reducible repeat (first | refine blk_drewN ?_ _ | refine blk_drew ?_ | refine blk_alloc ?_ _)); refine blk_put (cs := #[.int .i64 1, .int .i64 3, .int .i64 300, .int .i64 9, .int .i64 0, .int .i64 0]) ?_ 4 _ rfl; (with_reducible repeat (first | refine blk_drewN ?_ _ | refine blk_drew ?_ | refine blk_alloc ?_ _)); refine blk_put (cs := #[.int .i64 1, .int .i64 3, .int .i64 300, .int .i64 0, .int .i64 0, .int .i64 0]) ?_ 3 _ rfl; (with_reducible repeat (first | refine blk_drewN ?_ _ | refine blk_drew ?_ | refine blk_alloc ?_ _)); refine blk_put (cs := #[.int .i64 1, .int .i64 3, .int .i64 0, .int .i64 0, .int .i64 0, .int .i64 0]) ?_ 2 _ rfl; (with_reducible repeat (first | refine blk_drewN ?_ _ | refine blk_drew ?_ | refine blk_alloc ?_ _)); refine blk_put (cs := #[.int .i64 1, .int .i64 0, .int .i64 0, .int .i64 0, .int .i64 0, .int .i64 0]) ?_ 1 _ rfl; (with_reducible repeat (first | refine blk_drewN ?_ _ | refine blk_drew ?_ | refine blk_alloc ?_ _)); refine blk_put (cs := #[.int .i64 0, .int .i64 0, .int .i64 0, .int .i64 0, .int .i64 0, .int .i64 0]) ?_ 0 _ rfl; (with_reducible repeat (first | refine blk_drewN ?_ _ | refine blk_drew ?_ | refine blk_alloc ?_ _)); exact BK146.out) hb); have n1_ := Aside0.mk (below_step (by repeat (first | (with_reducible first | exact HB.out | apply below_alloc | apply pw_below_drewN | apply below_drew1 | refine below_set ?_ GE146.out) | exact HB.out)) hb); clear BK146; clear HB; have BK146 := n0_; have HB := n1_; clear n0_ n1_; (try clear hb); (try clear hb2); (try clear hk); (try clear hi)) | ((with_reducible refine gate_callee (f := 18) rfl ?_); refine goesL_ (some 8) rfl rfl Try.func18 (by kernel_rfl) rfl #[.string t147] rfl (by (try simp only [List.map_toArray, List.map_cons, List.map_nil]); first | done | rfl | (simp only [List.length_drop, List.length_take]; rfl)) ?_; (with_reducible refine (code_New.calls t147 t148 t149 w _ ?side1 A2.out).mono ?_); (case side1 => repeat (first | (with_reducible first | exact HB.out | apply below_alloc | apply pw_below_drewN | apply below_drew1 | refine below_set ?_ GE146.out) | exact HB.out)); rintro e w14 ⟨g150, rfl, hi, hb, hb2⟩; refine ⟨_, rfl, ?_⟩; have n0_ := Aside0.mk (blk_below (g := gb146) (o := .cells #[.int .i64 1, .int .i64 3, .int .i64 300, .int .i64 9, .int .i64 0, .int .i64 0] 58 (0, 0)) (by (with_reducible repeat (first | refine blk_drewN ?_ _ | refine blk_drew ?_ | refine blk_alloc ?_ _)); exact BK146.out) hb2); have n1_ := Aside0.mk (hb); have n2_ := Aside0.mk (hi); have n3_ := Aside0.mk (IsS84.ne_blk hi (blk_below (g := gb146) (o := .cells #[.int .i64 1, .int .i64 3, .int .i64 300, .int .i64 9, .int .i64 0, .int .i64 0] 58 (0, 0)) (by (with_reducible repeat (first | refine blk_drewN ?_ _ | refine blk_drew ?_ | refine blk_alloc ?_ _)); exact BK146.out) hb2) (by decide)); have n4_ := Aside0.mk (Ne.symm (IsS84.ne_blk hi (blk_below (g := gb146) (o := .cells #[.int .i64 1, .int .i64 3, .int .i64 300, .int .i64 9, .int .i64 0, .int .i64 0] 58 (0, 0)) (by (with_reducible repeat (first | refine blk_drewN ?_ _ | refine blk_drew ?_ | refine blk_alloc ?_ _)); exact BK146.out) hb2) (by decide))); clear BK146; clear HB; have BK146 := n0_; have HB := n1_; have HI150 := n2_; have NB150_146 := n3_; have NB146_150 := n4_; clear n0_ n1_ n2_ n3_ n4_; (try clear hb); (try clear hb2); (try clear hk); (try clear hi)) | ((with_reducible refine gate_callee (f := 44) rfl ?_); refine goesL_ (some 11) rfl rfl Try.func44 (by kernel_rfl) rfl #[.pointer (some ⟨g150, 0, none⟩)] rfl (by (try simp only [List.map_toArray, List.map_cons, List.map_nil]); first | done | rfl | (simp only [List.length_drop, List.length_take]; rfl)) ?_; (with_reducible refine (rec_Take.calls k g150 t148 t149 t151 t152 t153 t154 t155 t156 t157 t158 t159 w _ ?side1 ?side2 A3.out).mono ?_); (case side1 => repeat (first | (with_reducible first | exact HI150.out | apply IsS84.alloc | apply IsS84.drewN | apply IsS84.drew | apply IsS84.set_0 | apply IsS84.set_1 | refine IsS84.far ?_ NB150_146.out _) | exact HI150.out)); (case side2 => repeat (first | (with_reducible first | exact HB.out | apply below_alloc | apply pw_below_drewN | apply below_drew1 | refine below_set ?_ (IsS84.ge HI150.out) | refine below_set ?_ GE146.out) | exact HB.out)); rintro e w15 ⟨rfl, hi, hb, hk⟩; refine ⟨_, rfl, ?_⟩; have n0_ := Aside0.mk (KeepBut.blk hk (g' := gb146) (o := .cells #[.int .i64 1, .int .i64 3, .int .i64 300, .int .i64 9, .int .i64 0, .int .i64 0] 58 (0, 0)) (by (with_reducible repeat (first | refine blk_drewN ?_ _ | refine blk_drew ?_ | refine blk_alloc ?_ _)); exact BK146.out) NB146_150.out (by simp)); have n1_ := Aside0.mk (hb); have n2_ := Aside0.mk (hi); clear BK146; clear HB; clear HI150; have BK146 := n0_; have HB := n1_; have HI150 := n2_; clear n0_ n1_ n2_; (try clear hb); (try clear hb2); (try clear hk); (try clear hi)) | ((with_reducible refine gate_dst (N := 3) rfl ?_); refine box_event ?hg (N := 3) ?hd (cs := #[.int .i64 0, .int .i64 0, .int .i64 0, .int .i64 0, .int .i64 0, .int .i64 0]) (t := 58) ?hr ?_; (case hd => rfl); (case hg => rfl); (case hr => first | (go_simp; done) | (go_simp; rfl)); intro gb160 hg w16 hbox hb; have n0_ := Aside0.mk (blk_below (g := gb146) (o := .cells #[.int .i64 1, .int .i64 3, .int .i64 300, .int .i64 9, .int .i64 0, .int .i64 0] 58 (0, 0)) (by (with_reducible repeat (first | refine blk_drewN ?_ _ | refine blk_drew ?_ | refine blk_alloc ?_ _)); exact BK146.out) hb); have n1_ := Aside0.mk (IsS84.below (by repeat (first | (with_reducible first | exact HI150.out | apply IsS84.alloc | apply IsS84.drewN | apply IsS84.drew | apply IsS84.set_0 | apply IsS84.set_1 | refine IsS84.far ?_ NB150_146.out _) | exact HI150.out)) hb); have n2_ := Aside0.mk (below_step (by repeat (first | (with_reducible first | exact HB.out | apply below_alloc | apply pw_below_drewN | apply below_drew1 | refine below_set ?_ (IsS84.ge HI150.out) | refine below_set ?_ GE146.out) | exact HB.out)) hb); have n3_ := Aside0.mk (hbox); have n4_ := Aside0.mk ((by rw [hg]; exact (below_size (by repeat (first | (with_reducible first | exact HB.out | apply below_alloc | apply pw_below_drewN | apply below_drew1 | refine below_set ?_ (IsS84.ge HI150.out) | refine below_set ?_ GE146.out) | exact HB.out))) : w.heap.size ≤ gb160)); have n5_ := Aside0.mk ((by rw [hg]; exact (below_size (by repeat (first | (with_reducible first | exact HB.out | apply below_alloc | apply pw_below_drewN | apply below_drew1 | refine below_set ?_ (IsS84.ge HI150.out) | refine below_set ?_ GE146.out) | exact HB.out))) : w.heap.size ≤ gb160)); have n6_ := Aside0.mk ((by rw [hg]; exact Nat.ne_of_lt (blk_lt (g := gb146) (o := .cells #[.int .i64 1, .int .i64 3, .int .i64 300, .int .i64 9, .int .i64 0, .int .i64 0] 58 (0, 0)) (by (with_reducible repeat (first | refine blk_drewN ?_ _ | refine blk_drew ?_ | refine blk_alloc ?_ _)); exact BK146.out)) : gb146 ≠ gb160)); have n7_ := Aside0.mk ((by rw [hg]; exact Nat.ne_of_gt (blk_lt (g := gb146) (o := .cells #[.int .i64 1, .int .i64 3, .int .i64 300, .int .i64 9, .int .i64 0, .int .i64 0] 58 (0, 0)) (by (with_reducible repeat (first | refine blk_drewN ?_ _ | refine blk_drew ?_ | refine blk_alloc ?_ _)); exact BK146.out)) : gb160 ≠ gb146)); have n8_ := Aside0.mk ((by rw [hg]; exact Nat.ne_of_lt (IsS84.lt (show IsS84 w _ g150 t158 t159 from by repeat (first | (with_reducible first | exact HI150.out | apply IsS84.alloc | apply IsS84.drewN | apply IsS84.drew | apply IsS84.set_0 | apply IsS84.set_1 | refine IsS84.far ?_ NB150_146.out _) | exact HI150.out))) : g150 ≠ gb160)); have n9_ := Aside0.mk ((by rw [hg]; exact Nat.ne_of_gt (IsS84.lt (show IsS84 w _ g150 t158 t159 from by repeat (first | (with_reducible first | exact HI150.out | apply IsS84.alloc | apply IsS84.drewN | apply IsS84.drew | apply IsS84.set_0 | apply IsS84.set_1 | refine IsS84.far ?_ NB150_146.out _) | exact HI150.out))) : gb160 ≠ g150)); clear BK146; clear HI150; clear HB; have BK146 := n0_; have HI150 := n1_; have HB := n2_; have BK160 := n3_; have GW160 := n4_; have GE160 := n5_; have NB146_160 := n6_; have NB160_146 := n7_; have NB150_160 := n8_; have NB160_150 := n9_; clear n0_ n1_ n2_ n3_ n4_ n5_ n6_ n7_ n8_ n9_; clear hb hbox hg; have hnb17 := NB160_146.out; have hnc17 := NB146_160.out; have hnb18 := NB160_150.out; have hnc18 := NB150_160.out; have hcz19_0 : w16.cell? ⟨gb160, 0, none⟩ = some (.int .i64 0) := (blk_cell BK160.out 0).trans rfl; have hcz19_1 : w16.cell? ⟨gb160, 1, none⟩ = some (.int .i64 0) := (blk_cell BK160.out 1).trans rfl; have hcz19_2 : w16.cell? ⟨gb160, 2, none⟩ = some (.int .i64 0) := (blk_cell BK160.out 2).trans rfl; have hcz19_3 : w16.cell? ⟨gb160, 3, none⟩ = some (.int .i64 0) := (blk_cell BK160.out 3).trans rfl; have hcz19_4 : w16.cell? ⟨gb160, 4, none⟩ = some (.int .i64 0) := (blk_cell BK160.out 4).trans rfl; have hcz19_5 : w16.cell? ⟨gb160, 5, none⟩ = some (.int .i64 0) := (blk_cell BK160.out 5).trans rfl; have hfz19_0 := blk_frozen BK160.out 0; have hfz19_1 := blk_frozen BK160.out 1; have hfz19_2 := blk_frozen BK160.out 2; have hfz19_3 := blk_frozen BK160.out 3; have hfz19_4 := blk_frozen BK160.out 4; have hfz19_5 := blk_frozen BK160.out 5; have hnb20 := NB146_150.out; have hnc20 := NB150_146.out; have hcz21_0 : w16.cell? ⟨gb146, 0, none⟩ = some (.int .i64 1) := (blk_cell BK146.out 0).trans rfl; have hcz21_1 : w16.cell? ⟨gb146, 1, none⟩ = some (.int .i64 3) := (blk_cell BK146.out 1).trans rfl; have hcz21_2 : w16.cell? ⟨gb146, 2, none⟩ = some (.int .i64 300) := (blk_cell BK146.out 2).trans rfl; have hcz21_3 : w16.cell? ⟨gb146, 3, none⟩ = some (.int .i64 9) := (blk_cell BK146.out 3).trans rfl; have hcz21_4 : w16.cell? ⟨gb146, 4, none⟩ = some (.int .i64 0) := (blk_cell BK146.out 4).trans rfl; have hcz21_5 : w16.cell? ⟨gb146, 5, none⟩ = some (.int .i64 0) := (blk_cell BK146.out 5).trans rfl; have hfz21_0 := blk_frozen BK146.out 0; have hfz21_1 := blk_frozen BK146.out 1; have hfz21_2 := blk_frozen BK146.out 2; have hfz21_3 := blk_frozen BK146.out 3; have hfz21_4 := blk_frozen BK146.out 4; have hfz21_5 := blk_frozen BK146.out 5) | (go_at_call 23; (with_reducible refine (code_Reader_End.calls g150 t158 t159 t161 t162 t163 w _ ?side1 ?side2 A6.out).mono ?_); (case side1 => repeat (first | (with_reducible first | exact HI150.out | apply IsS84.alloc | apply IsS84.drewN | apply IsS84.drew | apply IsS84.set_0 | apply IsS84.set_1 | refine IsS84.far ?_ NB150_146.out _ | refine IsS84.far ?_ NB150_160.out _) | exact HI150.out)); (case side2 => repeat (first | (with_reducible first | exact HB.out | apply below_alloc | apply pw_below_drewN | apply below_drew1 | refine below_set ?_ (IsS84.ge HI150.out) | refine below_set ?_ GE146.out | refine below_set ?_ GE160.out) | exact HB.out)); rintro e w22 ⟨rfl, hi, hb, hk⟩; have n0_ := Aside0.mk (KeepBut.blk hk (g' := gb146) (o := .cells #[.int .i64 1, .int .i64 3, .int .i64 300, .int .i64 9, .int .i64 0, .int .i64 0] 58 (0, 0)) (by (with_reducible repeat (first | refine blk_drewN ?_ _ | refine blk_drew ?_ | refine blk_alloc ?_ _)); refine blk_far ?_ NB146_160.out _; (with_reducible repeat (first | refine blk_drewN ?_ _ | refine blk_drew ?_ | refine blk_alloc ?_ _)); refine blk_far ?_ NB146_160.out _; (with_reducible repeat (first | refine blk_drewN ?_ _ | refine blk_drew ?_ | refine blk_alloc ?_ _)); refine blk_far ?_ NB146_160.out _; (with_reducible repeat (first | refine blk_drewN ?_ _ | refine blk_drew ?_ | refine blk_alloc ?_ _)); refine blk_far ?_ NB146_160.out _; (with_reducible repeat (first | refine blk_drewN ?_ _ | refine blk_drew ?_ | refine blk_alloc ?_ _)); refine blk_far ?_ NB146_160.out _; (with_reducible repeat (first | refine blk_drewN ?_ _ | refine blk_drew ?_ | refine blk_alloc ?_ _)); refine blk_far ?_ NB146_160.out _; (with_reducible repeat (first | refine blk_drewN ?_ _ | refine blk_drew ?_ | refine blk_alloc ?_ _)); exact BK146.out) NB146_150.out (by simp)); have n1_ := Aside0.mk (KeepBut.blk hk (g' := gb160) (o := .cells #[.int .i64 t151, .int .i64 t152, .int .i64 t153, .int .i64 t154, .int .i64 t155, .int .i64 t156] 58 (0, 0)) (by (with_reducible repeat (first | refine blk_drewN ?_ _ | refine blk_drew ?_ | refine blk_alloc ?_ _)); refine blk_put (cs := #[.int .i64 t151, .int .i64 t152, .int .i64 t153, .int .i64 t154, .int .i64 t155, .int .i64 0]) ?_ 5 _ rfl; (with_reducible repeat (first | refine blk_drewN ?_ _ | refine blk_drew ?_ | refine blk_alloc ?_ _)); refine blk_put (cs := #[.int .i64 t151, .int .i64 t152, .int .i64 t153, .int .i64 t154, .int .i64 0, .int .i64 0]) ?_ 4 _ rfl; (with_reducible repeat (first | refine blk_drewN ?_ _ | refine blk_drew ?_ | refine blk_alloc ?_ _)); refine blk_put (cs := #[.int .i64 t151, .int .i64 t152, .int .i64 t153, .int .i64 0, .int .i64 0, .int .i64 0]) ?_ 3 _ rfl; (with_reducible repeat (first | refine blk_drewN ?_ _ | refine blk_drew ?_ | refine blk_alloc ?_ _)); refine blk_put (cs := #[.int .i64 t151, .int .i64 t152, .int .i64 0, .int .i64 0, .int .i64 0, .int .i64 0]) ?_ 2 _ rfl; (with_reducible repeat (first | refine blk_drewN ?_ _ | refine blk_drew ?_ | refine blk_alloc ?_ _)); refine blk_put (cs := #[.int .i64 t151, .int .i64 0, .int .i64 0, .int .i64 0, .int .i64 0, .int .i64 0]) ?_ 1 _ rfl; (with_reducible repeat (first | refine blk_drewN ?_ _ | refine blk_drew ?_ | refine blk_alloc ?_ _)); refine blk_put (cs := #[.int .i64 0, .int .i64 0, .int .i64 0, .int .i64 0, .int .i64 0, .int .i64 0]) ?_ 0 _ rfl; (with_reducible repeat (first | refine blk_drewN ?_ _ | refine blk_drew ?_ | refine blk_alloc ?_ _)); exact BK160.out) NB160_150.out (by simp)); have n2_ := Aside0.mk (hb); have n3_ := Aside0.mk (hi); clear BK146; clear BK160; clear HB; clear HI150; have BK146 := n0_; have BK160 := n1_; have HB := n2_; have HI150 := n3_; clear n0_ n1_ n2_ n3_; (try clear hb); (try clear hb2); (try clear hk); (try clear hi); have hcz23_0 : w22.cell? ⟨gb146, 0, none⟩ = some (.int .i64 1) := (blk_cell BK146.out 0).trans rfl; have hcz23_1 : w22.cell? ⟨gb146, 1, none⟩ = some (.int .i64 3) := (blk_cell BK146.out 1).trans rfl; have hcz23_2 : w22.cell? ⟨gb146, 2, none⟩ = some (.int .i64 300) := (blk_cell BK146.out 2).trans rfl; have hcz23_3 : w22.cell? ⟨gb146, 3, none⟩ = some (.int .i64 9) := (blk_cell BK146.out 3).trans rfl; have hcz23_4 : w22.cell? ⟨gb146, 4, none⟩ = some (.int .i64 0) := (blk_cell BK146.out 4).trans rfl; have hcz23_5 : w22.cell? ⟨gb146, 5, none⟩ = some (.int .i64 0) := (blk_cell BK146.out 5).trans rfl; have hfz23_0 := blk_frozen BK146.out 0; have hfz23_1 := blk_frozen BK146.out 1; have hfz23_2 := blk_frozen BK146.out 2; have hfz23_3 := blk_frozen BK146.out 3; have hfz23_4 := blk_frozen BK146.out 4; have hfz23_5 := blk_frozen BK146.out 5) | (go_at_call 41; (with_reducible refine (rec_Check.calls 1 3 300 9 0 0 true _ A8.out).mono ?_); rintro e w24 ⟨rfl, hb⟩; have n0_ := Aside0.mk (blk_below (g := gb146) (o := .cells #[.int .i64 1, .int .i64 3, .int .i64 300, .int .i64 9, .int .i64 0, .int .i64 0] 58 (0, 0)) (by (with_reducible repeat (first | refine blk_drewN ?_ _ | refine blk_drew ?_ | refine blk_alloc ?_ _)); exact BK146.out) hb); have n1_ := Aside0.mk (IsS84.below (by repeat (first | (with_reducible first | exact HI150.out | apply IsS84.alloc | apply IsS84.drewN | apply IsS84.drew | apply IsS84.set_0 | apply IsS84.set_1 | refine IsS84.far ?_ NB150_146.out _ | refine IsS84.far ?_ NB150_160.out _) | exact HI150.out)) hb); have n2_ := Aside0.mk (blk_below (g := gb160) (o := .cells #[.int .i64 t151, .int .i64 t152, .int .i64 t153, .int .i64 t154, .int .i64 t155, .int .i64 t156] 58 (0, 0)) (by (with_reducible repeat (first | refine blk_drewN ?_ _ | refine blk_drew ?_ | refine blk_alloc ?_ _)); exact BK160.out) hb); have n3_ := Aside0.mk (below_step (by repeat (first | (with_reducible first | exact HB.out | apply below_alloc | apply pw_below_drewN | apply below_drew1 | refine below_set ?_ (IsS84.ge HI150.out) | refine below_set ?_ GE146.out | refine below_set ?_ GE160.out) | exact HB.out)) hb); clear BK146; clear HI150; clear BK160; clear HB; have BK146 := n0_; have HI150 := n1_; have BK160 := n2_; have HB := n3_; clear n0_ n1_ n2_ n3_; (try clear hb); (try clear hb2); (try clear hk); (try clear hi)) | (go_at_call 41; (with_reducible refine (rec_Check.calls 0 0 0 0 0 0 t165 _ A10.out).mono ?_); rintro e w25 ⟨rfl, hb⟩; have n0_ := Aside0.mk (blk_below (g := gb146) (o := .cells #[.int .i64 1, .int .i64 3, .int .i64 300, .int .i64 9, .int .i64 0, .int .i64 0] 58 (0, 0)) (by (with_reducible repeat (first | refine blk_drewN ?_ _ | refine blk_drew ?_ | refine blk_alloc ?_ _)); exact BK146.out) hb); have n1_ := Aside0.mk (IsS84.below (by repeat (first | (with_reducible first | exact HI150.out | apply IsS84.alloc | apply IsS84.drewN | apply IsS84.drew | apply IsS84.set_0 | apply IsS84.set_1 | refine IsS84.far ?_ NB150_146.out _ | refine IsS84.far ?_ NB150_160.out _) | exact HI150.out)) hb); have n2_ := Aside0.mk (blk_below (g := gb160) (o := .cells #[.int .i64 t151, .int .i64 t152, .int .i64 t153, .int .i64 t154, .int .i64 t155, .int .i64 t156] 58 (0, 0)) (by (with_reducible repeat (first | refine blk_drewN ?_ _ | refine blk_drew ?_ | refine blk_alloc ?_ _)); exact BK160.out) hb); have n3_ := Aside0.mk (below_step (by repeat (first | (with_reducible first | exact HB.out | apply below_alloc | apply pw_below_drewN | apply below_drew1 | refine below_set ?_ (IsS84.ge HI150.out) | refine below_set ?_ GE146.out | refine below_set ?_ GE160.out) | exact HB.out)) hb); clear BK146; clear HI150; clear BK160; clear HB; have BK146 := n0_; have HI150 := n1_; have BK160 := n2_; have HB := n3_; clear n0_ n1_ n2_ n3_; (try clear hb); (try clear hb2); (try clear hk); (try clear hi)))
          go_ret
          exact ⟨by first | rfl | (simp [errW_none, errW_some] <;> rfl) | (simp [*, errW_none, errW_some] <;> rfl), by repeat (first | (with_reducible first | exact HB.out | apply below_alloc | apply pw_below_drewN | apply below_drew1 | refine below_set ?_ (IsS84.ge HI150.out) | refine below_set ?_ GE146.out | refine below_set ?_ GE160.out) | exact HB.out)⟩
        · replace c9 := Bool.eq_false_iff.mpr c9
          subst c9
          have H1 : (some false) = some r := by rw [if_neg (show ¬ (false = true) by decide)] at H; exact H
          clear H
          have H := H1
          clear H1
          exact absurd ((Option.some.inj H).trans hr_) (by decide)
      · rw [if_neg c7] at H
        have c7b0 : (t161 == 0) = false := beq_eq_false_iff_ne.mpr c7
        have c7b1 : (t161 != 0) = true := bne_iff_ne.mpr c7
        exact absurd ((Option.some.inj H).trans hr_) (by decide)
    · rw [if_neg c5] at H
      have c5b0 : (1 == t151 && (3 == t152 && (300 == t153 && (9 == t154 && (0 == t155 && (0 == t156)))))) = false := by simpa using c5
      (try (have c5b1 : decide (1 = t151 && (3 == t152 && (300 == t153 && (9 == t154 && (0 == t155 && (0 == t156)))))) = false := by simpa using c5))
      (try (have c5b2 : (1 == t151 && (3 == t152 && (300 == t153 && (9 == t154 && (0 == t155 && (0 == t156)))))) = false := by simpa using c5))
      (try (have c5b3 : ¬ (1 = t151 && (3 == t152 && (300 == t153 && (9 == t154 && (0 == t155 && (0 == t156)))))) := by simpa using c5))
      clear c5
      exact absurd ((Option.some.inj H).trans hr_) (by decide)
  · rw [if_neg c4] at H
    have c4b0 : (t157 == 0) = false := beq_eq_false_iff_ne.mpr c4
    have c4b1 : (t157 != 0) = true := bne_iff_ne.mpr c4
    exact absurd ((Option.some.inj H).trans hr_) (by decide)

/-! ### tinderboxref07_row: function 62 -/
def tinderboxref07_row.known (k : Int) : Bool := k == 1 || k == 2 || k == 3 || k == 4 || k == 5 || k == 6 || k == 7 || k == 8 || k == 9
def tinderboxref07_row.least (k : Int) : List Int := if k = 1 then [1, 0, 0] else if k = 2 then [1, 0] else if k = 3 then [0, 0] else if k = 4 then [1, 1] else if k = 5 then [1] else if k = 6 then [1, 1] else if k = 7 then [1] else if k = 8 then [0] else if k = 9 then [0, 0] else []
def tinderboxref07_row.f (k : Nat) (a0_0 a0_1 a0_2 a0_3 a0_4 a0_5 : Int) : Option (List Int × List Int × List Int × Bool) := some (Rc.flds a0_0 a0_1 a0_2 a0_3 a0_4 a0_5, tinderboxref07_row.least a0_0, Rc.mosts a0_0, tinderboxref07_row.known a0_0)
theorem tinderboxref07_row.mono : ∀ a0 a1 a2 a3 a4 a5 k, LeO (tinderboxref07_row.f k a0 a1 a2 a3 a4 a5) (tinderboxref07_row.f (k + 1) a0 a1 a2 a3 a4 a5) := fun _ _ _ _ _ _ _ => LeO.refl _
theorem tinderboxref07_row.own {W : World} {g base : Nat} {xs : List Int} {t : Nat} {ok : Nat → Prop} (h : W.heap[g]? = some (.cells (xs.map (Value.int .i64)).toArray t (0, 0))) (hb : base ≤ g) (hl : xs.length ≤ 3) (hok : ok g) : Kd.R (Kd.int .i64) t W base ok (.slice (some ⟨g, 0, none⟩) xs.length xs.length) xs := by
  refine Kd.R_of_own (enc := Value.int .i64) (h1 := fun _ => rfl) ?_ (fun k hk => by cases hk; exact hok)
  refine ⟨by simp [encs], .inr ⟨g, xs.length, (xs.map (Value.int .i64)).toArray, rfl, hb, h, Nat.le_refl _, by unfold maxLen; omega, by simp, by rw [Nat.mul_one, List.take_of_length_le (by simp)]; rfl⟩⟩
theorem tinderboxref07_row.h0 (w : World) (x a b c : Obj) : ((((w.alloc x).alloc a).alloc b).alloc c).heap[w.heap.size + 1]? = some a := by
  show ((((w.heap.push x).push a).push b).push c)[w.heap.size + 1]? = some a
  rw [Array.getElem?_push, if_neg (by simp only [Array.size_push]; omega), Array.getElem?_push, if_neg (by simp only [Array.size_push]; omega), Array.getElem?_push, if_pos (by simp only [Array.size_push])]
theorem tinderboxref07_row.h1 (w : World) (x a b c : Obj) : ((((w.alloc x).alloc a).alloc b).alloc c).heap[w.heap.size + 1 + 1]? = some b := by
  show ((((w.heap.push x).push a).push b).push c)[w.heap.size + 1 + 1]? = some b
  rw [Array.getElem?_push, if_neg (by simp only [Array.size_push]; omega), Array.getElem?_push, if_pos (by simp only [Array.size_push])]
theorem tinderboxref07_row.h2 (w : World) (x a b c : Obj) : ((((w.alloc x).alloc a).alloc b).alloc c).heap[w.heap.size + 1 + 1 + 1]? = some c := by
  show ((((w.heap.push x).push a).push b).push c)[w.heap.size + 1 + 1 + 1]? = some c
  rw [Array.getElem?_push, if_pos (by simp only [Array.size_push])]
def tinderboxref07_row.Post (w : World) (r1 r2 r3 : List Int) (r4 : Bool) (e : Ending) (w' : World) : Prop := ∃ v0_ v1_ v2_ : Value, e = .returned (.tuple #[v0_, v1_, v2_, .bool r4]) ∧ Kd.R (Kd.int .i64) 3 w' w.heap.size (fun k_ => some k_ ≠ (v1_ : Value).ownBlock ∧ some k_ ≠ (v2_ : Value).ownBlock) v0_ r1 ∧ Kd.R (Kd.int .i64) 3 w' w.heap.size (fun k_ => some k_ ≠ (v0_ : Value).ownBlock ∧ some k_ ≠ (v2_ : Value).ownBlock) v1_ r2 ∧ Kd.R (Kd.int .i64) 3 w' w.heap.size (fun k_ => some k_ ≠ (v0_ : Value).ownBlock ∧ some k_ ≠ (v1_ : Value).ownBlock) v2_ r3 ∧ Below w.heap.size w w'
set_option maxHeartbeats 4000000 in
theorem tinderboxref07_row.c1 (c1 c2 c3 c4 c5 : Int) (w : World) : Calls Try.prog 62 #[.agg #[.int .i64 1, .int .i64 c1, .int .i64 c2, .int .i64 c3, .int .i64 c4, .int .i64 c5]] w (tinderboxref07_row.Post w [c1, c2, c3] [1, 0, 0] [15, 1023, 511] true) := by
  go_enter Try.func62, Try.ntmps62
  go_wp2
  refine bodyPost_ret (results_list (rs := [.tmp 2, .tmp 3, .tmp 4, .tmp 5]) rfl (by simp) (.tmp (.tmp (.tmp (.tmp .nil))))) rfl ?_
  exact ⟨_, _, _, rfl, tinderboxref07_row.own (xs := [c1, c2, c3]) (tinderboxref07_row.h0 w _ _ _ _) (by omega) (by simp) (by constructor <;> simp [Value.ownBlock] <;> omega), tinderboxref07_row.own (xs := [1, 0, 0]) (tinderboxref07_row.h1 w _ _ _ _) (by omega) (by simp) (by constructor <;> simp [Value.ownBlock] <;> omega), tinderboxref07_row.own (xs := [15, 1023, 511]) (tinderboxref07_row.h2 w _ _ _ _) (by omega) (by simp) (by constructor <;> simp [Value.ownBlock] <;> omega), by repeat (first | exact Below.refl _ _ | apply below_alloc)⟩
set_option maxHeartbeats 4000000 in
theorem tinderboxref07_row.c2 (c1 c2 c3 c4 c5 : Int) (w : World) : Calls Try.prog 62 #[.agg #[.int .i64 2, .int .i64 c1, .int .i64 c2, .int .i64 c3, .int .i64 c4, .int .i64 c5]] w (tinderboxref07_row.Post w [c1, c2] [1, 0] [15, 1023] true) := by
  go_enter Try.func62, Try.ntmps62
  go_wp2
  refine bodyPost_ret (results_list (rs := [.tmp 2, .tmp 3, .tmp 4, .tmp 5]) rfl (by simp) (.tmp (.tmp (.tmp (.tmp .nil))))) rfl ?_
  exact ⟨_, _, _, rfl, tinderboxref07_row.own (xs := [c1, c2]) (tinderboxref07_row.h0 w _ _ _ _) (by omega) (by simp) (by constructor <;> simp [Value.ownBlock] <;> omega), tinderboxref07_row.own (xs := [1, 0]) (tinderboxref07_row.h1 w _ _ _ _) (by omega) (by simp) (by constructor <;> simp [Value.ownBlock] <;> omega), tinderboxref07_row.own (xs := [15, 1023]) (tinderboxref07_row.h2 w _ _ _ _) (by omega) (by simp) (by constructor <;> simp [Value.ownBlock] <;> omega), by repeat (first | exact Below.refl _ _ | apply below_alloc)⟩
set_option maxHeartbeats 4000000 in
theorem tinderboxref07_row.c3 (c1 c2 c3 c4 c5 : Int) (w : World) : Calls Try.prog 62 #[.agg #[.int .i64 3, .int .i64 c1, .int .i64 c2, .int .i64 c3, .int .i64 c4, .int .i64 c5]] w (tinderboxref07_row.Post w [c3, c4] [0, 0] [511, 511] true) := by
  go_enter Try.func62, Try.ntmps62
  go_wp2
  refine bodyPost_ret (results_list (rs := [.tmp 2, .tmp 3, .tmp 4, .tmp 5]) rfl (by simp) (.tmp (.tmp (.tmp (.tmp .nil))))) rfl ?_
  exact ⟨_, _, _, rfl, tinderboxref07_row.own (xs := [c3, c4]) (tinderboxref07_row.h0 w _ _ _ _) (by omega) (by simp) (by constructor <;> simp [Value.ownBlock] <;> omega), tinderboxref07_row.own (xs := [0, 0]) (tinderboxref07_row.h1 w _ _ _ _) (by omega) (by simp) (by constructor <;> simp [Value.ownBlock] <;> omega), tinderboxref07_row.own (xs := [511, 511]) (tinderboxref07_row.h2 w _ _ _ _) (by omega) (by simp) (by constructor <;> simp [Value.ownBlock] <;> omega), by repeat (first | exact Below.refl _ _ | apply below_alloc)⟩
set_option maxHeartbeats 4000000 in
theorem tinderboxref07_row.c4 (c1 c2 c3 c4 c5 : Int) (w : World) : Calls Try.prog 62 #[.agg #[.int .i64 4, .int .i64 c1, .int .i64 c2, .int .i64 c3, .int .i64 c4, .int .i64 c5]] w (tinderboxref07_row.Post w [c1, c5] [1, 1] [15, 1024] true) := by
  go_enter Try.func62, Try.ntmps62
  go_wp2
  refine bodyPost_ret (results_list (rs := [.tmp 2, .tmp 3, .tmp 4, .tmp 5]) rfl (by simp) (.tmp (.tmp (.tmp (.tmp .nil))))) rfl ?_
  exact ⟨_, _, _, rfl, tinderboxref07_row.own (xs := [c1, c5]) (tinderboxref07_row.h0 w _ _ _ _) (by omega) (by simp) (by constructor <;> simp [Value.ownBlock] <;> omega), tinderboxref07_row.own (xs := [1, 1]) (tinderboxref07_row.h1 w _ _ _ _) (by omega) (by simp) (by constructor <;> simp [Value.ownBlock] <;> omega), tinderboxref07_row.own (xs := [15, 1024]) (tinderboxref07_row.h2 w _ _ _ _) (by omega) (by simp) (by constructor <;> simp [Value.ownBlock] <;> omega), by repeat (first | exact Below.refl _ _ | apply below_alloc)⟩
set_option maxHeartbeats 4000000 in
theorem tinderboxref07_row.c5 (c1 c2 c3 c4 c5 : Int) (w : World) : Calls Try.prog 62 #[.agg #[.int .i64 5, .int .i64 c1, .int .i64 c2, .int .i64 c3, .int .i64 c4, .int .i64 c5]] w (tinderboxref07_row.Post w [c1] [1] [15] true) := by
  go_enter Try.func62, Try.ntmps62
  go_wp2
  refine bodyPost_ret (results_list (rs := [.tmp 2, .tmp 3, .tmp 4, .tmp 5]) rfl (by simp) (.tmp (.tmp (.tmp (.tmp .nil))))) rfl ?_
  exact ⟨_, _, _, rfl, tinderboxref07_row.own (xs := [c1]) (tinderboxref07_row.h0 w _ _ _ _) (by omega) (by simp) (by constructor <;> simp [Value.ownBlock] <;> omega), tinderboxref07_row.own (xs := [1]) (tinderboxref07_row.h1 w _ _ _ _) (by omega) (by simp) (by constructor <;> simp [Value.ownBlock] <;> omega), tinderboxref07_row.own (xs := [15]) (tinderboxref07_row.h2 w _ _ _ _) (by omega) (by simp) (by constructor <;> simp [Value.ownBlock] <;> omega), by repeat (first | exact Below.refl _ _ | apply below_alloc)⟩
set_option maxHeartbeats 4000000 in
theorem tinderboxref07_row.c6 (c1 c2 c3 c4 c5 : Int) (w : World) : Calls Try.prog 62 #[.agg #[.int .i64 6, .int .i64 c1, .int .i64 c2, .int .i64 c3, .int .i64 c4, .int .i64 c5]] w (tinderboxref07_row.Post w [c1, c4] [1, 1] [15, 15] true) := by
  go_enter Try.func62, Try.ntmps62
  go_wp2
  refine bodyPost_ret (results_list (rs := [.tmp 2, .tmp 3, .tmp 4, .tmp 5]) rfl (by simp) (.tmp (.tmp (.tmp (.tmp .nil))))) rfl ?_
  exact ⟨_, _, _, rfl, tinderboxref07_row.own (xs := [c1, c4]) (tinderboxref07_row.h0 w _ _ _ _) (by omega) (by simp) (by constructor <;> simp [Value.ownBlock] <;> omega), tinderboxref07_row.own (xs := [1, 1]) (tinderboxref07_row.h1 w _ _ _ _) (by omega) (by simp) (by constructor <;> simp [Value.ownBlock] <;> omega), tinderboxref07_row.own (xs := [15, 15]) (tinderboxref07_row.h2 w _ _ _ _) (by omega) (by simp) (by constructor <;> simp [Value.ownBlock] <;> omega), by repeat (first | exact Below.refl _ _ | apply below_alloc)⟩
set_option maxHeartbeats 4000000 in
theorem tinderboxref07_row.c7 (c1 c2 c3 c4 c5 : Int) (w : World) : Calls Try.prog 62 #[.agg #[.int .i64 7, .int .i64 c1, .int .i64 c2, .int .i64 c3, .int .i64 c4, .int .i64 c5]] w (tinderboxref07_row.Post w [c1] [1] [15] true) := by
  go_enter Try.func62, Try.ntmps62
  go_wp2
  refine bodyPost_ret (results_list (rs := [.tmp 2, .tmp 3, .tmp 4, .tmp 5]) rfl (by simp) (.tmp (.tmp (.tmp (.tmp .nil))))) rfl ?_
  exact ⟨_, _, _, rfl, tinderboxref07_row.own (xs := [c1]) (tinderboxref07_row.h0 w _ _ _ _) (by omega) (by simp) (by constructor <;> simp [Value.ownBlock] <;> omega), tinderboxref07_row.own (xs := [1]) (tinderboxref07_row.h1 w _ _ _ _) (by omega) (by simp) (by constructor <;> simp [Value.ownBlock] <;> omega), tinderboxref07_row.own (xs := [15]) (tinderboxref07_row.h2 w _ _ _ _) (by omega) (by simp) (by constructor <;> simp [Value.ownBlock] <;> omega), by repeat (first | exact Below.refl _ _ | apply below_alloc)⟩
set_option maxHeartbeats 4000000 in
theorem tinderboxref07_row.c8 (c1 c2 c3 c4 c5 : Int) (w : World) : Calls Try.prog 62 #[.agg #[.int .i64 8, .int .i64 c1, .int .i64 c2, .int .i64 c3, .int .i64 c4, .int .i64 c5]] w (tinderboxref07_row.Post w [c3] [0] [31] true) := by
  go_enter Try.func62, Try.ntmps62
  go_wp2
  refine bodyPost_ret (results_list (rs := [.tmp 2, .tmp 3, .tmp 4, .tmp 5]) rfl (by simp) (.tmp (.tmp (.tmp (.tmp .nil))))) rfl ?_
  exact ⟨_, _, _, rfl, tinderboxref07_row.own (xs := [c3]) (tinderboxref07_row.h0 w _ _ _ _) (by omega) (by simp) (by constructor <;> simp [Value.ownBlock] <;> omega), tinderboxref07_row.own (xs := [0]) (tinderboxref07_row.h1 w _ _ _ _) (by omega) (by simp) (by constructor <;> simp [Value.ownBlock] <;> omega), tinderboxref07_row.own (xs := [31]) (tinderboxref07_row.h2 w _ _ _ _) (by omega) (by simp) (by constructor <;> simp [Value.ownBlock] <;> omega), by repeat (first | exact Below.refl _ _ | apply below_alloc)⟩
set_option maxHeartbeats 4000000 in
theorem tinderboxref07_row.c9 (c1 c2 c3 c4 c5 : Int) (w : World) : Calls Try.prog 62 #[.agg #[.int .i64 9, .int .i64 c1, .int .i64 c2, .int .i64 c3, .int .i64 c4, .int .i64 c5]] w (tinderboxref07_row.Post w [c3, c5] [0, 0] [31, 1073741824] true) := by
  go_enter Try.func62, Try.ntmps62
  go_wp2
  refine bodyPost_ret (results_list (rs := [.tmp 2, .tmp 3, .tmp 4, .tmp 5]) rfl (by simp) (.tmp (.tmp (.tmp (.tmp .nil))))) rfl ?_
  exact ⟨_, _, _, rfl, tinderboxref07_row.own (xs := [c3, c5]) (tinderboxref07_row.h0 w _ _ _ _) (by omega) (by simp) (by constructor <;> simp [Value.ownBlock] <;> omega), tinderboxref07_row.own (xs := [0, 0]) (tinderboxref07_row.h1 w _ _ _ _) (by omega) (by simp) (by constructor <;> simp [Value.ownBlock] <;> omega), tinderboxref07_row.own (xs := [31, 1073741824]) (tinderboxref07_row.h2 w _ _ _ _) (by omega) (by simp) (by constructor <;> simp [Value.ownBlock] <;> omega), by repeat (first | exact Below.refl _ _ | apply below_alloc)⟩
set_option maxHeartbeats 4000000 in
theorem tinderboxref07_row.c0 (k c1 c2 c3 c4 c5 : Int) (w : World) (n1 : k ≠ 1) (n2 : k ≠ 2) (n3 : k ≠ 3) (n4 : k ≠ 4) (n5 : k ≠ 5) (n6 : k ≠ 6) (n7 : k ≠ 7) (n8 : k ≠ 8) (n9 : k ≠ 9) : Calls Try.prog 62 #[.agg #[.int .i64 k, .int .i64 c1, .int .i64 c2, .int .i64 c3, .int .i64 c4, .int .i64 c5]] w (tinderboxref07_row.Post w [] [] [] false) := by
  have b1 : (k == 1) = false := beq_eq_false_iff_ne.mpr n1
  have b2 : (k == 2) = false := beq_eq_false_iff_ne.mpr n2
  have b3 : (k == 3) = false := beq_eq_false_iff_ne.mpr n3
  have b4 : (k == 4) = false := beq_eq_false_iff_ne.mpr n4
  have b5 : (k == 5) = false := beq_eq_false_iff_ne.mpr n5
  have b6 : (k == 6) = false := beq_eq_false_iff_ne.mpr n6
  have b7 : (k == 7) = false := beq_eq_false_iff_ne.mpr n7
  have b8 : (k == 8) = false := beq_eq_false_iff_ne.mpr n8
  have b9 : (k == 9) = false := beq_eq_false_iff_ne.mpr n9
  go_enter Try.func62, Try.ntmps62
  go_wp2
  refine bodyPost_ret (results_list (rs := [.tmp 2, .tmp 3, .tmp 4, .tmp 5]) rfl (by simp) (.tmp (.tmp (.tmp (.tmp .nil))))) rfl ?_
  exact ⟨_, _, _, rfl, Kd.R_nil _ _ _ _ _, Kd.R_nil _ _ _ _ _, Kd.R_nil _ _ _ _ _, by repeat (first | exact Below.refl _ _ | apply below_alloc)⟩
theorem tinderboxref07_row.calls (k : Nat) (a0_0 : Int) (a0_1 : Int) (a0_2 : Int) (a0_3 : Int) (a0_4 : Int) (a0_5 : Int) (r1 : List Int) (r2 : List Int) (r3 : List Int) (r4 : Bool) (w : World) (h : tinderboxref07_row.f k a0_0 a0_1 a0_2 a0_3 a0_4 a0_5 = some (r1, r2, r3, r4)) :
    Calls Try.prog 62 #[.agg #[.int .i64 a0_0, .int .i64 a0_1, .int .i64 a0_2, .int .i64 a0_3, .int .i64 a0_4, .int .i64 a0_5]] w fun e w' => ∃ v0_ v1_ v2_ : Value, e = .returned (.tuple #[v0_, v1_, v2_, .bool r4]) ∧ Kd.R (Kd.int .i64) 3 w' w.heap.size (fun k_ => some k_ ≠ (v1_ : Value).ownBlock ∧ some k_ ≠ (v2_ : Value).ownBlock) v0_ r1 ∧ Kd.R (Kd.int .i64) 3 w' w.heap.size (fun k_ => some k_ ≠ (v0_ : Value).ownBlock ∧ some k_ ≠ (v2_ : Value).ownBlock) v1_ r2 ∧ Kd.R (Kd.int .i64) 3 w' w.heap.size (fun k_ => some k_ ≠ (v0_ : Value).ownBlock ∧ some k_ ≠ (v1_ : Value).ownBlock) v2_ r3 ∧ Below w.heap.size w w' := by
  have h' := Option.some.inj h
  simp only [Prod.mk.injEq] at h'
  obtain ⟨rfl, rfl, rfl, rfl⟩ := h'
  by_cases n1 : a0_0 = 1
  · subst n1; exact tinderboxref07_row.c1 a0_1 a0_2 a0_3 a0_4 a0_5 w
  by_cases n2 : a0_0 = 2
  · subst n2; exact tinderboxref07_row.c2 a0_1 a0_2 a0_3 a0_4 a0_5 w
  by_cases n3 : a0_0 = 3
  · subst n3; exact tinderboxref07_row.c3 a0_1 a0_2 a0_3 a0_4 a0_5 w
  by_cases n4 : a0_0 = 4
  · subst n4; exact tinderboxref07_row.c4 a0_1 a0_2 a0_3 a0_4 a0_5 w
  by_cases n5 : a0_0 = 5
  · subst n5; exact tinderboxref07_row.c5 a0_1 a0_2 a0_3 a0_4 a0_5 w
  by_cases n6 : a0_0 = 6
  · subst n6; exact tinderboxref07_row.c6 a0_1 a0_2 a0_3 a0_4 a0_5 w
  by_cases n7 : a0_0 = 7
  · subst n7; exact tinderboxref07_row.c7 a0_1 a0_2 a0_3 a0_4 a0_5 w
  by_cases n8 : a0_0 = 8
  · subst n8; exact tinderboxref07_row.c8 a0_1 a0_2 a0_3 a0_4 a0_5 w
  by_cases n9 : a0_0 = 9
  · subst n9; exact tinderboxref07_row.c9 a0_1 a0_2 a0_3 a0_4 a0_5 w
  rw [Rc.flds_none n1 n2 n3 n4 n5 n6 n7 n8 n9, Rc.mosts_none n1 n2 n3 n4 n5 n6 n7 n8 n9, show tinderboxref07_row.least a0_0 = [] from by unfold tinderboxref07_row.least; rw [if_neg n1, if_neg n2, if_neg n3, if_neg n4, if_neg n5, if_neg n6, if_neg n7, if_neg n8, if_neg n9], show tinderboxref07_row.known a0_0 = false from by unfold tinderboxref07_row.known; simp [n1, n2, n3, n4, n5, n6, n7, n8, n9]]
  exact tinderboxref07_row.c0 a0_0 a0_1 a0_2 a0_3 a0_4 a0_5 w n1 n2 n3 n4 n5 n6 n7 n8 n9

end Go.Proofs.Ytoiahmdibibceaa.XRecChecks
