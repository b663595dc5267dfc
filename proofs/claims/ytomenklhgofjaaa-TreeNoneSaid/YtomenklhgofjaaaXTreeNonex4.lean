-- Written by xprint.py of this repo (the kit's print with turns of our own) out of the translation.
import Derived.Test.YtomenklhgofjaaaXTreeNonex0
import Derived.Test.YtomenklhgofjaaaXTreeNonex3
namespace Go.Proofs.Ytomenklhgofjaaa.XTreeNone
open Go.RowKit Go.Proofs.YtomenklhgofjaaaW.PrintWords Go.Proofs.YtomenklhgofjaaaW.PrintLast Go.Proofs.YtomenklhgofjaaaW.PrintMore
attribute [local go_sem] max2_int min2_int max_two min_two max_three min_three max_four min_four   -- for this text's walks alone
set_option linter.unusedVariables false
set_option linter.unusedSimpArgs false

/-! ### tree_Gather_long: function 59 -/
/-! By hand where it is wanted: see the law's own text. -/

/-! ### tree_Gather_Add: function 38 -/
/-! By hand where it is wanted: see the law's own text. -/

/-! ### tree_Gather_Next: function 39 -/
/-! By hand where it is wanted: see the law's own text. -/

/-! ### tree_Gather_Whole: function 40 -/
/-! By hand where it is wanted: see the law's own text. -/

/-! ### tinderboxlaw37_TreeNone: function 13 -/
theorem info4b : (Try.prog.info? 4).map (fun i => (i.zero, i.size, i.bytes)) = some (some (.bool false), 1, 1) := by kernel_rfl
theorem nil_Add (w : World) : Calls Try.prog 38 #[.pointer none, .int .i64 0, .string ⟨#[]⟩, .slice none 0 0] w fun e w' => e = .returned (.tuple #[.bool false, .int .i64 1]) ∧ Drawn0 w w' := by
  go_enter Try.func38, Try.ntmps38
  go_wp2
  go_ret2
  exact ⟨rfl, by repeat (first | exact Drawn0.refl _ | apply Drawn0.step)⟩
theorem nil_Next (w : World) : Calls Try.prog 39 #[.pointer none] w fun e w' => e = .returned (.tuple #[.int .i64 0, .bool false]) ∧ Drawn0 w w' := by
  go_enter Try.func39, Try.ntmps39
  go_wp2
  go_ret2
  exact ⟨rfl, by repeat (first | exact Drawn0.refl _ | apply Drawn0.step)⟩
theorem nil_Many (w : World) : Calls Try.prog 37 #[.pointer none] w fun e w' => e = .returned (.int .i64 0) ∧ Drawn0 w w' := by
  go_enter Try.func37, Try.ntmps37
  go_wp2
  go_ret
  exact ⟨rfl, by repeat (first | exact Drawn0.refl _ | apply Drawn0.step)⟩
theorem nil_Whole (w : World) : Calls Try.prog 40 #[.pointer none] w fun e w' => e = .returned (.bool false) ∧ Drawn0 w w' := by
  go_enter Try.func40, Try.ntmps40
  go_wp2
  go_quiet (fail)
  go_wp2
  go_ret
  exact ⟨rfl, ⟨_, rfl⟩⟩
/-- May a gatherer be made? -/
def mayG (n : Nat) (l s : Int) : Prop := n = 32 ∧ 0 ≤ l ∧ l ≤ 1048576 ∧ 1 ≤ s ∧ s ≤ 1048576
theorem new_bad (t : ByteArray) (l s : Int) (w : World) (h : ¬ mayG t.size l s) : Calls Try.prog 36 #[.string t, .int .i64 l, .int .i64 s] w fun e w' => e = .returned (.tuple #[.pointer none, .int .i64 1]) ∧ Drawn0 w w' := by
  have fin : ∀ b1 b2 b3 b4 b5 : Bool, ((t.size : Int) != 32) = b1 → decide (l < 0) = b2 → decide (l > 1048576) = b3 → decide (s < 1) = b4 → decide (s > 1048576) = b5 → (b1 || b2 || b3 || b4 || b5) = true →
      Calls Try.prog 36 #[.string t, .int .i64 l, .int .i64 s] w fun e w' => e = .returned (.tuple #[.pointer none, .int .i64 1]) ∧ Drawn0 w w' := by
    intro b1 b2 b3 b4 b5 h1 h2 h3 h4 h5 hb
    cases b1
    all_goals cases b2
    all_goals cases b3
    all_goals cases b4
    all_goals cases b5
    all_goals first
      | (exfalso; revert hb; decide)
      | (clear hb
         go_enter Try.func36, Try.ntmps36
         go_wp2
         go_ret2
         exact ⟨rfl, by repeat (first | exact Drawn0.refl _ | apply Drawn0.step)⟩)
  refine fin _ _ _ _ _ rfl rfl rfl rfl rfl ?_
  simp only [Bool.or_eq_true, bne_iff_ne, decide_eq_true_eq]
  unfold mayG at h
  omega
set_option maxRecDepth 100000 in
set_option maxHeartbeats 4000000 in
theorem new_ok (t : ByteArray) (l s : Int) (w : World) (h : mayG t.size l s) : Calls Try.prog 36 #[.string t, .int .i64 l, .int .i64 s] w fun e w' => ∃ g : Nat, e = .returned (.tuple #[.pointer (some ⟨g, 0, none⟩), .int .i64 0]) ∧ Below w.heap.size w w' := by
  obtain ⟨h1, h2, h3, h4, h5⟩ := h
  have c1 : ((t.size : Int) != 32) = false := by rw [h1]; rfl
  have c2 : decide (l < 0) = false := decide_eq_false (by omega)
  have c3 : decide (l > 1048576) = false := decide_eq_false (by omega)
  have c4 : decide (s < 1) = false := decide_eq_false (by omega)
  have c5 : decide (s > 1048576) = false := decide_eq_false (by omega)
  have q0 : 0 ≤ Int.tdiv (l + s - 1) s := Int.tdiv_nonneg (by omega) (by omega)
  have q1 : Int.tdiv (l + s - 1) s ≤ 2097152 := by
    rw [Int.tdiv_eq_ediv_of_nonneg (by omega)]
    have := Int.ediv_le_self s (show 0 ≤ l + s - 1 by omega)
    omega
  have z1 : IntKind.i64.wrap (l + s) = l + s := by rw [IntKind.wrap_i64]; omega
  have z2 : IntKind.i64.wrap (l + s - 1) = l + s - 1 := by rw [IntKind.wrap_i64]; omega
  have z3 : (s == 0) = false := beq_eq_false_iff_ne.mpr (by omega)
  have z5 : (s = 0) = False := eq_false (by omega)
  obtain ⟨n, hn⟩ : ∃ n, Int.tdiv (l + s - 1) s = n := ⟨_, rfl⟩
  rw [hn] at q0 q1
  have z4 : IntKind.i64.wrap n = n := by rw [IntKind.wrap_i64]; omega
  have Q := Aside0.mk (show n.toNat * 1 ≤ 281474976710656 by omega)
  have Q0 := Aside0.mk q0
  clear q0 q1 h1 h2 h3 h4 h5
  go_enter Try.func36, Try.ntmps36
  go_wp2_with (first | ((with_reducible refine gate_dst (N := 36) rfl ?_); refine Kd.R_make Kd.bool _ 4 rfl (N := 36) rfl 53 _ _ rfl n rfl rfl Try.underlying53 (.bool false) 1 info4b rfl (by decide) (by omega) false (ok := fun _ => True) (okp := fun _ => True) rfl (fun _ hk => hk) trivial Q0.out Q.out (Below.refl _ _) (Nat.le_refl _) ?_; intro v1 w8 ho hb hg_ hnew_; obtain ⟨Ao, co, eo⟩ := Kd.R_slice ho; subst eo; have HB := Aside0.mk hb; clear hb hg_ hnew_ ho))
  go_ret2
  exact ⟨_, rfl, by repeat (first | exact HB.out | apply below_alloc | apply pw_below_drewN)⟩
set_option maxRecDepth 100000 in
set_option maxHeartbeats 8000000 in
theorem none_ok (k : Nat) (h : tinderboxlaw37_awake.f k = some true) (a0 : ByteArray) (a1 : Int) (a2 : Int) (t : ByteArray) (ht : a0.extract 0 (if (40 : Int) < (a0.size : Int) then 40 else (a0.size : Int)).toNat = t) (hm : mayG t.size a1 a2) (w : World) (hD : ¬ a1 > 5000 ∨ a1 > 5000 ∧ ¬ a1 ≤ 1048576 ∨ a1 > 5000 ∧ a1 ≤ 1048576 ∧ ¬ a2 < 10) :
    Calls Try.prog 13 #[.string a0, .int .i64 a1, .int .i64 a2] w fun e w' => e = .returned (.bool true) ∧ Below w.heap.size w w' := by
  have H := Aside0.mk h
  have q1 := eq_true (show (0 : Int) ≤ (if (40 : Int) < (a0.size : Int) then 40 else (a0.size : Int)) by split <;> omega)
  have q2 := eq_true (show (if (40 : Int) < (a0.size : Int) then 40 else (a0.size : Int)) ≤ (a0.size : Int) by split <;> omega)
  clear h
  have hm' := hm
  obtain ⟨h1, h2, h3, h4, h5⟩ := hm'
  have c1 : ((t.size : Int) == 32) = true := by rw [h1]; rfl
  have c2 : decide (a1 ≥ 0) = true := decide_eq_true h2
  have c3 : decide (a1 ≤ 1048576) = true := decide_eq_true h3
  have c4 : decide (a2 ≥ 1) = true := decide_eq_true h4
  have c5 : decide (a2 ≤ 1048576) = true := decide_eq_true h5
  rcases hD with hD | hD | hD
  · have d1 : decide (a1 > 5000) = false := decide_eq_false hD
    clear h1 h2 h3 h4 h5 hD
    go_enter Try.func13, Try.ntmps13
    go_upto_region 7 with (first
    | (go_at_call 38; (with_reducible refine (nil_Add _).mono ?_); rintro e w' ⟨rfl, ⟨nd, rfl⟩⟩)
    | (go_at_call 39; (with_reducible refine (nil_Next _).mono ?_); rintro e w' ⟨rfl, ⟨nd, rfl⟩⟩)
    | (go_at_call 40; (with_reducible refine (nil_Whole _).mono ?_); rintro e w' ⟨rfl, ⟨nd, rfl⟩⟩)
    | (go_at_call 37; (with_reducible refine (nil_Many _).mono ?_); rintro e w' ⟨rfl, ⟨nd, rfl⟩⟩)
    | (go_at_call 36; (with_reducible refine (new_ok t a1 a2 _ hm).mono ?_); rintro e w8 ⟨g, rfl, hb⟩; have HB := Aside0.mk (below_step (show Below w.heap.size w _ from by repeat (first | exact Below.refl _ _ | apply pw_below_drewN)) hb); clear hb)
    | (go_at_call 29; (with_reducible refine (tinderboxlaw37_awake.calls k true _ H.out).mono ?_); rintro e w9 ⟨rfl, hb⟩; have HB2 := Aside0.mk (below_step (show Below w.heap.size w _ from by repeat (first | exact HB.out | exact Below.refl _ _ | apply pw_below_drewN)) hb); clear hb))
    try rw [ht]
    go_wp2_with (first
    | (go_at_call 38; (with_reducible refine (nil_Add _).mono ?_); rintro e w' ⟨rfl, ⟨nd, rfl⟩⟩)
    | (go_at_call 39; (with_reducible refine (nil_Next _).mono ?_); rintro e w' ⟨rfl, ⟨nd, rfl⟩⟩)
    | (go_at_call 40; (with_reducible refine (nil_Whole _).mono ?_); rintro e w' ⟨rfl, ⟨nd, rfl⟩⟩)
    | (go_at_call 37; (with_reducible refine (nil_Many _).mono ?_); rintro e w' ⟨rfl, ⟨nd, rfl⟩⟩)
    | (go_at_call 36; (with_reducible refine (new_ok t a1 a2 _ hm).mono ?_); rintro e w8 ⟨g, rfl, hb⟩; have HB := Aside0.mk (below_step (show Below w.heap.size w _ from by repeat (first | exact Below.refl _ _ | apply pw_below_drewN)) hb); clear hb)
    | (go_at_call 29; (with_reducible refine (tinderboxlaw37_awake.calls k true _ H.out).mono ?_); rintro e w9 ⟨rfl, hb⟩; have HB2 := Aside0.mk (below_step (show Below w.heap.size w _ from by repeat (first | exact HB.out | exact Below.refl _ _ | apply pw_below_drewN)) hb); clear hb))
    all_goals go_ret
    all_goals exact ⟨rfl, by repeat (first | exact HB2.out | exact HB.out | exact Below.refl _ _ | apply pw_below_drewN)⟩
  · exact absurd h3 hD.2
  · have d1 : decide (a1 > 5000) = true := decide_eq_true hD.1
    have d2 : decide (a2 < 10) = false := decide_eq_false hD.2.2
    clear h1 h2 h3 h4 h5 hD
    go_enter Try.func13, Try.ntmps13
    go_upto_region 7 with (first
    | (go_at_call 38; (with_reducible refine (nil_Add _).mono ?_); rintro e w' ⟨rfl, ⟨nd, rfl⟩⟩)
    | (go_at_call 39; (with_reducible refine (nil_Next _).mono ?_); rintro e w' ⟨rfl, ⟨nd, rfl⟩⟩)
    | (go_at_call 40; (with_reducible refine (nil_Whole _).mono ?_); rintro e w' ⟨rfl, ⟨nd, rfl⟩⟩)
    | (go_at_call 37; (with_reducible refine (nil_Many _).mono ?_); rintro e w' ⟨rfl, ⟨nd, rfl⟩⟩)
    | (go_at_call 36; (with_reducible refine (new_ok t a1 a2 _ hm).mono ?_); rintro e w8 ⟨g, rfl, hb⟩; have HB := Aside0.mk (below_step (show Below w.heap.size w _ from by repeat (first | exact Below.refl _ _ | apply pw_below_drewN)) hb); clear hb)
    | (go_at_call 29; (with_reducible refine (tinderboxlaw37_awake.calls k true _ H.out).mono ?_); rintro e w9 ⟨rfl, hb⟩; have HB2 := Aside0.mk (below_step (show Below w.heap.size w _ from by repeat (first | exact HB.out | exact Below.refl _ _ | apply pw_below_drewN)) hb); clear hb))
    try rw [ht]
    go_wp2_with (first
    | (go_at_call 38; (with_reducible refine (nil_Add _).mono ?_); rintro e w' ⟨rfl, ⟨nd, rfl⟩⟩)
    | (go_at_call 39; (with_reducible refine (nil_Next _).mono ?_); rintro e w' ⟨rfl, ⟨nd, rfl⟩⟩)
    | (go_at_call 40; (with_reducible refine (nil_Whole _).mono ?_); rintro e w' ⟨rfl, ⟨nd, rfl⟩⟩)
    | (go_at_call 37; (with_reducible refine (nil_Many _).mono ?_); rintro e w' ⟨rfl, ⟨nd, rfl⟩⟩)
    | (go_at_call 36; (with_reducible refine (new_ok t a1 a2 _ hm).mono ?_); rintro e w8 ⟨g, rfl, hb⟩; have HB := Aside0.mk (below_step (show Below w.heap.size w _ from by repeat (first | exact Below.refl _ _ | apply pw_below_drewN)) hb); clear hb)
    | (go_at_call 29; (with_reducible refine (tinderboxlaw37_awake.calls k true _ H.out).mono ?_); rintro e w9 ⟨rfl, hb⟩; have HB2 := Aside0.mk (below_step (show Below w.heap.size w _ from by repeat (first | exact HB.out | exact Below.refl _ _ | apply pw_below_drewN)) hb); clear hb))
    all_goals go_ret
    all_goals exact ⟨rfl, by repeat (first | exact HB2.out | exact HB.out | exact Below.refl _ _ | apply pw_below_drewN)⟩
set_option maxRecDepth 100000 in
set_option maxHeartbeats 8000000 in
theorem none_bad1 (k : Nat) (h : tinderboxlaw37_awake.f k = some true) (a0 : ByteArray) (a1 : Int) (a2 : Int) (t : ByteArray) (ht : a0.extract 0 (if (40 : Int) < (a0.size : Int) then 40 else (a0.size : Int)).toNat = t) (hm : (¬ t.size = 32)) (w : World) (hD : ¬ a1 > 5000 ∨ a1 > 5000 ∧ ¬ a1 ≤ 1048576 ∨ a1 > 5000 ∧ a1 ≤ 1048576 ∧ ¬ a2 < 10) :
    Calls Try.prog 13 #[.string a0, .int .i64 a1, .int .i64 a2] w fun e w' => e = .returned (.bool true) ∧ Below w.heap.size w w' := by
  have H := Aside0.mk h
  have q1 := eq_true (show (0 : Int) ≤ (if (40 : Int) < (a0.size : Int) then 40 else (a0.size : Int)) by split <;> omega)
  have q2 := eq_true (show (if (40 : Int) < (a0.size : Int) then 40 else (a0.size : Int)) ≤ (a0.size : Int) by split <;> omega)
  clear h
  have hm' : ¬ mayG t.size a1 a2 := by unfold mayG; omega
  rcases hD with hD | hD | hD
  · have d0 : decide (a1 > 5000) = false := decide_eq_false (by omega)
    have d1 : ((t.size : Int) == 32) = false := beq_eq_false_iff_ne.mpr (by omega)
    clear hm hD
    have hm := hm'
    clear hm'
    go_enter Try.func13, Try.ntmps13
    go_upto_region 7 with (first
    | (go_at_call 38; (with_reducible refine (nil_Add _).mono ?_); rintro e w' ⟨rfl, ⟨nd, rfl⟩⟩)
    | (go_at_call 39; (with_reducible refine (nil_Next _).mono ?_); rintro e w' ⟨rfl, ⟨nd, rfl⟩⟩)
    | (go_at_call 40; (with_reducible refine (nil_Whole _).mono ?_); rintro e w' ⟨rfl, ⟨nd, rfl⟩⟩)
    | (go_at_call 37; (with_reducible refine (nil_Many _).mono ?_); rintro e w' ⟨rfl, ⟨nd, rfl⟩⟩)
    | (go_at_call 36; (with_reducible refine (new_bad t a1 a2 _ hm).mono ?_); rintro e w8 ⟨rfl, ⟨nd, rfl⟩⟩)
    | (go_at_call 29; (with_reducible refine (tinderboxlaw37_awake.calls k true _ H.out).mono ?_); rintro e w9 ⟨rfl, hb⟩; have HB2 := Aside0.mk (below_step (show Below w.heap.size w _ from by repeat (first | exact HB.out | exact Below.refl _ _ | apply pw_below_drewN)) hb); clear hb))
    try rw [ht]
    go_wp2_with (first
    | (go_at_call 38; (with_reducible refine (nil_Add _).mono ?_); rintro e w' ⟨rfl, ⟨nd, rfl⟩⟩)
    | (go_at_call 39; (with_reducible refine (nil_Next _).mono ?_); rintro e w' ⟨rfl, ⟨nd, rfl⟩⟩)
    | (go_at_call 40; (with_reducible refine (nil_Whole _).mono ?_); rintro e w' ⟨rfl, ⟨nd, rfl⟩⟩)
    | (go_at_call 37; (with_reducible refine (nil_Many _).mono ?_); rintro e w' ⟨rfl, ⟨nd, rfl⟩⟩)
    | (go_at_call 36; (with_reducible refine (new_bad t a1 a2 _ hm).mono ?_); rintro e w8 ⟨rfl, ⟨nd, rfl⟩⟩)
    | (go_at_call 29; (with_reducible refine (tinderboxlaw37_awake.calls k true _ H.out).mono ?_); rintro e w9 ⟨rfl, hb⟩; have HB2 := Aside0.mk (below_step (show Below w.heap.size w _ from by repeat (first | exact HB.out | exact Below.refl _ _ | apply pw_below_drewN)) hb); clear hb))
    all_goals go_ret
    all_goals exact ⟨rfl, by repeat (first | exact HB2.out | exact Below.refl _ _ | apply pw_below_drewN)⟩
  · have d0 : decide (a1 > 5000) = true := decide_eq_true (by omega)
    have d1 : decide (a1 ≤ 1048576) = false := decide_eq_false (by omega)
    have d2 : ((t.size : Int) == 32) = false := beq_eq_false_iff_ne.mpr (by omega)
    clear hm hD
    have hm := hm'
    clear hm'
    go_enter Try.func13, Try.ntmps13
    go_upto_region 7 with (first
    | (go_at_call 38; (with_reducible refine (nil_Add _).mono ?_); rintro e w' ⟨rfl, ⟨nd, rfl⟩⟩)
    | (go_at_call 39; (with_reducible refine (nil_Next _).mono ?_); rintro e w' ⟨rfl, ⟨nd, rfl⟩⟩)
    | (go_at_call 40; (with_reducible refine (nil_Whole _).mono ?_); rintro e w' ⟨rfl, ⟨nd, rfl⟩⟩)
    | (go_at_call 37; (with_reducible refine (nil_Many _).mono ?_); rintro e w' ⟨rfl, ⟨nd, rfl⟩⟩)
    | (go_at_call 36; (with_reducible refine (new_bad t a1 a2 _ hm).mono ?_); rintro e w8 ⟨rfl, ⟨nd, rfl⟩⟩)
    | (go_at_call 29; (with_reducible refine (tinderboxlaw37_awake.calls k true _ H.out).mono ?_); rintro e w9 ⟨rfl, hb⟩; have HB2 := Aside0.mk (below_step (show Below w.heap.size w _ from by repeat (first | exact HB.out | exact Below.refl _ _ | apply pw_below_drewN)) hb); clear hb))
    try rw [ht]
    go_wp2_with (first
    | (go_at_call 38; (with_reducible refine (nil_Add _).mono ?_); rintro e w' ⟨rfl, ⟨nd, rfl⟩⟩)
    | (go_at_call 39; (with_reducible refine (nil_Next _).mono ?_); rintro e w' ⟨rfl, ⟨nd, rfl⟩⟩)
    | (go_at_call 40; (with_reducible refine (nil_Whole _).mono ?_); rintro e w' ⟨rfl, ⟨nd, rfl⟩⟩)
    | (go_at_call 37; (with_reducible refine (nil_Many _).mono ?_); rintro e w' ⟨rfl, ⟨nd, rfl⟩⟩)
    | (go_at_call 36; (with_reducible refine (new_bad t a1 a2 _ hm).mono ?_); rintro e w8 ⟨rfl, ⟨nd, rfl⟩⟩)
    | (go_at_call 29; (with_reducible refine (tinderboxlaw37_awake.calls k true _ H.out).mono ?_); rintro e w9 ⟨rfl, hb⟩; have HB2 := Aside0.mk (below_step (show Below w.heap.size w _ from by repeat (first | exact HB.out | exact Below.refl _ _ | apply pw_below_drewN)) hb); clear hb))
    all_goals go_ret
    all_goals exact ⟨rfl, by repeat (first | exact HB2.out | exact Below.refl _ _ | apply pw_below_drewN)⟩
  · have d0 : decide (a1 > 5000) = true := decide_eq_true (by omega)
    have d1 : decide (a1 ≤ 1048576) = true := decide_eq_true (by omega)
    have d2 : decide (a2 < 10) = false := decide_eq_false (by omega)
    have d3 : ((t.size : Int) == 32) = false := beq_eq_false_iff_ne.mpr (by omega)
    clear hm hD
    have hm := hm'
    clear hm'
    go_enter Try.func13, Try.ntmps13
    go_upto_region 7 with (first
    | (go_at_call 38; (with_reducible refine (nil_Add _).mono ?_); rintro e w' ⟨rfl, ⟨nd, rfl⟩⟩)
    | (go_at_call 39; (with_reducible refine (nil_Next _).mono ?_); rintro e w' ⟨rfl, ⟨nd, rfl⟩⟩)
    | (go_at_call 40; (with_reducible refine (nil_Whole _).mono ?_); rintro e w' ⟨rfl, ⟨nd, rfl⟩⟩)
    | (go_at_call 37; (with_reducible refine (nil_Many _).mono ?_); rintro e w' ⟨rfl, ⟨nd, rfl⟩⟩)
    | (go_at_call 36; (with_reducible refine (new_bad t a1 a2 _ hm).mono ?_); rintro e w8 ⟨rfl, ⟨nd, rfl⟩⟩)
    | (go_at_call 29; (with_reducible refine (tinderboxlaw37_awake.calls k true _ H.out).mono ?_); rintro e w9 ⟨rfl, hb⟩; have HB2 := Aside0.mk (below_step (show Below w.heap.size w _ from by repeat (first | exact HB.out | exact Below.refl _ _ | apply pw_below_drewN)) hb); clear hb))
    try rw [ht]
    go_wp2_with (first
    | (go_at_call 38; (with_reducible refine (nil_Add _).mono ?_); rintro e w' ⟨rfl, ⟨nd, rfl⟩⟩)
    | (go_at_call 39; (with_reducible refine (nil_Next _).mono ?_); rintro e w' ⟨rfl, ⟨nd, rfl⟩⟩)
    | (go_at_call 40; (with_reducible refine (nil_Whole _).mono ?_); rintro e w' ⟨rfl, ⟨nd, rfl⟩⟩)
    | (go_at_call 37; (with_reducible refine (nil_Many _).mono ?_); rintro e w' ⟨rfl, ⟨nd, rfl⟩⟩)
    | (go_at_call 36; (with_reducible refine (new_bad t a1 a2 _ hm).mono ?_); rintro e w8 ⟨rfl, ⟨nd, rfl⟩⟩)
    | (go_at_call 29; (with_reducible refine (tinderboxlaw37_awake.calls k true _ H.out).mono ?_); rintro e w9 ⟨rfl, hb⟩; have HB2 := Aside0.mk (below_step (show Below w.heap.size w _ from by repeat (first | exact HB.out | exact Below.refl _ _ | apply pw_below_drewN)) hb); clear hb))
    all_goals go_ret
    all_goals exact ⟨rfl, by repeat (first | exact HB2.out | exact Below.refl _ _ | apply pw_below_drewN)⟩
set_option maxRecDepth 100000 in
set_option maxHeartbeats 8000000 in
theorem none_bad2 (k : Nat) (h : tinderboxlaw37_awake.f k = some true) (a0 : ByteArray) (a1 : Int) (a2 : Int) (t : ByteArray) (ht : a0.extract 0 (if (40 : Int) < (a0.size : Int) then 40 else (a0.size : Int)).toNat = t) (hm : (t.size = 32 ∧ ¬ 0 ≤ a1)) (w : World) (hD : ¬ a1 > 5000 ∨ a1 > 5000 ∧ ¬ a1 ≤ 1048576 ∨ a1 > 5000 ∧ a1 ≤ 1048576 ∧ ¬ a2 < 10) :
    Calls Try.prog 13 #[.string a0, .int .i64 a1, .int .i64 a2] w fun e w' => e = .returned (.bool true) ∧ Below w.heap.size w w' := by
  have H := Aside0.mk h
  have q1 := eq_true (show (0 : Int) ≤ (if (40 : Int) < (a0.size : Int) then 40 else (a0.size : Int)) by split <;> omega)
  have q2 := eq_true (show (if (40 : Int) < (a0.size : Int) then 40 else (a0.size : Int)) ≤ (a0.size : Int) by split <;> omega)
  clear h
  have hm' : ¬ mayG t.size a1 a2 := by unfold mayG; omega
  rcases hD with hD | hD | hD
  · have d0 : decide (a1 > 5000) = false := decide_eq_false (by omega)
    have d1 : ((t.size : Int) == 32) = true := beq_iff_eq.mpr (by omega)
    have d2 : decide (a1 ≥ 0) = false := decide_eq_false (by omega)
    clear hm hD
    have hm := hm'
    clear hm'
    go_enter Try.func13, Try.ntmps13
    go_upto_region 7 with (first
    | (go_at_call 38; (with_reducible refine (nil_Add _).mono ?_); rintro e w' ⟨rfl, ⟨nd, rfl⟩⟩)
    | (go_at_call 39; (with_reducible refine (nil_Next _).mono ?_); rintro e w' ⟨rfl, ⟨nd, rfl⟩⟩)
    | (go_at_call 40; (with_reducible refine (nil_Whole _).mono ?_); rintro e w' ⟨rfl, ⟨nd, rfl⟩⟩)
    | (go_at_call 37; (with_reducible refine (nil_Many _).mono ?_); rintro e w' ⟨rfl, ⟨nd, rfl⟩⟩)
    | (go_at_call 36; (with_reducible refine (new_bad t a1 a2 _ hm).mono ?_); rintro e w8 ⟨rfl, ⟨nd, rfl⟩⟩)
    | (go_at_call 29; (with_reducible refine (tinderboxlaw37_awake.calls k true _ H.out).mono ?_); rintro e w9 ⟨rfl, hb⟩; have HB2 := Aside0.mk (below_step (show Below w.heap.size w _ from by repeat (first | exact HB.out | exact Below.refl _ _ | apply pw_below_drewN)) hb); clear hb))
    try rw [ht]
    go_wp2_with (first
    | (go_at_call 38; (with_reducible refine (nil_Add _).mono ?_); rintro e w' ⟨rfl, ⟨nd, rfl⟩⟩)
    | (go_at_call 39; (with_reducible refine (nil_Next _).mono ?_); rintro e w' ⟨rfl, ⟨nd, rfl⟩⟩)
    | (go_at_call 40; (with_reducible refine (nil_Whole _).mono ?_); rintro e w' ⟨rfl, ⟨nd, rfl⟩⟩)
    | (go_at_call 37; (with_reducible refine (nil_Many _).mono ?_); rintro e w' ⟨rfl, ⟨nd, rfl⟩⟩)
    | (go_at_call 36; (with_reducible refine (new_bad t a1 a2 _ hm).mono ?_); rintro e w8 ⟨rfl, ⟨nd, rfl⟩⟩)
    | (go_at_call 29; (with_reducible refine (tinderboxlaw37_awake.calls k true _ H.out).mono ?_); rintro e w9 ⟨rfl, hb⟩; have HB2 := Aside0.mk (below_step (show Below w.heap.size w _ from by repeat (first | exact HB.out | exact Below.refl _ _ | apply pw_below_drewN)) hb); clear hb))
    all_goals go_ret
    all_goals exact ⟨rfl, by repeat (first | exact HB2.out | exact Below.refl _ _ | apply pw_below_drewN)⟩
  · exfalso; omega
  · exfalso; omega
set_option maxRecDepth 100000 in
set_option maxHeartbeats 8000000 in
theorem none_bad3 (k : Nat) (h : tinderboxlaw37_awake.f k = some true) (a0 : ByteArray) (a1 : Int) (a2 : Int) (t : ByteArray) (ht : a0.extract 0 (if (40 : Int) < (a0.size : Int) then 40 else (a0.size : Int)).toNat = t) (hm : (t.size = 32 ∧ 0 ≤ a1 ∧ ¬ a1 ≤ 1048576)) (w : World) (hD : ¬ a1 > 5000 ∨ a1 > 5000 ∧ ¬ a1 ≤ 1048576 ∨ a1 > 5000 ∧ a1 ≤ 1048576 ∧ ¬ a2 < 10) :
    Calls Try.prog 13 #[.string a0, .int .i64 a1, .int .i64 a2] w fun e w' => e = .returned (.bool true) ∧ Below w.heap.size w w' := by
  have H := Aside0.mk h
  have q1 := eq_true (show (0 : Int) ≤ (if (40 : Int) < (a0.size : Int) then 40 else (a0.size : Int)) by split <;> omega)
  have q2 := eq_true (show (if (40 : Int) < (a0.size : Int) then 40 else (a0.size : Int)) ≤ (a0.size : Int) by split <;> omega)
  clear h
  have hm' : ¬ mayG t.size a1 a2 := by unfold mayG; omega
  rcases hD with hD | hD | hD
  · have d0 : decide (a1 > 5000) = false := decide_eq_false (by omega)
    have d1 : ((t.size : Int) == 32) = true := beq_iff_eq.mpr (by omega)
    have d2 : decide (a1 ≥ 0) = true := decide_eq_true (by omega)
    have d3 : decide (a1 ≤ 1048576) = false := decide_eq_false (by omega)
    clear hm hD
    have hm := hm'
    clear hm'
    go_enter Try.func13, Try.ntmps13
    go_upto_region 7 with (first
    | (go_at_call 38; (with_reducible refine (nil_Add _).mono ?_); rintro e w' ⟨rfl, ⟨nd, rfl⟩⟩)
    | (go_at_call 39; (with_reducible refine (nil_Next _).mono ?_); rintro e w' ⟨rfl, ⟨nd, rfl⟩⟩)
    | (go_at_call 40; (with_reducible refine (nil_Whole _).mono ?_); rintro e w' ⟨rfl, ⟨nd, rfl⟩⟩)
    | (go_at_call 37; (with_reducible refine (nil_Many _).mono ?_); rintro e w' ⟨rfl, ⟨nd, rfl⟩⟩)
    | (go_at_call 36; (with_reducible refine (new_bad t a1 a2 _ hm).mono ?_); rintro e w8 ⟨rfl, ⟨nd, rfl⟩⟩)
    | (go_at_call 29; (with_reducible refine (tinderboxlaw37_awake.calls k true _ H.out).mono ?_); rintro e w9 ⟨rfl, hb⟩; have HB2 := Aside0.mk (below_step (show Below w.heap.size w _ from by repeat (first | exact HB.out | exact Below.refl _ _ | apply pw_below_drewN)) hb); clear hb))
    try rw [ht]
    go_wp2_with (first
    | (go_at_call 38; (with_reducible refine (nil_Add _).mono ?_); rintro e w' ⟨rfl, ⟨nd, rfl⟩⟩)
    | (go_at_call 39; (with_reducible refine (nil_Next _).mono ?_); rintro e w' ⟨rfl, ⟨nd, rfl⟩⟩)
    | (go_at_call 40; (with_reducible refine (nil_Whole _).mono ?_); rintro e w' ⟨rfl, ⟨nd, rfl⟩⟩)
    | (go_at_call 37; (with_reducible refine (nil_Many _).mono ?_); rintro e w' ⟨rfl, ⟨nd, rfl⟩⟩)
    | (go_at_call 36; (with_reducible refine (new_bad t a1 a2 _ hm).mono ?_); rintro e w8 ⟨rfl, ⟨nd, rfl⟩⟩)
    | (go_at_call 29; (with_reducible refine (tinderboxlaw37_awake.calls k true _ H.out).mono ?_); rintro e w9 ⟨rfl, hb⟩; have HB2 := Aside0.mk (below_step (show Below w.heap.size w _ from by repeat (first | exact HB.out | exact Below.refl _ _ | apply pw_below_drewN)) hb); clear hb))
    all_goals go_ret
    all_goals exact ⟨rfl, by repeat (first | exact HB2.out | exact Below.refl _ _ | apply pw_below_drewN)⟩
  · have d0 : decide (a1 > 5000) = true := decide_eq_true (by omega)
    have d1 : decide (a1 ≤ 1048576) = false := decide_eq_false (by omega)
    have d2 : ((t.size : Int) == 32) = true := beq_iff_eq.mpr (by omega)
    have d3 : decide (a1 ≥ 0) = true := decide_eq_true (by omega)
    clear hm hD
    have hm := hm'
    clear hm'
    go_enter Try.func13, Try.ntmps13
    go_upto_region 7 with (first
    | (go_at_call 38; (with_reducible refine (nil_Add _).mono ?_); rintro e w' ⟨rfl, ⟨nd, rfl⟩⟩)
    | (go_at_call 39; (with_reducible refine (nil_Next _).mono ?_); rintro e w' ⟨rfl, ⟨nd, rfl⟩⟩)
    | (go_at_call 40; (with_reducible refine (nil_Whole _).mono ?_); rintro e w' ⟨rfl, ⟨nd, rfl⟩⟩)
    | (go_at_call 37; (with_reducible refine (nil_Many _).mono ?_); rintro e w' ⟨rfl, ⟨nd, rfl⟩⟩)
    | (go_at_call 36; (with_reducible refine (new_bad t a1 a2 _ hm).mono ?_); rintro e w8 ⟨rfl, ⟨nd, rfl⟩⟩)
    | (go_at_call 29; (with_reducible refine (tinderboxlaw37_awake.calls k true _ H.out).mono ?_); rintro e w9 ⟨rfl, hb⟩; have HB2 := Aside0.mk (below_step (show Below w.heap.size w _ from by repeat (first | exact HB.out | exact Below.refl _ _ | apply pw_below_drewN)) hb); clear hb))
    try rw [ht]
    go_wp2_with (first
    | (go_at_call 38; (with_reducible refine (nil_Add _).mono ?_); rintro e w' ⟨rfl, ⟨nd, rfl⟩⟩)
    | (go_at_call 39; (with_reducible refine (nil_Next _).mono ?_); rintro e w' ⟨rfl, ⟨nd, rfl⟩⟩)
    | (go_at_call 40; (with_reducible refine (nil_Whole _).mono ?_); rintro e w' ⟨rfl, ⟨nd, rfl⟩⟩)
    | (go_at_call 37; (with_reducible refine (nil_Many _).mono ?_); rintro e w' ⟨rfl, ⟨nd, rfl⟩⟩)
    | (go_at_call 36; (with_reducible refine (new_bad t a1 a2 _ hm).mono ?_); rintro e w8 ⟨rfl, ⟨nd, rfl⟩⟩)
    | (go_at_call 29; (with_reducible refine (tinderboxlaw37_awake.calls k true _ H.out).mono ?_); rintro e w9 ⟨rfl, hb⟩; have HB2 := Aside0.mk (below_step (show Below w.heap.size w _ from by repeat (first | exact HB.out | exact Below.refl _ _ | apply pw_below_drewN)) hb); clear hb))
    all_goals go_ret
    all_goals exact ⟨rfl, by repeat (first | exact HB2.out | exact Below.refl _ _ | apply pw_below_drewN)⟩
  · exfalso; omega
set_option maxRecDepth 100000 in
set_option maxHeartbeats 8000000 in
theorem none_bad4 (k : Nat) (h : tinderboxlaw37_awake.f k = some true) (a0 : ByteArray) (a1 : Int) (a2 : Int) (t : ByteArray) (ht : a0.extract 0 (if (40 : Int) < (a0.size : Int) then 40 else (a0.size : Int)).toNat = t) (hm : (t.size = 32 ∧ 0 ≤ a1 ∧ a1 ≤ 1048576 ∧ ¬ 1 ≤ a2)) (w : World) (hD : ¬ a1 > 5000 ∨ a1 > 5000 ∧ ¬ a1 ≤ 1048576 ∨ a1 > 5000 ∧ a1 ≤ 1048576 ∧ ¬ a2 < 10) :
    Calls Try.prog 13 #[.string a0, .int .i64 a1, .int .i64 a2] w fun e w' => e = .returned (.bool true) ∧ Below w.heap.size w w' := by
  have H := Aside0.mk h
  have q1 := eq_true (show (0 : Int) ≤ (if (40 : Int) < (a0.size : Int) then 40 else (a0.size : Int)) by split <;> omega)
  have q2 := eq_true (show (if (40 : Int) < (a0.size : Int) then 40 else (a0.size : Int)) ≤ (a0.size : Int) by split <;> omega)
  clear h
  have hm' : ¬ mayG t.size a1 a2 := by unfold mayG; omega
  rcases hD with hD | hD | hD
  · have d0 : decide (a1 > 5000) = false := decide_eq_false (by omega)
    have d1 : ((t.size : Int) == 32) = true := beq_iff_eq.mpr (by omega)
    have d2 : decide (a1 ≥ 0) = true := decide_eq_true (by omega)
    have d3 : decide (a1 ≤ 1048576) = true := decide_eq_true (by omega)
    have d4 : decide (a2 ≥ 1) = false := decide_eq_false (by omega)
    clear hm hD
    have hm := hm'
    clear hm'
    go_enter Try.func13, Try.ntmps13
    go_upto_region 7 with (first
    | (go_at_call 38; (with_reducible refine (nil_Add _).mono ?_); rintro e w' ⟨rfl, ⟨nd, rfl⟩⟩)
    | (go_at_call 39; (with_reducible refine (nil_Next _).mono ?_); rintro e w' ⟨rfl, ⟨nd, rfl⟩⟩)
    | (go_at_call 40; (with_reducible refine (nil_Whole _).mono ?_); rintro e w' ⟨rfl, ⟨nd, rfl⟩⟩)
    | (go_at_call 37; (with_reducible refine (nil_Many _).mono ?_); rintro e w' ⟨rfl, ⟨nd, rfl⟩⟩)
    | (go_at_call 36; (with_reducible refine (new_bad t a1 a2 _ hm).mono ?_); rintro e w8 ⟨rfl, ⟨nd, rfl⟩⟩)
    | (go_at_call 29; (with_reducible refine (tinderboxlaw37_awake.calls k true _ H.out).mono ?_); rintro e w9 ⟨rfl, hb⟩; have HB2 := Aside0.mk (below_step (show Below w.heap.size w _ from by repeat (first | exact HB.out | exact Below.refl _ _ | apply pw_below_drewN)) hb); clear hb))
    try rw [ht]
    go_wp2_with (first
    | (go_at_call 38; (with_reducible refine (nil_Add _).mono ?_); rintro e w' ⟨rfl, ⟨nd, rfl⟩⟩)
    | (go_at_call 39; (with_reducible refine (nil_Next _).mono ?_); rintro e w' ⟨rfl, ⟨nd, rfl⟩⟩)
    | (go_at_call 40; (with_reducible refine (nil_Whole _).mono ?_); rintro e w' ⟨rfl, ⟨nd, rfl⟩⟩)
    | (go_at_call 37; (with_reducible refine (nil_Many _).mono ?_); rintro e w' ⟨rfl, ⟨nd, rfl⟩⟩)
    | (go_at_call 36; (with_reducible refine (new_bad t a1 a2 _ hm).mono ?_); rintro e w8 ⟨rfl, ⟨nd, rfl⟩⟩)
    | (go_at_call 29; (with_reducible refine (tinderboxlaw37_awake.calls k true _ H.out).mono ?_); rintro e w9 ⟨rfl, hb⟩; have HB2 := Aside0.mk (below_step (show Below w.heap.size w _ from by repeat (first | exact HB.out | exact Below.refl _ _ | apply pw_below_drewN)) hb); clear hb))
    all_goals go_ret
    all_goals exact ⟨rfl, by repeat (first | exact HB2.out | exact Below.refl _ _ | apply pw_below_drewN)⟩
  · exfalso; omega
  · exfalso; omega
set_option maxRecDepth 100000 in
set_option maxHeartbeats 8000000 in
theorem none_bad5 (k : Nat) (h : tinderboxlaw37_awake.f k = some true) (a0 : ByteArray) (a1 : Int) (a2 : Int) (t : ByteArray) (ht : a0.extract 0 (if (40 : Int) < (a0.size : Int) then 40 else (a0.size : Int)).toNat = t) (hm : (t.size = 32 ∧ 0 ≤ a1 ∧ a1 ≤ 1048576 ∧ 1 ≤ a2 ∧ ¬ a2 ≤ 1048576)) (w : World) (hD : ¬ a1 > 5000 ∨ a1 > 5000 ∧ ¬ a1 ≤ 1048576 ∨ a1 > 5000 ∧ a1 ≤ 1048576 ∧ ¬ a2 < 10) :
    Calls Try.prog 13 #[.string a0, .int .i64 a1, .int .i64 a2] w fun e w' => e = .returned (.bool true) ∧ Below w.heap.size w w' := by
  have H := Aside0.mk h
  have q1 := eq_true (show (0 : Int) ≤ (if (40 : Int) < (a0.size : Int) then 40 else (a0.size : Int)) by split <;> omega)
  have q2 := eq_true (show (if (40 : Int) < (a0.size : Int) then 40 else (a0.size : Int)) ≤ (a0.size : Int) by split <;> omega)
  clear h
  have hm' : ¬ mayG t.size a1 a2 := by unfold mayG; omega
  rcases hD with hD | hD | hD
  · have d0 : decide (a1 > 5000) = false := decide_eq_false (by omega)
    have d1 : ((t.size : Int) == 32) = true := beq_iff_eq.mpr (by omega)
    have d2 : decide (a1 ≥ 0) = true := decide_eq_true (by omega)
    have d3 : decide (a1 ≤ 1048576) = true := decide_eq_true (by omega)
    have d4 : decide (a2 ≥ 1) = true := decide_eq_true (by omega)
    have d5 : decide (a2 ≤ 1048576) = false := decide_eq_false (by omega)
    clear hm hD
    have hm := hm'
    clear hm'
    go_enter Try.func13, Try.ntmps13
    go_upto_region 7 with (first
    | (go_at_call 38; (with_reducible refine (nil_Add _).mono ?_); rintro e w' ⟨rfl, ⟨nd, rfl⟩⟩)
    | (go_at_call 39; (with_reducible refine (nil_Next _).mono ?_); rintro e w' ⟨rfl, ⟨nd, rfl⟩⟩)
    | (go_at_call 40; (with_reducible refine (nil_Whole _).mono ?_); rintro e w' ⟨rfl, ⟨nd, rfl⟩⟩)
    | (go_at_call 37; (with_reducible refine (nil_Many _).mono ?_); rintro e w' ⟨rfl, ⟨nd, rfl⟩⟩)
    | (go_at_call 36; (with_reducible refine (new_bad t a1 a2 _ hm).mono ?_); rintro e w8 ⟨rfl, ⟨nd, rfl⟩⟩)
    | (go_at_call 29; (with_reducible refine (tinderboxlaw37_awake.calls k true _ H.out).mono ?_); rintro e w9 ⟨rfl, hb⟩; have HB2 := Aside0.mk (below_step (show Below w.heap.size w _ from by repeat (first | exact HB.out | exact Below.refl _ _ | apply pw_below_drewN)) hb); clear hb))
    try rw [ht]
    go_wp2_with (first
    | (go_at_call 38; (with_reducible refine (nil_Add _).mono ?_); rintro e w' ⟨rfl, ⟨nd, rfl⟩⟩)
    | (go_at_call 39; (with_reducible refine (nil_Next _).mono ?_); rintro e w' ⟨rfl, ⟨nd, rfl⟩⟩)
    | (go_at_call 40; (with_reducible refine (nil_Whole _).mono ?_); rintro e w' ⟨rfl, ⟨nd, rfl⟩⟩)
    | (go_at_call 37; (with_reducible refine (nil_Many _).mono ?_); rintro e w' ⟨rfl, ⟨nd, rfl⟩⟩)
    | (go_at_call 36; (with_reducible refine (new_bad t a1 a2 _ hm).mono ?_); rintro e w8 ⟨rfl, ⟨nd, rfl⟩⟩)
    | (go_at_call 29; (with_reducible refine (tinderboxlaw37_awake.calls k true _ H.out).mono ?_); rintro e w9 ⟨rfl, hb⟩; have HB2 := Aside0.mk (below_step (show Below w.heap.size w _ from by repeat (first | exact HB.out | exact Below.refl _ _ | apply pw_below_drewN)) hb); clear hb))
    all_goals go_ret
    all_goals exact ⟨rfl, by repeat (first | exact HB2.out | exact Below.refl _ _ | apply pw_below_drewN)⟩
  · exfalso; omega
  · have d0 : decide (a1 > 5000) = true := decide_eq_true (by omega)
    have d1 : decide (a1 ≤ 1048576) = true := decide_eq_true (by omega)
    have d2 : decide (a2 < 10) = false := decide_eq_false (by omega)
    have d3 : ((t.size : Int) == 32) = true := beq_iff_eq.mpr (by omega)
    have d4 : decide (a1 ≥ 0) = true := decide_eq_true (by omega)
    have d5 : decide (a2 ≥ 1) = true := decide_eq_true (by omega)
    have d6 : decide (a2 ≤ 1048576) = false := decide_eq_false (by omega)
    clear hm hD
    have hm := hm'
    clear hm'
    go_enter Try.func13, Try.ntmps13
    go_upto_region 7 with (first
    | (go_at_call 38; (with_reducible refine (nil_Add _).mono ?_); rintro e w' ⟨rfl, ⟨nd, rfl⟩⟩)
    | (go_at_call 39; (with_reducible refine (nil_Next _).mono ?_); rintro e w' ⟨rfl, ⟨nd, rfl⟩⟩)
    | (go_at_call 40; (with_reducible refine (nil_Whole _).mono ?_); rintro e w' ⟨rfl, ⟨nd, rfl⟩⟩)
    | (go_at_call 37; (with_reducible refine (nil_Many _).mono ?_); rintro e w' ⟨rfl, ⟨nd, rfl⟩⟩)
    | (go_at_call 36; (with_reducible refine (new_bad t a1 a2 _ hm).mono ?_); rintro e w8 ⟨rfl, ⟨nd, rfl⟩⟩)
    | (go_at_call 29; (with_reducible refine (tinderboxlaw37_awake.calls k true _ H.out).mono ?_); rintro e w9 ⟨rfl, hb⟩; have HB2 := Aside0.mk (below_step (show Below w.heap.size w _ from by repeat (first | exact HB.out | exact Below.refl _ _ | apply pw_below_drewN)) hb); clear hb))
    try rw [ht]
    go_wp2_with (first
    | (go_at_call 38; (with_reducible refine (nil_Add _).mono ?_); rintro e w' ⟨rfl, ⟨nd, rfl⟩⟩)
    | (go_at_call 39; (with_reducible refine (nil_Next _).mono ?_); rintro e w' ⟨rfl, ⟨nd, rfl⟩⟩)
    | (go_at_call 40; (with_reducible refine (nil_Whole _).mono ?_); rintro e w' ⟨rfl, ⟨nd, rfl⟩⟩)
    | (go_at_call 37; (with_reducible refine (nil_Many _).mono ?_); rintro e w' ⟨rfl, ⟨nd, rfl⟩⟩)
    | (go_at_call 36; (with_reducible refine (new_bad t a1 a2 _ hm).mono ?_); rintro e w8 ⟨rfl, ⟨nd, rfl⟩⟩)
    | (go_at_call 29; (with_reducible refine (tinderboxlaw37_awake.calls k true _ H.out).mono ?_); rintro e w9 ⟨rfl, hb⟩; have HB2 := Aside0.mk (below_step (show Below w.heap.size w _ from by repeat (first | exact HB.out | exact Below.refl _ _ | apply pw_below_drewN)) hb); clear hb))
    all_goals go_ret
    all_goals exact ⟨rfl, by repeat (first | exact HB2.out | exact Below.refl _ _ | apply pw_below_drewN)⟩
/-- What is left to show: the law's own example. -/
def tinderboxlaw37_TreeNone.Pure : Prop := ∃ k, tinderboxlaw37_awake.f k = some true
set_option maxRecDepth 100000 in
set_option maxHeartbeats 8000000 in
theorem tinderboxlaw37_TreeNone.walk (P : tinderboxlaw37_TreeNone.Pure) (a0 : ByteArray) (a1 : Int) (a2 : Int) (w : World) (w0 : a0.size ≤ 140737488351232) (w1 : (Lit.int .i64 a1).wf = true) (w2 : (Lit.int .i64 a2).wf = true) :
    Calls Try.prog 13 #[.string a0, .int .i64 a1, .int .i64 a2] w fun e w' => e = .returned (.bool true) ∧ Below w.heap.size w w' := by
  obtain ⟨k, h⟩ := P
  by_cases c : (a1 > 5000 ∧ a1 ≤ 1048576) ∧ a2 < 10
  · have H := Aside0.mk h
    have q1 := eq_true (show (0 : Int) ≤ (if (40 : Int) < (a0.size : Int) then 40 else (a0.size : Int)) by split <;> omega)
    have q2 := eq_true (show (if (40 : Int) < (a0.size : Int) then 40 else (a0.size : Int)) ≤ (a0.size : Int) by split <;> omega)
    have d1 : decide (a1 > 5000) = true := decide_eq_true c.1.1
    have d2 : decide (a1 ≤ 1048576) = true := decide_eq_true c.1.2
    have d3 : decide (a2 < 10) = true := decide_eq_true c.2
    clear c h
    go_enter Try.func13, Try.ntmps13
    go_wp2_with (first
      | (go_at_call 38; (with_reducible refine (nil_Add _).mono ?_); rintro e w' ⟨rfl, ⟨nd, rfl⟩⟩)
      | (go_at_call 39; (with_reducible refine (nil_Next _).mono ?_); rintro e w' ⟨rfl, ⟨nd, rfl⟩⟩)
      | (go_at_call 29; (with_reducible refine (tinderboxlaw37_awake.calls k true _ H.out).mono ?_); rintro e w9 ⟨rfl, hb⟩; have HB2 := Aside0.mk (below_step (show Below w.heap.size w _ from by repeat (first | exact Below.refl _ _ | apply pw_below_drewN)) hb); clear hb))
    all_goals go_ret
    all_goals exact ⟨rfl, by repeat (first | exact HB2.out | apply pw_below_drewN)⟩
  · have hD : ¬ a1 > 5000 ∨ a1 > 5000 ∧ ¬ a1 ≤ 1048576 ∨ a1 > 5000 ∧ a1 ≤ 1048576 ∧ ¬ a2 < 10 := by omega
    obtain ⟨t, ht⟩ : ∃ t, a0.extract 0 (if (40 : Int) < (a0.size : Int) then 40 else (a0.size : Int)).toNat = t := ⟨_, rfl⟩
    by_cases e1 : t.size = 32
    · by_cases e2 : 0 ≤ a1
      · by_cases e3 : a1 ≤ 1048576
        · by_cases e4 : 1 ≤ a2
          · by_cases e5 : a2 ≤ 1048576
            · exact none_ok k h a0 a1 a2 t ht ⟨e1, e2, e3, e4, e5⟩ w hD
            · exact none_bad5 k h a0 a1 a2 t ht ⟨e1, e2, e3, e4, e5⟩ w hD
          · exact none_bad4 k h a0 a1 a2 t ht ⟨e1, e2, e3, e4⟩ w hD
        · exact none_bad3 k h a0 a1 a2 t ht ⟨e1, e2, e3⟩ w hD
      · exact none_bad2 k h a0 a1 a2 t ht ⟨e1, e2⟩ w hD
    · exact none_bad1 k h a0 a1 a2 t ht e1 w hD

end Go.Proofs.Ytomenklhgofjaaa.XTreeNone
