-- Written by xprint.py of this repo (the kit's print with turns of our own) out of the translation.
import Derived.Test.YtoiahmdibibceaaXGroupReadsx0
namespace Go.Proofs.Ytoiahmdibibceaa.XGroupReads
open Go.RowKit Go.Proofs.YtoiahmdibibceaaW.PrintWords Go.Proofs.YtoiahmdibibceaaW.PrintLast Go.Proofs.YtoiahmdibibceaaW.PrintMore
attribute [local go_sem] max2_int min2_int max_two min_two max_three min_three max_four min_four   -- for this text's walks alone
set_option linter.unusedVariables false
set_option linter.unusedSimpArgs false

/-! ### tinderboxref07_row: function 62 -/
def tinderboxref07_row.known (k : Int) : Bool := k == 1 || k == 2 || k == 3 || k == 4 || k == 5 || k == 6 || k == 7 || k == 8 || k == 9
def tinderboxref07_row.least (k : Int) : List Int := if k = 1 then [1, 0, 0] else if k = 2 then [1, 0] else if k = 3 then [0, 0] else if k = 4 then [1, 1] else if k = 5 then [1] else if k = 6 then [1, 1] else if k = 7 then [1] else if k = 8 then [0] else if k = 9 then [0, 0] else []
def tinderboxref07_row.f (k : Nat) (a0_0 a0_1 a0_2 a0_3 a0_4 a0_5 : Int) : Option (List Int × List Int × List Int × Bool) := some (Rc.flds a0_0 a0_1 a0_2 a0_3 a0_4 a0_5, tinderboxref07_row.least a0_0, Rc.mosts a0_0, tinderboxref07_row.known a0_0)
theorem tinderboxref07_row.mono : ∀ a0 a1 a2 a3 a4 a5 k, LeO (tinderboxref07_row.f k a0 a1 a2 a3 a4 a5) (tinderboxref07_row.f (k + 1) a0 a1 a2 a3 a4 a5) := fun _ _ _ _ _ _ _ => LeO.refl _
theorem tinderboxref07_row.own {W : World} {g base : Nat} {xs : List Int} {t : Nat} {ok : Nat → Prop} (h : W.heap[g]? = some (.cells (xs.map (Value.int .i64)).toArray t (0, 0))) (hb : base ≤ g) (hl : xs.length ≤ 3) (hok : ok g) : Kd.R (Kd.int .i64) t W base ok (.slice (some ⟨g, 0, none⟩) xs.length xs.length) xs := by
  refine Kd.R_of_own (enc := Value.int .i64) (h1 := fun _ => rfl) ?_ (fun k hk => by cases hk; exact hok)
  refine ⟨by simp [encs], .inr ⟨g, xs.length, (xs.map (Value.int .i64)).toArray, rfl, hb, h, Nat.le_refl _, by unfold maxLen; omega, by simp, by rw [Nat.mul_one, List.take_of_length_le (by simp)]; rfl⟩⟩
theorem tinderboxref07_row.h0 (w : World) (x a b c : Obj) : ((((w.alloc x).alloc a).alloc b).alloc c).heap[w.heap.size + 1]? = some a := by
  show ((((w.heap.push x).push a).push b).push c)[w.heap.size + 1]? = some a
  rw [Array.getElem?_push, if_neg (by simp only [Array.size_push]; omega), Array.getElem?_push, if_neg (by simp only [Array.size_push]; omega), Array.getElem?_push, if_pos (by simp only [Array.size_push])]
theorem tinderboxref07_row.h1 (w : World) (x a b c : Obj) : ((((w.alloc x).alloc a).alloc b).alloc c).heap[w.heap.size + 1 + 1]? = some b := by
  show ((((w.heap.push x).push a).push b).push c)[w.heap.size + 1 + 1]? = some b
  rw [Array.getElem?_push, if_neg (by simp only [Array.size_push]; omega), Array.getElem?_push, if_pos (by simp only [Array.size_push])]
theorem tinderboxref07_row.h2 (w : World) (x a b c : Obj) : ((((w.alloc x).alloc a).alloc b).alloc c).heap[w.heap.size + 1 + 1 + 1]? = some c := by
  show ((((w.heap.push x).push a).push b).push c)[w.heap.size + 1 + 1 + 1]? = some c
  rw [Array.getElem?_push, if_pos (by simp only [Array.size_push])]
def tinderboxref07_row.Post (w : World) (r1 r2 r3 : List Int) (r4 : Bool) (e : Ending) (w' : World) : Prop := ∃ v0_ v1_ v2_ : Value, e = .returned (.tuple #[v0_, v1_, v2_, .bool r4]) ∧ Kd.R (Kd.int .i64) 3 w' w.heap.size (fun k_ => some k_ ≠ (v1_ : Value).ownBlock ∧ some k_ ≠ (v2_ : Value).ownBlock) v0_ r1 ∧ Kd.R (Kd.int .i64) 3 w' w.heap.size (fun k_ => some k_ ≠ (v0_ : Value).ownBlock ∧ some k_ ≠ (v2_ : Value).ownBlock) v1_ r2 ∧ Kd.R (Kd.int .i64) 3 w' w.heap.size (fun k_ => some k_ ≠ (v0_ : Value).ownBlock ∧ some k_ ≠ (v1_ : Value).ownBlock) v2_ r3 ∧ Below w.heap.size w w'
set_option maxHeartbeats 4000000 in
theorem tinderboxref07_row.c1 (c1 c2 c3 c4 c5 : Int) (w : World) : Calls Try.prog 62 #[.agg #[.int .i64 1, .int .i64 c1, .int .i64 c2, .int .i64 c3, .int .i64 c4, .int .i64 c5]] w (tinderboxref07_row.Post w [c1, c2, c3] [1, 0, 0] [15, 1023, 511] true) := by
  go_enter Try.func62, Try.ntmps62
  go_wp2
  refine bodyPost_ret (results_list (rs := [.tmp 2, .tmp 3, .tmp 4, .tmp 5]) rfl (by simp) (.tmp (.tmp (.tmp (.tmp .nil))))) rfl ?_
  exact ⟨_, _, _, rfl, tinderboxref07_row.own (xs := [c1, c2, c3]) (tinderboxref07_row.h0 w _ _ _ _) (by omega) (by simp) (by constructor <;> simp [Value.ownBlock] <;> omega), tinderboxref07_row.own (xs := [1, 0, 0]) (tinderboxref07_row.h1 w _ _ _ _) (by omega) (by simp) (by constructor <;> simp [Value.ownBlock] <;> omega), tinderboxref07_row.own (xs := [15, 1023, 511]) (tinderboxref07_row.h2 w _ _ _ _) (by omega) (by simp) (by constructor <;> simp [Value.ownBlock] <;> omega), by repeat (first | exact Below.refl _ _ | apply below_alloc)⟩
set_option maxHeartbeats 4000000 in
theorem tinderboxref07_row.c2 (c1 c2 c3 c4 c5 : Int) (w : World) : Calls Try.prog 62 #[.agg #[.int .i64 2, .int .i64 c1, .int .i64 c2, .int .i64 c3, .int .i64 c4, .int .i64 c5]] w (tinderboxref07_row.Post w [c1, c2] [1, 0] [15, 1023] true) := by
  go_enter Try.func62, Try.ntmps62
  go_wp2
  refine bodyPost_ret (results_list (rs := [.tmp 2, .tmp 3, .tmp 4, .tmp 5]) rfl (by simp) (.tmp (.tmp (.tmp (.tmp .nil))))) rfl ?_
  exact ⟨_, _, _, rfl, tinderboxref07_row.own (xs := [c1, c2]) (tinderboxref07_row.h0 w _ _ _ _) (by omega) (by simp) (by constructor <;> simp [Value.ownBlock] <;> omega), tinderboxref07_row.own (xs := [1, 0]) (tinderboxref07_row.h1 w _ _ _ _) (by omega) (by simp) (by constructor <;> simp [Value.ownBlock] <;> omega), tinderboxref07_row.own (xs := [15, 1023]) (tinderboxref07_row.h2 w _ _ _ _) (by omega) (by simp) (by constructor <;> simp [Value.ownBlock] <;> omega), by repeat (first | exact Below.refl _ _ | apply below_alloc)⟩
set_option maxHeartbeats 4000000 in
theorem tinderboxref07_row.c3 (c1 c2 c3 c4 c5 : Int) (w : World) : Calls Try.prog 62 #[.agg #[.int .i64 3, .int .i64 c1, .int .i64 c2, .int .i64 c3, .int .i64 c4, .int .i64 c5]] w (tinderboxref07_row.Post w [c3, c4] [0, 0] [511, 511] true) := by
  go_enter Try.func62, Try.ntmps62
  go_wp2
  refine bodyPost_ret (results_list (rs := [.tmp 2, .tmp 3, .tmp 4, .tmp 5]) rfl (by simp) (.tmp (.tmp (.tmp (.tmp .nil))))) rfl ?_
  exact ⟨_, _, _, rfl, tinderboxref07_row.own (xs := [c3, c4]) (tinderboxref07_row.h0 w _ _ _ _) (by omega) (by simp) (by constructor <;> simp [Value.ownBlock] <;> omega), tinderboxref07_row.own (xs := [0, 0]) (tinderboxref07_row.h1 w _ _ _ _) (by omega) (by simp) (by constructor <;> simp [Value.ownBlock] <;> omega), tinderboxref07_row.own (xs := [511, 511]) (tinderboxref07_row.h2 w _ _ _ _) (by omega) (by simp) (by constructor <;> simp [Value.ownBlock] <;> omega), by repeat (first | exact Below.refl _ _ | apply below_alloc)⟩
set_option maxHeartbeats 4000000 in
theorem tinderboxref07_row.c4 (c1 c2 c3 c4 c5 : Int) (w : World) : Calls Try.prog 62 #[.agg #[.int .i64 4, .int .i64 c1, .int .i64 c2, .int .i64 c3, .int .i64 c4, .int .i64 c5]] w (tinderboxref07_row.Post w [c1, c5] [1, 1] [15, 1024] true) := by
  go_enter Try.func62, Try.ntmps62
  go_wp2
  refine bodyPost_ret (results_list (rs := [.tmp 2, .tmp 3, .tmp 4, .tmp 5]) rfl (by simp) (.tmp (.tmp (.tmp (.tmp .nil))))) rfl ?_
  exact ⟨_, _, _, rfl, tinderboxref07_row.own (xs := [c1, c5]) (tinderboxref07_row.h0 w _ _ _ _) (by omega) (by simp) (by constructor <;> simp [Value.ownBlock] <;> omega), tinderboxref07_row.own (xs := [1, 1]) (tinderboxref07_row.h1 w _ _ _ _) (by omega) (by simp) (by constructor <;> simp [Value.ownBlock] <;> omega), tinderboxref07_row.own (xs := [15, 1024]) (tinderboxref07_row.h2 w _ _ _ _) (by omega) (by simp) (by constructor <;> simp [Value.ownBlock] <;> omega), by repeat (first | exact Below.refl _ _ | apply below_alloc)⟩
set_option maxHeartbeats 4000000 in
theorem tinderboxref07_row.c5 (c1 c2 c3 c4 c5 : Int) (w : World) : Calls Try.prog 62 #[.agg #[.int .i64 5, .int .i64 c1, .int .i64 c2, .int .i64 c3, .int .i64 c4, .int .i64 c5]] w (tinderboxref07_row.Post w [c1] [1] [15] true) := by
  go_enter Try.func62, Try.ntmps62
  go_wp2
  refine bodyPost_ret (results_list (rs := [.tmp 2, .tmp 3, .tmp 4, .tmp 5]) rfl (by simp) (.tmp (.tmp (.tmp (.tmp .nil))))) rfl ?_
  exact ⟨_, _, _, rfl, tinderboxref07_row.own (xs := [c1]) (tinderboxref07_row.h0 w _ _ _ _) (by omega) (by simp) (by constructor <;> simp [Value.ownBlock] <;> omega), tinderboxref07_row.own (xs := [1]) (tinderboxref07_row.h1 w _ _ _ _) (by omega) (by simp) (by constructor <;> simp [Value.ownBlock] <;> omega), tinderboxref07_row.own (xs := [15]) (tinderboxref07_row.h2 w _ _ _ _) (by omega) (by simp) (by constructor <;> simp [Value.ownBlock] <;> omega), by repeat (first | exact Below.refl _ _ | apply below_alloc)⟩
set_option maxHeartbeats 4000000 in
theorem tinderboxref07_row.c6 (c1 c2 c3 c4 c5 : Int) (w : World) : Calls Try.prog 62 #[.agg #[.int .i64 6, .int .i64 c1, .int .i64 c2, .int .i64 c3, .int .i64 c4, .int .i64 c5]] w (tinderboxref07_row.Post w [c1, c4] [1, 1] [15, 15] true) := by
  go_enter Try.func62, Try.ntmps62
  go_wp2
  refine bodyPost_ret (results_list (rs := [.tmp 2, .tmp 3, .tmp 4, .tmp 5]) rfl (by simp) (.tmp (.tmp (.tmp (.tmp .nil))))) rfl ?_
  exact ⟨_, _, _, rfl, tinderboxref07_row.own (xs := [c1, c4]) (tinderboxref07_row.h0 w _ _ _ _) (by omega) (by simp) (by constructor <;> simp [Value.ownBlock] <;> omega), tinderboxref07_row.own (xs := [1, 1]) (tinderboxref07_row.h1 w _ _ _ _) (by omega) (by simp) (by constructor <;> simp [Value.ownBlock] <;> omega), tinderboxref07_row.own (xs := [15, 15]) (tinderboxref07_row.h2 w _ _ _ _) (by omega) (by simp) (by constructor <;> simp [Value.ownBlock] <;> omega), by repeat (first | exact Below.refl _ _ | apply below_alloc)⟩
set_option maxHeartbeats 4000000 in
theorem tinderboxref07_row.c7 (c1 c2 c3 c4 c5 : Int) (w : World) : Calls Try.prog 62 #[.agg #[.int .i64 7, .int .i64 c1, .int .i64 c2, .int .i64 c3, .int .i64 c4, .int .i64 c5]] w (tinderboxref07_row.Post w [c1] [1] [15] true) := by
  go_enter Try.func62, Try.ntmps62
  go_wp2
  refine bodyPost_ret (results_list (rs := [.tmp 2, .tmp 3, .tmp 4, .tmp 5]) rfl (by simp) (.tmp (.tmp (.tmp (.tmp .nil))))) rfl ?_
  exact ⟨_, _, _, rfl, tinderboxref07_row.own (xs := [c1]) (tinderboxref07_row.h0 w _ _ _ _) (by omega) (by simp) (by constructor <;> simp [Value.ownBlock] <;> omega), tinderboxref07_row.own (xs := [1]) (tinderboxref07_row.h1 w _ _ _ _) (by omega) (by simp) (by constructor <;> simp [Value.ownBlock] <;> omega), tinderboxref07_row.own (xs := [15]) (tinderboxref07_row.h2 w _ _ _ _) (by omega) (by simp) (by constructor <;> simp [Value.ownBlock] <;> omega), by repeat (first | exact Below.refl _ _ | apply below_alloc)⟩
set_option maxHeartbeats 4000000 in
theorem tinderboxref07_row.c8 (c1 c2 c3 c4 c5 : Int) (w : World) : Calls Try.prog 62 #[.agg #[.int .i64 8, .int .i64 c1, .int .i64 c2, .int .i64 c3, .int .i64 c4, .int .i64 c5]] w (tinderboxref07_row.Post w [c3] [0] [31] true) := by
  go_enter Try.func62, Try.ntmps62
  go_wp2
  refine bodyPost_ret (results_list (rs := [.tmp 2, .tmp 3, .tmp 4, .tmp 5]) rfl (by simp) (.tmp (.tmp (.tmp (.tmp .nil))))) rfl ?_
  exact ⟨_, _, _, rfl, tinderboxref07_row.own (xs := [c3]) (tinderboxref07_row.h0 w _ _ _ _) (by omega) (by simp) (by constructor <;> simp [Value.ownBlock] <;> omega), tinderboxref07_row.own (xs := [0]) (tinderboxref07_row.h1 w _ _ _ _) (by omega) (by simp) (by constructor <;> simp [Value.ownBlock] <;> omega), tinderboxref07_row.own (xs := [31]) (tinderboxref07_row.h2 w _ _ _ _) (by omega) (by simp) (by constructor <;> simp [Value.ownBlock] <;> omega), by repeat (first | exact Below.refl _ _ | apply below_alloc)⟩
set_option maxHeartbeats 4000000 in
theorem tinderboxref07_row.c9 (c1 c2 c3 c4 c5 : Int) (w : World) : Calls Try.prog 62 #[.agg #[.int .i64 9, .int .i64 c1, .int .i64 c2, .int .i64 c3, .int .i64 c4, .int .i64 c5]] w (tinderboxref07_row.Post w [c3, c5] [0, 0] [31, 1073741824] true) := by
  go_enter Try.func62, Try.ntmps62
  go_wp2
  refine bodyPost_ret (results_list (rs := [.tmp 2, .tmp 3, .tmp 4, .tmp 5]) rfl (by simp) (.tmp (.tmp (.tmp (.tmp .nil))))) rfl ?_
  exact ⟨_, _, _, rfl, tinderboxref07_row.own (xs := [c3, c5]) (tinderboxref07_row.h0 w _ _ _ _) (by omega) (by simp) (by constructor <;> simp [Value.ownBlock] <;> omega), tinderboxref07_row.own (xs := [0, 0]) (tinderboxref07_row.h1 w _ _ _ _) (by omega) (by simp) (by constructor <;> simp [Value.ownBlock] <;> omega), tinderboxref07_row.own (xs := [31, 1073741824]) (tinderboxref07_row.h2 w _ _ _ _) (by omega) (by simp) (by constructor <;> simp [Value.ownBlock] <;> omega), by repeat (first | exact Below.refl _ _ | apply below_alloc)⟩
set_option maxHeartbeats 4000000 in
theorem tinderboxref07_row.c0 (k c1 c2 c3 c4 c5 : Int) (w : World) (n1 : k ≠ 1) (n2 : k ≠ 2) (n3 : k ≠ 3) (n4 : k ≠ 4) (n5 : k ≠ 5) (n6 : k ≠ 6) (n7 : k ≠ 7) (n8 : k ≠ 8) (n9 : k ≠ 9) : Calls Try.prog 62 #[.agg #[.int .i64 k, .int .i64 c1, .int .i64 c2, .int .i64 c3, .int .i64 c4, .int .i64 c5]] w (tinderboxref07_row.Post w [] [] [] false) := by
  have b1 : (k == 1) = false := beq_eq_false_iff_ne.mpr n1
  have b2 : (k == 2) = false := beq_eq_false_iff_ne.mpr n2
  have b3 : (k == 3) = false := beq_eq_false_iff_ne.mpr n3
  have b4 : (k == 4) = false := beq_eq_false_iff_ne.mpr n4
  have b5 : (k == 5) = false := beq_eq_false_iff_ne.mpr n5
  have b6 : (k == 6) = false := beq_eq_false_iff_ne.mpr n6
  have b7 : (k == 7) = false := beq_eq_false_iff_ne.mpr n7
  have b8 : (k == 8) = false := beq_eq_false_iff_ne.mpr n8
  have b9 : (k == 9) = false := beq_eq_false_iff_ne.mpr n9
  go_enter Try.func62, Try.ntmps62
  go_wp2
  refine bodyPost_ret (results_list (rs := [.tmp 2, .tmp 3, .tmp 4, .tmp 5]) rfl (by simp) (.tmp (.tmp (.tmp (.tmp .nil))))) rfl ?_
  exact ⟨_, _, _, rfl, Kd.R_nil _ _ _ _ _, Kd.R_nil _ _ _ _ _, Kd.R_nil _ _ _ _ _, by repeat (first | exact Below.refl _ _ | apply below_alloc)⟩
theorem tinderboxref07_row.calls (k : Nat) (a0_0 : Int) (a0_1 : Int) (a0_2 : Int) (a0_3 : Int) (a0_4 : Int) (a0_5 : Int) (r1 : List Int) (r2 : List Int) (r3 : List Int) (r4 : Bool) (w : World) (h : tinderboxref07_row.f k a0_0 a0_1 a0_2 a0_3 a0_4 a0_5 = some (r1, r2, r3, r4)) :
    Calls Try.prog 62 #[.agg #[.int .i64 a0_0, .int .i64 a0_1, .int .i64 a0_2, .int .i64 a0_3, .int .i64 a0_4, .int .i64 a0_5]] w fun e w' => ∃ v0_ v1_ v2_ : Value, e = .returned (.tuple #[v0_, v1_, v2_, .bool r4]) ∧ Kd.R (Kd.int .i64) 3 w' w.heap.size (fun k_ => some k_ ≠ (v1_ : Value).ownBlock ∧ some k_ ≠ (v2_ : Value).ownBlock) v0_ r1 ∧ Kd.R (Kd.int .i64) 3 w' w.heap.size (fun k_ => some k_ ≠ (v0_ : Value).ownBlock ∧ some k_ ≠ (v2_ : Value).ownBlock) v1_ r2 ∧ Kd.R (Kd.int .i64) 3 w' w.heap.size (fun k_ => some k_ ≠ (v0_ : Value).ownBlock ∧ some k_ ≠ (v1_ : Value).ownBlock) v2_ r3 ∧ Below w.heap.size w w' := by
  have h' := Option.some.inj h
  simp only [Prod.mk.injEq] at h'
  obtain ⟨rfl, rfl, rfl, rfl⟩ := h'
  by_cases n1 : a0_0 = 1
  · subst n1; exact tinderboxref07_row.c1 a0_1 a0_2 a0_3 a0_4 a0_5 w
  by_cases n2 : a0_0 = 2
  · subst n2; exact tinderboxref07_row.c2 a0_1 a0_2 a0_3 a0_4 a0_5 w
  by_cases n3 : a0_0 = 3
  · subst n3; exact tinderboxref07_row.c3 a0_1 a0_2 a0_3 a0_4 a0_5 w
  by_cases n4 : a0_0 = 4
  · subst n4; exact tinderboxref07_row.c4 a0_1 a0_2 a0_3 a0_4 a0_5 w
  by_cases n5 : a0_0 = 5
  · subst n5; exact tinderboxref07_row.c5 a0_1 a0_2 a0_3 a0_4 a0_5 w
  by_cases n6 : a0_0 = 6
  · subst n6; exact tinderboxref07_row.c6 a0_1 a0_2 a0_3 a0_4 a0_5 w
  by_cases n7 : a0_0 = 7
  · subst n7; exact tinderboxref07_row.c7 a0_1 a0_2 a0_3 a0_4 a0_5 w
  by_cases n8 : a0_0 = 8
  · subst n8; exact tinderboxref07_row.c8 a0_1 a0_2 a0_3 a0_4 a0_5 w
  by_cases n9 : a0_0 = 9
  · subst n9; exact tinderboxref07_row.c9 a0_1 a0_2 a0_3 a0_4 a0_5 w
  rw [Rc.flds_none n1 n2 n3 n4 n5 n6 n7 n8 n9, Rc.mosts_none n1 n2 n3 n4 n5 n6 n7 n8 n9, show tinderboxref07_row.least a0_0 = [] from by unfold tinderboxref07_row.least; rw [if_neg n1, if_neg n2, if_neg n3, if_neg n4, if_neg n5, if_neg n6, if_neg n7, if_neg n8, if_neg n9], show tinderboxref07_row.known a0_0 = false from by unfold tinderboxref07_row.known; simp [n1, n2, n3, n4, n5, n6, n7, n8, n9]]
  exact tinderboxref07_row.c0 a0_0 a0_1 a0_2 a0_3 a0_4 a0_5 w n1 n2 n3 n4 n5 n6 n7 n8 n9

end Go.Proofs.Ytoiahmdibibceaa.XGroupReads
