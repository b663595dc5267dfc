import Derived.Test.YtoiahmdibibceaaXTbA
set_option linter.unusedVariables false
set_option linter.unusedSimpArgs false
namespace Go.Proofs.Ytoiahmdibibceaa.Tb
open Go.RowKit Go.Proofs.YtoiahmdibibceaaW.PrintWords Go.Proofs.YtoiahmdibibceaaW.PrintLast Go.Proofs.YtoiahmdibibceaaW.PrintMore
set_option maxRecDepth 100000 in
set_option maxHeartbeats 8000000 in
theorem state_calls (a : Int) (tr : Bool) (ts ls v0 v1 : Int) (g0 g1 : Bool) (w : World) (ha : a = 0 ∨ a = 1) : Calls Try.prog 38 #[.agg (bcells a tr ts ls v0 v1 g0 g1)] w fun e w' => e = .returned (.int .i64 (stF a tr ts g0 g1)) ∧ Below w.heap.size w w' := by
  unfold bcells
  go_enter Try.func38, Try.ntmps38
  go_upto_region 1 with (fail)
  obtain ⟨W, hW⟩ : ∃ W : World, W = w.alloc (.cells #[.int .i64 a, .bool tr, .int .i64 ts, .int .i64 ls, .int .i64 v0, .int .i64 v1, .bool g0, .bool g1] 40) := ⟨_, rfl⟩
  have bk : W.heap[w.heap.size]? = some (.cells #[.int .i64 a, .bool tr, .int .i64 ts, .int .i64 ls, .int .i64 v0, .int .i64 v1, .bool g0, .bool g1] 40 (0, 0)) := by rw [hW]; exact blk_new _ _
  have hb : Below w.heap.size w W := by rw [hW]; exact below_alloc (Below.refl _ _) _
  rw [← hW]
  clear hW
  have HB := Aside0.mk hb
  have z0 : Go.bits .and .i64 0 1 = 0 := by decide
  have z1 : Go.bits .and .i64 1 1 = 1 := by decide
  have c0 := (blk_cell bk 0).trans rfl
  have c1 := (blk_cell bk 1).trans rfl
  have c2 := (blk_cell bk 2).trans rfl
  have c6 := (blk_cell bk 6).trans rfl
  have c7 := (blk_cell bk 7).trans rfl
  clear bk hb
  cases tr
  · rcases ha with rfl | rfl
    · cases g1
      · go_wp2
        go_ret
        exact ⟨rfl, by repeat (first | exact HB.out | apply pw_below_drewN | apply below_drew1)⟩
      · go_wp2
        go_ret
        exact ⟨rfl, by repeat (first | exact HB.out | apply pw_below_drewN | apply below_drew1)⟩
    · cases g0
      · go_wp2
        go_ret
        exact ⟨rfl, by repeat (first | exact HB.out | apply pw_below_drewN | apply below_drew1)⟩
      · go_wp2
        go_ret
        exact ⟨rfl, by repeat (first | exact HB.out | apply pw_below_drewN | apply below_drew1)⟩
  · by_cases hz : ts = 0
    · subst hz
      go_wp2
      go_ret
      exact ⟨rfl, by repeat (first | exact HB.out | apply pw_below_drewN | apply below_drew1)⟩
    · have d : (ts == 0) = false := beq_eq_false_iff_ne.mpr hz
      have e_ : stF a true ts g0 g1 = 2 := by unfold stF; simp [hz]
      go_wp2
      go_ret
      exact ⟨by first | rfl | exact congrArg (fun b => Ending.returned (Value.int .i64 b)) e_.symm, by repeat (first | exact HB.out | apply pw_below_drewN | apply below_drew1)⟩
set_option maxRecDepth 100000 in
set_option maxHeartbeats 8000000 in
theorem first_calls (v : Int) (w : World) : Calls Try.prog 28 #[.int .i64 v] w fun e w' => e = .returned (.agg (bcells 0 false 0 v v 0 true false)) ∧ Below w.heap.size w w' := by
  unfold bcells
  go_enter Try.func28, Try.ntmps28
  go_wp2
  refine bodyPost_ret (results_cell_row rfl _ _ w.heap.size 40 _ (0, 0) _ rfl (blk_new _ _) Try.underlying40 rfl info40) rfl ?_
  exact ⟨rfl, by repeat (first | exact Below.refl _ _ | apply below_alloc | apply pw_below_drewN | apply below_drew1 | refine below_set ?_ (Nat.le_refl _))⟩
end Go.Proofs.Ytoiahmdibibceaa.Tb
