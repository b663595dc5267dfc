import Derived.Test.YtoiahmdibibceaaXTbA
set_option linter.unusedVariables false
set_option linter.unusedSimpArgs false
namespace Go.Proofs.Ytoiahmdibibceaa.Tb
open Go.RowKit Go.Proofs.YtoiahmdibibceaaW.PrintWords Go.Proofs.YtoiahmdibibceaaW.PrintLast Go.Proofs.YtoiahmdibibceaaW.PrintMore
set_option maxRecDepth 100000 in
set_option maxHeartbeats 16000000 in
theorem rstate_calls (a : Int) (tr : Bool) (ts ls v0 v1 : Int) (g0 g1 : Bool) (w : World) (ha : a = 0 ∨ a = 1) (ht : 0 ≤ ts) : Calls Try.prog 39 #[.agg (bcells a tr ts ls v0 v1 g0 g1)] w fun e w' => e = .returned (.int .i64 (stF a tr ts g0 g1)) ∧ Below w.heap.size w w' := by
  go_enter Try.func39, Try.ntmps39
  go_upto_region 1 with (fail)
  obtain ⟨W, hW⟩ : ∃ W : World, W = w.alloc (.cells (bcells a tr ts ls v0 v1 g0 g1) 40) := ⟨_, rfl⟩
  have bk : W.heap[w.heap.size]? = some (.cells (bcells a tr ts ls v0 v1 g0 g1) 40 (0, 0)) := by rw [hW]; exact blk_new _ _
  have hb : Below w.heap.size w W := by rw [hW]; exact below_alloc (Below.refl _ _) _
  rw [← hW]
  clear hW
  have HB := Aside0.mk hb
  have BK := Aside0.mk bk
  have c0 := (blk_cell bk 0).trans rfl
  have c1 := (blk_cell bk 1).trans rfl
  have c2 := (blk_cell bk 2).trans rfl
  have c3 := (blk_cell bk 3).trans rfl
  have c4 := (blk_cell bk 4).trans rfl
  have c5 := (blk_cell bk 5).trans rfl
  have c6 := (blk_cell bk 6).trans rfl
  have c7 := (blk_cell bk 7).trans rfl
  clear bk hb
  cases tr
  · clear ht
    rcases ha with rfl | rfl
    · cases g1
      · skip
        have e_ : stF 0 false ts g0 false = 0 := by unfold stF; simp
        go_wp2
        (try (go_quiet (fail)))
        (try go_wp2)
        go_ret
        exact ⟨by first | rfl | exact congrArg (fun b => Ending.returned (Value.int .i64 b)) e_.symm, by repeat (first | with_reducible exact HB.out | with_reducible apply pw_below_drewN | with_reducible apply below_drew1 | refine below_set ?_ (show w.heap.size ≤ w.heap.size + 1 from Nat.le_succ _) | refine below_set ?_ (show w.heap.size ≤ w.heap.size from Nat.le_refl _))⟩
      · skip
        have e_ : stF 0 false ts g0 true = 1 := by unfold stF; simp
        go_wp2
        (try (go_quiet (fail)))
        (try go_wp2)
        go_ret
        exact ⟨by first | rfl | exact congrArg (fun b => Ending.returned (Value.int .i64 b)) e_.symm, by repeat (first | with_reducible exact HB.out | with_reducible apply pw_below_drewN | with_reducible apply below_drew1 | refine below_set ?_ (show w.heap.size ≤ w.heap.size + 1 from Nat.le_succ _) | refine below_set ?_ (show w.heap.size ≤ w.heap.size from Nat.le_refl _))⟩
    · cases g0
      · skip
        have e_ : stF 1 false ts false g1 = 0 := by unfold stF; simp
        go_wp2
        (try (go_quiet (fail)))
        (try go_wp2)
        go_ret
        exact ⟨by first | rfl | exact congrArg (fun b => Ending.returned (Value.int .i64 b)) e_.symm, by repeat (first | with_reducible exact HB.out | with_reducible apply pw_below_drewN | with_reducible apply below_drew1 | refine below_set ?_ (show w.heap.size ≤ w.heap.size + 1 from Nat.le_succ _) | refine below_set ?_ (show w.heap.size ≤ w.heap.size from Nat.le_refl _))⟩
      · skip
        have e_ : stF 1 false ts true g1 = 1 := by unfold stF; simp
        go_wp2
        (try (go_quiet (fail)))
        (try go_wp2)
        go_ret
        exact ⟨by first | rfl | exact congrArg (fun b => Ending.returned (Value.int .i64 b)) e_.symm, by repeat (first | with_reducible exact HB.out | with_reducible apply pw_below_drewN | with_reducible apply below_drew1 | refine below_set ?_ (show w.heap.size ≤ w.heap.size + 1 from Nat.le_succ _) | refine below_set ?_ (show w.heap.size ≤ w.heap.size from Nat.le_refl _))⟩
  · by_cases h0 : ts = 0
    · subst h0
      have e_ : stF a true 0 g0 g1 = 3 := by unfold stF; simp
      go_wp2
      (try (go_quiet (fail)))
      (try go_wp2)
      go_ret
      exact ⟨by first | rfl | exact congrArg (fun b => Ending.returned (Value.int .i64 b)) e_.symm, by repeat (first | with_reducible exact HB.out | with_reducible apply pw_below_drewN | with_reducible apply below_drew1 | refine below_set ?_ (show w.heap.size ≤ w.heap.size + 1 from Nat.le_succ _) | refine below_set ?_ (show w.heap.size ≤ w.heap.size from Nat.le_refl _))⟩
    · have d : decide (ts > 0) = true := decide_eq_true (by omega)
      have e_ : stF a true ts g0 g1 = 2 := by unfold stF; simp [h0]
      clear h0 ht ha
      go_wp2
      go_ret
      exact ⟨by first | rfl | exact congrArg (fun b => Ending.returned (Value.int .i64 b)) e_.symm, by repeat (first | with_reducible exact HB.out | with_reducible apply pw_below_drewN | with_reducible apply below_drew1 | refine below_set ?_ (show w.heap.size ≤ w.heap.size + 1 from Nat.le_succ _) | refine below_set ?_ (show w.heap.size ≤ w.heap.size from Nat.le_refl _))⟩
end Go.Proofs.Ytoiahmdibibceaa.Tb
