import Derived.Test.YtoiahmdibibceaaXTbA
set_option linter.unusedVariables false
set_option linter.unusedSimpArgs false
namespace Go.Proofs.Ytoiahmdibibceaa.Tb
open Go.RowKit Go.Proofs.YtoiahmdibibceaaW.PrintWords Go.Proofs.YtoiahmdibibceaaW.PrintLast Go.Proofs.YtoiahmdibibceaaW.PrintMore
set_option maxRecDepth 100000 in
set_option maxHeartbeats 16000000 in
theorem rdone_calls (a : Int) (tr : Bool) (ts ls v0 v1 : Int) (g0 g1 : Bool) (w : World) (ha : a = 0 ∨ a = 1) : Calls Try.prog 59 #[.agg (bcells a tr ts ls v0 v1 g0 g1)] w fun e w' => e = .returned (.tuple #[.agg (bcells (1 - a) false ts ls v0 v1 (if a = 0 then false else g0) (if a = 0 then g1 else false)), .int .i64 0]) ∧ Below w.heap.size w w' := by
  go_enter Try.func59, Try.ntmps59
  go_upto_region 1 with (fail)
  obtain ⟨W, hW⟩ : ∃ W : World, W = (w.alloc (.cells (bcells a tr ts ls v0 v1 g0 g1) 40)).alloc (.cells (bcells 0 false 0 0 0 0 false false) 40) := ⟨_, rfl⟩
  have bk : W.heap[w.heap.size]? = some (.cells (bcells a tr ts ls v0 v1 g0 g1) 40 (0, 0)) := by rw [hW]; exact blk_alloc (blk_new _ _) _
  have bz : W.heap[w.heap.size + 1]? = some (.cells (bcells 0 false 0 0 0 0 false false) 40 (0, 0)) := by rw [hW]; have h9 := blk_new (w.alloc (.cells (bcells a tr ts ls v0 v1 g0 g1) 40)) (.cells (bcells 0 false 0 0 0 0 false false) 40); simpa using h9
  have hb : Below w.heap.size w W := by rw [hW]; exact below_alloc (below_alloc (Below.refl _ _) _) _
  rw [← hW]
  clear hW
  have HB := Aside0.mk hb
  have BK := Aside0.mk bk
  have BZ := Aside0.mk bz
  have c0 := (blk_cell bk 0).trans rfl
  have c1 := (blk_cell bk 1).trans rfl
  have c2 := (blk_cell bk 2).trans rfl
  have c3 := (blk_cell bk 3).trans rfl
  have c4 := (blk_cell bk 4).trans rfl
  have c5 := (blk_cell bk 5).trans rfl
  have c6 := (blk_cell bk 6).trans rfl
  have c7 := (blk_cell bk 7).trans rfl
  have fc0 := blk_frozen bk 0
  have fc1 := blk_frozen bk 1
  have fc2 := blk_frozen bk 2
  have fc3 := blk_frozen bk 3
  have fc4 := blk_frozen bk 4
  have fc5 := blk_frozen bk 5
  have fc6 := blk_frozen bk 6
  have fc7 := blk_frozen bk 7
  have z0 := (blk_cell bz 0).trans rfl
  have z1 := (blk_cell bz 1).trans rfl
  have z2 := (blk_cell bz 2).trans rfl
  have z3 := (blk_cell bz 3).trans rfl
  have z4 := (blk_cell bz 4).trans rfl
  have z5 := (blk_cell bz 5).trans rfl
  have z6 := (blk_cell bz 6).trans rfl
  have z7 := (blk_cell bz 7).trans rfl
  have fz0 := blk_frozen bz 0
  have fz1 := blk_frozen bz 1
  have fz2 := blk_frozen bz 2
  have fz3 := blk_frozen bz 3
  have fz4 := blk_frozen bz 4
  have fz5 := blk_frozen bz 5
  have fz6 := blk_frozen bz 6
  have fz7 := blk_frozen bz 7
  clear bk hb bz
  rcases ha with rfl | rfl
  · go_wp2
    (try (go_quiet (fail)))
    (try go_wp2)
    refine bodyPost_ret (ret2_row rfl _ _ _ (w.heap.size + 1) 40 #[_, _, _, _, _, _, _, _] (0, 0) _ (.int .i64 0) rfl rfl (by first | exact (blk_all8 (t := 40) (cs := bcells 0 false 0 0 0 0 false false) (by repeat (first | with_reducible exact BZ.out | refine blk_far ?_ (Nat.succ_ne_self _) _ | with_reducible refine blk_drewN ?_ _)) rfl _ _ _ _ _ _ _ _) | exact blk_drew1 (blk_all8 (t := 40) (cs := bcells 0 false 0 0 0 0 false false) (by repeat (first | with_reducible exact BZ.out | refine blk_far ?_ (Nat.succ_ne_self _) _ | with_reducible refine blk_drewN ?_ _)) rfl _ _ _ _ _ _ _ _) | exact blk_drewN (blk_all8 (t := 40) (cs := bcells 0 false 0 0 0 0 false false) (by repeat (first | with_reducible exact BZ.out | refine blk_far ?_ (Nat.succ_ne_self _) _ | with_reducible refine blk_drewN ?_ _)) rfl _ _ _ _ _ _ _ _) _) Try.underlying40 rfl info40) rfl ?_
    exact ⟨by first | (rw [show (1:Int) = 1 from rfl]; rfl) | rfl, by repeat (first | with_reducible exact HB.out | with_reducible apply pw_below_drewN | with_reducible apply below_drew1 | refine below_set ?_ (show w.heap.size ≤ w.heap.size + 1 from Nat.le_succ _) | refine below_set ?_ (show w.heap.size ≤ w.heap.size from Nat.le_refl _))⟩
  · go_wp2
    (try (go_quiet (fail)))
    (try go_wp2)
    refine bodyPost_ret (ret2_row rfl _ _ _ (w.heap.size + 1) 40 #[_, _, _, _, _, _, _, _] (0, 0) _ (.int .i64 0) rfl rfl (by first | exact (blk_all8 (t := 40) (cs := bcells 0 false 0 0 0 0 false false) (by repeat (first | with_reducible exact BZ.out | refine blk_far ?_ (Nat.succ_ne_self _) _ | with_reducible refine blk_drewN ?_ _)) rfl _ _ _ _ _ _ _ _) | exact blk_drew1 (blk_all8 (t := 40) (cs := bcells 0 false 0 0 0 0 false false) (by repeat (first | with_reducible exact BZ.out | refine blk_far ?_ (Nat.succ_ne_self _) _ | with_reducible refine blk_drewN ?_ _)) rfl _ _ _ _ _ _ _ _) | exact blk_drewN (blk_all8 (t := 40) (cs := bcells 0 false 0 0 0 0 false false) (by repeat (first | with_reducible exact BZ.out | refine blk_far ?_ (Nat.succ_ne_self _) _ | with_reducible refine blk_drewN ?_ _)) rfl _ _ _ _ _ _ _ _) _) Try.underlying40 rfl info40) rfl ?_
    exact ⟨by first | (rw [show (1:Int) = 1 from rfl]; rfl) | rfl, by repeat (first | with_reducible exact HB.out | with_reducible apply pw_below_drewN | with_reducible apply below_drew1 | refine below_set ?_ (show w.heap.size ≤ w.heap.size + 1 from Nat.le_succ _) | refine below_set ?_ (show w.heap.size ≤ w.heap.size from Nat.le_refl _))⟩
end Go.Proofs.Ytoiahmdibibceaa.Tb
