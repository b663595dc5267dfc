import Derived.Test.YtoiahmdibibceaaXTbA
import Derived.Test.YtoiahmdibibceaaXTbC
import Derived.Test.YtoiahmdibibceaaXTbS
set_option linter.unusedVariables false
set_option linter.unusedSimpArgs false
namespace Go.Proofs.Ytoiahmdibibceaa.Tb
open Go.RowKit Go.Proofs.YtoiahmdibibceaaW.PrintWords Go.Proofs.YtoiahmdibibceaaW.PrintLast Go.Proofs.YtoiahmdibibceaaW.PrintMore
set_option maxRecDepth 100000 in
set_option maxHeartbeats 16000000 in
theorem confirm_calls (x : Bt) (w : World) : Calls Try.prog 58 #[.agg x.c] w fun e w' => e = .returned (.tuple #[.agg x.confirm.1.c, .int .i64 x.confirm.2]) ∧ Below w.heap.size w w' := by
  obtain ⟨a, tr, ts, ls, v0, v1, g0, g1⟩ := x
  show Calls Try.prog 58 #[.agg (bcells a tr ts ls v0 v1 g0 g1)] w _
  go_enter Try.func58, Try.ntmps58
  go_upto_region 1 with (fail)
  obtain ⟨W, hW⟩ : ∃ W : World, W = (w.alloc (.cells (bcells a tr ts ls v0 v1 g0 g1) 40)).alloc (.cells (bcells 0 false 0 0 0 0 false false) 40) := ⟨_, rfl⟩
  have bk : W.heap[w.heap.size]? = some (.cells (bcells a tr ts ls v0 v1 g0 g1) 40 (0, 0)) := by rw [hW]; exact blk_alloc (blk_new _ _) _
  have bz : W.heap[w.heap.size + 1]? = some (.cells (bcells 0 false 0 0 0 0 false false) 40 (0, 0)) := by rw [hW]; have h9 := blk_new (w.alloc (.cells (bcells a tr ts ls v0 v1 g0 g1) 40)) (.cells (bcells 0 false 0 0 0 0 false false) 40); simpa using h9
  have hb : Below w.heap.size w W := by rw [hW]; exact below_alloc (below_alloc (Below.refl _ _) _) _
  rw [← hW]
  clear hW
  have HB := Aside0.mk hb
  have BK := Aside0.mk bk
  have BZ := Aside0.mk bz
  have c0 := (blk_cell bk 0).trans rfl
  have c1 := (blk_cell bk 1).trans rfl
  have c2 := (blk_cell bk 2).trans rfl
  have c3 := (blk_cell bk 3).trans rfl
  have c4 := (blk_cell bk 4).trans rfl
  have c5 := (blk_cell bk 5).trans rfl
  have c6 := (blk_cell bk 6).trans rfl
  have c7 := (blk_cell bk 7).trans rfl
  clear hb bk bz
  by_cases hc0 : chkB a tr ts ls v0 v1 g0 g1 = false
  · have hc := hc0
    have e_ : Bt.confirm (⟨a, tr, ts, ls, v0, v1, g0, g1⟩ : Bt) = (Bt.zero, 1) := by unfold Bt.confirm; exact if_pos hc
    go_wp2_with (first | (go_at_call 36; (with_reducible refine (check_calls _ _ _ _ _ _ _ _ _).mono ?_); rintro e w8 ⟨rfl, hb8⟩; have bk8 := blk_keep BK.out hb8; have bz8 := blk_keep BZ.out hb8; have c08 := (blk_cell bk8 0).trans rfl; have c18 := (blk_cell bk8 1).trans rfl; have c28 := (blk_cell bk8 2).trans rfl; have c38 := (blk_cell bk8 3).trans rfl; have c48 := (blk_cell bk8 4).trans rfl; have c58 := (blk_cell bk8 5).trans rfl; have c68 := (blk_cell bk8 6).trans rfl; have c78 := (blk_cell bk8 7).trans rfl; have z08 := (blk_cell bz8 0).trans rfl; have z18 := (blk_cell bz8 1).trans rfl; have z28 := (blk_cell bz8 2).trans rfl; have z38 := (blk_cell bz8 3).trans rfl; have z48 := (blk_cell bz8 4).trans rfl; have z58 := (blk_cell bz8 5).trans rfl; have z68 := (blk_cell bz8 6).trans rfl; have z78 := (blk_cell bz8 7).trans rfl; have fc08 := blk_frozen bk8 0; have fz08 := blk_frozen bz8 0; have fc18 := blk_frozen bk8 1; have fz18 := blk_frozen bz8 1; have fc28 := blk_frozen bk8 2; have fz28 := blk_frozen bz8 2; have fc38 := blk_frozen bk8 3; have fz38 := blk_frozen bz8 3; have fc48 := blk_frozen bk8 4; have fz48 := blk_frozen bz8 4; have fc58 := blk_frozen bk8 5; have fz58 := blk_frozen bz8 5; have fc68 := blk_frozen bk8 6; have fz68 := blk_frozen bz8 6; have fc78 := blk_frozen bk8 7; have fz78 := blk_frozen bz8 7; have HB8 := Aside0.mk (below_step HB.out hb8); have BK8 := Aside0.mk bk8; have BZ8 := Aside0.mk bz8; clear hb8 bk8 bz8; rw [hc]))
    (try (go_quiet (fail)))
    (try go_wp2)
    refine bodyPost_ret (ret2_row rfl _ _ _ (w.heap.size + 1) 40 _ (0, 0) _ (.int .i64 1) rfl rfl (blk_all8 (t := 40) (cs := bcells 0 false 0 0 0 0 false false) (by repeat (first | with_reducible exact BZ8.out | refine blk_far ?_ (Nat.succ_ne_self _) _ | with_reducible refine blk_drewN ?_ _)) rfl _ _ _ _ _ _ _ _) Try.underlying40 rfl info40) rfl ?_
    exact ⟨by first | (rw [e_]; rfl) | rfl, by repeat (first | with_reducible exact HB8.out | with_reducible apply pw_below_drewN | with_reducible apply below_drew1 | refine below_set ?_ (show w.heap.size ≤ w.heap.size + 1 from Nat.le_succ _) | refine below_set ?_ (show w.heap.size ≤ w.heap.size from Nat.le_refl _))⟩
  have hc : chkB a tr ts ls v0 v1 g0 g1 = true := by simpa using hc0
  clear hc0
  rcases chk_a hc with rfl | rfl
  · cases tr
    · have e_ : Bt.confirm (⟨0, false, ts, ls, v0, v1, g0, g1⟩ : Bt) = (Bt.zero, 211) := by unfold Bt.confirm Bt.chk; simp [hc]
      go_wp2_with (first | (go_at_call 36; (with_reducible refine (check_calls _ _ _ _ _ _ _ _ _).mono ?_); rintro e w8 ⟨rfl, hb8⟩; have bk8 := blk_keep BK.out hb8; have bz8 := blk_keep BZ.out hb8; have c08 := (blk_cell bk8 0).trans rfl; have c18 := (blk_cell bk8 1).trans rfl; have c28 := (blk_cell bk8 2).trans rfl; have c38 := (blk_cell bk8 3).trans rfl; have c48 := (blk_cell bk8 4).trans rfl; have c58 := (blk_cell bk8 5).trans rfl; have c68 := (blk_cell bk8 6).trans rfl; have c78 := (blk_cell bk8 7).trans rfl; have z08 := (blk_cell bz8 0).trans rfl; have z18 := (blk_cell bz8 1).trans rfl; have z28 := (blk_cell bz8 2).trans rfl; have z38 := (blk_cell bz8 3).trans rfl; have z48 := (blk_cell bz8 4).trans rfl; have z58 := (blk_cell bz8 5).trans rfl; have z68 := (blk_cell bz8 6).trans rfl; have z78 := (blk_cell bz8 7).trans rfl; have fc08 := blk_frozen bk8 0; have fz08 := blk_frozen bz8 0; have fc18 := blk_frozen bk8 1; have fz18 := blk_frozen bz8 1; have fc28 := blk_frozen bk8 2; have fz28 := blk_frozen bz8 2; have fc38 := blk_frozen bk8 3; have fz38 := blk_frozen bz8 3; have fc48 := blk_frozen bk8 4; have fz48 := blk_frozen bz8 4; have fc58 := blk_frozen bk8 5; have fz58 := blk_frozen bz8 5; have fc68 := blk_frozen bk8 6; have fz68 := blk_frozen bz8 6; have fc78 := blk_frozen bk8 7; have fz78 := blk_frozen bz8 7; have HB8 := Aside0.mk (below_step HB.out hb8); have BK8 := Aside0.mk bk8; have BZ8 := Aside0.mk bz8; clear hb8 bk8 bz8; rw [hc]))
      (try (go_quiet (fail)))
      (try go_wp2)
      refine bodyPost_ret (ret2_row rfl _ _ _ (w.heap.size + 1) 40 _ (0, 0) _ (.int .i64 211) rfl rfl (blk_all8 (t := 40) (cs := bcells 0 false 0 0 0 0 false false) (by repeat (first | with_reducible exact BZ8.out | refine blk_far ?_ (Nat.succ_ne_self _) _ | with_reducible refine blk_drewN ?_ _)) rfl _ _ _ _ _ _ _ _) Try.underlying40 rfl info40) rfl ?_
      exact ⟨by first | (rw [e_]; rfl) | rfl, by repeat (first | with_reducible exact HB8.out | with_reducible apply pw_below_drewN | with_reducible apply below_drew1 | refine below_set ?_ (show w.heap.size ≤ w.heap.size + 1 from Nat.le_succ _) | refine below_set ?_ (show w.heap.size ≤ w.heap.size from Nat.le_refl _))⟩
    · have e_ : Bt.confirm (⟨0, true, ts, ls, v0, v1, g0, g1⟩ : Bt) = ((⟨0, false, 0, max ls v0, v0, v1, g0, g1⟩ : Bt), 0) := by unfold Bt.confirm Bt.chk Bt.va; simp [hc]
      go_wp2_with (first | (go_at_call 36; (with_reducible refine (check_calls _ _ _ _ _ _ _ _ _).mono ?_); rintro e w8 ⟨rfl, hb8⟩; have bk8 := blk_keep BK.out hb8; have bz8 := blk_keep BZ.out hb8; have c08 := (blk_cell bk8 0).trans rfl; have c18 := (blk_cell bk8 1).trans rfl; have c28 := (blk_cell bk8 2).trans rfl; have c38 := (blk_cell bk8 3).trans rfl; have c48 := (blk_cell bk8 4).trans rfl; have c58 := (blk_cell bk8 5).trans rfl; have c68 := (blk_cell bk8 6).trans rfl; have c78 := (blk_cell bk8 7).trans rfl; have z08 := (blk_cell bz8 0).trans rfl; have z18 := (blk_cell bz8 1).trans rfl; have z28 := (blk_cell bz8 2).trans rfl; have z38 := (blk_cell bz8 3).trans rfl; have z48 := (blk_cell bz8 4).trans rfl; have z58 := (blk_cell bz8 5).trans rfl; have z68 := (blk_cell bz8 6).trans rfl; have z78 := (blk_cell bz8 7).trans rfl; have fc08 := blk_frozen bk8 0; have fz08 := blk_frozen bz8 0; have fc18 := blk_frozen bk8 1; have fz18 := blk_frozen bz8 1; have fc28 := blk_frozen bk8 2; have fz28 := blk_frozen bz8 2; have fc38 := blk_frozen bk8 3; have fz38 := blk_frozen bz8 3; have fc48 := blk_frozen bk8 4; have fz48 := blk_frozen bz8 4; have fc58 := blk_frozen bk8 5; have fz58 := blk_frozen bz8 5; have fc68 := blk_frozen bk8 6; have fz68 := blk_frozen bz8 6; have fc78 := blk_frozen bk8 7; have fz78 := blk_frozen bz8 7; have HB8 := Aside0.mk (below_step HB.out hb8); have BK8 := Aside0.mk bk8; have BZ8 := Aside0.mk bz8; clear hb8 bk8 bz8; rw [hc]))
      go_region
      (try go_wp2)
      all_goals first | (have hm : max ls v0 = v0 := by omega) | (have hm : max ls v0 = ls := by omega)
      all_goals (
      refine bodyPost_ret (ret2_row rfl _ _ _ (w.heap.size + 1) 40 _ (0, 0) _ (.int .i64 0) rfl rfl (blk_drew1 (blk_all8 (t := 40) (cs := bcells 0 false 0 0 0 0 false false) (by repeat (first | with_reducible exact BZ8.out | refine blk_far ?_ (Nat.succ_ne_self _) _ | with_reducible refine blk_drewN ?_ _)) rfl _ _ _ _ _ _ _ _)) Try.underlying40 rfl info40) rfl ?_
      exact ⟨by first | (rw [e_]; rfl) | rfl | (rw [hm]; rfl), by repeat (first | with_reducible exact HB8.out | with_reducible apply pw_below_drewN | with_reducible apply below_drew1 | refine below_set ?_ (show w.heap.size ≤ w.heap.size + 1 from Nat.le_succ _) | refine below_set ?_ (show w.heap.size ≤ w.heap.size from Nat.le_refl _))⟩)
  · cases tr
    · have e_ : Bt.confirm (⟨1, false, ts, ls, v0, v1, g0, g1⟩ : Bt) = (Bt.zero, 211) := by unfold Bt.confirm Bt.chk; simp [hc]
      go_wp2_with (first | (go_at_call 36; (with_reducible refine (check_calls _ _ _ _ _ _ _ _ _).mono ?_); rintro e w8 ⟨rfl, hb8⟩; have bk8 := blk_keep BK.out hb8; have bz8 := blk_keep BZ.out hb8; have c08 := (blk_cell bk8 0).trans rfl; have c18 := (blk_cell bk8 1).trans rfl; have c28 := (blk_cell bk8 2).trans rfl; have c38 := (blk_cell bk8 3).trans rfl; have c48 := (blk_cell bk8 4).trans rfl; have c58 := (blk_cell bk8 5).trans rfl; have c68 := (blk_cell bk8 6).trans rfl; have c78 := (blk_cell bk8 7).trans rfl; have z08 := (blk_cell bz8 0).trans rfl; have z18 := (blk_cell bz8 1).trans rfl; have z28 := (blk_cell bz8 2).trans rfl; have z38 := (blk_cell bz8 3).trans rfl; have z48 := (blk_cell bz8 4).trans rfl; have z58 := (blk_cell bz8 5).trans rfl; have z68 := (blk_cell bz8 6).trans rfl; have z78 := (blk_cell bz8 7).trans rfl; have fc08 := blk_frozen bk8 0; have fz08 := blk_frozen bz8 0; have fc18 := blk_frozen bk8 1; have fz18 := blk_frozen bz8 1; have fc28 := blk_frozen bk8 2; have fz28 := blk_frozen bz8 2; have fc38 := blk_frozen bk8 3; have fz38 := blk_frozen bz8 3; have fc48 := blk_frozen bk8 4; have fz48 := blk_frozen bz8 4; have fc58 := blk_frozen bk8 5; have fz58 := blk_frozen bz8 5; have fc68 := blk_frozen bk8 6; have fz68 := blk_frozen bz8 6; have fc78 := blk_frozen bk8 7; have fz78 := blk_frozen bz8 7; have HB8 := Aside0.mk (below_step HB.out hb8); have BK8 := Aside0.mk bk8; have BZ8 := Aside0.mk bz8; clear hb8 bk8 bz8; rw [hc]))
      (try (go_quiet (fail)))
      (try go_wp2)
      refine bodyPost_ret (ret2_row rfl _ _ _ (w.heap.size + 1) 40 _ (0, 0) _ (.int .i64 211) rfl rfl (blk_all8 (t := 40) (cs := bcells 0 false 0 0 0 0 false false) (by repeat (first | with_reducible exact BZ8.out | refine blk_far ?_ (Nat.succ_ne_self _) _ | with_reducible refine blk_drewN ?_ _)) rfl _ _ _ _ _ _ _ _) Try.underlying40 rfl info40) rfl ?_
      exact ⟨by first | (rw [e_]; rfl) | rfl, by repeat (first | with_reducible exact HB8.out | with_reducible apply pw_below_drewN | with_reducible apply below_drew1 | refine below_set ?_ (show w.heap.size ≤ w.heap.size + 1 from Nat.le_succ _) | refine below_set ?_ (show w.heap.size ≤ w.heap.size from Nat.le_refl _))⟩
    · have e_ : Bt.confirm (⟨1, true, ts, ls, v0, v1, g0, g1⟩ : Bt) = ((⟨1, false, 0, max ls v1, v0, v1, g0, g1⟩ : Bt), 0) := by unfold Bt.confirm Bt.chk Bt.va; simp [hc]
      go_wp2_with (first | (go_at_call 36; (with_reducible refine (check_calls _ _ _ _ _ _ _ _ _).mono ?_); rintro e w8 ⟨rfl, hb8⟩; have bk8 := blk_keep BK.out hb8; have bz8 := blk_keep BZ.out hb8; have c08 := (blk_cell bk8 0).trans rfl; have c18 := (blk_cell bk8 1).trans rfl; have c28 := (blk_cell bk8 2).trans rfl; have c38 := (blk_cell bk8 3).trans rfl; have c48 := (blk_cell bk8 4).trans rfl; have c58 := (blk_cell bk8 5).trans rfl; have c68 := (blk_cell bk8 6).trans rfl; have c78 := (blk_cell bk8 7).trans rfl; have z08 := (blk_cell bz8 0).trans rfl; have z18 := (blk_cell bz8 1).trans rfl; have z28 := (blk_cell bz8 2).trans rfl; have z38 := (blk_cell bz8 3).trans rfl; have z48 := (blk_cell bz8 4).trans rfl; have z58 := (blk_cell bz8 5).trans rfl; have z68 := (blk_cell bz8 6).trans rfl; have z78 := (blk_cell bz8 7).trans rfl; have fc08 := blk_frozen bk8 0; have fz08 := blk_frozen bz8 0; have fc18 := blk_frozen bk8 1; have fz18 := blk_frozen bz8 1; have fc28 := blk_frozen bk8 2; have fz28 := blk_frozen bz8 2; have fc38 := blk_frozen bk8 3; have fz38 := blk_frozen bz8 3; have fc48 := blk_frozen bk8 4; have fz48 := blk_frozen bz8 4; have fc58 := blk_frozen bk8 5; have fz58 := blk_frozen bz8 5; have fc68 := blk_frozen bk8 6; have fz68 := blk_frozen bz8 6; have fc78 := blk_frozen bk8 7; have fz78 := blk_frozen bz8 7; have HB8 := Aside0.mk (below_step HB.out hb8); have BK8 := Aside0.mk bk8; have BZ8 := Aside0.mk bz8; clear hb8 bk8 bz8; rw [hc]))
      go_region
      (try go_wp2)
      all_goals first | (have hm : max ls v1 = v1 := by omega) | (have hm : max ls v1 = ls := by omega)
      all_goals (
      refine bodyPost_ret (ret2_row rfl _ _ _ (w.heap.size + 1) 40 _ (0, 0) _ (.int .i64 0) rfl rfl (blk_drew1 (blk_all8 (t := 40) (cs := bcells 0 false 0 0 0 0 false false) (by repeat (first | with_reducible exact BZ8.out | refine blk_far ?_ (Nat.succ_ne_self _) _ | with_reducible refine blk_drewN ?_ _)) rfl _ _ _ _ _ _ _ _)) Try.underlying40 rfl info40) rfl ?_
      exact ⟨by first | (rw [e_]; rfl) | rfl | (rw [hm]; rfl), by repeat (first | with_reducible exact HB8.out | with_reducible apply pw_below_drewN | with_reducible apply below_drew1 | refine below_set ?_ (show w.heap.size ≤ w.heap.size + 1 from Nat.le_succ _) | refine below_set ?_ (show w.heap.size ≤ w.heap.size from Nat.le_refl _))⟩)
end Go.Proofs.Ytoiahmdibibceaa.Tb
