import Derived.Test.YtoiahmdibibceaaXTbRA
import Derived.Test.YtoiahmdibibceaaXTbY
set_option linter.unusedVariables false
set_option linter.unusedSimpArgs false
namespace Go.Proofs.Ytoiahmdibibceaa.Tb
open Go.RowKit Go.Proofs.YtoiahmdibibceaaW.PrintWords Go.Proofs.YtoiahmdibibceaaW.PrintLast Go.Proofs.YtoiahmdibibceaaW.PrintMore
set_option maxRecDepth 100000 in
set_option maxHeartbeats 16000000 in
theorem lact_calls (x : Bt) (k n : Int) (w : World) : Calls Try.prog 34 #[.agg x.c, .agg #[.int .i64 k, .int .i64 n]] w fun e w' => e = .returned (.tuple #[.agg (x.act k n).1.c, .int .i64 (x.act k n).2]) ∧ Below w.heap.size w w' := by
  rcases hy : x.act k n with ⟨⟨a1, tr1, ts1, ls1, v01, v11, g01, g11⟩, c⟩
  obtain ⟨a, tr, ts, ls, v0, v1, g0, g1⟩ := x
  show Calls Try.prog 34 #[.agg (bcells a tr ts ls v0 v1 g0 g1), .agg #[.int .i64 k, .int .i64 n]] w fun e w' => e = .returned (.tuple #[.agg (bcells a1 tr1 ts1 ls1 v01 v11 g01 g11), .int .i64 c]) ∧ Below w.heap.size w w'
  have hk : k = 0 ∨ k = 1 ∨ k = 2 ∨ k = 3 ∨ (k ≠ 0 ∧ k ≠ 1 ∧ k ≠ 2 ∧ k ≠ 3) := by omega
  go_enter Try.func34, Try.ntmps34
  go_upto_region 1 with (fail)
  refine wp_gen (fun W => W.heap[w.heap.size]? = some (.cells (bcells a tr ts ls v0 v1 g0 g1) 40 (0, 0)) ∧ W.heap[w.heap.size + 1]? = some (.cells #[.int .i64 k, .int .i64 n] 49 (0, 0)) ∧ W.heap[w.heap.size + 1 + 1]? = some (.cells (bcells 0 false 0 0 0 0 false false) 40 (0, 0)) ∧ Below w.heap.size w W) ⟨blk_alloc (blk_alloc (blk_new _ _) _) _, blk_alloc (by have h9 := blk_new (w.alloc (.cells (bcells a tr ts ls v0 v1 g0 g1) 40)) (.cells #[.int .i64 k, .int .i64 n] 49); simpa using h9) _, (by have h9 := blk_new ((w.alloc (.cells (bcells a tr ts ls v0 v1 g0 g1) 40)).alloc (.cells #[.int .i64 k, .int .i64 n] 49)) (.cells (bcells 0 false 0 0 0 0 false false) 40); simpa using h9), (by repeat (first | exact Below.refl _ _ | apply below_alloc))⟩ ?_
  rintro W ⟨bk, ba, bz, hb⟩
  have HB := Aside0.mk hb
  have BZ := Aside0.mk bz
  have c0 := (blk_cell bk 0).trans rfl
  have c1 := (blk_cell bk 1).trans rfl
  have c2 := (blk_cell bk 2).trans rfl
  have c3 := (blk_cell bk 3).trans rfl
  have c4 := (blk_cell bk 4).trans rfl
  have c5 := (blk_cell bk 5).trans rfl
  have c6 := (blk_cell bk 6).trans rfl
  have c7 := (blk_cell bk 7).trans rfl
  have d0 := (blk_cell ba 0).trans rfl
  have d1 := (blk_cell ba 1).trans rfl
  clear bk ba bz hb
  rcases hk with rfl | rfl | rfl | rfl | ⟨k0, k1, k2, k3⟩
  · have hY := Aside0.mk (show Bt.inst ⟨a, tr, ts, ls, v0, v1, g0, g1⟩ n = (⟨a1, tr1, ts1, ls1, v01, v11, g01, g11⟩, c) from hy)
    clear hy
    go_wp2_with (first | (go_at_call 29; (with_reducible refine (install_y ⟨a, tr, ts, ls, v0, v1, g0, g1⟩ _ hY.out _).mono ?_); rintro e w8 ⟨rfl, hb8⟩; have bz8 := blk_keep BZ.out hb8; have z80 := (blk_cell bz8 0).trans rfl; have z81 := (blk_cell bz8 1).trans rfl; have z82 := (blk_cell bz8 2).trans rfl; have z83 := (blk_cell bz8 3).trans rfl; have z84 := (blk_cell bz8 4).trans rfl; have z85 := (blk_cell bz8 5).trans rfl; have z86 := (blk_cell bz8 6).trans rfl; have z87 := (blk_cell bz8 7).trans rfl; have fz80 := blk_frozen bz8 0; have fz81 := blk_frozen bz8 1; have fz82 := blk_frozen bz8 2; have fz83 := blk_frozen bz8 3; have fz84 := blk_frozen bz8 4; have fz85 := blk_frozen bz8 5; have fz86 := blk_frozen bz8 6; have fz87 := blk_frozen bz8 7; have HB8 := Aside0.mk (below_step HB.out hb8); have BZ8 := Aside0.mk bz8; clear hb8 bz8))
    refine bodyPost_ret (ret2_row rfl _ _ _ (w.heap.size + 1 + 1) 40 #[_, _, _, _, _, _, _, _] (0, 0) _ (.int .i64 c) rfl rfl (by first | exact (blk_all8 (t := 40) BZ8.out rfl _ _ _ _ _ _ _ _) | exact blk_drew1 (blk_all8 (t := 40) BZ8.out rfl _ _ _ _ _ _ _ _) | exact blk_drewN (blk_all8 (t := 40) BZ8.out rfl _ _ _ _ _ _ _ _) _) Try.underlying40 rfl info40) rfl ?_
    exact ⟨rfl, (by repeat (first | with_reducible exact HB8.out | with_reducible apply pw_below_drewN | with_reducible apply below_drew1 | with_reducible refine below_alloc ?_ _ | refine below_set ?_ (by omega)))⟩
  · have hY := Aside0.mk (show Bt.ready ⟨a, tr, ts, ls, v0, v1, g0, g1⟩ = (⟨a1, tr1, ts1, ls1, v01, v11, g01, g11⟩, c) from hy)
    clear hy
    go_wp2_with (first | (go_at_call 30; (with_reducible refine (ready_y ⟨a, tr, ts, ls, v0, v1, g0, g1⟩ hY.out _).mono ?_); rintro e w8 ⟨rfl, hb8⟩; have bz8 := blk_keep BZ.out hb8; have z80 := (blk_cell bz8 0).trans rfl; have z81 := (blk_cell bz8 1).trans rfl; have z82 := (blk_cell bz8 2).trans rfl; have z83 := (blk_cell bz8 3).trans rfl; have z84 := (blk_cell bz8 4).trans rfl; have z85 := (blk_cell bz8 5).trans rfl; have z86 := (blk_cell bz8 6).trans rfl; have z87 := (blk_cell bz8 7).trans rfl; have fz80 := blk_frozen bz8 0; have fz81 := blk_frozen bz8 1; have fz82 := blk_frozen bz8 2; have fz83 := blk_frozen bz8 3; have fz84 := blk_frozen bz8 4; have fz85 := blk_frozen bz8 5; have fz86 := blk_frozen bz8 6; have fz87 := blk_frozen bz8 7; have HB8 := Aside0.mk (below_step HB.out hb8); have BZ8 := Aside0.mk bz8; clear hb8 bz8))
    refine bodyPost_ret (ret2_row rfl _ _ _ (w.heap.size + 1 + 1) 40 #[_, _, _, _, _, _, _, _] (0, 0) _ (.int .i64 c) rfl rfl (by first | exact (blk_all8 (t := 40) BZ8.out rfl _ _ _ _ _ _ _ _) | exact blk_drew1 (blk_all8 (t := 40) BZ8.out rfl _ _ _ _ _ _ _ _) | exact blk_drewN (blk_all8 (t := 40) BZ8.out rfl _ _ _ _ _ _ _ _) _) Try.underlying40 rfl info40) rfl ?_
    exact ⟨rfl, (by repeat (first | with_reducible exact HB8.out | with_reducible apply pw_below_drewN | with_reducible apply below_drew1 | with_reducible refine below_alloc ?_ _ | refine below_set ?_ (by omega)))⟩
  · have hY := Aside0.mk (show Bt.switch ⟨a, tr, ts, ls, v0, v1, g0, g1⟩ n = (⟨a1, tr1, ts1, ls1, v01, v11, g01, g11⟩, c) from hy)
    clear hy
    go_wp2_with (first | (go_at_call 31; (with_reducible refine (switch_y ⟨a, tr, ts, ls, v0, v1, g0, g1⟩ _ hY.out _).mono ?_); rintro e w8 ⟨rfl, hb8⟩; have bz8 := blk_keep BZ.out hb8; have z80 := (blk_cell bz8 0).trans rfl; have z81 := (blk_cell bz8 1).trans rfl; have z82 := (blk_cell bz8 2).trans rfl; have z83 := (blk_cell bz8 3).trans rfl; have z84 := (blk_cell bz8 4).trans rfl; have z85 := (blk_cell bz8 5).trans rfl; have z86 := (blk_cell bz8 6).trans rfl; have z87 := (blk_cell bz8 7).trans rfl; have fz80 := blk_frozen bz8 0; have fz81 := blk_frozen bz8 1; have fz82 := blk_frozen bz8 2; have fz83 := blk_frozen bz8 3; have fz84 := blk_frozen bz8 4; have fz85 := blk_frozen bz8 5; have fz86 := blk_frozen bz8 6; have fz87 := blk_frozen bz8 7; have HB8 := Aside0.mk (below_step HB.out hb8); have BZ8 := Aside0.mk bz8; clear hb8 bz8))
    refine bodyPost_ret (ret2_row rfl _ _ _ (w.heap.size + 1 + 1) 40 #[_, _, _, _, _, _, _, _] (0, 0) _ (.int .i64 c) rfl rfl (by first | exact (blk_all8 (t := 40) BZ8.out rfl _ _ _ _ _ _ _ _) | exact blk_drew1 (blk_all8 (t := 40) BZ8.out rfl _ _ _ _ _ _ _ _) | exact blk_drewN (blk_all8 (t := 40) BZ8.out rfl _ _ _ _ _ _ _ _) _) Try.underlying40 rfl info40) rfl ?_
    exact ⟨rfl, (by repeat (first | with_reducible exact HB8.out | with_reducible apply pw_below_drewN | with_reducible apply below_drew1 | with_reducible refine below_alloc ?_ _ | refine below_set ?_ (by omega)))⟩
  · rcases hst : Bt.start ⟨a, tr, ts, ls, v0, v1, g0, g1⟩ with ⟨s, q⟩
    have hq : q = (⟨a1, tr1, ts1, ls1, v01, v11, g01, g11⟩, c) := by have h := hy; unfold Bt.act at h; rw [hst] at h; exact h
    subst hq
    have hY := Aside0.mk hst
    clear hy hst
    go_upto_region 10 with (first | (go_at_call 33; (with_reducible refine (start_y ⟨a, tr, ts, ls, v0, v1, g0, g1⟩ hY.out _).mono ?_); rintro e w8 ⟨rfl, hb8⟩; have bz8 := blk_keep BZ.out hb8; have z80 := (blk_cell bz8 0).trans rfl; have z81 := (blk_cell bz8 1).trans rfl; have z82 := (blk_cell bz8 2).trans rfl; have z83 := (blk_cell bz8 3).trans rfl; have z84 := (blk_cell bz8 4).trans rfl; have z85 := (blk_cell bz8 5).trans rfl; have z86 := (blk_cell bz8 6).trans rfl; have z87 := (blk_cell bz8 7).trans rfl; have fz80 := blk_frozen bz8 0; have fz81 := blk_frozen bz8 1; have fz82 := blk_frozen bz8 2; have fz83 := blk_frozen bz8 3; have fz84 := blk_frozen bz8 4; have fz85 := blk_frozen bz8 5; have fz86 := blk_frozen bz8 6; have fz87 := blk_frozen bz8 7; have HB8 := Aside0.mk (below_step HB.out hb8); have BZ8 := Aside0.mk bz8; clear hb8 bz8))
    refine wp_gen (fun W => W.heap[w.heap.size + 1 + 1]? = some (.cells (bcells 0 false 0 0 0 0 false false) 40 (0, 0)) ∧ W.heap[w8.heap.size]? = some (.cells (bcells a1 tr1 ts1 ls1 v01 v11 g01 g11) 40 (0, 0)) ∧ Below w.heap.size w W) ⟨blk_alloc BZ8.out _, blk_new _ _, (below_alloc HB8.out _)⟩ ?_
    obtain ⟨g2, hg2⟩ : ∃ g, g = w8.heap.size := ⟨_, rfl⟩
    simp only [← hg2]
    clear HB8 BZ8 hg2 z80 fz80 z81 fz81 z82 fz82 z83 fz83 z84 fz84 z85 fz85 z86 fz86 z87 fz87
    rintro W ⟨bz8, bd, hb8⟩
    have HB8 := Aside0.mk hb8
    have BZ8 := Aside0.mk bz8
    have z80 := (blk_cell bz8 0).trans rfl
    have z81 := (blk_cell bz8 1).trans rfl
    have z82 := (blk_cell bz8 2).trans rfl
    have z83 := (blk_cell bz8 3).trans rfl
    have z84 := (blk_cell bz8 4).trans rfl
    have z85 := (blk_cell bz8 5).trans rfl
    have z86 := (blk_cell bz8 6).trans rfl
    have z87 := (blk_cell bz8 7).trans rfl
    have fz80 := blk_frozen bz8 0
    have fz81 := blk_frozen bz8 1
    have fz82 := blk_frozen bz8 2
    have fz83 := blk_frozen bz8 3
    have fz84 := blk_frozen bz8 4
    have fz85 := blk_frozen bz8 5
    have fz86 := blk_frozen bz8 6
    have fz87 := blk_frozen bz8 7
    have y80 := (blk_cell bd 0).trans rfl
    have y81 := (blk_cell bd 1).trans rfl
    have y82 := (blk_cell bd 2).trans rfl
    have y83 := (blk_cell bd 3).trans rfl
    have y84 := (blk_cell bd 4).trans rfl
    have y85 := (blk_cell bd 5).trans rfl
    have y86 := (blk_cell bd 6).trans rfl
    have y87 := (blk_cell bd 7).trans rfl
    clear bz8 bd hb8
    go_wp2
    refine bodyPost_ret (ret2_row rfl _ _ _ (w.heap.size + 1 + 1) 40 #[_, _, _, _, _, _, _, _] (0, 0) _ (.int .i64 c) rfl rfl (by first | exact (blk_all8 (t := 40) BZ8.out rfl _ _ _ _ _ _ _ _) | exact blk_drew1 (blk_all8 (t := 40) BZ8.out rfl _ _ _ _ _ _ _ _) | exact blk_drewN (blk_all8 (t := 40) BZ8.out rfl _ _ _ _ _ _ _ _) _) Try.underlying40 rfl info40) rfl ?_
    exact ⟨rfl, (by repeat (first | with_reducible exact HB8.out | with_reducible apply pw_below_drewN | with_reducible apply below_drew1 | with_reducible refine below_alloc ?_ _ | refine below_set ?_ (by omega)))⟩
  · have hY := Aside0.mk (show Bt.confirm ⟨a, tr, ts, ls, v0, v1, g0, g1⟩ = (⟨a1, tr1, ts1, ls1, v01, v11, g01, g11⟩, c) from by have h := hy; unfold Bt.act at h; rw [if_neg k0, if_neg k1, if_neg k2, if_neg k3] at h; exact h)
    have b0 : (k == 0) = false := by simpa using k0
    have b1 : (k == 1) = false := by simpa using k1
    have b2 : (k == 2) = false := by simpa using k2
    have b3 : (k == 3) = false := by simpa using k3
    clear hy k0 k1 k2 k3
    go_wp2_with (first | (go_at_call 58; (with_reducible refine (confirm_y ⟨a, tr, ts, ls, v0, v1, g0, g1⟩ hY.out _).mono ?_); rintro e w8 ⟨rfl, hb8⟩; have bz8 := blk_keep BZ.out hb8; have z80 := (blk_cell bz8 0).trans rfl; have z81 := (blk_cell bz8 1).trans rfl; have z82 := (blk_cell bz8 2).trans rfl; have z83 := (blk_cell bz8 3).trans rfl; have z84 := (blk_cell bz8 4).trans rfl; have z85 := (blk_cell bz8 5).trans rfl; have z86 := (blk_cell bz8 6).trans rfl; have z87 := (blk_cell bz8 7).trans rfl; have fz80 := blk_frozen bz8 0; have fz81 := blk_frozen bz8 1; have fz82 := blk_frozen bz8 2; have fz83 := blk_frozen bz8 3; have fz84 := blk_frozen bz8 4; have fz85 := blk_frozen bz8 5; have fz86 := blk_frozen bz8 6; have fz87 := blk_frozen bz8 7; have HB8 := Aside0.mk (below_step HB.out hb8); have BZ8 := Aside0.mk bz8; clear hb8 bz8))
    refine bodyPost_ret (ret2_row rfl _ _ _ (w.heap.size + 1 + 1) 40 #[_, _, _, _, _, _, _, _] (0, 0) _ (.int .i64 c) rfl rfl (by first | exact (blk_all8 (t := 40) BZ8.out rfl _ _ _ _ _ _ _ _) | exact blk_drew1 (blk_all8 (t := 40) BZ8.out rfl _ _ _ _ _ _ _ _) | exact blk_drewN (blk_all8 (t := 40) BZ8.out rfl _ _ _ _ _ _ _ _) _) Try.underlying40 rfl info40) rfl ?_
    exact ⟨rfl, (by repeat (first | with_reducible exact HB8.out | with_reducible apply pw_below_drewN | with_reducible apply below_drew1 | with_reducible refine below_alloc ?_ _ | refine below_set ?_ (by omega)))⟩
end Go.Proofs.Ytoiahmdibibceaa.Tb
