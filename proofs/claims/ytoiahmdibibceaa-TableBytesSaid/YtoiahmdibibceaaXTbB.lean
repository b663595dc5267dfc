import Derived.Test.YtoiahmdibibceaaMBits
import Derived.Test.YtoiahmdibibceaaXTbC
import Derived.Test.YtoiahmdibibceaaXTbS
import Derived.Test.YtoiahmdibibceaaXTbI
import Derived.Test.YtoiahmdibibceaaXTbR
import Derived.Test.YtoiahmdibibceaaXTbW
import Derived.Test.YtoiahmdibibceaaXTbT
import Derived.Test.YtoiahmdibibceaaXTbF
set_option linter.unusedVariables false
set_option linter.unusedSimpArgs false
namespace Go.Proofs.Ytoiahmdibibceaa.Tb
open Go.RowKit Go.Proofs.YtoiahmdibibceaaW.PrintWords Go.Proofs.YtoiahmdibibceaaW.PrintLast Go.Proofs.YtoiahmdibibceaaW.PrintMore
theorem wp_gen {P : Program} {c : Code} {Q : Exit → Act → World → Prop} {a : Act} {W : World} (Good : World → Prop) (h : Good W) (k : ∀ W, Good W → Code.wp P c Q a W) : Code.wp P c Q a W := k W h
theorem state_a (w : World) : Calls Try.prog 38 #[.agg (bcells 1 true 1 3 3 4 true true)] w fun e w' => e = .returned (.int .i64 2) ∧ Below w.heap.size w w' := state_calls 1 true 1 3 3 4 true true w (Or.inr rfl)
theorem check_a (w : World) : Calls Try.prog 36 #[.agg (bcells 1 true 1 3 3 4 true true)] w fun e w' => e = .returned (.bool true) ∧ Below w.heap.size w w' := by
  have h := check_calls 1 true 1 3 3 4 true true w
  rw [show chkB 1 true 1 3 3 4 true true = true by decide] at h
  exact h
theorem install_a (w : World) : Calls Try.prog 29 #[.agg (bcells 0 false 0 3 3 0 true false), .int .i64 4] w fun e w' => e = .returned (.tuple #[.agg (bcells 0 false 0 3 3 4 true false), .int .i64 0]) ∧ Below w.heap.size w w' := by
  have h := install_calls ⟨0, false, 0, 3, 3, 0, true, false⟩ 4 w
  rw [show Bt.inst ⟨0, false, 0, 3, 3, 0, true, false⟩ 4 = (⟨0, false, 0, 3, 3, 4, true, false⟩, 0) from rfl] at h
  exact h
theorem ready_a (w : World) : Calls Try.prog 30 #[.agg (bcells 0 false 0 3 3 4 true false)] w fun e w' => e = .returned (.tuple #[.agg (bcells 0 false 0 3 3 4 true true), .int .i64 0]) ∧ Below w.heap.size w w' := by
  have h := ready_calls ⟨0, false, 0, 3, 3, 4, true, false⟩ w
  rw [show Bt.ready ⟨0, false, 0, 3, 3, 4, true, false⟩ = (⟨0, false, 0, 3, 3, 4, true, true⟩, 0) from rfl] at h
  exact h
theorem switch_a (w : World) : Calls Try.prog 31 #[.agg (bcells 0 false 0 3 3 4 true true), .int .i64 1] w fun e w' => e = .returned (.tuple #[.agg (bcells 1 true 1 3 3 4 true true), .int .i64 0]) ∧ Below w.heap.size w w' := by
  have h := switch_calls ⟨0, false, 0, 3, 3, 4, true, true⟩ 1 w
  rw [show Bt.switch ⟨0, false, 0, 3, 3, 4, true, true⟩ 1 = (⟨1, true, 1, 3, 3, 4, true, true⟩, 0) from rfl] at h
  exact h
set_option maxRecDepth 100000 in
set_option maxHeartbeats 16000000 in
theorem awake_calls (w : World) : Calls Try.prog 32 #[] w fun e w' => e = .returned (.bool true) ∧ Below w.heap.size w w' := by
  go_enter Try.func32, Try.ntmps32
  have HB := Aside0.mk (Below.refl w.heap.size w)
  go_upto_region 2 with (go_at_call 28; (with_reducible refine (first_calls _ _).mono ?_); rintro e w8 ⟨rfl, hb8⟩; have HB8 := Aside0.mk (below_step HB.out hb8); clear hb8)
  obtain ⟨g, hg⟩ : ∃ g, g = w8.heap.size := ⟨_, rfl⟩
  have HG := Aside0.mk (show w.heap.size ≤ g from hg ▸ HB8.out.size)
  simp only [← hg]
  refine wp_gen (fun W => W.heap[g]? = some (.cells (bcells 0 false 0 3 3 0 true false) 40 (0, 0)) ∧ Below w.heap.size w W) ⟨(by rw [hg]; exact blk_new _ _), (by repeat (first | with_reducible exact HB8.out | with_reducible apply pw_below_drewN | with_reducible apply below_drew1 | with_reducible refine below_alloc ?_ _ | refine below_set ?_ HG.out))⟩ ?_
  clear HB HB8 hg
  rintro W ⟨bk, hb⟩
  have HB := Aside0.mk hb
  have BK := Aside0.mk bk
  have c0 := (blk_cell bk 0).trans rfl
  have c1 := (blk_cell bk 1).trans rfl
  have c2 := (blk_cell bk 2).trans rfl
  have c3 := (blk_cell bk 3).trans rfl
  have c4 := (blk_cell bk 4).trans rfl
  have c5 := (blk_cell bk 5).trans rfl
  have c6 := (blk_cell bk 6).trans rfl
  have c7 := (blk_cell bk 7).trans rfl
  have fc0 := blk_frozen bk 0
  have fc1 := blk_frozen bk 1
  have fc2 := blk_frozen bk 2
  have fc3 := blk_frozen bk 3
  have fc4 := blk_frozen bk 4
  have fc5 := blk_frozen bk 5
  have fc6 := blk_frozen bk 6
  have fc7 := blk_frozen bk 7
  clear bk hb
  go_upto_region 3 with (go_at_call 29; (with_reducible refine (install_a _).mono ?_); rintro e w8 ⟨rfl, hb8⟩; have HB8 := Aside0.mk (below_step HB.out hb8); have bk8 := blk_keep BK.out hb8; have c80 := (blk_cell bk8 0).trans rfl; have c81 := (blk_cell bk8 1).trans rfl; have c82 := (blk_cell bk8 2).trans rfl; have c83 := (blk_cell bk8 3).trans rfl; have c84 := (blk_cell bk8 4).trans rfl; have c85 := (blk_cell bk8 5).trans rfl; have c86 := (blk_cell bk8 6).trans rfl; have c87 := (blk_cell bk8 7).trans rfl; have fc80 := blk_frozen bk8 0; have fc81 := blk_frozen bk8 1; have fc82 := blk_frozen bk8 2; have fc83 := blk_frozen bk8 3; have fc84 := blk_frozen bk8 4; have fc85 := blk_frozen bk8 5; have fc86 := blk_frozen bk8 6; have fc87 := blk_frozen bk8 7; have BK8 := Aside0.mk bk8; clear bk8; clear hb8)
  refine wp_gen (fun W => W.heap[g]? = some (.cells (bcells 0 false 0 3 3 4 true false) 40 (0, 0)) ∧ Below w.heap.size w W) ⟨(by first | exact blk_all8 (t := 40) BK8.out rfl _ _ _ _ _ _ _ _ | exact blk_drew1 (blk_all8 (t := 40) BK8.out rfl _ _ _ _ _ _ _ _) | exact blk_drewN (blk_all8 (t := 40) BK8.out rfl _ _ _ _ _ _ _ _) _), (by repeat (first | with_reducible exact HB8.out | with_reducible apply pw_below_drewN | with_reducible apply below_drew1 | with_reducible refine below_alloc ?_ _ | refine below_set ?_ HG.out))⟩ ?_
  clear HB BK HB8 BK8 c0 fc0 c1 fc1 c2 fc2 c3 fc3 c4 fc4 c5 fc5 c6 fc6 c7 fc7 c80 fc80 c81 fc81 c82 fc82 c83 fc83 c84 fc84 c85 fc85 c86 fc86 c87 fc87
  rintro W ⟨bk, hb⟩
  have HB := Aside0.mk hb
  have BK := Aside0.mk bk
  have c0 := (blk_cell bk 0).trans rfl
  have c1 := (blk_cell bk 1).trans rfl
  have c2 := (blk_cell bk 2).trans rfl
  have c3 := (blk_cell bk 3).trans rfl
  have c4 := (blk_cell bk 4).trans rfl
  have c5 := (blk_cell bk 5).trans rfl
  have c6 := (blk_cell bk 6).trans rfl
  have c7 := (blk_cell bk 7).trans rfl
  have fc0 := blk_frozen bk 0
  have fc1 := blk_frozen bk 1
  have fc2 := blk_frozen bk 2
  have fc3 := blk_frozen bk 3
  have fc4 := blk_frozen bk 4
  have fc5 := blk_frozen bk 5
  have fc6 := blk_frozen bk 6
  have fc7 := blk_frozen bk 7
  clear bk hb
  go_upto_region 4 with (go_at_call 30; (with_reducible refine (ready_a _).mono ?_); rintro e w8 ⟨rfl, hb8⟩; have HB8 := Aside0.mk (below_step HB.out hb8); have bk8 := blk_keep BK.out hb8; have c80 := (blk_cell bk8 0).trans rfl; have c81 := (blk_cell bk8 1).trans rfl; have c82 := (blk_cell bk8 2).trans rfl; have c83 := (blk_cell bk8 3).trans rfl; have c84 := (blk_cell bk8 4).trans rfl; have c85 := (blk_cell bk8 5).trans rfl; have c86 := (blk_cell bk8 6).trans rfl; have c87 := (blk_cell bk8 7).trans rfl; have fc80 := blk_frozen bk8 0; have fc81 := blk_frozen bk8 1; have fc82 := blk_frozen bk8 2; have fc83 := blk_frozen bk8 3; have fc84 := blk_frozen bk8 4; have fc85 := blk_frozen bk8 5; have fc86 := blk_frozen bk8 6; have fc87 := blk_frozen bk8 7; have BK8 := Aside0.mk bk8; clear bk8; clear hb8)
  refine wp_gen (fun W => W.heap[g]? = some (.cells (bcells 0 false 0 3 3 4 true true) 40 (0, 0)) ∧ Below w.heap.size w W) ⟨(by first | exact blk_all8 (t := 40) BK8.out rfl _ _ _ _ _ _ _ _ | exact blk_drew1 (blk_all8 (t := 40) BK8.out rfl _ _ _ _ _ _ _ _) | exact blk_drewN (blk_all8 (t := 40) BK8.out rfl _ _ _ _ _ _ _ _) _), (by repeat (first | with_reducible exact HB8.out | with_reducible apply pw_below_drewN | with_reducible apply below_drew1 | with_reducible refine below_alloc ?_ _ | refine below_set ?_ HG.out))⟩ ?_
  clear HB BK HB8 BK8 c0 fc0 c1 fc1 c2 fc2 c3 fc3 c4 fc4 c5 fc5 c6 fc6 c7 fc7 c80 fc80 c81 fc81 c82 fc82 c83 fc83 c84 fc84 c85 fc85 c86 fc86 c87 fc87
  rintro W ⟨bk, hb⟩
  have HB := Aside0.mk hb
  have BK := Aside0.mk bk
  have c0 := (blk_cell bk 0).trans rfl
  have c1 := (blk_cell bk 1).trans rfl
  have c2 := (blk_cell bk 2).trans rfl
  have c3 := (blk_cell bk 3).trans rfl
  have c4 := (blk_cell bk 4).trans rfl
  have c5 := (blk_cell bk 5).trans rfl
  have c6 := (blk_cell bk 6).trans rfl
  have c7 := (blk_cell bk 7).trans rfl
  have fc0 := blk_frozen bk 0
  have fc1 := blk_frozen bk 1
  have fc2 := blk_frozen bk 2
  have fc3 := blk_frozen bk 3
  have fc4 := blk_frozen bk 4
  have fc5 := blk_frozen bk 5
  have fc6 := blk_frozen bk 6
  have fc7 := blk_frozen bk 7
  clear bk hb
  go_upto_region 5 with (go_at_call 31; (with_reducible refine (switch_a _).mono ?_); rintro e w8 ⟨rfl, hb8⟩; have HB8 := Aside0.mk (below_step HB.out hb8); have bk8 := blk_keep BK.out hb8; have c80 := (blk_cell bk8 0).trans rfl; have c81 := (blk_cell bk8 1).trans rfl; have c82 := (blk_cell bk8 2).trans rfl; have c83 := (blk_cell bk8 3).trans rfl; have c84 := (blk_cell bk8 4).trans rfl; have c85 := (blk_cell bk8 5).trans rfl; have c86 := (blk_cell bk8 6).trans rfl; have c87 := (blk_cell bk8 7).trans rfl; have fc80 := blk_frozen bk8 0; have fc81 := blk_frozen bk8 1; have fc82 := blk_frozen bk8 2; have fc83 := blk_frozen bk8 3; have fc84 := blk_frozen bk8 4; have fc85 := blk_frozen bk8 5; have fc86 := blk_frozen bk8 6; have fc87 := blk_frozen bk8 7; have BK8 := Aside0.mk bk8; clear bk8; clear hb8)
  refine wp_gen (fun W => W.heap[g]? = some (.cells (bcells 1 true 1 3 3 4 true true) 40 (0, 0)) ∧ Below w.heap.size w W) ⟨(by first | exact blk_all8 (t := 40) BK8.out rfl _ _ _ _ _ _ _ _ | exact blk_drew1 (blk_all8 (t := 40) BK8.out rfl _ _ _ _ _ _ _ _) | exact blk_drewN (blk_all8 (t := 40) BK8.out rfl _ _ _ _ _ _ _ _) _), (by repeat (first | with_reducible exact HB8.out | with_reducible apply pw_below_drewN | with_reducible apply below_drew1 | with_reducible refine below_alloc ?_ _ | refine below_set ?_ HG.out))⟩ ?_
  clear HB BK HB8 BK8 c0 fc0 c1 fc1 c2 fc2 c3 fc3 c4 fc4 c5 fc5 c6 fc6 c7 fc7 c80 fc80 c81 fc81 c82 fc82 c83 fc83 c84 fc84 c85 fc85 c86 fc86 c87 fc87
  rintro W ⟨bk, hb⟩
  have HB := Aside0.mk hb
  have BK := Aside0.mk bk
  have c0 := (blk_cell bk 0).trans rfl
  have c1 := (blk_cell bk 1).trans rfl
  have c2 := (blk_cell bk 2).trans rfl
  have c3 := (blk_cell bk 3).trans rfl
  have c4 := (blk_cell bk 4).trans rfl
  have c5 := (blk_cell bk 5).trans rfl
  have c6 := (blk_cell bk 6).trans rfl
  have c7 := (blk_cell bk 7).trans rfl
  have fc0 := blk_frozen bk 0
  have fc1 := blk_frozen bk 1
  have fc2 := blk_frozen bk 2
  have fc3 := blk_frozen bk 3
  have fc4 := blk_frozen bk 4
  have fc5 := blk_frozen bk 5
  have fc6 := blk_frozen bk 6
  have fc7 := blk_frozen bk 7
  clear bk hb
  go_wp2_with (first | (go_at_call 38; (with_reducible refine (state_a _).mono ?_); rintro e w9 ⟨rfl, hb9⟩; have HB9 := Aside0.mk (below_step HB.out hb9); have bk9 := blk_keep BK.out hb9; have c90 := (blk_cell bk9 0).trans rfl; have c91 := (blk_cell bk9 1).trans rfl; have c92 := (blk_cell bk9 2).trans rfl; have c93 := (blk_cell bk9 3).trans rfl; have c94 := (blk_cell bk9 4).trans rfl; have c95 := (blk_cell bk9 5).trans rfl; have c96 := (blk_cell bk9 6).trans rfl; have c97 := (blk_cell bk9 7).trans rfl; have fc90 := blk_frozen bk9 0; have fc91 := blk_frozen bk9 1; have fc92 := blk_frozen bk9 2; have fc93 := blk_frozen bk9 3; have fc94 := blk_frozen bk9 4; have fc95 := blk_frozen bk9 5; have fc96 := blk_frozen bk9 6; have fc97 := blk_frozen bk9 7; have BK9 := Aside0.mk bk9; clear bk9; clear hb9) | (go_at_call 36; (with_reducible refine (check_a _).mono ?_); rintro e w8 ⟨rfl, hb8⟩; have HB8 := Aside0.mk (below_step HB9.out hb8); have bk8 := blk_keep BK9.out hb8; have c80 := (blk_cell bk8 0).trans rfl; have c81 := (blk_cell bk8 1).trans rfl; have c82 := (blk_cell bk8 2).trans rfl; have c83 := (blk_cell bk8 3).trans rfl; have c84 := (blk_cell bk8 4).trans rfl; have c85 := (blk_cell bk8 5).trans rfl; have c86 := (blk_cell bk8 6).trans rfl; have c87 := (blk_cell bk8 7).trans rfl; have fc80 := blk_frozen bk8 0; have fc81 := blk_frozen bk8 1; have fc82 := blk_frozen bk8 2; have fc83 := blk_frozen bk8 3; have fc84 := blk_frozen bk8 4; have fc85 := blk_frozen bk8 5; have fc86 := blk_frozen bk8 6; have fc87 := blk_frozen bk8 7; have BK8 := Aside0.mk bk8; clear bk8; clear hb8))
  go_ret
  exact ⟨rfl, HB8.out⟩
end Go.Proofs.Ytoiahmdibibceaa.Tb
