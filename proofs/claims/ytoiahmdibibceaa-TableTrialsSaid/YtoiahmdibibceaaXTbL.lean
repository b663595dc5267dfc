import Derived.Test.YtoiahmdibibceaaXTbB
set_option linter.unusedVariables false
set_option linter.unusedSimpArgs false
namespace Go.Proofs.Ytoiahmdibibceaa.Tb
open Go.RowKit Go.Proofs.YtoiahmdibibceaaW.PrintWords Go.Proofs.YtoiahmdibibceaaW.PrintLast Go.Proofs.YtoiahmdibibceaaW.PrintMore
theorem chk_p {v m : Int} (b : Bool) (hv : 1 ≤ v) (hv' : v ≤ 65536) (hm : 0 ≤ m) (hm' : m ≤ 255) : chkB 0 false 0 v v (v + m) true b = true := by
  cases b <;> (simp [chkB, pre, sbad]; omega)
theorem chk_f {v : Int} (hv : 1 ≤ v) (hv' : v ≤ 65536) : chkB 0 false 0 v v 0 true false = true := by
  simp [chkB, pre, sbad]; omega
theorem chk_t {v m t : Int} (hv : 1 ≤ v) (hv' : v ≤ 65536) (hm : 0 ≤ m) (hm' : m ≤ 255) (ht : 0 ≤ t) (ht' : t ≤ 7) : chkB 1 true t v v (v + m) true true = true := by
  simp [chkB, pre, sbad]; omega
theorem inst_t {v m : Int} (hv : 1 ≤ v) (hv' : v ≤ 65536) (hm : 0 ≤ m) (hm' : m ≤ 255) : Bt.inst ⟨0, false, 0, v, v, 0, true, false⟩ (v + m) = (⟨0, false, 0, v, v, v + m, true, false⟩, 0) := by
  unfold Bt.inst Bt.chk
  rw [if_neg (by simp [chk_f hv hv']), if_neg (by simp), if_neg (show ¬ v + m < v by omega), if_neg (show ¬ v + m > 1073741824 by omega)]; rfl
theorem ready_t {v m : Int} (hv : 1 ≤ v) (hv' : v ≤ 65536) (hm : 0 ≤ m) (hm' : m ≤ 255) : Bt.ready ⟨0, false, 0, v, v, v + m, true, false⟩ = (⟨0, false, 0, v, v, v + m, true, true⟩, 0) := by
  unfold Bt.ready Bt.chk
  rw [if_neg (by simp [chk_p false hv hv' hm hm']), if_neg (by simp), if_neg (by simp [Bt.vo]; omega)]; rfl
theorem switch_t {v m n : Int} (hv : 1 ≤ v) (hv' : v ≤ 65536) (hm : 0 ≤ m) (hm' : m ≤ 255) (hn : 1 ≤ n) (hn' : n ≤ 7) : Bt.switch ⟨0, false, 0, v, v, v + m, true, true⟩ n = (⟨1, true, n, v, v, v + m, true, true⟩, 0) := by
  unfold Bt.switch Bt.chk
  rw [if_neg (by simp [chk_p true hv hv' hm hm']; omega), if_neg (by simp), if_neg (by simp [Bt.go]), if_neg (by simp [Bt.vo]; omega)]; rfl
theorem start_t {v m t : Int} (hv : 1 ≤ v) (hv' : v ≤ 65536) (hm : 0 ≤ m) (hm' : m ≤ 255) (hn : 1 ≤ t) (hn' : t ≤ 7) : Bt.start ⟨1, true, t, v, v, v + m, true, true⟩ = (1, ⟨1, true, t - 1, v, v, v + m, true, true⟩, 0) := by
  have h0 : ¬ t = 0 := by omega
  unfold Bt.start Bt.chk
  rw [if_neg (by simp [chk_t hv hv' hm hm' (t := t) (by omega) hn'])]
  simp [Bt.started, Bt.st, stF, h0]
theorem start_l {v m : Int} (hv : 1 ≤ v) (hv' : v ≤ 65536) (hm : 0 ≤ m) (hm' : m ≤ 255) : Bt.start ⟨1, true, 0, v, v, v + m, true, true⟩ = (0, ⟨0, false, 0, v, v, v + m, true, false⟩, 0) := by
  unfold Bt.start Bt.chk
  rw [if_neg (by simp [chk_t hv hv' hm hm' (t := 0) (by omega) (by omega)])]
  simp [Bt.started, Bt.st, stF]
theorem start_p {v m : Int} (hv : 1 ≤ v) (hv' : v ≤ 65536) (hm : 0 ≤ m) (hm' : m ≤ 255) : Bt.start ⟨0, false, 0, v, v, v + m, true, false⟩ = (0, ⟨0, false, 0, v, v, v + m, true, false⟩, 0) := by
  unfold Bt.start Bt.chk
  rw [if_neg (by simp [chk_p false hv hv' hm hm'])]
  simp [Bt.started, Bt.st, stF]
theorem switch_n {v m : Int} (hv : 1 ≤ v) (hv' : v ≤ 65536) (hm : 0 ≤ m) (hm' : m ≤ 255) : Bt.switch ⟨0, false, 0, v, v, v + m, true, false⟩ 1 = (Bt.zero, 212) := by
  unfold Bt.switch Bt.chk
  rw [if_neg (by simp [chk_p false hv hv' hm hm']), if_neg (by simp), if_pos (by simp [Bt.go])]

theorem install_t {v m : Int} (hv : 1 ≤ v) (hv' : v ≤ 65536) (hm : 0 ≤ m) (hm' : m ≤ 255) (w : World) : Calls Try.prog 29 #[.agg (bcells 0 false 0 v v 0 true false), .int .i64 (v + m)] w fun e w' => e = .returned (.tuple #[.agg (bcells 0 false 0 v v (v + m) true false), .int .i64 0]) ∧ Below w.heap.size w w' := by
  have h := install_calls ⟨0, false, 0, v, v, 0, true, false⟩ (v + m) w
  rw [inst_t hv hv' hm hm'] at h
  exact h
theorem ready1_t {v m : Int} (hv : 1 ≤ v) (hv' : v ≤ 65536) (hm : 0 ≤ m) (hm' : m ≤ 255) (w : World) : Calls Try.prog 30 #[.agg (bcells 0 false 0 v v (v + m) true false)] w fun e w' => e = .returned (.tuple #[.agg (bcells 0 false 0 v v (v + m) true true), .int .i64 0]) ∧ Below w.heap.size w w' := by
  have h := ready_calls ⟨0, false, 0, v, v, v + m, true, false⟩ w
  rw [ready_t hv hv' hm hm'] at h
  exact h
theorem switch1_t {v m n : Int} (hv : 1 ≤ v) (hv' : v ≤ 65536) (hm : 0 ≤ m) (hm' : m ≤ 255) (hn : 1 ≤ n) (hn' : n ≤ 7) (w : World) : Calls Try.prog 31 #[.agg (bcells 0 false 0 v v (v + m) true true), .int .i64 (n)] w fun e w' => e = .returned (.tuple #[.agg (bcells 1 true n v v (v + m) true true), .int .i64 0]) ∧ Below w.heap.size w w' := by
  have h := switch_calls ⟨0, false, 0, v, v, v + m, true, true⟩ (n) w
  rw [switch_t hv hv' hm hm' hn hn'] at h
  exact h
theorem start1_t {v m t : Int} (hv : 1 ≤ v) (hv' : v ≤ 65536) (hm : 0 ≤ m) (hm' : m ≤ 255) (hn : 1 ≤ t) (hn' : t ≤ 7) (w : World) : Calls Try.prog 33 #[.agg (bcells 1 true t v v (v + m) true true)] w fun e w' => e = .returned (.tuple #[.int .i64 1, .agg (bcells 1 true (t - 1) v v (v + m) true true), .int .i64 0]) ∧ Below w.heap.size w w' := by
  have h := start_calls ⟨1, true, t, v, v, v + m, true, true⟩ w
  rw [start_t hv hv' hm hm' hn hn'] at h
  exact h
theorem start1_l {v m : Int} (hv : 1 ≤ v) (hv' : v ≤ 65536) (hm : 0 ≤ m) (hm' : m ≤ 255) (w : World) : Calls Try.prog 33 #[.agg (bcells 1 true 0 v v (v + m) true true)] w fun e w' => e = .returned (.tuple #[.int .i64 0, .agg (bcells 0 false 0 v v (v + m) true false), .int .i64 0]) ∧ Below w.heap.size w w' := by
  have h := start_calls ⟨1, true, 0, v, v, v + m, true, true⟩ w
  rw [start_l hv hv' hm hm'] at h
  exact h
theorem start1_p {v m : Int} (hv : 1 ≤ v) (hv' : v ≤ 65536) (hm : 0 ≤ m) (hm' : m ≤ 255) (w : World) : Calls Try.prog 33 #[.agg (bcells 0 false 0 v v (v + m) true false)] w fun e w' => e = .returned (.tuple #[.int .i64 0, .agg (bcells 0 false 0 v v (v + m) true false), .int .i64 0]) ∧ Below w.heap.size w w' := by
  have h := start_calls ⟨0, false, 0, v, v, v + m, true, false⟩ w
  rw [start_p hv hv' hm hm'] at h
  exact h
theorem switch1_n {v m : Int} (hv : 1 ≤ v) (hv' : v ≤ 65536) (hm : 0 ≤ m) (hm' : m ≤ 255) (w : World) : Calls Try.prog 31 #[.agg (bcells 0 false 0 v v (v + m) true false), .int .i64 (1)] w fun e w' => e = .returned (.tuple #[.agg (bcells 0 false 0 0 0 0 false false), .int .i64 212]) ∧ Below w.heap.size w w' := by
  have h := switch_calls ⟨0, false, 0, v, v, v + m, true, false⟩ (1) w
  rw [switch_n hv hv' hm hm'] at h
  exact h
theorem start1_i {v m : Int} (hv : 1 ≤ v) (hv' : v ≤ 65536) (hm : 0 ≤ m) (hm' : m ≤ 255) {i n : Nat} (hi : i < n) (hn : n ≤ 7) (w : World) : Calls Try.prog 33 #[.agg (bcells 1 true ((n : Int) - (i : Int)) v v (v + m) true true)] w fun e w' => e = .returned (.tuple #[.int .i64 1, .agg (bcells 1 true ((n : Int) - ((i + 1 : Nat) : Int)) v v (v + m) true true), .int .i64 0]) ∧ Below w.heap.size w w' := by
  have h := start1_t (t := (n : Int) - (i : Int)) hv hv' hm hm' (by omega) (by omega) w
  rw [show (n : Int) - (i : Int) - 1 = (n : Int) - ((i + 1 : Nat) : Int) by omega] at h
  exact h
set_option maxRecDepth 100000 in
set_option maxHeartbeats 16000000 in
theorem trials_calls (a0 a1 a2 : Int) (w : World) : Calls Try.prog 6 #[.int .i64 a0, .int .i64 a1, .int .i64 a2] w fun e w' => e = .returned (.bool true) ∧ Below w.heap.size w w' := by
  have m0 : Go.bits .and .i64 a0 65535 = a0 % 65536 := Go.Proofs.Ytoiahmdibibceaa.Bt.mask64 a0 16 (by decide)
  have m1 : Go.bits .and .i64 a1 255 = a1 % 256 := Go.Proofs.Ytoiahmdibibceaa.Bt.mask64 a1 8 (by decide)
  obtain ⟨v, hv⟩ : ∃ v : Int, IntKind.i64.wrap (1 + Go.bits .and .i64 a0 65535) = v := ⟨_, rfl⟩
  obtain ⟨m, hm⟩ : ∃ m : Int, Go.bits .and .i64 a1 255 = m := ⟨_, rfl⟩
  have V := by have h := hv; rw [m0, IntWalk.i64_in _ (by omega)] at h; exact (show 1 ≤ v ∧ v ≤ 65536 by omega)
  have M := by have h := hm; rw [m1] at h; exact (show 0 ≤ m ∧ m ≤ 255 by omega)
  obtain ⟨q, hq⟩ : ∃ q : Int, IntKind.i64.wrap (a2.tmod 7 + 7) = q := ⟨_, rfl⟩
  obtain ⟨n, hn, Nb⟩ : ∃ n : Nat, IntKind.i64.wrap (1 + q.tmod 7) = (n : Int) ∧ 1 ≤ n ∧ n ≤ 7 := by
    have b1 : -7 < a2.tmod 7 := by have := Int.lt_tmod_of_pos a2 (show (0 : Int) < 7 by decide); omega
    have b2 : a2.tmod 7 < 7 := Int.tmod_lt_of_pos a2 (by decide)
    generalize a2.tmod 7 = p at b1 b2 hq
    rw [IntWalk.i64_in (p + 7) (by omega)] at hq
    subst hq
    rw [Int.tmod_eq_emod_of_nonneg (by omega), IntWalk.i64_in _ (by omega)]
    exact ⟨(1 + (p + 7) % 7).toNat, by omega, by omega, by omega⟩
  clear m0 m1
  go_enter Try.func6, Try.ntmps6
  go_upto_region 2 with (fail)
  clear hv hq hn
  have em : IntKind.i64.wrap (v + m) = v + m := IntWalk.i64_in _ (by omega)
  have NB := Aside0.mk (show (1 : Int) ≤ (n : Int) ∧ (n : Int) ≤ 7 by omega)
  have VM := Aside0.mk (And.intro V (And.intro M Nb))
  clear V M Nb
  have HB := Aside0.mk (Below.refl w.heap.size w)
  go_upto_region 3 with (go_at_call 28; (with_reducible refine (first_calls _ _).mono ?_); rintro e w8 ⟨rfl, hb8⟩; have HB8 := Aside0.mk (below_step HB.out hb8); clear hb8)
  obtain ⟨g, hg⟩ : ∃ g, g = w8.heap.size := ⟨_, rfl⟩
  have HG := Aside0.mk (show w.heap.size ≤ g from hg ▸ HB8.out.size)
  simp only [← hg]
  refine wp_gen (fun W => W.heap[g]? = some (.cells (bcells 0 false 0 v v 0 true false) 40 (0, 0)) ∧ Below w.heap.size w W) ⟨(by rw [hg]; exact blk_new _ _), (by repeat (first | with_reducible exact HB8.out | with_reducible apply pw_below_drewN | with_reducible apply below_drew1 | with_reducible refine below_alloc ?_ _ | refine below_set ?_ HG.out))⟩ ?_
  clear HB HB8 hg
  rintro W ⟨bk, hb⟩
  have HB := Aside0.mk hb
  have BK := Aside0.mk bk
  have c0 := (blk_cell bk 0).trans rfl
  have c1 := (blk_cell bk 1).trans rfl
  have c2 := (blk_cell bk 2).trans rfl
  have c3 := (blk_cell bk 3).trans rfl
  have c4 := (blk_cell bk 4).trans rfl
  have c5 := (blk_cell bk 5).trans rfl
  have c6 := (blk_cell bk 6).trans rfl
  have c7 := (blk_cell bk 7).trans rfl
  have fc0 := blk_frozen bk 0
  have fc1 := blk_frozen bk 1
  have fc2 := blk_frozen bk 2
  have fc3 := blk_frozen bk 3
  have fc4 := blk_frozen bk 4
  have fc5 := blk_frozen bk 5
  have fc6 := blk_frozen bk 6
  have fc7 := blk_frozen bk 7
  clear bk hb
  go_upto_region 4 with (go_at_call 29; (with_reducible refine (install_t VM.out.1.1 VM.out.1.2 VM.out.2.1.1 VM.out.2.1.2 _).mono ?_); rintro e w8 ⟨rfl, hb8⟩; have HB8 := Aside0.mk (below_step HB.out hb8); have bk8 := blk_keep BK.out hb8; have c80 := (blk_cell bk8 0).trans rfl; have c81 := (blk_cell bk8 1).trans rfl; have c82 := (blk_cell bk8 2).trans rfl; have c83 := (blk_cell bk8 3).trans rfl; have c84 := (blk_cell bk8 4).trans rfl; have c85 := (blk_cell bk8 5).trans rfl; have c86 := (blk_cell bk8 6).trans rfl; have c87 := (blk_cell bk8 7).trans rfl; have fc80 := blk_frozen bk8 0; have fc81 := blk_frozen bk8 1; have fc82 := blk_frozen bk8 2; have fc83 := blk_frozen bk8 3; have fc84 := blk_frozen bk8 4; have fc85 := blk_frozen bk8 5; have fc86 := blk_frozen bk8 6; have fc87 := blk_frozen bk8 7; have BK8 := Aside0.mk bk8; clear bk8; clear hb8)
  refine wp_gen (fun W => W.heap[g]? = some (.cells (bcells 0 false 0 v v (v + m) true false) 40 (0, 0)) ∧ Below w.heap.size w W) ⟨(by first | exact blk_all8 (t := 40) BK8.out rfl _ _ _ _ _ _ _ _ | exact blk_drew1 (blk_all8 (t := 40) BK8.out rfl _ _ _ _ _ _ _ _) | exact blk_drewN (blk_all8 (t := 40) BK8.out rfl _ _ _ _ _ _ _ _) _), (by repeat (first | with_reducible exact HB8.out | with_reducible apply pw_below_drewN | with_reducible apply below_drew1 | with_reducible refine below_alloc ?_ _ | refine below_set ?_ HG.out))⟩ ?_
  clear HB BK HB8 BK8 c0 fc0 c1 fc1 c2 fc2 c3 fc3 c4 fc4 c5 fc5 c6 fc6 c7 fc7 c80 fc80 c81 fc81 c82 fc82 c83 fc83 c84 fc84 c85 fc85 c86 fc86 c87 fc87
  rintro W ⟨bk, hb⟩
  have HB := Aside0.mk hb
  have BK := Aside0.mk bk
  have c0 := (blk_cell bk 0).trans rfl
  have c1 := (blk_cell bk 1).trans rfl
  have c2 := (blk_cell bk 2).trans rfl
  have c3 := (blk_cell bk 3).trans rfl
  have c4 := (blk_cell bk 4).trans rfl
  have c5 := (blk_cell bk 5).trans rfl
  have c6 := (blk_cell bk 6).trans rfl
  have c7 := (blk_cell bk 7).trans rfl
  have fc0 := blk_frozen bk 0
  have fc1 := blk_frozen bk 1
  have fc2 := blk_frozen bk 2
  have fc3 := blk_frozen bk 3
  have fc4 := blk_frozen bk 4
  have fc5 := blk_frozen bk 5
  have fc6 := blk_frozen bk 6
  have fc7 := blk_frozen bk 7
  clear bk hb
  clear em hm
  go_upto_region 5 with (go_at_call 30; (with_reducible refine (ready1_t VM.out.1.1 VM.out.1.2 VM.out.2.1.1 VM.out.2.1.2 _).mono ?_); rintro e w8 ⟨rfl, hb8⟩; have HB8 := Aside0.mk (below_step HB.out hb8); have bk8 := blk_keep BK.out hb8; have c80 := (blk_cell bk8 0).trans rfl; have c81 := (blk_cell bk8 1).trans rfl; have c82 := (blk_cell bk8 2).trans rfl; have c83 := (blk_cell bk8 3).trans rfl; have c84 := (blk_cell bk8 4).trans rfl; have c85 := (blk_cell bk8 5).trans rfl; have c86 := (blk_cell bk8 6).trans rfl; have c87 := (blk_cell bk8 7).trans rfl; have fc80 := blk_frozen bk8 0; have fc81 := blk_frozen bk8 1; have fc82 := blk_frozen bk8 2; have fc83 := blk_frozen bk8 3; have fc84 := blk_frozen bk8 4; have fc85 := blk_frozen bk8 5; have fc86 := blk_frozen bk8 6; have fc87 := blk_frozen bk8 7; have BK8 := Aside0.mk bk8; clear bk8; clear hb8)
  refine wp_gen (fun W => W.heap[g]? = some (.cells (bcells 0 false 0 v v (v + m) true true) 40 (0, 0)) ∧ Below w.heap.size w W) ⟨(by first | exact blk_all8 (t := 40) BK8.out rfl _ _ _ _ _ _ _ _ | exact blk_drew1 (blk_all8 (t := 40) BK8.out rfl _ _ _ _ _ _ _ _) | exact blk_drewN (blk_all8 (t := 40) BK8.out rfl _ _ _ _ _ _ _ _) _), (by repeat (first | with_reducible exact HB8.out | with_reducible apply pw_below_drewN | with_reducible apply below_drew1 | with_reducible refine below_alloc ?_ _ | refine below_set ?_ HG.out))⟩ ?_
  clear HB BK HB8 BK8 c0 fc0 c1 fc1 c2 fc2 c3 fc3 c4 fc4 c5 fc5 c6 fc6 c7 fc7 c80 fc80 c81 fc81 c82 fc82 c83 fc83 c84 fc84 c85 fc85 c86 fc86 c87 fc87
  rintro W ⟨bk, hb⟩
  have HB := Aside0.mk hb
  have BK := Aside0.mk bk
  have c0 := (blk_cell bk 0).trans rfl
  have c1 := (blk_cell bk 1).trans rfl
  have c2 := (blk_cell bk 2).trans rfl
  have c3 := (blk_cell bk 3).trans rfl
  have c4 := (blk_cell bk 4).trans rfl
  have c5 := (blk_cell bk 5).trans rfl
  have c6 := (blk_cell bk 6).trans rfl
  have c7 := (blk_cell bk 7).trans rfl
  have fc0 := blk_frozen bk 0
  have fc1 := blk_frozen bk 1
  have fc2 := blk_frozen bk 2
  have fc3 := blk_frozen bk 3
  have fc4 := blk_frozen bk 4
  have fc5 := blk_frozen bk 5
  have fc6 := blk_frozen bk 6
  have fc7 := blk_frozen bk 7
  clear bk hb
  go_upto_region 6 with (go_at_call 31; (with_reducible refine (switch1_t VM.out.1.1 VM.out.1.2 VM.out.2.1.1 VM.out.2.1.2 NB.out.1 NB.out.2 _).mono ?_); rintro e w8 ⟨rfl, hb8⟩; have HB8 := Aside0.mk (below_step HB.out hb8); have bk8 := blk_keep BK.out hb8; have c80 := (blk_cell bk8 0).trans rfl; have c81 := (blk_cell bk8 1).trans rfl; have c82 := (blk_cell bk8 2).trans rfl; have c83 := (blk_cell bk8 3).trans rfl; have c84 := (blk_cell bk8 4).trans rfl; have c85 := (blk_cell bk8 5).trans rfl; have c86 := (blk_cell bk8 6).trans rfl; have c87 := (blk_cell bk8 7).trans rfl; have fc80 := blk_frozen bk8 0; have fc81 := blk_frozen bk8 1; have fc82 := blk_frozen bk8 2; have fc83 := blk_frozen bk8 3; have fc84 := blk_frozen bk8 4; have fc85 := blk_frozen bk8 5; have fc86 := blk_frozen bk8 6; have fc87 := blk_frozen bk8 7; have BK8 := Aside0.mk bk8; clear bk8; clear hb8)
  refine wp_gen (fun W => W.heap[g]? = some (.cells (bcells 1 true ((n : Int)) v v (v + m) true true) 40 (0, 0)) ∧ Below w.heap.size w W) ⟨(by first | exact blk_all8 (t := 40) BK8.out rfl _ _ _ _ _ _ _ _ | exact blk_drew1 (blk_all8 (t := 40) BK8.out rfl _ _ _ _ _ _ _ _) | exact blk_drewN (blk_all8 (t := 40) BK8.out rfl _ _ _ _ _ _ _ _) _), (by repeat (first | with_reducible exact HB8.out | with_reducible apply pw_below_drewN | with_reducible apply below_drew1 | with_reducible refine below_alloc ?_ _ | refine below_set ?_ HG.out))⟩ ?_
  clear HB BK HB8 BK8 c0 fc0 c1 fc1 c2 fc2 c3 fc3 c4 fc4 c5 fc5 c6 fc6 c7 fc7 c80 fc80 c81 fc81 c82 fc82 c83 fc83 c84 fc84 c85 fc85 c86 fc86 c87 fc87
  rintro W ⟨bk, hb⟩
  have HB := Aside0.mk hb
  have BK := Aside0.mk bk
  have c0 := (blk_cell bk 0).trans rfl
  have c1 := (blk_cell bk 1).trans rfl
  have c2 := (blk_cell bk 2).trans rfl
  have c3 := (blk_cell bk 3).trans rfl
  have c4 := (blk_cell bk 4).trans rfl
  have c5 := (blk_cell bk 5).trans rfl
  have c6 := (blk_cell bk 6).trans rfl
  have c7 := (blk_cell bk 7).trans rfl
  have fc0 := blk_frozen bk 0
  have fc1 := blk_frozen bk 1
  have fc2 := blk_frozen bk 2
  have fc3 := blk_frozen bk 3
  have fc4 := blk_frozen bk 4
  have fc5 := blk_frozen bk 5
  have fc6 := blk_frozen bk 6
  have fc7 := blk_frozen bk 7
  clear bk hb
  go_upto_region 8 with (go_at_call 32; (with_reducible refine (awake_calls _).mono ?_); rintro e w8 ⟨rfl, hb8⟩; have HB8 := Aside0.mk (below_step HB.out hb8); have bk8 := blk_keep BK.out hb8; have c80 := (blk_cell bk8 0).trans rfl; have c81 := (blk_cell bk8 1).trans rfl; have c82 := (blk_cell bk8 2).trans rfl; have c83 := (blk_cell bk8 3).trans rfl; have c84 := (blk_cell bk8 4).trans rfl; have c85 := (blk_cell bk8 5).trans rfl; have c86 := (blk_cell bk8 6).trans rfl; have c87 := (blk_cell bk8 7).trans rfl; have fc80 := blk_frozen bk8 0; have fc81 := blk_frozen bk8 1; have fc82 := blk_frozen bk8 2; have fc83 := blk_frozen bk8 3; have fc84 := blk_frozen bk8 4; have fc85 := blk_frozen bk8 5; have fc86 := blk_frozen bk8 6; have fc87 := blk_frozen bk8 7; have BK8 := Aside0.mk bk8; clear bk8; clear hb8)
  refine wp_gen (fun W => W.heap[g]? = some (.cells (bcells 1 true ((n : Int)) v v (v + m) true true) 40 (0, 0)) ∧ Below w.heap.size w W) ⟨BK8.out, HB8.out⟩ ?_
  clear HB BK HB8 BK8 c0 fc0 c1 fc1 c2 fc2 c3 fc3 c4 fc4 c5 fc5 c6 fc6 c7 fc7 c80 fc80 c81 fc81 c82 fc82 c83 fc83 c84 fc84 c85 fc85 c86 fc86 c87 fc87
  rintro W ⟨bk, hb⟩
  have HB := Aside0.mk hb
  have BK := Aside0.mk bk
  have c0 := (blk_cell bk 0).trans rfl
  have c1 := (blk_cell bk 1).trans rfl
  have c2 := (blk_cell bk 2).trans rfl
  have c3 := (blk_cell bk 3).trans rfl
  have c4 := (blk_cell bk 4).trans rfl
  have c5 := (blk_cell bk 5).trans rfl
  have c6 := (blk_cell bk 6).trans rfl
  have c7 := (blk_cell bk 7).trans rfl
  have fc0 := blk_frozen bk 0
  have fc1 := blk_frozen bk 1
  have fc2 := blk_frozen bk 2
  have fc3 := blk_frozen bk 3
  have fc4 := blk_frozen bk 4
  have fc5 := blk_frozen bk 5
  have fc6 := blk_frozen bk 6
  have fc7 := blk_frozen bk 7
  clear bk hb
  go_wp2
  go_loopg [11] n (fun kq v11 w' => ∃ i : Nat, i ≤ n ∧ kq + i = n ∧ v11 = .int .i64 (i : Int) ∧ Aside0 (w'.heap[g]? = some (.cells (bcells 1 true ((n : Int) - (i : Int)) v v (v + m) true true) 40 (0, 0))) ∧ Aside0 (Below w.heap.size w w'))
  case atStart => exact ⟨0, by omega, by omega, rfl, ⟨by have h := BK.out; rw [show (n : Int) = (n : Int) - ((0 : Nat) : Int) by omega] at h; exact h⟩, HB⟩
  case round =>
    clear HB BK c0 fc0 c1 fc1 c2 fc2 c3 fc3 c4 fc4 c5 fc5 c6 fc6 c7 fc7
    obtain ⟨i, hi, hki, rfl, BK, HB⟩ := hrel
    have c0 := (blk_cell BK.out 0).trans rfl
    have c1 := (blk_cell BK.out 1).trans rfl
    have c2 := (blk_cell BK.out 2).trans rfl
    have c3 := (blk_cell BK.out 3).trans rfl
    have c4 := (blk_cell BK.out 4).trans rfl
    have c5 := (blk_cell BK.out 5).trans rfl
    have c6 := (blk_cell BK.out 6).trans rfl
    have c7 := (blk_cell BK.out 7).trans rfl
    have fc0 := blk_frozen BK.out 0
    have fc1 := blk_frozen BK.out 1
    have fc2 := blk_frozen BK.out 2
    have fc3 := blk_frozen BK.out 3
    have fc4 := blk_frozen BK.out 4
    have fc5 := blk_frozen BK.out 5
    have fc6 := blk_frozen BK.out 6
    have fc7 := blk_frozen BK.out 7
    rcases Nat.lt_or_ge i n with hlt | hge
    · have hN7 : n ≤ 7 := VM.out.2.2.2
      have HL := Aside0.mk (And.intro hlt hN7)
      have dl : decide ((i : Int) < (n : Int)) = true := decide_eq_true (by omega)
      have dl2 : decide (i < n) = true := decide_eq_true hlt
      have ew : IntKind.i64.wrap ((i : Int) + 1) = ((i + 1 : Nat) : Int) := by rw [IntWalk.i64_in _ (by omega)]; omega
      have HH := Aside0.mk (And.intro hi hki)
      clear hlt hN7 hi hki
      go_upto_region 12 with (go_at_call 33; (with_reducible refine (start1_i VM.out.1.1 VM.out.1.2 VM.out.2.1.1 VM.out.2.1.2 HL.out.1 HL.out.2 _).mono ?_); rintro e w8 ⟨rfl, hb8⟩; have HB8 := Aside0.mk (below_step HB.out hb8); have bk8 := blk_keep BK.out hb8; have c80 := (blk_cell bk8 0).trans rfl; have c81 := (blk_cell bk8 1).trans rfl; have c82 := (blk_cell bk8 2).trans rfl; have c83 := (blk_cell bk8 3).trans rfl; have c84 := (blk_cell bk8 4).trans rfl; have c85 := (blk_cell bk8 5).trans rfl; have c86 := (blk_cell bk8 6).trans rfl; have c87 := (blk_cell bk8 7).trans rfl; have fc80 := blk_frozen bk8 0; have fc81 := blk_frozen bk8 1; have fc82 := blk_frozen bk8 2; have fc83 := blk_frozen bk8 3; have fc84 := blk_frozen bk8 4; have fc85 := blk_frozen bk8 5; have fc86 := blk_frozen bk8 6; have fc87 := blk_frozen bk8 7; have BK8 := Aside0.mk bk8; clear bk8; clear hb8)
      obtain ⟨g2, hg2⟩ : ∃ g, g = w8.heap.size := ⟨_, rfl⟩
      have HN := Aside0.mk (show g ≠ g2 from hg2 ▸ Nat.ne_of_lt (blk_lt BK8.out))
      simp only [← hg2]
      refine wp_gen (fun W => W.heap[g]? = some (.cells (bcells 1 true ((n : Int) - (i : Int)) v v (v + m) true true) 40 (0, 0)) ∧ W.heap[g2]? = some (.cells (bcells 1 true ((n : Int) - ((i + 1 : Nat) : Int)) v v (v + m) true true) 40 (0, 0)) ∧ Below w.heap.size w W) ⟨blk_alloc BK8.out _, (by rw [hg2]; exact blk_new _ _), (by repeat (first | with_reducible exact HB8.out | with_reducible apply pw_below_drewN | with_reducible apply below_drew1 | with_reducible refine below_alloc ?_ _ | refine below_set ?_ HG.out))⟩ ?_
      clear HB BK HB8 BK8 hg2 c0 fc0 c1 fc1 c2 fc2 c3 fc3 c4 fc4 c5 fc5 c6 fc6 c7 fc7 c80 fc80 c81 fc81 c82 fc82 c83 fc83 c84 fc84 c85 fc85 c86 fc86 c87 fc87
      rintro W ⟨bk, bd, hb⟩
      have HB8 := Aside0.mk hb
      have BK8 := Aside0.mk bk
      have c0 := (blk_cell bk 0).trans rfl
      have c1 := (blk_cell bk 1).trans rfl
      have c2 := (blk_cell bk 2).trans rfl
      have c3 := (blk_cell bk 3).trans rfl
      have c4 := (blk_cell bk 4).trans rfl
      have c5 := (blk_cell bk 5).trans rfl
      have c6 := (blk_cell bk 6).trans rfl
      have c7 := (blk_cell bk 7).trans rfl
      have fc0 := blk_frozen bk 0
      have fc1 := blk_frozen bk 1
      have fc2 := blk_frozen bk 2
      have fc3 := blk_frozen bk 3
      have fc4 := blk_frozen bk 4
      have fc5 := blk_frozen bk 5
      have fc6 := blk_frozen bk 6
      have fc7 := blk_frozen bk 7
      have d0 := (blk_cell bd 0).trans rfl
      have d1 := (blk_cell bd 1).trans rfl
      have d2 := (blk_cell bd 2).trans rfl
      have d3 := (blk_cell bd 3).trans rfl
      have d4 := (blk_cell bd 4).trans rfl
      have d5 := (blk_cell bd 5).trans rfl
      have d6 := (blk_cell bd 6).trans rfl
      have d7 := (blk_cell bd 7).trans rfl
      have fd0 := blk_frozen bd 0
      have fd1 := blk_frozen bd 1
      have fd2 := blk_frozen bd 2
      have fd3 := blk_frozen bd 3
      have fd4 := blk_frozen bd 4
      have fd5 := blk_frozen bd 5
      have fd6 := blk_frozen bd 6
      have fd7 := blk_frozen bd 7
      clear bk bd hb
      go_wp2
      go_roundg (gk - 1)
      case measure => have h1 := HL.out; have h2 := HH.out; omega
      case rel => exact ⟨i + 1, HL.out.1, by have h1 := HL.out; have h2 := HH.out; omega, rfl, ⟨by first | exact blk_all8 (t := 40) BK8.out rfl _ _ _ _ _ _ _ _ | exact blk_drewN (blk_all8 (t := 40) BK8.out rfl _ _ _ _ _ _ _ _) _⟩, ⟨(by repeat (first | with_reducible exact HB8.out | with_reducible apply pw_below_drewN | with_reducible apply below_drew1 | with_reducible refine below_alloc ?_ _ | refine below_set ?_ HG.out))⟩⟩
    · have hin : i = n := by omega
      have BK2 := Aside0.mk (show wr.heap[g]? = some (.cells (bcells 1 true 0 v v (v + m) true true) 40 (0, 0)) from by have h := BK.out; rw [show (n : Int) - (i : Int) = 0 by omega] at h; exact h)
      subst hin
      have dl : decide ((i : Int) < (i : Int)) = false := decide_eq_false (by omega)
      have dl2 : decide (i < i) = false := decide_eq_false (by omega)
      clear hi hki hge BK c0 fc0 c1 fc1 c2 fc2 c3 fc3 c4 fc4 c5 fc5 c6 fc6 c7 fc7
      go_upto_region 16 with (fail)
      go_wp2
      clear dl dl2
      go_loopg [15] 3 (fun kq v15 w' => ∃ j : Nat, j ≤ 3 ∧ kq + j = 3 ∧ v15 = .int .i64 (j : Int) ∧ (j = 0 ∧ Aside0 (w'.heap[g]? = some (.cells (bcells 1 true 0 v v (v + m) true true) 40 (0, 0))) ∨ 0 < j ∧ Aside0 (w'.heap[g]? = some (.cells (bcells 0 false 0 v v (v + m) true false) 40 (0, 0)))) ∧ Aside0 (Below w.heap.size w w'))
      case atStart => exact ⟨0, by omega, by omega, rfl, Or.inl ⟨rfl, BK2⟩, HB⟩
      case round =>
        clear HB BK2
        obtain ⟨j, hj, hkj, rfl, hor, HB⟩ := hrel
        rcases hor with ⟨rfl, BK⟩ | ⟨hpos, BK⟩
        · skip
          have c0 := (blk_cell BK.out 0).trans rfl
          have c1 := (blk_cell BK.out 1).trans rfl
          have c2 := (blk_cell BK.out 2).trans rfl
          have c3 := (blk_cell BK.out 3).trans rfl
          have c4 := (blk_cell BK.out 4).trans rfl
          have c5 := (blk_cell BK.out 5).trans rfl
          have c6 := (blk_cell BK.out 6).trans rfl
          have c7 := (blk_cell BK.out 7).trans rfl
          have fc0 := blk_frozen BK.out 0
          have fc1 := blk_frozen BK.out 1
          have fc2 := blk_frozen BK.out 2
          have fc3 := blk_frozen BK.out 3
          have fc4 := blk_frozen BK.out 4
          have fc5 := blk_frozen BK.out 5
          have fc6 := blk_frozen BK.out 6
          have fc7 := blk_frozen BK.out 7
          have HH := Aside0.mk hkj
          clear hj hkj
          go_upto_region 19 with (go_at_call 33; (with_reducible refine (start1_l VM.out.1.1 VM.out.1.2 VM.out.2.1.1 VM.out.2.1.2 _).mono ?_); rintro e w8 ⟨rfl, hb8⟩; have HB8 := Aside0.mk (below_step HB.out hb8); have bk8 := blk_keep BK.out hb8; have c80 := (blk_cell bk8 0).trans rfl; have c81 := (blk_cell bk8 1).trans rfl; have c82 := (blk_cell bk8 2).trans rfl; have c83 := (blk_cell bk8 3).trans rfl; have c84 := (blk_cell bk8 4).trans rfl; have c85 := (blk_cell bk8 5).trans rfl; have c86 := (blk_cell bk8 6).trans rfl; have c87 := (blk_cell bk8 7).trans rfl; have fc80 := blk_frozen bk8 0; have fc81 := blk_frozen bk8 1; have fc82 := blk_frozen bk8 2; have fc83 := blk_frozen bk8 3; have fc84 := blk_frozen bk8 4; have fc85 := blk_frozen bk8 5; have fc86 := blk_frozen bk8 6; have fc87 := blk_frozen bk8 7; have BK8 := Aside0.mk bk8; clear bk8; clear hb8)
          obtain ⟨g2, hg2⟩ : ∃ g, g = w8.heap.size := ⟨_, rfl⟩
          have HN := Aside0.mk (show g ≠ g2 from hg2 ▸ Nat.ne_of_lt (blk_lt BK8.out))
          simp only [← hg2]
          refine wp_gen (fun W => W.heap[g]? = some (.cells (bcells 1 true 0 v v (v + m) true true) 40 (0, 0)) ∧ W.heap[g2]? = some (.cells (bcells 0 false 0 v v (v + m) true false) 40 (0, 0)) ∧ Below w.heap.size w W) ⟨blk_alloc BK8.out _, (by rw [hg2]; exact blk_new _ _), (by repeat (first | with_reducible exact HB8.out | with_reducible apply pw_below_drewN | with_reducible apply below_drew1 | with_reducible refine below_alloc ?_ _ | refine below_set ?_ HG.out))⟩ ?_
          clear HB BK HB8 BK8 hg2 c0 fc0 c1 fc1 c2 fc2 c3 fc3 c4 fc4 c5 fc5 c6 fc6 c7 fc7 c80 fc80 c81 fc81 c82 fc82 c83 fc83 c84 fc84 c85 fc85 c86 fc86 c87 fc87
          rintro W ⟨bk, bd, hb⟩
          have HB8 := Aside0.mk hb
          have BK8 := Aside0.mk bk
          have c0 := (blk_cell bk 0).trans rfl
          have c1 := (blk_cell bk 1).trans rfl
          have c2 := (blk_cell bk 2).trans rfl
          have c3 := (blk_cell bk 3).trans rfl
          have c4 := (blk_cell bk 4).trans rfl
          have c5 := (blk_cell bk 5).trans rfl
          have c6 := (blk_cell bk 6).trans rfl
          have c7 := (blk_cell bk 7).trans rfl
          have fc0 := blk_frozen bk 0
          have fc1 := blk_frozen bk 1
          have fc2 := blk_frozen bk 2
          have fc3 := blk_frozen bk 3
          have fc4 := blk_frozen bk 4
          have fc5 := blk_frozen bk 5
          have fc6 := blk_frozen bk 6
          have fc7 := blk_frozen bk 7
          have d0 := (blk_cell bd 0).trans rfl
          have d1 := (blk_cell bd 1).trans rfl
          have d2 := (blk_cell bd 2).trans rfl
          have d3 := (blk_cell bd 3).trans rfl
          have d4 := (blk_cell bd 4).trans rfl
          have d5 := (blk_cell bd 5).trans rfl
          have d6 := (blk_cell bd 6).trans rfl
          have d7 := (blk_cell bd 7).trans rfl
          have fd0 := blk_frozen bd 0
          have fd1 := blk_frozen bd 1
          have fd2 := blk_frozen bd 2
          have fd3 := blk_frozen bd 3
          have fd4 := blk_frozen bd 4
          have fd5 := blk_frozen bd 5
          have fd6 := blk_frozen bd 6
          have fd7 := blk_frozen bd 7
          clear bk bd hb
          go_wp2
          go_roundg (gk - 1)
          case measure => have h2 := HH.out; omega
          case rel => exact ⟨1, by have h2 := HH.out; omega, by have h2 := HH.out; omega, rfl, Or.inr ⟨by omega, ⟨(by first | exact blk_all8 (t := 40) BK8.out rfl _ _ _ _ _ _ _ _ | exact blk_drewN (blk_all8 (t := 40) BK8.out rfl _ _ _ _ _ _ _ _) _)⟩⟩, ⟨(by repeat (first | with_reducible exact HB8.out | with_reducible apply pw_below_drewN | with_reducible apply below_drew1 | with_reducible refine below_alloc ?_ _ | refine below_set ?_ HG.out))⟩⟩
        · skip
          have c0 := (blk_cell BK.out 0).trans rfl
          have c1 := (blk_cell BK.out 1).trans rfl
          have c2 := (blk_cell BK.out 2).trans rfl
          have c3 := (blk_cell BK.out 3).trans rfl
          have c4 := (blk_cell BK.out 4).trans rfl
          have c5 := (blk_cell BK.out 5).trans rfl
          have c6 := (blk_cell BK.out 6).trans rfl
          have c7 := (blk_cell BK.out 7).trans rfl
          have fc0 := blk_frozen BK.out 0
          have fc1 := blk_frozen BK.out 1
          have fc2 := blk_frozen BK.out 2
          have fc3 := blk_frozen BK.out 3
          have fc4 := blk_frozen BK.out 4
          have fc5 := blk_frozen BK.out 5
          have fc6 := blk_frozen BK.out 6
          have fc7 := blk_frozen BK.out 7
          rcases Nat.lt_or_ge j 3 with hlt | hge
          · have dl : decide ((j : Int) < 3) = true := decide_eq_true (by omega)
            have dl2 : decide (j < 3) = true := decide_eq_true hlt
            have ew : IntKind.i64.wrap ((j : Int) + 1) = ((j + 1 : Nat) : Int) := by rw [IntWalk.i64_in _ (by omega)]; omega
            have HH := Aside0.mk (And.intro hlt (And.intro hpos hkj))
            clear hj hkj hlt hpos
            go_upto_region 19 with (go_at_call 33; (with_reducible refine (start1_p VM.out.1.1 VM.out.1.2 VM.out.2.1.1 VM.out.2.1.2 _).mono ?_); rintro e w8 ⟨rfl, hb8⟩; have HB8 := Aside0.mk (below_step HB.out hb8); have bk8 := blk_keep BK.out hb8; have c80 := (blk_cell bk8 0).trans rfl; have c81 := (blk_cell bk8 1).trans rfl; have c82 := (blk_cell bk8 2).trans rfl; have c83 := (blk_cell bk8 3).trans rfl; have c84 := (blk_cell bk8 4).trans rfl; have c85 := (blk_cell bk8 5).trans rfl; have c86 := (blk_cell bk8 6).trans rfl; have c87 := (blk_cell bk8 7).trans rfl; have fc80 := blk_frozen bk8 0; have fc81 := blk_frozen bk8 1; have fc82 := blk_frozen bk8 2; have fc83 := blk_frozen bk8 3; have fc84 := blk_frozen bk8 4; have fc85 := blk_frozen bk8 5; have fc86 := blk_frozen bk8 6; have fc87 := blk_frozen bk8 7; have BK8 := Aside0.mk bk8; clear bk8; clear hb8)
            obtain ⟨g2, hg2⟩ : ∃ g, g = w8.heap.size := ⟨_, rfl⟩
            have HN := Aside0.mk (show g ≠ g2 from hg2 ▸ Nat.ne_of_lt (blk_lt BK8.out))
            simp only [← hg2]
            refine wp_gen (fun W => W.heap[g]? = some (.cells (bcells 0 false 0 v v (v + m) true false) 40 (0, 0)) ∧ W.heap[g2]? = some (.cells (bcells 0 false 0 v v (v + m) true false) 40 (0, 0)) ∧ Below w.heap.size w W) ⟨blk_alloc BK8.out _, (by rw [hg2]; exact blk_new _ _), (by repeat (first | with_reducible exact HB8.out | with_reducible apply pw_below_drewN | with_reducible apply below_drew1 | with_reducible refine below_alloc ?_ _ | refine below_set ?_ HG.out))⟩ ?_
            clear HB BK HB8 BK8 hg2 c0 fc0 c1 fc1 c2 fc2 c3 fc3 c4 fc4 c5 fc5 c6 fc6 c7 fc7 c80 fc80 c81 fc81 c82 fc82 c83 fc83 c84 fc84 c85 fc85 c86 fc86 c87 fc87
            rintro W ⟨bk, bd, hb⟩
            have HB8 := Aside0.mk hb
            have BK8 := Aside0.mk bk
            have c0 := (blk_cell bk 0).trans rfl
            have c1 := (blk_cell bk 1).trans rfl
            have c2 := (blk_cell bk 2).trans rfl
            have c3 := (blk_cell bk 3).trans rfl
            have c4 := (blk_cell bk 4).trans rfl
            have c5 := (blk_cell bk 5).trans rfl
            have c6 := (blk_cell bk 6).trans rfl
            have c7 := (blk_cell bk 7).trans rfl
            have fc0 := blk_frozen bk 0
            have fc1 := blk_frozen bk 1
            have fc2 := blk_frozen bk 2
            have fc3 := blk_frozen bk 3
            have fc4 := blk_frozen bk 4
            have fc5 := blk_frozen bk 5
            have fc6 := blk_frozen bk 6
            have fc7 := blk_frozen bk 7
            have d0 := (blk_cell bd 0).trans rfl
            have d1 := (blk_cell bd 1).trans rfl
            have d2 := (blk_cell bd 2).trans rfl
            have d3 := (blk_cell bd 3).trans rfl
            have d4 := (blk_cell bd 4).trans rfl
            have d5 := (blk_cell bd 5).trans rfl
            have d6 := (blk_cell bd 6).trans rfl
            have d7 := (blk_cell bd 7).trans rfl
            have fd0 := blk_frozen bd 0
            have fd1 := blk_frozen bd 1
            have fd2 := blk_frozen bd 2
            have fd3 := blk_frozen bd 3
            have fd4 := blk_frozen bd 4
            have fd5 := blk_frozen bd 5
            have fd6 := blk_frozen bd 6
            have fd7 := blk_frozen bd 7
            clear bk bd hb
            go_wp2
            go_roundg (gk - 1)
            case measure => have h2 := HH.out; omega
            case rel => exact ⟨j + 1, by have h2 := HH.out; omega, by have h2 := HH.out; omega, rfl, Or.inr ⟨by omega, ⟨(by first | exact blk_all8 (t := 40) BK8.out rfl _ _ _ _ _ _ _ _ | exact blk_drewN (blk_all8 (t := 40) BK8.out rfl _ _ _ _ _ _ _ _) _)⟩⟩, ⟨(by repeat (first | with_reducible exact HB8.out | with_reducible apply pw_below_drewN | with_reducible apply below_drew1 | with_reducible refine below_alloc ?_ _ | refine below_set ?_ HG.out))⟩⟩
          · have hj3 : j = 3 := by omega
            subst hj3
            clear hpos hj hkj hge
            go_wp2_with (go_at_call 31; (with_reducible refine (switch1_n VM.out.1.1 VM.out.1.2 VM.out.2.1.1 VM.out.2.1.2 _).mono ?_); rintro e w8 ⟨rfl, hb8⟩; have HB8 := Aside0.mk (below_step HB.out hb8); have bk8 := blk_keep BK.out hb8; have c80 := (blk_cell bk8 0).trans rfl; have c81 := (blk_cell bk8 1).trans rfl; have c82 := (blk_cell bk8 2).trans rfl; have c83 := (blk_cell bk8 3).trans rfl; have c84 := (blk_cell bk8 4).trans rfl; have c85 := (blk_cell bk8 5).trans rfl; have c86 := (blk_cell bk8 6).trans rfl; have c87 := (blk_cell bk8 7).trans rfl; have fc80 := blk_frozen bk8 0; have fc81 := blk_frozen bk8 1; have fc82 := blk_frozen bk8 2; have fc83 := blk_frozen bk8 3; have fc84 := blk_frozen bk8 4; have fc85 := blk_frozen bk8 5; have fc86 := blk_frozen bk8 6; have fc87 := blk_frozen bk8 7; have BK8 := Aside0.mk bk8; clear bk8; clear hb8)
            go_ret
            exact ⟨rfl, (by repeat (first | with_reducible exact HB8.out | with_reducible apply pw_below_drewN | with_reducible apply below_drew1 | with_reducible refine below_alloc ?_ _ | refine below_set ?_ HG.out))⟩
end Go.Proofs.Ytoiahmdibibceaa.Tb
