import Derived.Test.YtoiahmdibibceaaXTbA
set_option linter.unusedVariables false
set_option linter.unusedSimpArgs false
namespace Go.Proofs.Ytoiahmdibibceaa.Tb
open Go.RowKit Go.Proofs.YtoiahmdibibceaaW.PrintWords Go.Proofs.YtoiahmdibibceaaW.PrintLast Go.Proofs.YtoiahmdibibceaaW.PrintMore
set_option maxRecDepth 100000 in
set_option maxHeartbeats 16000000 in
theorem check_calls (a : Int) (tr : Bool) (ts ls v0 v1 : Int) (g0 g1 : Bool) (w : World) : Calls Try.prog 36 #[.agg (bcells a tr ts ls v0 v1 g0 g1)] w fun e w' => e = .returned (.bool (chkB a tr ts ls v0 v1 g0 g1)) ∧ Below w.heap.size w w' := by
  unfold bcells
  go_enter Try.func36, Try.ntmps36
  go_upto_region 1 with (fail)
  obtain ⟨W, hW⟩ : ∃ W : World, W = w.alloc (.cells #[.int .i64 a, .bool tr, .int .i64 ts, .int .i64 ls, .int .i64 v0, .int .i64 v1, .bool g0, .bool g1] 40) := ⟨_, rfl⟩
  have bk : W.heap[w.heap.size]? = some (.cells #[.int .i64 a, .bool tr, .int .i64 ts, .int .i64 ls, .int .i64 v0, .int .i64 v1, .bool g0, .bool g1] 40 (0, 0)) := by rw [hW]; exact blk_new _ _
  have hb : Below w.heap.size w W := by rw [hW]; exact below_alloc (Below.refl _ _) _
  rw [← hW]
  clear hW
  have BK := Aside0.mk bk
  have HB := Aside0.mk hb
  have c0 := (blk_cell bk 0).trans rfl
  have c1 := (blk_cell bk 1).trans rfl
  have c2 := (blk_cell bk 2).trans rfl
  have c3 := (blk_cell bk 3).trans rfl
  have c4 := (blk_cell bk 4).trans rfl
  have c5 := (blk_cell bk 5).trans rfl
  have c6 := (blk_cell bk 6).trans rfl
  have c7 := (blk_cell bk 7).trans rfl
  clear bk hb
  by_cases p1 : a < 0
  · have dp1 : decide (a < 0) = true := decide_eq_true p1
    have e_ : chkB a tr ts ls v0 v1 g0 g1 = false := by unfold chkB pre; simp [dp1]
    go_wp2
    (try (go_quiet (fail)))
    (try go_wp2)
    go_ret
    exact ⟨by first | rfl | exact congrArg (fun b => Ending.returned (Value.bool b)) e_.symm, by repeat (first | exact HB.out | apply pw_below_drewN | apply below_drew1)⟩
  have dp1 : decide (a < 0) = false := decide_eq_false p1
  by_cases p2 : a > 1
  · have dp2 : decide (a > 1) = true := decide_eq_true p2
    have e_ : chkB a tr ts ls v0 v1 g0 g1 = false := by unfold chkB pre; simp [dp2]
    go_wp2
    (try (go_quiet (fail)))
    (try go_wp2)
    go_ret
    exact ⟨by first | rfl | exact congrArg (fun b => Ending.returned (Value.bool b)) e_.symm, by repeat (first | exact HB.out | apply pw_below_drewN | apply below_drew1)⟩
  have dp2 : decide (a > 1) = false := decide_eq_false p2
  by_cases p3 : ts < 0
  · have dp3 : decide (ts < 0) = true := decide_eq_true p3
    have e_ : chkB a tr ts ls v0 v1 g0 g1 = false := by unfold chkB pre; simp [dp3]
    go_wp2
    (try (go_quiet (fail)))
    (try go_wp2)
    go_ret
    exact ⟨by first | rfl | exact congrArg (fun b => Ending.returned (Value.bool b)) e_.symm, by repeat (first | exact HB.out | apply pw_below_drewN | apply below_drew1)⟩
  have dp3 : decide (ts < 0) = false := decide_eq_false p3
  by_cases p4 : ts > 7
  · have dp4 : decide (ts > 7) = true := decide_eq_true p4
    have e_ : chkB a tr ts ls v0 v1 g0 g1 = false := by unfold chkB pre; simp [dp4]
    go_wp2
    (try (go_quiet (fail)))
    (try go_wp2)
    go_ret
    exact ⟨by first | rfl | exact congrArg (fun b => Ending.returned (Value.bool b)) e_.symm, by repeat (first | exact HB.out | apply pw_below_drewN | apply below_drew1)⟩
  have dp4 : decide (ts > 7) = false := decide_eq_false p4
  by_cases p5 : ls < 1
  · have dp5 : decide (ls < 1) = true := decide_eq_true p5
    have e_ : chkB a tr ts ls v0 v1 g0 g1 = false := by unfold chkB pre; simp [dp5]
    go_wp2
    (try (go_quiet (fail)))
    (try go_wp2)
    go_ret
    exact ⟨by first | rfl | exact congrArg (fun b => Ending.returned (Value.bool b)) e_.symm, by repeat (first | exact HB.out | apply pw_below_drewN | apply below_drew1)⟩
  have dp5 : decide (ls < 1) = false := decide_eq_false p5
  by_cases p6 : ls > 1073741824
  · have dp6 : decide (ls > 1073741824) = true := decide_eq_true p6
    have e_ : chkB a tr ts ls v0 v1 g0 g1 = false := by unfold chkB pre; simp [dp6]
    go_wp2
    (try (go_quiet (fail)))
    (try go_wp2)
    go_ret
    exact ⟨by first | rfl | exact congrArg (fun b => Ending.returned (Value.bool b)) e_.symm, by repeat (first | exact HB.out | apply pw_below_drewN | apply below_drew1)⟩
  have dp6 : decide (ls > 1073741824) = false := decide_eq_false p6
  by_cases p7 : tr = false ∧ ts > 0
  · obtain ⟨rfl, p7b⟩ := p7
    have dp7 : decide (ts > 0) = true := decide_eq_true p7b
    have e_ : chkB a false ts ls v0 v1 g0 g1 = false := by unfold chkB pre; simp [dp7]
    go_wp2
    (try (go_quiet (fail)))
    (try go_wp2)
    go_ret
    exact ⟨by first | rfl | exact congrArg (fun b => Ending.returned (Value.bool b)) e_.symm, by repeat (first | exact HB.out | apply pw_below_drewN | apply below_drew1)⟩
  have ha : a = 0 ∨ a = 1 := by omega
  have hpre : pre a tr ts ls = false := by
    unfold pre
    rw [dp1, dp2, dp3, dp4, dp5, dp6]
    cases tr
    · have : decide (ts > 0) = false := decide_eq_false (fun h => p7 ⟨rfl, h⟩)
      rw [this]; rfl
    · rfl
  cases tr
  · have dp7 : decide (ts > 0) = false := decide_eq_false (fun h => p7 ⟨rfl, h⟩)
    rcases ha with rfl | rfl
    · cases g0
      · cases g1
        · skip
          go_upto_region 3 with (fail)
          go_wp2
          go_loopg [43] 2 (fun kq v43 w' => ∃ i : Nat, i ≤ 2 ∧ kq + i = 2 ∧ v43 = .int .i64 i ∧ Aside0 (w'.heap[w.heap.size]? = some (.cells #[.int .i64 0, .bool false, .int .i64 ts, .int .i64 ls, .int .i64 v0, .int .i64 v1, .bool false, .bool false] 40 (0, 0))) ∧ Aside0 (Below w.heap.size w w') ∧ Aside0 ((0 < i → sbad v0 false ls true false = false) ∧ (1 < i → sbad v1 false ls false false = false)))
          case atStart => exact ⟨0, by omega, by omega, rfl, BK, HB, ⟨⟨fun h => by omega, fun h => by omega⟩⟩⟩
          case round =>
            clear BK HB c0 c1 c2 c3 c4 c5 c6 c7
            obtain ⟨i, hi, hki, rfl, BK, HB, S⟩ := hrel
            have c0 := (blk_cell BK.out 0).trans rfl
            have c1 := (blk_cell BK.out 1).trans rfl
            have c2 := (blk_cell BK.out 2).trans rfl
            have c3 := (blk_cell BK.out 3).trans rfl
            have c4 := (blk_cell BK.out 4).trans rfl
            have c5 := (blk_cell BK.out 5).trans rfl
            have c6 := (blk_cell BK.out 6).trans rfl
            have c7 := (blk_cell BK.out 7).trans rfl
            have hcase : i = 0 ∨ i = 1 ∨ i = 2 := by omega
            rcases hcase with rfl | rfl | rfl
            · by_cases q1 : v0 < 0
              · have d1 : decide (v0 < 0) = true := decide_eq_true q1
                have e_ : chkB 0 false ts ls v0 v1 false false = false := by unfold chkB sbad; simp [q1]
                go_wp2
                go_ret
                exact ⟨by first | rfl | exact congrArg (fun b => Ending.returned (Value.bool b)) e_.symm, by repeat (first | exact HB.out | apply pw_below_drewN | apply below_drew1)⟩
              have d1 : decide (v0 < 0) = false := decide_eq_false q1
              by_cases q2 : v0 > 1073741824
              · have d2 : decide (v0 > 1073741824) = true := decide_eq_true q2
                have e_ : chkB 0 false ts ls v0 v1 false false = false := by unfold chkB sbad; simp [q2]
                go_wp2
                go_ret
                exact ⟨by first | rfl | exact congrArg (fun b => Ending.returned (Value.bool b)) e_.symm, by repeat (first | exact HB.out | apply pw_below_drewN | apply below_drew1)⟩
              have d2 : decide (v0 > 1073741824) = false := decide_eq_false q2
              have s_ : sbad v0 false ls true false = false := by unfold sbad; simp [d1, d2]
              go_wp2
              go_roundg (gk - 1)
              case measure => omega
              case rel => exact ⟨1, by omega, by omega, rfl, BK, HB, ⟨⟨fun _ => s_, fun h => by omega⟩⟩⟩
            · by_cases q1 : v1 < 0
              · have d1 : decide (v1 < 0) = true := decide_eq_true q1
                have e_ : chkB 0 false ts ls v0 v1 false false = false := by unfold chkB sbad; simp [q1]
                go_wp2
                go_ret
                exact ⟨by first | rfl | exact congrArg (fun b => Ending.returned (Value.bool b)) e_.symm, by repeat (first | exact HB.out | apply pw_below_drewN | apply below_drew1)⟩
              have d1 : decide (v1 < 0) = false := decide_eq_false q1
              by_cases q2 : v1 > 1073741824
              · have d2 : decide (v1 > 1073741824) = true := decide_eq_true q2
                have e_ : chkB 0 false ts ls v0 v1 false false = false := by unfold chkB sbad; simp [q2]
                go_wp2
                go_ret
                exact ⟨by first | rfl | exact congrArg (fun b => Ending.returned (Value.bool b)) e_.symm, by repeat (first | exact HB.out | apply pw_below_drewN | apply below_drew1)⟩
              have d2 : decide (v1 > 1073741824) = false := decide_eq_false q2
              have s_ : sbad v1 false ls false false = false := by unfold sbad; simp [d1, d2]
              go_wp2
              go_roundg (gk - 1)
              case measure => omega
              case rel => exact ⟨2, by omega, by omega, rfl, BK, HB, ⟨⟨fun _ => S.out.1 (by omega), fun _ => s_⟩⟩⟩
            · have s0 := S.out.1 (by omega)
              have s1 := S.out.2 (by omega)
              have e_ : chkB 0 false ts ls v0 v1 false false = false := by unfold chkB; simp [s0, s1, hpre]
              go_wp2
              go_ret
              exact ⟨by first | rfl | exact congrArg (fun b => Ending.returned (Value.bool b)) e_.symm, by repeat (first | exact HB.out | apply pw_below_drewN | apply below_drew1)⟩
        · skip
          go_upto_region 3 with (fail)
          go_wp2
          go_loopg [43] 2 (fun kq v43 w' => ∃ i : Nat, i ≤ 2 ∧ kq + i = 2 ∧ v43 = .int .i64 i ∧ Aside0 (w'.heap[w.heap.size]? = some (.cells #[.int .i64 0, .bool false, .int .i64 ts, .int .i64 ls, .int .i64 v0, .int .i64 v1, .bool false, .bool true] 40 (0, 0))) ∧ Aside0 (Below w.heap.size w w') ∧ Aside0 ((0 < i → sbad v0 false ls true false = false) ∧ (1 < i → sbad v1 true ls false false = false)))
          case atStart => exact ⟨0, by omega, by omega, rfl, BK, HB, ⟨⟨fun h => by omega, fun h => by omega⟩⟩⟩
          case round =>
            clear BK HB c0 c1 c2 c3 c4 c5 c6 c7
            obtain ⟨i, hi, hki, rfl, BK, HB, S⟩ := hrel
            have c0 := (blk_cell BK.out 0).trans rfl
            have c1 := (blk_cell BK.out 1).trans rfl
            have c2 := (blk_cell BK.out 2).trans rfl
            have c3 := (blk_cell BK.out 3).trans rfl
            have c4 := (blk_cell BK.out 4).trans rfl
            have c5 := (blk_cell BK.out 5).trans rfl
            have c6 := (blk_cell BK.out 6).trans rfl
            have c7 := (blk_cell BK.out 7).trans rfl
            have hcase : i = 0 ∨ i = 1 ∨ i = 2 := by omega
            rcases hcase with rfl | rfl | rfl
            · by_cases q1 : v0 < 0
              · have d1 : decide (v0 < 0) = true := decide_eq_true q1
                have e_ : chkB 0 false ts ls v0 v1 false true = false := by unfold chkB sbad; simp [q1]
                go_wp2
                go_ret
                exact ⟨by first | rfl | exact congrArg (fun b => Ending.returned (Value.bool b)) e_.symm, by repeat (first | exact HB.out | apply pw_below_drewN | apply below_drew1)⟩
              have d1 : decide (v0 < 0) = false := decide_eq_false q1
              by_cases q2 : v0 > 1073741824
              · have d2 : decide (v0 > 1073741824) = true := decide_eq_true q2
                have e_ : chkB 0 false ts ls v0 v1 false true = false := by unfold chkB sbad; simp [q2]
                go_wp2
                go_ret
                exact ⟨by first | rfl | exact congrArg (fun b => Ending.returned (Value.bool b)) e_.symm, by repeat (first | exact HB.out | apply pw_below_drewN | apply below_drew1)⟩
              have d2 : decide (v0 > 1073741824) = false := decide_eq_false q2
              have s_ : sbad v0 false ls true false = false := by unfold sbad; simp [d1, d2]
              go_wp2
              go_roundg (gk - 1)
              case measure => omega
              case rel => exact ⟨1, by omega, by omega, rfl, BK, HB, ⟨⟨fun _ => s_, fun h => by omega⟩⟩⟩
            · by_cases q1 : v1 < 0
              · have d1 : decide (v1 < 0) = true := decide_eq_true q1
                have e_ : chkB 0 false ts ls v0 v1 false true = false := by unfold chkB sbad; simp [q1]
                go_wp2
                go_ret
                exact ⟨by first | rfl | exact congrArg (fun b => Ending.returned (Value.bool b)) e_.symm, by repeat (first | exact HB.out | apply pw_below_drewN | apply below_drew1)⟩
              have d1 : decide (v1 < 0) = false := decide_eq_false q1
              by_cases q2 : v1 > 1073741824
              · have d2 : decide (v1 > 1073741824) = true := decide_eq_true q2
                have e_ : chkB 0 false ts ls v0 v1 false true = false := by unfold chkB sbad; simp [q2]
                go_wp2
                go_ret
                exact ⟨by first | rfl | exact congrArg (fun b => Ending.returned (Value.bool b)) e_.symm, by repeat (first | exact HB.out | apply pw_below_drewN | apply below_drew1)⟩
              have d2 : decide (v1 > 1073741824) = false := decide_eq_false q2
              by_cases q3 : v1 < ls
              · have d3 : decide (v1 < ls) = true := decide_eq_true q3
                have s_ : sbad v1 true ls false false = false := by unfold sbad; simp [d1, d2]
                go_wp2
                go_roundg (gk - 1)
                case measure => omega
                case rel => exact ⟨2, by omega, by omega, rfl, BK, HB, ⟨⟨fun _ => S.out.1 (by omega), fun _ => s_⟩⟩⟩
              have d3 : decide (v1 < ls) = false := decide_eq_false q3
              have s_ : sbad v1 true ls false false = false := by unfold sbad; simp [d1, d2, d3]
              go_wp2
              go_roundg (gk - 1)
              case measure => omega
              case rel => exact ⟨2, by omega, by omega, rfl, BK, HB, ⟨⟨fun _ => S.out.1 (by omega), fun _ => s_⟩⟩⟩
            · have s0 := S.out.1 (by omega)
              have s1 := S.out.2 (by omega)
              have e_ : chkB 0 false ts ls v0 v1 false true = false := by unfold chkB; simp [s0, s1, hpre]
              go_wp2
              go_ret
              exact ⟨by first | rfl | exact congrArg (fun b => Ending.returned (Value.bool b)) e_.symm, by repeat (first | exact HB.out | apply pw_below_drewN | apply below_drew1)⟩
      · cases g1
        · skip
          go_upto_region 3 with (fail)
          go_wp2
          go_loopg [43] 2 (fun kq v43 w' => ∃ i : Nat, i ≤ 2 ∧ kq + i = 2 ∧ v43 = .int .i64 i ∧ Aside0 (w'.heap[w.heap.size]? = some (.cells #[.int .i64 0, .bool false, .int .i64 ts, .int .i64 ls, .int .i64 v0, .int .i64 v1, .bool true, .bool false] 40 (0, 0))) ∧ Aside0 (Below w.heap.size w w') ∧ Aside0 ((0 < i → sbad v0 true ls true false = false) ∧ (1 < i → sbad v1 false ls false false = false)))
          case atStart => exact ⟨0, by omega, by omega, rfl, BK, HB, ⟨⟨fun h => by omega, fun h => by omega⟩⟩⟩
          case round =>
            clear BK HB c0 c1 c2 c3 c4 c5 c6 c7
            obtain ⟨i, hi, hki, rfl, BK, HB, S⟩ := hrel
            have c0 := (blk_cell BK.out 0).trans rfl
            have c1 := (blk_cell BK.out 1).trans rfl
            have c2 := (blk_cell BK.out 2).trans rfl
            have c3 := (blk_cell BK.out 3).trans rfl
            have c4 := (blk_cell BK.out 4).trans rfl
            have c5 := (blk_cell BK.out 5).trans rfl
            have c6 := (blk_cell BK.out 6).trans rfl
            have c7 := (blk_cell BK.out 7).trans rfl
            have hcase : i = 0 ∨ i = 1 ∨ i = 2 := by omega
            rcases hcase with rfl | rfl | rfl
            · by_cases q1 : v0 < 0
              · have d1 : decide (v0 < 0) = true := decide_eq_true q1
                have e_ : chkB 0 false ts ls v0 v1 true false = false := by unfold chkB sbad; simp [q1]
                go_wp2
                go_ret
                exact ⟨by first | rfl | exact congrArg (fun b => Ending.returned (Value.bool b)) e_.symm, by repeat (first | exact HB.out | apply pw_below_drewN | apply below_drew1)⟩
              have d1 : decide (v0 < 0) = false := decide_eq_false q1
              by_cases q2 : v0 > 1073741824
              · have d2 : decide (v0 > 1073741824) = true := decide_eq_true q2
                have e_ : chkB 0 false ts ls v0 v1 true false = false := by unfold chkB sbad; simp [q2]
                go_wp2
                go_ret
                exact ⟨by first | rfl | exact congrArg (fun b => Ending.returned (Value.bool b)) e_.symm, by repeat (first | exact HB.out | apply pw_below_drewN | apply below_drew1)⟩
              have d2 : decide (v0 > 1073741824) = false := decide_eq_false q2
              by_cases q3 : v0 < ls
              · have d3 : decide (v0 < ls) = true := decide_eq_true q3
                have e_ : chkB 0 false ts ls v0 v1 true false = false := by unfold chkB sbad; simp [q3]
                go_wp2
                go_ret
                exact ⟨by first | rfl | exact congrArg (fun b => Ending.returned (Value.bool b)) e_.symm, by repeat (first | exact HB.out | apply pw_below_drewN | apply below_drew1)⟩
              have d3 : decide (v0 < ls) = false := decide_eq_false q3
              have s_ : sbad v0 true ls true false = false := by unfold sbad; simp [d1, d2, d3]
              go_wp2
              go_roundg (gk - 1)
              case measure => omega
              case rel => exact ⟨1, by omega, by omega, rfl, BK, HB, ⟨⟨fun _ => s_, fun h => by omega⟩⟩⟩
            · by_cases q1 : v1 < 0
              · have d1 : decide (v1 < 0) = true := decide_eq_true q1
                have e_ : chkB 0 false ts ls v0 v1 true false = false := by unfold chkB sbad; simp [q1]
                go_wp2
                go_ret
                exact ⟨by first | rfl | exact congrArg (fun b => Ending.returned (Value.bool b)) e_.symm, by repeat (first | exact HB.out | apply pw_below_drewN | apply below_drew1)⟩
              have d1 : decide (v1 < 0) = false := decide_eq_false q1
              by_cases q2 : v1 > 1073741824
              · have d2 : decide (v1 > 1073741824) = true := decide_eq_true q2
                have e_ : chkB 0 false ts ls v0 v1 true false = false := by unfold chkB sbad; simp [q2]
                go_wp2
                go_ret
                exact ⟨by first | rfl | exact congrArg (fun b => Ending.returned (Value.bool b)) e_.symm, by repeat (first | exact HB.out | apply pw_below_drewN | apply below_drew1)⟩
              have d2 : decide (v1 > 1073741824) = false := decide_eq_false q2
              have s_ : sbad v1 false ls false false = false := by unfold sbad; simp [d1, d2]
              go_wp2
              go_roundg (gk - 1)
              case measure => omega
              case rel => exact ⟨2, by omega, by omega, rfl, BK, HB, ⟨⟨fun _ => S.out.1 (by omega), fun _ => s_⟩⟩⟩
            · have s0 := S.out.1 (by omega)
              have s1 := S.out.2 (by omega)
              have e_ : chkB 0 false ts ls v0 v1 true false = true := by unfold chkB; simp [s0, s1, hpre]
              go_wp2
              go_ret
              exact ⟨by first | rfl | exact congrArg (fun b => Ending.returned (Value.bool b)) e_.symm, by repeat (first | exact HB.out | apply pw_below_drewN | apply below_drew1)⟩
        · skip
          go_upto_region 3 with (fail)
          go_wp2
          go_loopg [43] 2 (fun kq v43 w' => ∃ i : Nat, i ≤ 2 ∧ kq + i = 2 ∧ v43 = .int .i64 i ∧ Aside0 (w'.heap[w.heap.size]? = some (.cells #[.int .i64 0, .bool false, .int .i64 ts, .int .i64 ls, .int .i64 v0, .int .i64 v1, .bool true, .bool true] 40 (0, 0))) ∧ Aside0 (Below w.heap.size w w') ∧ Aside0 ((0 < i → sbad v0 true ls true false = false) ∧ (1 < i → sbad v1 true ls false false = false)))
          case atStart => exact ⟨0, by omega, by omega, rfl, BK, HB, ⟨⟨fun h => by omega, fun h => by omega⟩⟩⟩
          case round =>
            clear BK HB c0 c1 c2 c3 c4 c5 c6 c7
            obtain ⟨i, hi, hki, rfl, BK, HB, S⟩ := hrel
            have c0 := (blk_cell BK.out 0).trans rfl
            have c1 := (blk_cell BK.out 1).trans rfl
            have c2 := (blk_cell BK.out 2).trans rfl
            have c3 := (blk_cell BK.out 3).trans rfl
            have c4 := (blk_cell BK.out 4).trans rfl
            have c5 := (blk_cell BK.out 5).trans rfl
            have c6 := (blk_cell BK.out 6).trans rfl
            have c7 := (blk_cell BK.out 7).trans rfl
            have hcase : i = 0 ∨ i = 1 ∨ i = 2 := by omega
            rcases hcase with rfl | rfl | rfl
            · by_cases q1 : v0 < 0
              · have d1 : decide (v0 < 0) = true := decide_eq_true q1
                have e_ : chkB 0 false ts ls v0 v1 true true = false := by unfold chkB sbad; simp [q1]
                go_wp2
                go_ret
                exact ⟨by first | rfl | exact congrArg (fun b => Ending.returned (Value.bool b)) e_.symm, by repeat (first | exact HB.out | apply pw_below_drewN | apply below_drew1)⟩
              have d1 : decide (v0 < 0) = false := decide_eq_false q1
              by_cases q2 : v0 > 1073741824
              · have d2 : decide (v0 > 1073741824) = true := decide_eq_true q2
                have e_ : chkB 0 false ts ls v0 v1 true true = false := by unfold chkB sbad; simp [q2]
                go_wp2
                go_ret
                exact ⟨by first | rfl | exact congrArg (fun b => Ending.returned (Value.bool b)) e_.symm, by repeat (first | exact HB.out | apply pw_below_drewN | apply below_drew1)⟩
              have d2 : decide (v0 > 1073741824) = false := decide_eq_false q2
              by_cases q3 : v0 < ls
              · have d3 : decide (v0 < ls) = true := decide_eq_true q3
                have e_ : chkB 0 false ts ls v0 v1 true true = false := by unfold chkB sbad; simp [q3]
                go_wp2
                go_ret
                exact ⟨by first | rfl | exact congrArg (fun b => Ending.returned (Value.bool b)) e_.symm, by repeat (first | exact HB.out | apply pw_below_drewN | apply below_drew1)⟩
              have d3 : decide (v0 < ls) = false := decide_eq_false q3
              have s_ : sbad v0 true ls true false = false := by unfold sbad; simp [d1, d2, d3]
              go_wp2
              go_roundg (gk - 1)
              case measure => omega
              case rel => exact ⟨1, by omega, by omega, rfl, BK, HB, ⟨⟨fun _ => s_, fun h => by omega⟩⟩⟩
            · by_cases q1 : v1 < 0
              · have d1 : decide (v1 < 0) = true := decide_eq_true q1
                have e_ : chkB 0 false ts ls v0 v1 true true = false := by unfold chkB sbad; simp [q1]
                go_wp2
                go_ret
                exact ⟨by first | rfl | exact congrArg (fun b => Ending.returned (Value.bool b)) e_.symm, by repeat (first | exact HB.out | apply pw_below_drewN | apply below_drew1)⟩
              have d1 : decide (v1 < 0) = false := decide_eq_false q1
              by_cases q2 : v1 > 1073741824
              · have d2 : decide (v1 > 1073741824) = true := decide_eq_true q2
                have e_ : chkB 0 false ts ls v0 v1 true true = false := by unfold chkB sbad; simp [q2]
                go_wp2
                go_ret
                exact ⟨by first | rfl | exact congrArg (fun b => Ending.returned (Value.bool b)) e_.symm, by repeat (first | exact HB.out | apply pw_below_drewN | apply below_drew1)⟩
              have d2 : decide (v1 > 1073741824) = false := decide_eq_false q2
              by_cases q3 : v1 < ls
              · have d3 : decide (v1 < ls) = true := decide_eq_true q3
                have s_ : sbad v1 true ls false false = false := by unfold sbad; simp [d1, d2]
                go_wp2
                go_roundg (gk - 1)
                case measure => omega
                case rel => exact ⟨2, by omega, by omega, rfl, BK, HB, ⟨⟨fun _ => S.out.1 (by omega), fun _ => s_⟩⟩⟩
              have d3 : decide (v1 < ls) = false := decide_eq_false q3
              have s_ : sbad v1 true ls false false = false := by unfold sbad; simp [d1, d2, d3]
              go_wp2
              go_roundg (gk - 1)
              case measure => omega
              case rel => exact ⟨2, by omega, by omega, rfl, BK, HB, ⟨⟨fun _ => S.out.1 (by omega), fun _ => s_⟩⟩⟩
            · have s0 := S.out.1 (by omega)
              have s1 := S.out.2 (by omega)
              have e_ : chkB 0 false ts ls v0 v1 true true = true := by unfold chkB; simp [s0, s1, hpre]
              go_wp2
              go_ret
              exact ⟨by first | rfl | exact congrArg (fun b => Ending.returned (Value.bool b)) e_.symm, by repeat (first | exact HB.out | apply pw_below_drewN | apply below_drew1)⟩
    · cases g0
      · cases g1
        · skip
          go_upto_region 3 with (fail)
          go_wp2
          go_loopg [43] 2 (fun kq v43 w' => ∃ i : Nat, i ≤ 2 ∧ kq + i = 2 ∧ v43 = .int .i64 i ∧ Aside0 (w'.heap[w.heap.size]? = some (.cells #[.int .i64 1, .bool false, .int .i64 ts, .int .i64 ls, .int .i64 v0, .int .i64 v1, .bool false, .bool false] 40 (0, 0))) ∧ Aside0 (Below w.heap.size w w') ∧ Aside0 ((0 < i → sbad v0 false ls false false = false) ∧ (1 < i → sbad v1 false ls true false = false)))
          case atStart => exact ⟨0, by omega, by omega, rfl, BK, HB, ⟨⟨fun h => by omega, fun h => by omega⟩⟩⟩
          case round =>
            clear BK HB c0 c1 c2 c3 c4 c5 c6 c7
            obtain ⟨i, hi, hki, rfl, BK, HB, S⟩ := hrel
            have c0 := (blk_cell BK.out 0).trans rfl
            have c1 := (blk_cell BK.out 1).trans rfl
            have c2 := (blk_cell BK.out 2).trans rfl
            have c3 := (blk_cell BK.out 3).trans rfl
            have c4 := (blk_cell BK.out 4).trans rfl
            have c5 := (blk_cell BK.out 5).trans rfl
            have c6 := (blk_cell BK.out 6).trans rfl
            have c7 := (blk_cell BK.out 7).trans rfl
            have hcase : i = 0 ∨ i = 1 ∨ i = 2 := by omega
            rcases hcase with rfl | rfl | rfl
            · by_cases q1 : v0 < 0
              · have d1 : decide (v0 < 0) = true := decide_eq_true q1
                have e_ : chkB 1 false ts ls v0 v1 false false = false := by unfold chkB sbad; simp [q1]
                go_wp2
                go_ret
                exact ⟨by first | rfl | exact congrArg (fun b => Ending.returned (Value.bool b)) e_.symm, by repeat (first | exact HB.out | apply pw_below_drewN | apply below_drew1)⟩
              have d1 : decide (v0 < 0) = false := decide_eq_false q1
              by_cases q2 : v0 > 1073741824
              · have d2 : decide (v0 > 1073741824) = true := decide_eq_true q2
                have e_ : chkB 1 false ts ls v0 v1 false false = false := by unfold chkB sbad; simp [q2]
                go_wp2
                go_ret
                exact ⟨by first | rfl | exact congrArg (fun b => Ending.returned (Value.bool b)) e_.symm, by repeat (first | exact HB.out | apply pw_below_drewN | apply below_drew1)⟩
              have d2 : decide (v0 > 1073741824) = false := decide_eq_false q2
              have s_ : sbad v0 false ls false false = false := by unfold sbad; simp [d1, d2]
              go_wp2
              go_roundg (gk - 1)
              case measure => omega
              case rel => exact ⟨1, by omega, by omega, rfl, BK, HB, ⟨⟨fun _ => s_, fun h => by omega⟩⟩⟩
            · by_cases q1 : v1 < 0
              · have d1 : decide (v1 < 0) = true := decide_eq_true q1
                have e_ : chkB 1 false ts ls v0 v1 false false = false := by unfold chkB sbad; simp [q1]
                go_wp2
                go_ret
                exact ⟨by first | rfl | exact congrArg (fun b => Ending.returned (Value.bool b)) e_.symm, by repeat (first | exact HB.out | apply pw_below_drewN | apply below_drew1)⟩
              have d1 : decide (v1 < 0) = false := decide_eq_false q1
              by_cases q2 : v1 > 1073741824
              · have d2 : decide (v1 > 1073741824) = true := decide_eq_true q2
                have e_ : chkB 1 false ts ls v0 v1 false false = false := by unfold chkB sbad; simp [q2]
                go_wp2
                go_ret
                exact ⟨by first | rfl | exact congrArg (fun b => Ending.returned (Value.bool b)) e_.symm, by repeat (first | exact HB.out | apply pw_below_drewN | apply below_drew1)⟩
              have d2 : decide (v1 > 1073741824) = false := decide_eq_false q2
              have s_ : sbad v1 false ls true false = false := by unfold sbad; simp [d1, d2]
              go_wp2
              go_roundg (gk - 1)
              case measure => omega
              case rel => exact ⟨2, by omega, by omega, rfl, BK, HB, ⟨⟨fun _ => S.out.1 (by omega), fun _ => s_⟩⟩⟩
            · have s0 := S.out.1 (by omega)
              have s1 := S.out.2 (by omega)
              have e_ : chkB 1 false ts ls v0 v1 false false = false := by unfold chkB; simp [s0, s1, hpre]
              go_wp2
              go_ret
              exact ⟨by first | rfl | exact congrArg (fun b => Ending.returned (Value.bool b)) e_.symm, by repeat (first | exact HB.out | apply pw_below_drewN | apply below_drew1)⟩
        · skip
          go_upto_region 3 with (fail)
          go_wp2
          go_loopg [43] 2 (fun kq v43 w' => ∃ i : Nat, i ≤ 2 ∧ kq + i = 2 ∧ v43 = .int .i64 i ∧ Aside0 (w'.heap[w.heap.size]? = some (.cells #[.int .i64 1, .bool false, .int .i64 ts, .int .i64 ls, .int .i64 v0, .int .i64 v1, .bool false, .bool true] 40 (0, 0))) ∧ Aside0 (Below w.heap.size w w') ∧ Aside0 ((0 < i → sbad v0 false ls false false = false) ∧ (1 < i → sbad v1 true ls true false = false)))
          case atStart => exact ⟨0, by omega, by omega, rfl, BK, HB, ⟨⟨fun h => by omega, fun h => by omega⟩⟩⟩
          case round =>
            clear BK HB c0 c1 c2 c3 c4 c5 c6 c7
            obtain ⟨i, hi, hki, rfl, BK, HB, S⟩ := hrel
            have c0 := (blk_cell BK.out 0).trans rfl
            have c1 := (blk_cell BK.out 1).trans rfl
            have c2 := (blk_cell BK.out 2).trans rfl
            have c3 := (blk_cell BK.out 3).trans rfl
            have c4 := (blk_cell BK.out 4).trans rfl
            have c5 := (blk_cell BK.out 5).trans rfl
            have c6 := (blk_cell BK.out 6).trans rfl
            have c7 := (blk_cell BK.out 7).trans rfl
            have hcase : i = 0 ∨ i = 1 ∨ i = 2 := by omega
            rcases hcase with rfl | rfl | rfl
            · by_cases q1 : v0 < 0
              · have d1 : decide (v0 < 0) = true := decide_eq_true q1
                have e_ : chkB 1 false ts ls v0 v1 false true = false := by unfold chkB sbad; simp [q1]
                go_wp2
                go_ret
                exact ⟨by first | rfl | exact congrArg (fun b => Ending.returned (Value.bool b)) e_.symm, by repeat (first | exact HB.out | apply pw_below_drewN | apply below_drew1)⟩
              have d1 : decide (v0 < 0) = false := decide_eq_false q1
              by_cases q2 : v0 > 1073741824
              · have d2 : decide (v0 > 1073741824) = true := decide_eq_true q2
                have e_ : chkB 1 false ts ls v0 v1 false true = false := by unfold chkB sbad; simp [q2]
                go_wp2
                go_ret
                exact ⟨by first | rfl | exact congrArg (fun b => Ending.returned (Value.bool b)) e_.symm, by repeat (first | exact HB.out | apply pw_below_drewN | apply below_drew1)⟩
              have d2 : decide (v0 > 1073741824) = false := decide_eq_false q2
              have s_ : sbad v0 false ls false false = false := by unfold sbad; simp [d1, d2]
              go_wp2
              go_roundg (gk - 1)
              case measure => omega
              case rel => exact ⟨1, by omega, by omega, rfl, BK, HB, ⟨⟨fun _ => s_, fun h => by omega⟩⟩⟩
            · by_cases q1 : v1 < 0
              · have d1 : decide (v1 < 0) = true := decide_eq_true q1
                have e_ : chkB 1 false ts ls v0 v1 false true = false := by unfold chkB sbad; simp [q1]
                go_wp2
                go_ret
                exact ⟨by first | rfl | exact congrArg (fun b => Ending.returned (Value.bool b)) e_.symm, by repeat (first | exact HB.out | apply pw_below_drewN | apply below_drew1)⟩
              have d1 : decide (v1 < 0) = false := decide_eq_false q1
              by_cases q2 : v1 > 1073741824
              · have d2 : decide (v1 > 1073741824) = true := decide_eq_true q2
                have e_ : chkB 1 false ts ls v0 v1 false true = false := by unfold chkB sbad; simp [q2]
                go_wp2
                go_ret
                exact ⟨by first | rfl | exact congrArg (fun b => Ending.returned (Value.bool b)) e_.symm, by repeat (first | exact HB.out | apply pw_below_drewN | apply below_drew1)⟩
              have d2 : decide (v1 > 1073741824) = false := decide_eq_false q2
              by_cases q3 : v1 < ls
              · have d3 : decide (v1 < ls) = true := decide_eq_true q3
                have e_ : chkB 1 false ts ls v0 v1 false true = false := by unfold chkB sbad; simp [q3]
                go_wp2
                go_ret
                exact ⟨by first | rfl | exact congrArg (fun b => Ending.returned (Value.bool b)) e_.symm, by repeat (first | exact HB.out | apply pw_below_drewN | apply below_drew1)⟩
              have d3 : decide (v1 < ls) = false := decide_eq_false q3
              have s_ : sbad v1 true ls true false = false := by unfold sbad; simp [d1, d2, d3]
              go_wp2
              go_roundg (gk - 1)
              case measure => omega
              case rel => exact ⟨2, by omega, by omega, rfl, BK, HB, ⟨⟨fun _ => S.out.1 (by omega), fun _ => s_⟩⟩⟩
            · have s0 := S.out.1 (by omega)
              have s1 := S.out.2 (by omega)
              have e_ : chkB 1 false ts ls v0 v1 false true = true := by unfold chkB; simp [s0, s1, hpre]
              go_wp2
              go_ret
              exact ⟨by first | rfl | exact congrArg (fun b => Ending.returned (Value.bool b)) e_.symm, by repeat (first | exact HB.out | apply pw_below_drewN | apply below_drew1)⟩
      · cases g1
        · skip
          go_upto_region 3 with (fail)
          go_wp2
          go_loopg [43] 2 (fun kq v43 w' => ∃ i : Nat, i ≤ 2 ∧ kq + i = 2 ∧ v43 = .int .i64 i ∧ Aside0 (w'.heap[w.heap.size]? = some (.cells #[.int .i64 1, .bool false, .int .i64 ts, .int .i64 ls, .int .i64 v0, .int .i64 v1, .bool true, .bool false] 40 (0, 0))) ∧ Aside0 (Below w.heap.size w w') ∧ Aside0 ((0 < i → sbad v0 true ls false false = false) ∧ (1 < i → sbad v1 false ls true false = false)))
          case atStart => exact ⟨0, by omega, by omega, rfl, BK, HB, ⟨⟨fun h => by omega, fun h => by omega⟩⟩⟩
          case round =>
            clear BK HB c0 c1 c2 c3 c4 c5 c6 c7
            obtain ⟨i, hi, hki, rfl, BK, HB, S⟩ := hrel
            have c0 := (blk_cell BK.out 0).trans rfl
            have c1 := (blk_cell BK.out 1).trans rfl
            have c2 := (blk_cell BK.out 2).trans rfl
            have c3 := (blk_cell BK.out 3).trans rfl
            have c4 := (blk_cell BK.out 4).trans rfl
            have c5 := (blk_cell BK.out 5).trans rfl
            have c6 := (blk_cell BK.out 6).trans rfl
            have c7 := (blk_cell BK.out 7).trans rfl
            have hcase : i = 0 ∨ i = 1 ∨ i = 2 := by omega
            rcases hcase with rfl | rfl | rfl
            · by_cases q1 : v0 < 0
              · have d1 : decide (v0 < 0) = true := decide_eq_true q1
                have e_ : chkB 1 false ts ls v0 v1 true false = false := by unfold chkB sbad; simp [q1]
                go_wp2
                go_ret
                exact ⟨by first | rfl | exact congrArg (fun b => Ending.returned (Value.bool b)) e_.symm, by repeat (first | exact HB.out | apply pw_below_drewN | apply below_drew1)⟩
              have d1 : decide (v0 < 0) = false := decide_eq_false q1
              by_cases q2 : v0 > 1073741824
              · have d2 : decide (v0 > 1073741824) = true := decide_eq_true q2
                have e_ : chkB 1 false ts ls v0 v1 true false = false := by unfold chkB sbad; simp [q2]
                go_wp2
                go_ret
                exact ⟨by first | rfl | exact congrArg (fun b => Ending.returned (Value.bool b)) e_.symm, by repeat (first | exact HB.out | apply pw_below_drewN | apply below_drew1)⟩
              have d2 : decide (v0 > 1073741824) = false := decide_eq_false q2
              by_cases q3 : v0 < ls
              · have d3 : decide (v0 < ls) = true := decide_eq_true q3
                have s_ : sbad v0 true ls false false = false := by unfold sbad; simp [d1, d2]
                go_wp2
                go_roundg (gk - 1)
                case measure => omega
                case rel => exact ⟨1, by omega, by omega, rfl, BK, HB, ⟨⟨fun _ => s_, fun h => by omega⟩⟩⟩
              have d3 : decide (v0 < ls) = false := decide_eq_false q3
              have s_ : sbad v0 true ls false false = false := by unfold sbad; simp [d1, d2, d3]
              go_wp2
              go_roundg (gk - 1)
              case measure => omega
              case rel => exact ⟨1, by omega, by omega, rfl, BK, HB, ⟨⟨fun _ => s_, fun h => by omega⟩⟩⟩
            · by_cases q1 : v1 < 0
              · have d1 : decide (v1 < 0) = true := decide_eq_true q1
                have e_ : chkB 1 false ts ls v0 v1 true false = false := by unfold chkB sbad; simp [q1]
                go_wp2
                go_ret
                exact ⟨by first | rfl | exact congrArg (fun b => Ending.returned (Value.bool b)) e_.symm, by repeat (first | exact HB.out | apply pw_below_drewN | apply below_drew1)⟩
              have d1 : decide (v1 < 0) = false := decide_eq_false q1
              by_cases q2 : v1 > 1073741824
              · have d2 : decide (v1 > 1073741824) = true := decide_eq_true q2
                have e_ : chkB 1 false ts ls v0 v1 true false = false := by unfold chkB sbad; simp [q2]
                go_wp2
                go_ret
                exact ⟨by first | rfl | exact congrArg (fun b => Ending.returned (Value.bool b)) e_.symm, by repeat (first | exact HB.out | apply pw_below_drewN | apply below_drew1)⟩
              have d2 : decide (v1 > 1073741824) = false := decide_eq_false q2
              have s_ : sbad v1 false ls true false = false := by unfold sbad; simp [d1, d2]
              go_wp2
              go_roundg (gk - 1)
              case measure => omega
              case rel => exact ⟨2, by omega, by omega, rfl, BK, HB, ⟨⟨fun _ => S.out.1 (by omega), fun _ => s_⟩⟩⟩
            · have s0 := S.out.1 (by omega)
              have s1 := S.out.2 (by omega)
              have e_ : chkB 1 false ts ls v0 v1 true false = false := by unfold chkB; simp [s0, s1, hpre]
              go_wp2
              go_ret
              exact ⟨by first | rfl | exact congrArg (fun b => Ending.returned (Value.bool b)) e_.symm, by repeat (first | exact HB.out | apply pw_below_drewN | apply below_drew1)⟩
        · skip
          go_upto_region 3 with (fail)
          go_wp2
          go_loopg [43] 2 (fun kq v43 w' => ∃ i : Nat, i ≤ 2 ∧ kq + i = 2 ∧ v43 = .int .i64 i ∧ Aside0 (w'.heap[w.heap.size]? = some (.cells #[.int .i64 1, .bool false, .int .i64 ts, .int .i64 ls, .int .i64 v0, .int .i64 v1, .bool true, .bool true] 40 (0, 0))) ∧ Aside0 (Below w.heap.size w w') ∧ Aside0 ((0 < i → sbad v0 true ls false false = false) ∧ (1 < i → sbad v1 true ls true false = false)))
          case atStart => exact ⟨0, by omega, by omega, rfl, BK, HB, ⟨⟨fun h => by omega, fun h => by omega⟩⟩⟩
          case round =>
            clear BK HB c0 c1 c2 c3 c4 c5 c6 c7
            obtain ⟨i, hi, hki, rfl, BK, HB, S⟩ := hrel
            have c0 := (blk_cell BK.out 0).trans rfl
            have c1 := (blk_cell BK.out 1).trans rfl
            have c2 := (blk_cell BK.out 2).trans rfl
            have c3 := (blk_cell BK.out 3).trans rfl
            have c4 := (blk_cell BK.out 4).trans rfl
            have c5 := (blk_cell BK.out 5).trans rfl
            have c6 := (blk_cell BK.out 6).trans rfl
            have c7 := (blk_cell BK.out 7).trans rfl
            have hcase : i = 0 ∨ i = 1 ∨ i = 2 := by omega
            rcases hcase with rfl | rfl | rfl
            · by_cases q1 : v0 < 0
              · have d1 : decide (v0 < 0) = true := decide_eq_true q1
                have e_ : chkB 1 false ts ls v0 v1 true true = false := by unfold chkB sbad; simp [q1]
                go_wp2
                go_ret
                exact ⟨by first | rfl | exact congrArg (fun b => Ending.returned (Value.bool b)) e_.symm, by repeat (first | exact HB.out | apply pw_below_drewN | apply below_drew1)⟩
              have d1 : decide (v0 < 0) = false := decide_eq_false q1
              by_cases q2 : v0 > 1073741824
              · have d2 : decide (v0 > 1073741824) = true := decide_eq_true q2
                have e_ : chkB 1 false ts ls v0 v1 true true = false := by unfold chkB sbad; simp [q2]
                go_wp2
                go_ret
                exact ⟨by first | rfl | exact congrArg (fun b => Ending.returned (Value.bool b)) e_.symm, by repeat (first | exact HB.out | apply pw_below_drewN | apply below_drew1)⟩
              have d2 : decide (v0 > 1073741824) = false := decide_eq_false q2
              by_cases q3 : v0 < ls
              · have d3 : decide (v0 < ls) = true := decide_eq_true q3
                have s_ : sbad v0 true ls false false = false := by unfold sbad; simp [d1, d2]
                go_wp2
                go_roundg (gk - 1)
                case measure => omega
                case rel => exact ⟨1, by omega, by omega, rfl, BK, HB, ⟨⟨fun _ => s_, fun h => by omega⟩⟩⟩
              have d3 : decide (v0 < ls) = false := decide_eq_false q3
              have s_ : sbad v0 true ls false false = false := by unfold sbad; simp [d1, d2, d3]
              go_wp2
              go_roundg (gk - 1)
              case measure => omega
              case rel => exact ⟨1, by omega, by omega, rfl, BK, HB, ⟨⟨fun _ => s_, fun h => by omega⟩⟩⟩
            · by_cases q1 : v1 < 0
              · have d1 : decide (v1 < 0) = true := decide_eq_true q1
                have e_ : chkB 1 false ts ls v0 v1 true true = false := by unfold chkB sbad; simp [q1]
                go_wp2
                go_ret
                exact ⟨by first | rfl | exact congrArg (fun b => Ending.returned (Value.bool b)) e_.symm, by repeat (first | exact HB.out | apply pw_below_drewN | apply below_drew1)⟩
              have d1 : decide (v1 < 0) = false := decide_eq_false q1
              by_cases q2 : v1 > 1073741824
              · have d2 : decide (v1 > 1073741824) = true := decide_eq_true q2
                have e_ : chkB 1 false ts ls v0 v1 true true = false := by unfold chkB sbad; simp [q2]
                go_wp2
                go_ret
                exact ⟨by first | rfl | exact congrArg (fun b => Ending.returned (Value.bool b)) e_.symm, by repeat (first | exact HB.out | apply pw_below_drewN | apply below_drew1)⟩
              have d2 : decide (v1 > 1073741824) = false := decide_eq_false q2
              by_cases q3 : v1 < ls
              · have d3 : decide (v1 < ls) = true := decide_eq_true q3
                have e_ : chkB 1 false ts ls v0 v1 true true = false := by unfold chkB sbad; simp [q3]
                go_wp2
                go_ret
                exact ⟨by first | rfl | exact congrArg (fun b => Ending.returned (Value.bool b)) e_.symm, by repeat (first | exact HB.out | apply pw_below_drewN | apply below_drew1)⟩
              have d3 : decide (v1 < ls) = false := decide_eq_false q3
              have s_ : sbad v1 true ls true false = false := by unfold sbad; simp [d1, d2, d3]
              go_wp2
              go_roundg (gk - 1)
              case measure => omega
              case rel => exact ⟨2, by omega, by omega, rfl, BK, HB, ⟨⟨fun _ => S.out.1 (by omega), fun _ => s_⟩⟩⟩
            · have s0 := S.out.1 (by omega)
              have s1 := S.out.2 (by omega)
              have e_ : chkB 1 false ts ls v0 v1 true true = true := by unfold chkB; simp [s0, s1, hpre]
              go_wp2
              go_ret
              exact ⟨by first | rfl | exact congrArg (fun b => Ending.returned (Value.bool b)) e_.symm, by repeat (first | exact HB.out | apply pw_below_drewN | apply below_drew1)⟩
  · clear p7
    rcases ha with rfl | rfl
    · cases g0
      · cases g1
        · skip
          go_upto_region 3 with (fail)
          go_wp2
          go_loopg [43] 2 (fun kq v43 w' => ∃ i : Nat, i ≤ 2 ∧ kq + i = 2 ∧ v43 = .int .i64 i ∧ Aside0 (w'.heap[w.heap.size]? = some (.cells #[.int .i64 0, .bool true, .int .i64 ts, .int .i64 ls, .int .i64 v0, .int .i64 v1, .bool false, .bool false] 40 (0, 0))) ∧ Aside0 (Below w.heap.size w w') ∧ Aside0 ((0 < i → sbad v0 false ls true true = false) ∧ (1 < i → sbad v1 false ls false true = false)))
          case atStart => exact ⟨0, by omega, by omega, rfl, BK, HB, ⟨⟨fun h => by omega, fun h => by omega⟩⟩⟩
          case round =>
            clear BK HB c0 c1 c2 c3 c4 c5 c6 c7
            obtain ⟨i, hi, hki, rfl, BK, HB, S⟩ := hrel
            have c0 := (blk_cell BK.out 0).trans rfl
            have c1 := (blk_cell BK.out 1).trans rfl
            have c2 := (blk_cell BK.out 2).trans rfl
            have c3 := (blk_cell BK.out 3).trans rfl
            have c4 := (blk_cell BK.out 4).trans rfl
            have c5 := (blk_cell BK.out 5).trans rfl
            have c6 := (blk_cell BK.out 6).trans rfl
            have c7 := (blk_cell BK.out 7).trans rfl
            have hcase : i = 0 ∨ i = 1 ∨ i = 2 := by omega
            rcases hcase with rfl | rfl | rfl
            · by_cases q1 : v0 < 0
              · have d1 : decide (v0 < 0) = true := decide_eq_true q1
                have e_ : chkB 0 true ts ls v0 v1 false false = false := by unfold chkB sbad; simp [q1]
                go_wp2
                go_ret
                exact ⟨by first | rfl | exact congrArg (fun b => Ending.returned (Value.bool b)) e_.symm, by repeat (first | exact HB.out | apply pw_below_drewN | apply below_drew1)⟩
              have d1 : decide (v0 < 0) = false := decide_eq_false q1
              by_cases q2 : v0 > 1073741824
              · have d2 : decide (v0 > 1073741824) = true := decide_eq_true q2
                have e_ : chkB 0 true ts ls v0 v1 false false = false := by unfold chkB sbad; simp [q2]
                go_wp2
                go_ret
                exact ⟨by first | rfl | exact congrArg (fun b => Ending.returned (Value.bool b)) e_.symm, by repeat (first | exact HB.out | apply pw_below_drewN | apply below_drew1)⟩
              have d2 : decide (v0 > 1073741824) = false := decide_eq_false q2
              have s_ : sbad v0 false ls true true = false := by unfold sbad; simp [d1, d2]
              go_wp2
              go_roundg (gk - 1)
              case measure => omega
              case rel => exact ⟨1, by omega, by omega, rfl, BK, HB, ⟨⟨fun _ => s_, fun h => by omega⟩⟩⟩
            · by_cases q1 : v1 < 0
              · have d1 : decide (v1 < 0) = true := decide_eq_true q1
                have e_ : chkB 0 true ts ls v0 v1 false false = false := by unfold chkB sbad; simp [q1]
                go_wp2
                go_ret
                exact ⟨by first | rfl | exact congrArg (fun b => Ending.returned (Value.bool b)) e_.symm, by repeat (first | exact HB.out | apply pw_below_drewN | apply below_drew1)⟩
              have d1 : decide (v1 < 0) = false := decide_eq_false q1
              by_cases q2 : v1 > 1073741824
              · have d2 : decide (v1 > 1073741824) = true := decide_eq_true q2
                have e_ : chkB 0 true ts ls v0 v1 false false = false := by unfold chkB sbad; simp [q2]
                go_wp2
                go_ret
                exact ⟨by first | rfl | exact congrArg (fun b => Ending.returned (Value.bool b)) e_.symm, by repeat (first | exact HB.out | apply pw_below_drewN | apply below_drew1)⟩
              have d2 : decide (v1 > 1073741824) = false := decide_eq_false q2
              have s_ : sbad v1 false ls false true = false := by unfold sbad; simp [d1, d2]
              go_wp2
              go_roundg (gk - 1)
              case measure => omega
              case rel => exact ⟨2, by omega, by omega, rfl, BK, HB, ⟨⟨fun _ => S.out.1 (by omega), fun _ => s_⟩⟩⟩
            · have s0 := S.out.1 (by omega)
              have s1 := S.out.2 (by omega)
              have e_ : chkB 0 true ts ls v0 v1 false false = false := by unfold chkB; simp [s0, s1, hpre]
              go_wp2
              go_ret
              exact ⟨by first | rfl | exact congrArg (fun b => Ending.returned (Value.bool b)) e_.symm, by repeat (first | exact HB.out | apply pw_below_drewN | apply below_drew1)⟩
        · skip
          go_upto_region 3 with (fail)
          go_wp2
          go_loopg [43] 2 (fun kq v43 w' => ∃ i : Nat, i ≤ 2 ∧ kq + i = 2 ∧ v43 = .int .i64 i ∧ Aside0 (w'.heap[w.heap.size]? = some (.cells #[.int .i64 0, .bool true, .int .i64 ts, .int .i64 ls, .int .i64 v0, .int .i64 v1, .bool false, .bool true] 40 (0, 0))) ∧ Aside0 (Below w.heap.size w w') ∧ Aside0 ((0 < i → sbad v0 false ls true true = false) ∧ (1 < i → sbad v1 true ls false true = false)))
          case atStart => exact ⟨0, by omega, by omega, rfl, BK, HB, ⟨⟨fun h => by omega, fun h => by omega⟩⟩⟩
          case round =>
            clear BK HB c0 c1 c2 c3 c4 c5 c6 c7
            obtain ⟨i, hi, hki, rfl, BK, HB, S⟩ := hrel
            have c0 := (blk_cell BK.out 0).trans rfl
            have c1 := (blk_cell BK.out 1).trans rfl
            have c2 := (blk_cell BK.out 2).trans rfl
            have c3 := (blk_cell BK.out 3).trans rfl
            have c4 := (blk_cell BK.out 4).trans rfl
            have c5 := (blk_cell BK.out 5).trans rfl
            have c6 := (blk_cell BK.out 6).trans rfl
            have c7 := (blk_cell BK.out 7).trans rfl
            have hcase : i = 0 ∨ i = 1 ∨ i = 2 := by omega
            rcases hcase with rfl | rfl | rfl
            · by_cases q1 : v0 < 0
              · have d1 : decide (v0 < 0) = true := decide_eq_true q1
                have e_ : chkB 0 true ts ls v0 v1 false true = false := by unfold chkB sbad; simp [q1]
                go_wp2
                go_ret
                exact ⟨by first | rfl | exact congrArg (fun b => Ending.returned (Value.bool b)) e_.symm, by repeat (first | exact HB.out | apply pw_below_drewN | apply below_drew1)⟩
              have d1 : decide (v0 < 0) = false := decide_eq_false q1
              by_cases q2 : v0 > 1073741824
              · have d2 : decide (v0 > 1073741824) = true := decide_eq_true q2
                have e_ : chkB 0 true ts ls v0 v1 false true = false := by unfold chkB sbad; simp [q2]
                go_wp2
                go_ret
                exact ⟨by first | rfl | exact congrArg (fun b => Ending.returned (Value.bool b)) e_.symm, by repeat (first | exact HB.out | apply pw_below_drewN | apply below_drew1)⟩
              have d2 : decide (v0 > 1073741824) = false := decide_eq_false q2
              have s_ : sbad v0 false ls true true = false := by unfold sbad; simp [d1, d2]
              go_wp2
              go_roundg (gk - 1)
              case measure => omega
              case rel => exact ⟨1, by omega, by omega, rfl, BK, HB, ⟨⟨fun _ => s_, fun h => by omega⟩⟩⟩
            · by_cases q1 : v1 < 0
              · have d1 : decide (v1 < 0) = true := decide_eq_true q1
                have e_ : chkB 0 true ts ls v0 v1 false true = false := by unfold chkB sbad; simp [q1]
                go_wp2
                go_ret
                exact ⟨by first | rfl | exact congrArg (fun b => Ending.returned (Value.bool b)) e_.symm, by repeat (first | exact HB.out | apply pw_below_drewN | apply below_drew1)⟩
              have d1 : decide (v1 < 0) = false := decide_eq_false q1
              by_cases q2 : v1 > 1073741824
              · have d2 : decide (v1 > 1073741824) = true := decide_eq_true q2
                have e_ : chkB 0 true ts ls v0 v1 false true = false := by unfold chkB sbad; simp [q2]
                go_wp2
                go_ret
                exact ⟨by first | rfl | exact congrArg (fun b => Ending.returned (Value.bool b)) e_.symm, by repeat (first | exact HB.out | apply pw_below_drewN | apply below_drew1)⟩
              have d2 : decide (v1 > 1073741824) = false := decide_eq_false q2
              by_cases q3 : v1 < ls
              · have d3 : decide (v1 < ls) = true := decide_eq_true q3
                have e_ : chkB 0 true ts ls v0 v1 false true = false := by unfold chkB sbad; simp [q3]
                go_wp2
                go_ret
                exact ⟨by first | rfl | exact congrArg (fun b => Ending.returned (Value.bool b)) e_.symm, by repeat (first | exact HB.out | apply pw_below_drewN | apply below_drew1)⟩
              have d3 : decide (v1 < ls) = false := decide_eq_false q3
              have s_ : sbad v1 true ls false true = false := by unfold sbad; simp [d1, d2, d3]
              go_wp2
              go_roundg (gk - 1)
              case measure => omega
              case rel => exact ⟨2, by omega, by omega, rfl, BK, HB, ⟨⟨fun _ => S.out.1 (by omega), fun _ => s_⟩⟩⟩
            · have s0 := S.out.1 (by omega)
              have s1 := S.out.2 (by omega)
              have e_ : chkB 0 true ts ls v0 v1 false true = false := by unfold chkB; simp [s0, s1, hpre]
              go_wp2
              go_ret
              exact ⟨by first | rfl | exact congrArg (fun b => Ending.returned (Value.bool b)) e_.symm, by repeat (first | exact HB.out | apply pw_below_drewN | apply below_drew1)⟩
      · cases g1
        · skip
          go_upto_region 3 with (fail)
          go_wp2
          go_loopg [43] 2 (fun kq v43 w' => ∃ i : Nat, i ≤ 2 ∧ kq + i = 2 ∧ v43 = .int .i64 i ∧ Aside0 (w'.heap[w.heap.size]? = some (.cells #[.int .i64 0, .bool true, .int .i64 ts, .int .i64 ls, .int .i64 v0, .int .i64 v1, .bool true, .bool false] 40 (0, 0))) ∧ Aside0 (Below w.heap.size w w') ∧ Aside0 ((0 < i → sbad v0 true ls true true = false) ∧ (1 < i → sbad v1 false ls false true = false)))
          case atStart => exact ⟨0, by omega, by omega, rfl, BK, HB, ⟨⟨fun h => by omega, fun h => by omega⟩⟩⟩
          case round =>
            clear BK HB c0 c1 c2 c3 c4 c5 c6 c7
            obtain ⟨i, hi, hki, rfl, BK, HB, S⟩ := hrel
            have c0 := (blk_cell BK.out 0).trans rfl
            have c1 := (blk_cell BK.out 1).trans rfl
            have c2 := (blk_cell BK.out 2).trans rfl
            have c3 := (blk_cell BK.out 3).trans rfl
            have c4 := (blk_cell BK.out 4).trans rfl
            have c5 := (blk_cell BK.out 5).trans rfl
            have c6 := (blk_cell BK.out 6).trans rfl
            have c7 := (blk_cell BK.out 7).trans rfl
            have hcase : i = 0 ∨ i = 1 ∨ i = 2 := by omega
            rcases hcase with rfl | rfl | rfl
            · by_cases q1 : v0 < 0
              · have d1 : decide (v0 < 0) = true := decide_eq_true q1
                have e_ : chkB 0 true ts ls v0 v1 true false = false := by unfold chkB sbad; simp [q1]
                go_wp2
                go_ret
                exact ⟨by first | rfl | exact congrArg (fun b => Ending.returned (Value.bool b)) e_.symm, by repeat (first | exact HB.out | apply pw_below_drewN | apply below_drew1)⟩
              have d1 : decide (v0 < 0) = false := decide_eq_false q1
              by_cases q2 : v0 > 1073741824
              · have d2 : decide (v0 > 1073741824) = true := decide_eq_true q2
                have e_ : chkB 0 true ts ls v0 v1 true false = false := by unfold chkB sbad; simp [q2]
                go_wp2
                go_ret
                exact ⟨by first | rfl | exact congrArg (fun b => Ending.returned (Value.bool b)) e_.symm, by repeat (first | exact HB.out | apply pw_below_drewN | apply below_drew1)⟩
              have d2 : decide (v0 > 1073741824) = false := decide_eq_false q2
              by_cases q3 : v0 < ls
              · have d3 : decide (v0 < ls) = true := decide_eq_true q3
                have e_ : chkB 0 true ts ls v0 v1 true false = false := by unfold chkB sbad; simp [q3]
                go_wp2
                go_ret
                exact ⟨by first | rfl | exact congrArg (fun b => Ending.returned (Value.bool b)) e_.symm, by repeat (first | exact HB.out | apply pw_below_drewN | apply below_drew1)⟩
              have d3 : decide (v0 < ls) = false := decide_eq_false q3
              have s_ : sbad v0 true ls true true = false := by unfold sbad; simp [d1, d2, d3]
              go_wp2
              go_roundg (gk - 1)
              case measure => omega
              case rel => exact ⟨1, by omega, by omega, rfl, BK, HB, ⟨⟨fun _ => s_, fun h => by omega⟩⟩⟩
            · by_cases q1 : v1 < 0
              · have d1 : decide (v1 < 0) = true := decide_eq_true q1
                have e_ : chkB 0 true ts ls v0 v1 true false = false := by unfold chkB sbad; simp [q1]
                go_wp2
                go_ret
                exact ⟨by first | rfl | exact congrArg (fun b => Ending.returned (Value.bool b)) e_.symm, by repeat (first | exact HB.out | apply pw_below_drewN | apply below_drew1)⟩
              have d1 : decide (v1 < 0) = false := decide_eq_false q1
              by_cases q2 : v1 > 1073741824
              · have d2 : decide (v1 > 1073741824) = true := decide_eq_true q2
                have e_ : chkB 0 true ts ls v0 v1 true false = false := by unfold chkB sbad; simp [q2]
                go_wp2
                go_ret
                exact ⟨by first | rfl | exact congrArg (fun b => Ending.returned (Value.bool b)) e_.symm, by repeat (first | exact HB.out | apply pw_below_drewN | apply below_drew1)⟩
              have d2 : decide (v1 > 1073741824) = false := decide_eq_false q2
              have s_ : sbad v1 false ls false true = false := by unfold sbad; simp [d1, d2]
              go_wp2
              go_roundg (gk - 1)
              case measure => omega
              case rel => exact ⟨2, by omega, by omega, rfl, BK, HB, ⟨⟨fun _ => S.out.1 (by omega), fun _ => s_⟩⟩⟩
            · have s0 := S.out.1 (by omega)
              have s1 := S.out.2 (by omega)
              have e_ : chkB 0 true ts ls v0 v1 true false = false := by unfold chkB; simp [s0, s1, hpre]
              go_wp2
              go_ret
              exact ⟨by first | rfl | exact congrArg (fun b => Ending.returned (Value.bool b)) e_.symm, by repeat (first | exact HB.out | apply pw_below_drewN | apply below_drew1)⟩
        · skip
          go_upto_region 3 with (fail)
          go_wp2
          go_loopg [43] 2 (fun kq v43 w' => ∃ i : Nat, i ≤ 2 ∧ kq + i = 2 ∧ v43 = .int .i64 i ∧ Aside0 (w'.heap[w.heap.size]? = some (.cells #[.int .i64 0, .bool true, .int .i64 ts, .int .i64 ls, .int .i64 v0, .int .i64 v1, .bool true, .bool true] 40 (0, 0))) ∧ Aside0 (Below w.heap.size w w') ∧ Aside0 ((0 < i → sbad v0 true ls true true = false) ∧ (1 < i → sbad v1 true ls false true = false)))
          case atStart => exact ⟨0, by omega, by omega, rfl, BK, HB, ⟨⟨fun h => by omega, fun h => by omega⟩⟩⟩
          case round =>
            clear BK HB c0 c1 c2 c3 c4 c5 c6 c7
            obtain ⟨i, hi, hki, rfl, BK, HB, S⟩ := hrel
            have c0 := (blk_cell BK.out 0).trans rfl
            have c1 := (blk_cell BK.out 1).trans rfl
            have c2 := (blk_cell BK.out 2).trans rfl
            have c3 := (blk_cell BK.out 3).trans rfl
            have c4 := (blk_cell BK.out 4).trans rfl
            have c5 := (blk_cell BK.out 5).trans rfl
            have c6 := (blk_cell BK.out 6).trans rfl
            have c7 := (blk_cell BK.out 7).trans rfl
            have hcase : i = 0 ∨ i = 1 ∨ i = 2 := by omega
            rcases hcase with rfl | rfl | rfl
            · by_cases q1 : v0 < 0
              · have d1 : decide (v0 < 0) = true := decide_eq_true q1
                have e_ : chkB 0 true ts ls v0 v1 true true = false := by unfold chkB sbad; simp [q1]
                go_wp2
                go_ret
                exact ⟨by first | rfl | exact congrArg (fun b => Ending.returned (Value.bool b)) e_.symm, by repeat (first | exact HB.out | apply pw_below_drewN | apply below_drew1)⟩
              have d1 : decide (v0 < 0) = false := decide_eq_false q1
              by_cases q2 : v0 > 1073741824
              · have d2 : decide (v0 > 1073741824) = true := decide_eq_true q2
                have e_ : chkB 0 true ts ls v0 v1 true true = false := by unfold chkB sbad; simp [q2]
                go_wp2
                go_ret
                exact ⟨by first | rfl | exact congrArg (fun b => Ending.returned (Value.bool b)) e_.symm, by repeat (first | exact HB.out | apply pw_below_drewN | apply below_drew1)⟩
              have d2 : decide (v0 > 1073741824) = false := decide_eq_false q2
              by_cases q3 : v0 < ls
              · have d3 : decide (v0 < ls) = true := decide_eq_true q3
                have e_ : chkB 0 true ts ls v0 v1 true true = false := by unfold chkB sbad; simp [q3]
                go_wp2
                go_ret
                exact ⟨by first | rfl | exact congrArg (fun b => Ending.returned (Value.bool b)) e_.symm, by repeat (first | exact HB.out | apply pw_below_drewN | apply below_drew1)⟩
              have d3 : decide (v0 < ls) = false := decide_eq_false q3
              have s_ : sbad v0 true ls true true = false := by unfold sbad; simp [d1, d2, d3]
              go_wp2
              go_roundg (gk - 1)
              case measure => omega
              case rel => exact ⟨1, by omega, by omega, rfl, BK, HB, ⟨⟨fun _ => s_, fun h => by omega⟩⟩⟩
            · by_cases q1 : v1 < 0
              · have d1 : decide (v1 < 0) = true := decide_eq_true q1
                have e_ : chkB 0 true ts ls v0 v1 true true = false := by unfold chkB sbad; simp [q1]
                go_wp2
                go_ret
                exact ⟨by first | rfl | exact congrArg (fun b => Ending.returned (Value.bool b)) e_.symm, by repeat (first | exact HB.out | apply pw_below_drewN | apply below_drew1)⟩
              have d1 : decide (v1 < 0) = false := decide_eq_false q1
              by_cases q2 : v1 > 1073741824
              · have d2 : decide (v1 > 1073741824) = true := decide_eq_true q2
                have e_ : chkB 0 true ts ls v0 v1 true true = false := by unfold chkB sbad; simp [q2]
                go_wp2
                go_ret
                exact ⟨by first | rfl | exact congrArg (fun b => Ending.returned (Value.bool b)) e_.symm, by repeat (first | exact HB.out | apply pw_below_drewN | apply below_drew1)⟩
              have d2 : decide (v1 > 1073741824) = false := decide_eq_false q2
              by_cases q3 : v1 < ls
              · have d3 : decide (v1 < ls) = true := decide_eq_true q3
                have e_ : chkB 0 true ts ls v0 v1 true true = false := by unfold chkB sbad; simp [q3]
                go_wp2
                go_ret
                exact ⟨by first | rfl | exact congrArg (fun b => Ending.returned (Value.bool b)) e_.symm, by repeat (first | exact HB.out | apply pw_below_drewN | apply below_drew1)⟩
              have d3 : decide (v1 < ls) = false := decide_eq_false q3
              have s_ : sbad v1 true ls false true = false := by unfold sbad; simp [d1, d2, d3]
              go_wp2
              go_roundg (gk - 1)
              case measure => omega
              case rel => exact ⟨2, by omega, by omega, rfl, BK, HB, ⟨⟨fun _ => S.out.1 (by omega), fun _ => s_⟩⟩⟩
            · have s0 := S.out.1 (by omega)
              have s1 := S.out.2 (by omega)
              have e_ : chkB 0 true ts ls v0 v1 true true = true := by unfold chkB; simp [s0, s1, hpre]
              go_wp2
              go_ret
              exact ⟨by first | rfl | exact congrArg (fun b => Ending.returned (Value.bool b)) e_.symm, by repeat (first | exact HB.out | apply pw_below_drewN | apply below_drew1)⟩
    · cases g0
      · cases g1
        · skip
          go_upto_region 3 with (fail)
          go_wp2
          go_loopg [43] 2 (fun kq v43 w' => ∃ i : Nat, i ≤ 2 ∧ kq + i = 2 ∧ v43 = .int .i64 i ∧ Aside0 (w'.heap[w.heap.size]? = some (.cells #[.int .i64 1, .bool true, .int .i64 ts, .int .i64 ls, .int .i64 v0, .int .i64 v1, .bool false, .bool false] 40 (0, 0))) ∧ Aside0 (Below w.heap.size w w') ∧ Aside0 ((0 < i → sbad v0 false ls false true = false) ∧ (1 < i → sbad v1 false ls true true = false)))
          case atStart => exact ⟨0, by omega, by omega, rfl, BK, HB, ⟨⟨fun h => by omega, fun h => by omega⟩⟩⟩
          case round =>
            clear BK HB c0 c1 c2 c3 c4 c5 c6 c7
            obtain ⟨i, hi, hki, rfl, BK, HB, S⟩ := hrel
            have c0 := (blk_cell BK.out 0).trans rfl
            have c1 := (blk_cell BK.out 1).trans rfl
            have c2 := (blk_cell BK.out 2).trans rfl
            have c3 := (blk_cell BK.out 3).trans rfl
            have c4 := (blk_cell BK.out 4).trans rfl
            have c5 := (blk_cell BK.out 5).trans rfl
            have c6 := (blk_cell BK.out 6).trans rfl
            have c7 := (blk_cell BK.out 7).trans rfl
            have hcase : i = 0 ∨ i = 1 ∨ i = 2 := by omega
            rcases hcase with rfl | rfl | rfl
            · by_cases q1 : v0 < 0
              · have d1 : decide (v0 < 0) = true := decide_eq_true q1
                have e_ : chkB 1 true ts ls v0 v1 false false = false := by unfold chkB sbad; simp [q1]
                go_wp2
                go_ret
                exact ⟨by first | rfl | exact congrArg (fun b => Ending.returned (Value.bool b)) e_.symm, by repeat (first | exact HB.out | apply pw_below_drewN | apply below_drew1)⟩
              have d1 : decide (v0 < 0) = false := decide_eq_false q1
              by_cases q2 : v0 > 1073741824
              · have d2 : decide (v0 > 1073741824) = true := decide_eq_true q2
                have e_ : chkB 1 true ts ls v0 v1 false false = false := by unfold chkB sbad; simp [q2]
                go_wp2
                go_ret
                exact ⟨by first | rfl | exact congrArg (fun b => Ending.returned (Value.bool b)) e_.symm, by repeat (first | exact HB.out | apply pw_below_drewN | apply below_drew1)⟩
              have d2 : decide (v0 > 1073741824) = false := decide_eq_false q2
              have s_ : sbad v0 false ls false true = false := by unfold sbad; simp [d1, d2]
              go_wp2
              go_roundg (gk - 1)
              case measure => omega
              case rel => exact ⟨1, by omega, by omega, rfl, BK, HB, ⟨⟨fun _ => s_, fun h => by omega⟩⟩⟩
            · by_cases q1 : v1 < 0
              · have d1 : decide (v1 < 0) = true := decide_eq_true q1
                have e_ : chkB 1 true ts ls v0 v1 false false = false := by unfold chkB sbad; simp [q1]
                go_wp2
                go_ret
                exact ⟨by first | rfl | exact congrArg (fun b => Ending.returned (Value.bool b)) e_.symm, by repeat (first | exact HB.out | apply pw_below_drewN | apply below_drew1)⟩
              have d1 : decide (v1 < 0) = false := decide_eq_false q1
              by_cases q2 : v1 > 1073741824
              · have d2 : decide (v1 > 1073741824) = true := decide_eq_true q2
                have e_ : chkB 1 true ts ls v0 v1 false false = false := by unfold chkB sbad; simp [q2]
                go_wp2
                go_ret
                exact ⟨by first | rfl | exact congrArg (fun b => Ending.returned (Value.bool b)) e_.symm, by repeat (first | exact HB.out | apply pw_below_drewN | apply below_drew1)⟩
              have d2 : decide (v1 > 1073741824) = false := decide_eq_false q2
              have s_ : sbad v1 false ls true true = false := by unfold sbad; simp [d1, d2]
              go_wp2
              go_roundg (gk - 1)
              case measure => omega
              case rel => exact ⟨2, by omega, by omega, rfl, BK, HB, ⟨⟨fun _ => S.out.1 (by omega), fun _ => s_⟩⟩⟩
            · have s0 := S.out.1 (by omega)
              have s1 := S.out.2 (by omega)
              have e_ : chkB 1 true ts ls v0 v1 false false = false := by unfold chkB; simp [s0, s1, hpre]
              go_wp2
              go_ret
              exact ⟨by first | rfl | exact congrArg (fun b => Ending.returned (Value.bool b)) e_.symm, by repeat (first | exact HB.out | apply pw_below_drewN | apply below_drew1)⟩
        · skip
          go_upto_region 3 with (fail)
          go_wp2
          go_loopg [43] 2 (fun kq v43 w' => ∃ i : Nat, i ≤ 2 ∧ kq + i = 2 ∧ v43 = .int .i64 i ∧ Aside0 (w'.heap[w.heap.size]? = some (.cells #[.int .i64 1, .bool true, .int .i64 ts, .int .i64 ls, .int .i64 v0, .int .i64 v1, .bool false, .bool true] 40 (0, 0))) ∧ Aside0 (Below w.heap.size w w') ∧ Aside0 ((0 < i → sbad v0 false ls false true = false) ∧ (1 < i → sbad v1 true ls true true = false)))
          case atStart => exact ⟨0, by omega, by omega, rfl, BK, HB, ⟨⟨fun h => by omega, fun h => by omega⟩⟩⟩
          case round =>
            clear BK HB c0 c1 c2 c3 c4 c5 c6 c7
            obtain ⟨i, hi, hki, rfl, BK, HB, S⟩ := hrel
            have c0 := (blk_cell BK.out 0).trans rfl
            have c1 := (blk_cell BK.out 1).trans rfl
            have c2 := (blk_cell BK.out 2).trans rfl
            have c3 := (blk_cell BK.out 3).trans rfl
            have c4 := (blk_cell BK.out 4).trans rfl
            have c5 := (blk_cell BK.out 5).trans rfl
            have c6 := (blk_cell BK.out 6).trans rfl
            have c7 := (blk_cell BK.out 7).trans rfl
            have hcase : i = 0 ∨ i = 1 ∨ i = 2 := by omega
            rcases hcase with rfl | rfl | rfl
            · by_cases q1 : v0 < 0
              · have d1 : decide (v0 < 0) = true := decide_eq_true q1
                have e_ : chkB 1 true ts ls v0 v1 false true = false := by unfold chkB sbad; simp [q1]
                go_wp2
                go_ret
                exact ⟨by first | rfl | exact congrArg (fun b => Ending.returned (Value.bool b)) e_.symm, by repeat (first | exact HB.out | apply pw_below_drewN | apply below_drew1)⟩
              have d1 : decide (v0 < 0) = false := decide_eq_false q1
              by_cases q2 : v0 > 1073741824
              · have d2 : decide (v0 > 1073741824) = true := decide_eq_true q2
                have e_ : chkB 1 true ts ls v0 v1 false true = false := by unfold chkB sbad; simp [q2]
                go_wp2
                go_ret
                exact ⟨by first | rfl | exact congrArg (fun b => Ending.returned (Value.bool b)) e_.symm, by repeat (first | exact HB.out | apply pw_below_drewN | apply below_drew1)⟩
              have d2 : decide (v0 > 1073741824) = false := decide_eq_false q2
              have s_ : sbad v0 false ls false true = false := by unfold sbad; simp [d1, d2]
              go_wp2
              go_roundg (gk - 1)
              case measure => omega
              case rel => exact ⟨1, by omega, by omega, rfl, BK, HB, ⟨⟨fun _ => s_, fun h => by omega⟩⟩⟩
            · by_cases q1 : v1 < 0
              · have d1 : decide (v1 < 0) = true := decide_eq_true q1
                have e_ : chkB 1 true ts ls v0 v1 false true = false := by unfold chkB sbad; simp [q1]
                go_wp2
                go_ret
                exact ⟨by first | rfl | exact congrArg (fun b => Ending.returned (Value.bool b)) e_.symm, by repeat (first | exact HB.out | apply pw_below_drewN | apply below_drew1)⟩
              have d1 : decide (v1 < 0) = false := decide_eq_false q1
              by_cases q2 : v1 > 1073741824
              · have d2 : decide (v1 > 1073741824) = true := decide_eq_true q2
                have e_ : chkB 1 true ts ls v0 v1 false true = false := by unfold chkB sbad; simp [q2]
                go_wp2
                go_ret
                exact ⟨by first | rfl | exact congrArg (fun b => Ending.returned (Value.bool b)) e_.symm, by repeat (first | exact HB.out | apply pw_below_drewN | apply below_drew1)⟩
              have d2 : decide (v1 > 1073741824) = false := decide_eq_false q2
              by_cases q3 : v1 < ls
              · have d3 : decide (v1 < ls) = true := decide_eq_true q3
                have e_ : chkB 1 true ts ls v0 v1 false true = false := by unfold chkB sbad; simp [q3]
                go_wp2
                go_ret
                exact ⟨by first | rfl | exact congrArg (fun b => Ending.returned (Value.bool b)) e_.symm, by repeat (first | exact HB.out | apply pw_below_drewN | apply below_drew1)⟩
              have d3 : decide (v1 < ls) = false := decide_eq_false q3
              have s_ : sbad v1 true ls true true = false := by unfold sbad; simp [d1, d2, d3]
              go_wp2
              go_roundg (gk - 1)
              case measure => omega
              case rel => exact ⟨2, by omega, by omega, rfl, BK, HB, ⟨⟨fun _ => S.out.1 (by omega), fun _ => s_⟩⟩⟩
            · have s0 := S.out.1 (by omega)
              have s1 := S.out.2 (by omega)
              have e_ : chkB 1 true ts ls v0 v1 false true = false := by unfold chkB; simp [s0, s1, hpre]
              go_wp2
              go_ret
              exact ⟨by first | rfl | exact congrArg (fun b => Ending.returned (Value.bool b)) e_.symm, by repeat (first | exact HB.out | apply pw_below_drewN | apply below_drew1)⟩
      · cases g1
        · skip
          go_upto_region 3 with (fail)
          go_wp2
          go_loopg [43] 2 (fun kq v43 w' => ∃ i : Nat, i ≤ 2 ∧ kq + i = 2 ∧ v43 = .int .i64 i ∧ Aside0 (w'.heap[w.heap.size]? = some (.cells #[.int .i64 1, .bool true, .int .i64 ts, .int .i64 ls, .int .i64 v0, .int .i64 v1, .bool true, .bool false] 40 (0, 0))) ∧ Aside0 (Below w.heap.size w w') ∧ Aside0 ((0 < i → sbad v0 true ls false true = false) ∧ (1 < i → sbad v1 false ls true true = false)))
          case atStart => exact ⟨0, by omega, by omega, rfl, BK, HB, ⟨⟨fun h => by omega, fun h => by omega⟩⟩⟩
          case round =>
            clear BK HB c0 c1 c2 c3 c4 c5 c6 c7
            obtain ⟨i, hi, hki, rfl, BK, HB, S⟩ := hrel
            have c0 := (blk_cell BK.out 0).trans rfl
            have c1 := (blk_cell BK.out 1).trans rfl
            have c2 := (blk_cell BK.out 2).trans rfl
            have c3 := (blk_cell BK.out 3).trans rfl
            have c4 := (blk_cell BK.out 4).trans rfl
            have c5 := (blk_cell BK.out 5).trans rfl
            have c6 := (blk_cell BK.out 6).trans rfl
            have c7 := (blk_cell BK.out 7).trans rfl
            have hcase : i = 0 ∨ i = 1 ∨ i = 2 := by omega
            rcases hcase with rfl | rfl | rfl
            · by_cases q1 : v0 < 0
              · have d1 : decide (v0 < 0) = true := decide_eq_true q1
                have e_ : chkB 1 true ts ls v0 v1 true false = false := by unfold chkB sbad; simp [q1]
                go_wp2
                go_ret
                exact ⟨by first | rfl | exact congrArg (fun b => Ending.returned (Value.bool b)) e_.symm, by repeat (first | exact HB.out | apply pw_below_drewN | apply below_drew1)⟩
              have d1 : decide (v0 < 0) = false := decide_eq_false q1
              by_cases q2 : v0 > 1073741824
              · have d2 : decide (v0 > 1073741824) = true := decide_eq_true q2
                have e_ : chkB 1 true ts ls v0 v1 true false = false := by unfold chkB sbad; simp [q2]
                go_wp2
                go_ret
                exact ⟨by first | rfl | exact congrArg (fun b => Ending.returned (Value.bool b)) e_.symm, by repeat (first | exact HB.out | apply pw_below_drewN | apply below_drew1)⟩
              have d2 : decide (v0 > 1073741824) = false := decide_eq_false q2
              by_cases q3 : v0 < ls
              · have d3 : decide (v0 < ls) = true := decide_eq_true q3
                have e_ : chkB 1 true ts ls v0 v1 true false = false := by unfold chkB sbad; simp [q3]
                go_wp2
                go_ret
                exact ⟨by first | rfl | exact congrArg (fun b => Ending.returned (Value.bool b)) e_.symm, by repeat (first | exact HB.out | apply pw_below_drewN | apply below_drew1)⟩
              have d3 : decide (v0 < ls) = false := decide_eq_false q3
              have s_ : sbad v0 true ls false true = false := by unfold sbad; simp [d1, d2, d3]
              go_wp2
              go_roundg (gk - 1)
              case measure => omega
              case rel => exact ⟨1, by omega, by omega, rfl, BK, HB, ⟨⟨fun _ => s_, fun h => by omega⟩⟩⟩
            · by_cases q1 : v1 < 0
              · have d1 : decide (v1 < 0) = true := decide_eq_true q1
                have e_ : chkB 1 true ts ls v0 v1 true false = false := by unfold chkB sbad; simp [q1]
                go_wp2
                go_ret
                exact ⟨by first | rfl | exact congrArg (fun b => Ending.returned (Value.bool b)) e_.symm, by repeat (first | exact HB.out | apply pw_below_drewN | apply below_drew1)⟩
              have d1 : decide (v1 < 0) = false := decide_eq_false q1
              by_cases q2 : v1 > 1073741824
              · have d2 : decide (v1 > 1073741824) = true := decide_eq_true q2
                have e_ : chkB 1 true ts ls v0 v1 true false = false := by unfold chkB sbad; simp [q2]
                go_wp2
                go_ret
                exact ⟨by first | rfl | exact congrArg (fun b => Ending.returned (Value.bool b)) e_.symm, by repeat (first | exact HB.out | apply pw_below_drewN | apply below_drew1)⟩
              have d2 : decide (v1 > 1073741824) = false := decide_eq_false q2
              have s_ : sbad v1 false ls true true = false := by unfold sbad; simp [d1, d2]
              go_wp2
              go_roundg (gk - 1)
              case measure => omega
              case rel => exact ⟨2, by omega, by omega, rfl, BK, HB, ⟨⟨fun _ => S.out.1 (by omega), fun _ => s_⟩⟩⟩
            · have s0 := S.out.1 (by omega)
              have s1 := S.out.2 (by omega)
              have e_ : chkB 1 true ts ls v0 v1 true false = false := by unfold chkB; simp [s0, s1, hpre]
              go_wp2
              go_ret
              exact ⟨by first | rfl | exact congrArg (fun b => Ending.returned (Value.bool b)) e_.symm, by repeat (first | exact HB.out | apply pw_below_drewN | apply below_drew1)⟩
        · skip
          go_upto_region 3 with (fail)
          go_wp2
          go_loopg [43] 2 (fun kq v43 w' => ∃ i : Nat, i ≤ 2 ∧ kq + i = 2 ∧ v43 = .int .i64 i ∧ Aside0 (w'.heap[w.heap.size]? = some (.cells #[.int .i64 1, .bool true, .int .i64 ts, .int .i64 ls, .int .i64 v0, .int .i64 v1, .bool true, .bool true] 40 (0, 0))) ∧ Aside0 (Below w.heap.size w w') ∧ Aside0 ((0 < i → sbad v0 true ls false true = false) ∧ (1 < i → sbad v1 true ls true true = false)))
          case atStart => exact ⟨0, by omega, by omega, rfl, BK, HB, ⟨⟨fun h => by omega, fun h => by omega⟩⟩⟩
          case round =>
            clear BK HB c0 c1 c2 c3 c4 c5 c6 c7
            obtain ⟨i, hi, hki, rfl, BK, HB, S⟩ := hrel
            have c0 := (blk_cell BK.out 0).trans rfl
            have c1 := (blk_cell BK.out 1).trans rfl
            have c2 := (blk_cell BK.out 2).trans rfl
            have c3 := (blk_cell BK.out 3).trans rfl
            have c4 := (blk_cell BK.out 4).trans rfl
            have c5 := (blk_cell BK.out 5).trans rfl
            have c6 := (blk_cell BK.out 6).trans rfl
            have c7 := (blk_cell BK.out 7).trans rfl
            have hcase : i = 0 ∨ i = 1 ∨ i = 2 := by omega
            rcases hcase with rfl | rfl | rfl
            · by_cases q1 : v0 < 0
              · have d1 : decide (v0 < 0) = true := decide_eq_true q1
                have e_ : chkB 1 true ts ls v0 v1 true true = false := by unfold chkB sbad; simp [q1]
                go_wp2
                go_ret
                exact ⟨by first | rfl | exact congrArg (fun b => Ending.returned (Value.bool b)) e_.symm, by repeat (first | exact HB.out | apply pw_below_drewN | apply below_drew1)⟩
              have d1 : decide (v0 < 0) = false := decide_eq_false q1
              by_cases q2 : v0 > 1073741824
              · have d2 : decide (v0 > 1073741824) = true := decide_eq_true q2
                have e_ : chkB 1 true ts ls v0 v1 true true = false := by unfold chkB sbad; simp [q2]
                go_wp2
                go_ret
                exact ⟨by first | rfl | exact congrArg (fun b => Ending.returned (Value.bool b)) e_.symm, by repeat (first | exact HB.out | apply pw_below_drewN | apply below_drew1)⟩
              have d2 : decide (v0 > 1073741824) = false := decide_eq_false q2
              by_cases q3 : v0 < ls
              · have d3 : decide (v0 < ls) = true := decide_eq_true q3
                have e_ : chkB 1 true ts ls v0 v1 true true = false := by unfold chkB sbad; simp [q3]
                go_wp2
                go_ret
                exact ⟨by first | rfl | exact congrArg (fun b => Ending.returned (Value.bool b)) e_.symm, by repeat (first | exact HB.out | apply pw_below_drewN | apply below_drew1)⟩
              have d3 : decide (v0 < ls) = false := decide_eq_false q3
              have s_ : sbad v0 true ls false true = false := by unfold sbad; simp [d1, d2, d3]
              go_wp2
              go_roundg (gk - 1)
              case measure => omega
              case rel => exact ⟨1, by omega, by omega, rfl, BK, HB, ⟨⟨fun _ => s_, fun h => by omega⟩⟩⟩
            · by_cases q1 : v1 < 0
              · have d1 : decide (v1 < 0) = true := decide_eq_true q1
                have e_ : chkB 1 true ts ls v0 v1 true true = false := by unfold chkB sbad; simp [q1]
                go_wp2
                go_ret
                exact ⟨by first | rfl | exact congrArg (fun b => Ending.returned (Value.bool b)) e_.symm, by repeat (first | exact HB.out | apply pw_below_drewN | apply below_drew1)⟩
              have d1 : decide (v1 < 0) = false := decide_eq_false q1
              by_cases q2 : v1 > 1073741824
              · have d2 : decide (v1 > 1073741824) = true := decide_eq_true q2
                have e_ : chkB 1 true ts ls v0 v1 true true = false := by unfold chkB sbad; simp [q2]
                go_wp2
                go_ret
                exact ⟨by first | rfl | exact congrArg (fun b => Ending.returned (Value.bool b)) e_.symm, by repeat (first | exact HB.out | apply pw_below_drewN | apply below_drew1)⟩
              have d2 : decide (v1 > 1073741824) = false := decide_eq_false q2
              by_cases q3 : v1 < ls
              · have d3 : decide (v1 < ls) = true := decide_eq_true q3
                have e_ : chkB 1 true ts ls v0 v1 true true = false := by unfold chkB sbad; simp [q3]
                go_wp2
                go_ret
                exact ⟨by first | rfl | exact congrArg (fun b => Ending.returned (Value.bool b)) e_.symm, by repeat (first | exact HB.out | apply pw_below_drewN | apply below_drew1)⟩
              have d3 : decide (v1 < ls) = false := decide_eq_false q3
              have s_ : sbad v1 true ls true true = false := by unfold sbad; simp [d1, d2, d3]
              go_wp2
              go_roundg (gk - 1)
              case measure => omega
              case rel => exact ⟨2, by omega, by omega, rfl, BK, HB, ⟨⟨fun _ => S.out.1 (by omega), fun _ => s_⟩⟩⟩
            · have s0 := S.out.1 (by omega)
              have s1 := S.out.2 (by omega)
              have e_ : chkB 1 true ts ls v0 v1 true true = true := by unfold chkB; simp [s0, s1, hpre]
              go_wp2
              go_ret
              exact ⟨by first | rfl | exact congrArg (fun b => Ending.returned (Value.bool b)) e_.symm, by repeat (first | exact HB.out | apply pw_below_drewN | apply below_drew1)⟩
end Go.Proofs.Ytoiahmdibibceaa.Tb
