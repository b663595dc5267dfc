import Derived.Test.YtoiahmdibibceaaXTbA
set_option linter.unusedVariables false
set_option linter.unusedSimpArgs false
namespace Go.Proofs.Ytoiahmdibibceaa.Tb
open Go.RowKit Go.Proofs.YtoiahmdibibceaaW.PrintWords Go.Proofs.YtoiahmdibibceaaW.PrintLast Go.Proofs.YtoiahmdibibceaaW.PrintMore
def rs (v : Int) (g : Bool) (ls : Int) (q : Bool) : Bool := decide (v < 0) || decide (v > 1073741824) || (q && (!g || decide (v < ls)))
theorem chk_no0 {a : Int} {tr : Bool} {ts ls v0 v1 : Int} {g0 g1 : Bool} (ha : a = 0 ∨ a = 1) (h : rs v0 g0 ls (a == 0 || tr) = true) : chkB a tr ts ls v0 v1 g0 g1 = false := by
  unfold chkB sbad; unfold rs at h; rcases ha with rfl | rfl <;> cases tr <;> cases g0 <;> cases g1 <;> simp at h ⊢ <;> omega
theorem chk_no1 {a : Int} {tr : Bool} {ts ls v0 v1 : Int} {g0 g1 : Bool} (ha : a = 0 ∨ a = 1) (h : rs v1 g1 ls (a == 1 || tr) = true) : chkB a tr ts ls v0 v1 g0 g1 = false := by
  unfold chkB sbad; unfold rs at h; rcases ha with rfl | rfl <;> cases tr <;> cases g0 <;> cases g1 <;> simp at h ⊢ <;> omega
theorem chk_yes {a : Int} {tr : Bool} {ts ls v0 v1 : Int} {g0 g1 : Bool} (ha : a = 0 ∨ a = 1) (hp : pre a tr ts ls = false) (h0 : rs v0 g0 ls (a == 0 || tr) = false) (h1 : rs v1 g1 ls (a == 1 || tr) = false) : chkB a tr ts ls v0 v1 g0 g1 = true := by
  unfold chkB sbad; unfold rs at h0 h1; rw [hp]; rcases ha with rfl | rfl <;> cases tr <;> cases g0 <;> cases g1 <;> simp at h0 h1 ⊢ <;> omega
set_option maxRecDepth 100000 in
set_option maxHeartbeats 16000000 in
theorem rcheck_calls (a : Int) (tr : Bool) (ts ls v0 v1 : Int) (g0 g1 : Bool) (w : World) : Calls Try.prog 37 #[.agg (bcells a tr ts ls v0 v1 g0 g1)] w fun e w' => e = .returned (.bool (chkB a tr ts ls v0 v1 g0 g1)) ∧ Below w.heap.size w w' := by
  go_enter Try.func37, Try.ntmps37
  go_upto_region 1 with (fail)
  obtain ⟨W, hW⟩ : ∃ W : World, W = w.alloc (.cells (bcells a tr ts ls v0 v1 g0 g1) 40) := ⟨_, rfl⟩
  have bk : W.heap[w.heap.size]? = some (.cells (bcells a tr ts ls v0 v1 g0 g1) 40 (0, 0)) := by rw [hW]; exact blk_new _ _
  have hb : Below w.heap.size w W := by rw [hW]; exact below_alloc (Below.refl _ _) _
  rw [← hW]
  clear hW
  have HB := Aside0.mk hb
  have BK := Aside0.mk bk
  have c0 := (blk_cell bk 0).trans rfl
  have c1 := (blk_cell bk 1).trans rfl
  have c2 := (blk_cell bk 2).trans rfl
  have c3 := (blk_cell bk 3).trans rfl
  have c4 := (blk_cell bk 4).trans rfl
  have c5 := (blk_cell bk 5).trans rfl
  have c6 := (blk_cell bk 6).trans rfl
  have c7 := (blk_cell bk 7).trans rfl
  clear bk hb
  by_cases ha : a = 0 ∨ a = 1
  rotate_left
  · have n0 : (a != 0) = true := by simpa using (fun h => ha (Or.inl h))
    have n1 : (a != 1) = true := by simpa using (fun h => ha (Or.inr h))
    have e_ : chkB a tr ts ls v0 v1 g0 g1 = false := by
      by_cases q1 : a < 0
      · unfold chkB pre; simp [q1]
      · have q2 : a > 1 := by omega
        unfold chkB pre; simp [q2]
    clear ha
    go_wp2
    go_ret
    exact ⟨by first | rfl | exact congrArg (fun b => Ending.returned (Value.bool b)) e_.symm, by repeat (first | with_reducible exact HB.out | with_reducible apply pw_below_drewN | with_reducible apply below_drew1 | refine below_set ?_ (show w.heap.size ≤ w.heap.size + 1 from Nat.le_succ _) | refine below_set ?_ (show w.heap.size ≤ w.heap.size from Nat.le_refl _))⟩
  by_cases p3 : ts < 0
  · have dp3 : decide (ts < 0) = true := decide_eq_true p3
    rcases ha with rfl | rfl
    · skip
      have e_ : chkB 0 tr ts ls v0 v1 g0 g1 = false := by unfold chkB pre; simp [dp3]
      go_wp2
      go_ret
      exact ⟨by first | rfl | exact congrArg (fun b => Ending.returned (Value.bool b)) e_.symm, by repeat (first | with_reducible exact HB.out | with_reducible apply pw_below_drewN | with_reducible apply below_drew1 | refine below_set ?_ (show w.heap.size ≤ w.heap.size + 1 from Nat.le_succ _) | refine below_set ?_ (show w.heap.size ≤ w.heap.size from Nat.le_refl _))⟩
    · skip
      have e_ : chkB 1 tr ts ls v0 v1 g0 g1 = false := by unfold chkB pre; simp [dp3]
      go_wp2
      go_ret
      exact ⟨by first | rfl | exact congrArg (fun b => Ending.returned (Value.bool b)) e_.symm, by repeat (first | with_reducible exact HB.out | with_reducible apply pw_below_drewN | with_reducible apply below_drew1 | refine below_set ?_ (show w.heap.size ≤ w.heap.size + 1 from Nat.le_succ _) | refine below_set ?_ (show w.heap.size ≤ w.heap.size from Nat.le_refl _))⟩
  have dp3 : decide (ts < 0) = false := decide_eq_false p3
  by_cases p4 : ts > 7
  · have dp4 : decide (ts > 7) = true := decide_eq_true p4
    rcases ha with rfl | rfl
    · skip
      have e_ : chkB 0 tr ts ls v0 v1 g0 g1 = false := by unfold chkB pre; simp [dp4]
      go_wp2
      go_ret
      exact ⟨by first | rfl | exact congrArg (fun b => Ending.returned (Value.bool b)) e_.symm, by repeat (first | with_reducible exact HB.out | with_reducible apply pw_below_drewN | with_reducible apply below_drew1 | refine below_set ?_ (show w.heap.size ≤ w.heap.size + 1 from Nat.le_succ _) | refine below_set ?_ (show w.heap.size ≤ w.heap.size from Nat.le_refl _))⟩
    · skip
      have e_ : chkB 1 tr ts ls v0 v1 g0 g1 = false := by unfold chkB pre; simp [dp4]
      go_wp2
      go_ret
      exact ⟨by first | rfl | exact congrArg (fun b => Ending.returned (Value.bool b)) e_.symm, by repeat (first | with_reducible exact HB.out | with_reducible apply pw_below_drewN | with_reducible apply below_drew1 | refine below_set ?_ (show w.heap.size ≤ w.heap.size + 1 from Nat.le_succ _) | refine below_set ?_ (show w.heap.size ≤ w.heap.size from Nat.le_refl _))⟩
  have dp4 : decide (ts > 7) = false := decide_eq_false p4
  by_cases p7 : tr = false ∧ ts ≠ 0
  · obtain ⟨rfl, p7b⟩ := p7
    have dp7 : decide (ts > 0) = true := decide_eq_true (by omega)
    have dz : (ts != 0) = true := by simpa using p7b
    rcases ha with rfl | rfl
    · skip
      have e_ : chkB 0 false ts ls v0 v1 g0 g1 = false := by unfold chkB pre; simp [dp7]
      go_wp2
      go_ret
      exact ⟨by first | rfl | exact congrArg (fun b => Ending.returned (Value.bool b)) e_.symm, by repeat (first | with_reducible exact HB.out | with_reducible apply pw_below_drewN | with_reducible apply below_drew1 | refine below_set ?_ (show w.heap.size ≤ w.heap.size + 1 from Nat.le_succ _) | refine below_set ?_ (show w.heap.size ≤ w.heap.size from Nat.le_refl _))⟩
    · skip
      have e_ : chkB 1 false ts ls v0 v1 g0 g1 = false := by unfold chkB pre; simp [dp7]
      go_wp2
      go_ret
      exact ⟨by first | rfl | exact congrArg (fun b => Ending.returned (Value.bool b)) e_.symm, by repeat (first | with_reducible exact HB.out | with_reducible apply pw_below_drewN | with_reducible apply below_drew1 | refine below_set ?_ (show w.heap.size ≤ w.heap.size + 1 from Nat.le_succ _) | refine below_set ?_ (show w.heap.size ≤ w.heap.size from Nat.le_refl _))⟩
  have hz : tr = false → ts = 0 := fun h => by by_cases q : ts = 0 <;> simp_all
  clear p7
  by_cases p5 : ls < 1
  · have dp5 : decide (ls < 1) = true := decide_eq_true p5
    rcases ha with rfl | rfl <;> cases tr
    · skip
      obtain rfl := hz rfl
      have e_ : chkB 0 false 0 ls v0 v1 g0 g1 = false := by unfold chkB pre; simp [dp5]
      go_wp2
      go_ret
      exact ⟨by first | rfl | exact congrArg (fun b => Ending.returned (Value.bool b)) e_.symm, by repeat (first | with_reducible exact HB.out | with_reducible apply pw_below_drewN | with_reducible apply below_drew1 | refine below_set ?_ (show w.heap.size ≤ w.heap.size + 1 from Nat.le_succ _) | refine below_set ?_ (show w.heap.size ≤ w.heap.size from Nat.le_refl _))⟩
    · skip
      clear hz
      have e_ : chkB 0 true ts ls v0 v1 g0 g1 = false := by unfold chkB pre; simp [dp5]
      go_wp2
      go_ret
      exact ⟨by first | rfl | exact congrArg (fun b => Ending.returned (Value.bool b)) e_.symm, by repeat (first | with_reducible exact HB.out | with_reducible apply pw_below_drewN | with_reducible apply below_drew1 | refine below_set ?_ (show w.heap.size ≤ w.heap.size + 1 from Nat.le_succ _) | refine below_set ?_ (show w.heap.size ≤ w.heap.size from Nat.le_refl _))⟩
    · skip
      obtain rfl := hz rfl
      have e_ : chkB 1 false 0 ls v0 v1 g0 g1 = false := by unfold chkB pre; simp [dp5]
      go_wp2
      go_ret
      exact ⟨by first | rfl | exact congrArg (fun b => Ending.returned (Value.bool b)) e_.symm, by repeat (first | with_reducible exact HB.out | with_reducible apply pw_below_drewN | with_reducible apply below_drew1 | refine below_set ?_ (show w.heap.size ≤ w.heap.size + 1 from Nat.le_succ _) | refine below_set ?_ (show w.heap.size ≤ w.heap.size from Nat.le_refl _))⟩
    · skip
      clear hz
      have e_ : chkB 1 true ts ls v0 v1 g0 g1 = false := by unfold chkB pre; simp [dp5]
      go_wp2
      go_ret
      exact ⟨by first | rfl | exact congrArg (fun b => Ending.returned (Value.bool b)) e_.symm, by repeat (first | with_reducible exact HB.out | with_reducible apply pw_below_drewN | with_reducible apply below_drew1 | refine below_set ?_ (show w.heap.size ≤ w.heap.size + 1 from Nat.le_succ _) | refine below_set ?_ (show w.heap.size ≤ w.heap.size from Nat.le_refl _))⟩
  have dp5 : decide (ls < 1) = false := decide_eq_false p5
  by_cases p6 : ls > 1073741824
  · have dp6 : decide (ls > 1073741824) = true := decide_eq_true p6
    rcases ha with rfl | rfl <;> cases tr
    · skip
      obtain rfl := hz rfl
      have e_ : chkB 0 false 0 ls v0 v1 g0 g1 = false := by unfold chkB pre; simp [dp6]
      go_wp2
      go_ret
      exact ⟨by first | rfl | exact congrArg (fun b => Ending.returned (Value.bool b)) e_.symm, by repeat (first | with_reducible exact HB.out | with_reducible apply pw_below_drewN | with_reducible apply below_drew1 | refine below_set ?_ (show w.heap.size ≤ w.heap.size + 1 from Nat.le_succ _) | refine below_set ?_ (show w.heap.size ≤ w.heap.size from Nat.le_refl _))⟩
    · skip
      clear hz
      have e_ : chkB 0 true ts ls v0 v1 g0 g1 = false := by unfold chkB pre; simp [dp6]
      go_wp2
      go_ret
      exact ⟨by first | rfl | exact congrArg (fun b => Ending.returned (Value.bool b)) e_.symm, by repeat (first | with_reducible exact HB.out | with_reducible apply pw_below_drewN | with_reducible apply below_drew1 | refine below_set ?_ (show w.heap.size ≤ w.heap.size + 1 from Nat.le_succ _) | refine below_set ?_ (show w.heap.size ≤ w.heap.size from Nat.le_refl _))⟩
    · skip
      obtain rfl := hz rfl
      have e_ : chkB 1 false 0 ls v0 v1 g0 g1 = false := by unfold chkB pre; simp [dp6]
      go_wp2
      go_ret
      exact ⟨by first | rfl | exact congrArg (fun b => Ending.returned (Value.bool b)) e_.symm, by repeat (first | with_reducible exact HB.out | with_reducible apply pw_below_drewN | with_reducible apply below_drew1 | refine below_set ?_ (show w.heap.size ≤ w.heap.size + 1 from Nat.le_succ _) | refine below_set ?_ (show w.heap.size ≤ w.heap.size from Nat.le_refl _))⟩
    · skip
      clear hz
      have e_ : chkB 1 true ts ls v0 v1 g0 g1 = false := by unfold chkB pre; simp [dp6]
      go_wp2
      go_ret
      exact ⟨by first | rfl | exact congrArg (fun b => Ending.returned (Value.bool b)) e_.symm, by repeat (first | with_reducible exact HB.out | with_reducible apply pw_below_drewN | with_reducible apply below_drew1 | refine below_set ?_ (show w.heap.size ≤ w.heap.size + 1 from Nat.le_succ _) | refine below_set ?_ (show w.heap.size ≤ w.heap.size from Nat.le_refl _))⟩
  have dp6 : decide (ls > 1073741824) = false := decide_eq_false p6
  rcases ha with rfl | rfl <;> cases tr
  · skip
    obtain rfl := hz rfl
    clear hz
    have hpre : pre 0 false 0 ls = false := by unfold pre; simp at dp3 dp4 dp5 dp6 ⊢; omega
    have HP := Aside0.mk hpre
    clear hpre
    go_upto_region 3 with (fail)
    go_wp2
    go_loopg [3] 2 (fun kq v3 w' => ∃ i : Nat, i ≤ 2 ∧ kq + i = 2 ∧ v3 = .int .i64 i ∧ Aside0 (w'.heap[w.heap.size]? = some (.cells #[.int .i64 0, .bool false, .int .i64 0, .int .i64 ls, .int .i64 v0, .int .i64 v1, .bool g0, .bool g1] 40 (0, 0))) ∧ Aside0 (Below w.heap.size w w') ∧ Aside0 ((0 < i → rs v0 g0 ls true = false) ∧ (1 < i → rs v1 g1 ls false = false)))
    case atStart => exact ⟨0, by omega, by omega, rfl, BK, HB, ⟨⟨fun h => by omega, fun h => by omega⟩⟩⟩
    case round =>
      clear BK HB c0 c1 c2 c3 c4 c5 c6 c7
      obtain ⟨i, hi, hki, rfl, BK, HB, S⟩ := hrel
      have c0 := (blk_cell BK.out 0).trans rfl
      have c1 := (blk_cell BK.out 1).trans rfl
      have c2 := (blk_cell BK.out 2).trans rfl
      have c3 := (blk_cell BK.out 3).trans rfl
      have c4 := (blk_cell BK.out 4).trans rfl
      have c5 := (blk_cell BK.out 5).trans rfl
      have c6 := (blk_cell BK.out 6).trans rfl
      have c7 := (blk_cell BK.out 7).trans rfl
      have hcase : i = 0 ∨ i = 1 ∨ i = 2 := by omega
      rcases hcase with rfl | rfl | rfl
      · by_cases q1 : v0 < 0
        · have d1 : decide (v0 < 0) = true := decide_eq_true q1
          have e_ : chkB 0 false 0 ls v0 v1 g0 g1 = false := chk_no0 (Or.inl rfl) (by unfold rs; simp [q1])
          go_wp2
          (try (go_quiet (fail)))
          (try go_wp2)
          go_ret
          exact ⟨by first | rfl | exact congrArg (fun b => Ending.returned (Value.bool b)) e_.symm, by repeat (first | with_reducible exact HB.out | with_reducible apply pw_below_drewN | with_reducible apply below_drew1 | refine below_set ?_ (show w.heap.size ≤ w.heap.size + 1 from Nat.le_succ _) | refine below_set ?_ (show w.heap.size ≤ w.heap.size from Nat.le_refl _))⟩
        have d1 : decide (v0 < 0) = false := decide_eq_false q1
        by_cases q2 : v0 > 1073741824
        · have d2 : decide (v0 > 1073741824) = true := decide_eq_true q2
          have e_ : chkB 0 false 0 ls v0 v1 g0 g1 = false := chk_no0 (Or.inl rfl) (by unfold rs; simp [q2])
          go_wp2
          (try (go_quiet (fail)))
          (try go_wp2)
          go_ret
          exact ⟨by first | rfl | exact congrArg (fun b => Ending.returned (Value.bool b)) e_.symm, by repeat (first | with_reducible exact HB.out | with_reducible apply pw_below_drewN | with_reducible apply below_drew1 | refine below_set ?_ (show w.heap.size ≤ w.heap.size + 1 from Nat.le_succ _) | refine below_set ?_ (show w.heap.size ≤ w.heap.size from Nat.le_refl _))⟩
        have d2 : decide (v0 > 1073741824) = false := decide_eq_false q2
        cases g0
        · skip
          have e_ : chkB 0 false 0 ls v0 v1 false g1 = false := chk_no0 (Or.inl rfl) (by unfold rs; simp [d1])
          go_wp2
          (try (go_quiet (fail)))
          (try go_wp2)
          go_ret
          exact ⟨by first | rfl | exact congrArg (fun b => Ending.returned (Value.bool b)) e_.symm, by repeat (first | with_reducible exact HB.out | with_reducible apply pw_below_drewN | with_reducible apply below_drew1 | refine below_set ?_ (show w.heap.size ≤ w.heap.size + 1 from Nat.le_succ _) | refine below_set ?_ (show w.heap.size ≤ w.heap.size from Nat.le_refl _))⟩
        · by_cases q3 : v0 < ls
          · have d3 : decide (v0 < ls) = true := decide_eq_true q3
            have e_ : chkB 0 false 0 ls v0 v1 true g1 = false := chk_no0 (Or.inl rfl) (by unfold rs; simp [q3])
            go_wp2
            (try (go_quiet (fail)))
            (try go_wp2)
            go_ret
            exact ⟨by first | rfl | exact congrArg (fun b => Ending.returned (Value.bool b)) e_.symm, by repeat (first | with_reducible exact HB.out | with_reducible apply pw_below_drewN | with_reducible apply below_drew1 | refine below_set ?_ (show w.heap.size ≤ w.heap.size + 1 from Nat.le_succ _) | refine below_set ?_ (show w.heap.size ≤ w.heap.size from Nat.le_refl _))⟩
          have d3 : decide (v0 < ls) = false := decide_eq_false q3
          have s_ : rs v0 true ls true = false := by unfold rs; simp [d1, d2, d3]
          go_wp2
          (try (go_quiet (fail)))
          (try go_wp2)
          go_roundg (gk - 1)
          case measure => omega
          case rel => exact ⟨1, by omega, by omega, rfl, ⟨by first | exact BK.out | exact blk_drewN BK.out _⟩, ⟨by repeat (first | with_reducible exact HB.out | with_reducible apply pw_below_drewN | with_reducible apply below_drew1 | refine below_set ?_ (show w.heap.size ≤ w.heap.size + 1 from Nat.le_succ _) | refine below_set ?_ (show w.heap.size ≤ w.heap.size from Nat.le_refl _))⟩, ⟨⟨fun _ => s_, fun h => by omega⟩⟩⟩
      · by_cases q1 : v1 < 0
        · have d1 : decide (v1 < 0) = true := decide_eq_true q1
          have e_ : chkB 0 false 0 ls v0 v1 g0 g1 = false := chk_no1 (Or.inl rfl) (by unfold rs; simp [q1])
          go_wp2
          (try (go_quiet (fail)))
          (try go_wp2)
          go_ret
          exact ⟨by first | rfl | exact congrArg (fun b => Ending.returned (Value.bool b)) e_.symm, by repeat (first | with_reducible exact HB.out | with_reducible apply pw_below_drewN | with_reducible apply below_drew1 | refine below_set ?_ (show w.heap.size ≤ w.heap.size + 1 from Nat.le_succ _) | refine below_set ?_ (show w.heap.size ≤ w.heap.size from Nat.le_refl _))⟩
        have d1 : decide (v1 < 0) = false := decide_eq_false q1
        by_cases q2 : v1 > 1073741824
        · have d2 : decide (v1 > 1073741824) = true := decide_eq_true q2
          have e_ : chkB 0 false 0 ls v0 v1 g0 g1 = false := chk_no1 (Or.inl rfl) (by unfold rs; simp [q2])
          go_wp2
          (try (go_quiet (fail)))
          (try go_wp2)
          go_ret
          exact ⟨by first | rfl | exact congrArg (fun b => Ending.returned (Value.bool b)) e_.symm, by repeat (first | with_reducible exact HB.out | with_reducible apply pw_below_drewN | with_reducible apply below_drew1 | refine below_set ?_ (show w.heap.size ≤ w.heap.size + 1 from Nat.le_succ _) | refine below_set ?_ (show w.heap.size ≤ w.heap.size from Nat.le_refl _))⟩
        have d2 : decide (v1 > 1073741824) = false := decide_eq_false q2
        have s_ : rs v1 g1 ls false = false := by unfold rs; simp [d1, d2]
        go_wp2
        (try (go_quiet (fail)))
        (try go_wp2)
        go_roundg (gk - 1)
        case measure => omega
        case rel => exact ⟨2, by omega, by omega, rfl, ⟨by first | exact BK.out | exact blk_drewN BK.out _⟩, ⟨by repeat (first | with_reducible exact HB.out | with_reducible apply pw_below_drewN | with_reducible apply below_drew1 | refine below_set ?_ (show w.heap.size ≤ w.heap.size + 1 from Nat.le_succ _) | refine below_set ?_ (show w.heap.size ≤ w.heap.size from Nat.le_refl _))⟩, ⟨⟨fun _ => S.out.1 (by omega), fun _ => s_⟩⟩⟩
      · have e_ : chkB 0 false 0 ls v0 v1 g0 g1 = true := chk_yes (Or.inl rfl) HP.out (S.out.1 (by omega)) (S.out.2 (by omega))
        go_wp2
        go_ret
        exact ⟨by first | rfl | exact congrArg (fun b => Ending.returned (Value.bool b)) e_.symm, by repeat (first | with_reducible exact HB.out | with_reducible apply pw_below_drewN | with_reducible apply below_drew1 | refine below_set ?_ (show w.heap.size ≤ w.heap.size + 1 from Nat.le_succ _) | refine below_set ?_ (show w.heap.size ≤ w.heap.size from Nat.le_refl _))⟩
  · skip
    clear hz
    have hpre : pre 0 true ts ls = false := by unfold pre; simp at dp3 dp4 dp5 dp6 ⊢; omega
    have HP := Aside0.mk hpre
    clear hpre
    go_upto_region 3 with (fail)
    go_wp2
    go_loopg [3] 2 (fun kq v3 w' => ∃ i : Nat, i ≤ 2 ∧ kq + i = 2 ∧ v3 = .int .i64 i ∧ Aside0 (w'.heap[w.heap.size]? = some (.cells #[.int .i64 0, .bool true, .int .i64 ts, .int .i64 ls, .int .i64 v0, .int .i64 v1, .bool g0, .bool g1] 40 (0, 0))) ∧ Aside0 (Below w.heap.size w w') ∧ Aside0 ((0 < i → rs v0 g0 ls true = false) ∧ (1 < i → rs v1 g1 ls true = false)))
    case atStart => exact ⟨0, by omega, by omega, rfl, BK, HB, ⟨⟨fun h => by omega, fun h => by omega⟩⟩⟩
    case round =>
      clear BK HB c0 c1 c2 c3 c4 c5 c6 c7
      obtain ⟨i, hi, hki, rfl, BK, HB, S⟩ := hrel
      have c0 := (blk_cell BK.out 0).trans rfl
      have c1 := (blk_cell BK.out 1).trans rfl
      have c2 := (blk_cell BK.out 2).trans rfl
      have c3 := (blk_cell BK.out 3).trans rfl
      have c4 := (blk_cell BK.out 4).trans rfl
      have c5 := (blk_cell BK.out 5).trans rfl
      have c6 := (blk_cell BK.out 6).trans rfl
      have c7 := (blk_cell BK.out 7).trans rfl
      have hcase : i = 0 ∨ i = 1 ∨ i = 2 := by omega
      rcases hcase with rfl | rfl | rfl
      · by_cases q1 : v0 < 0
        · have d1 : decide (v0 < 0) = true := decide_eq_true q1
          have e_ : chkB 0 true ts ls v0 v1 g0 g1 = false := chk_no0 (Or.inl rfl) (by unfold rs; simp [q1])
          go_wp2
          (try (go_quiet (fail)))
          (try go_wp2)
          go_ret
          exact ⟨by first | rfl | exact congrArg (fun b => Ending.returned (Value.bool b)) e_.symm, by repeat (first | with_reducible exact HB.out | with_reducible apply pw_below_drewN | with_reducible apply below_drew1 | refine below_set ?_ (show w.heap.size ≤ w.heap.size + 1 from Nat.le_succ _) | refine below_set ?_ (show w.heap.size ≤ w.heap.size from Nat.le_refl _))⟩
        have d1 : decide (v0 < 0) = false := decide_eq_false q1
        by_cases q2 : v0 > 1073741824
        · have d2 : decide (v0 > 1073741824) = true := decide_eq_true q2
          have e_ : chkB 0 true ts ls v0 v1 g0 g1 = false := chk_no0 (Or.inl rfl) (by unfold rs; simp [q2])
          go_wp2
          (try (go_quiet (fail)))
          (try go_wp2)
          go_ret
          exact ⟨by first | rfl | exact congrArg (fun b => Ending.returned (Value.bool b)) e_.symm, by repeat (first | with_reducible exact HB.out | with_reducible apply pw_below_drewN | with_reducible apply below_drew1 | refine below_set ?_ (show w.heap.size ≤ w.heap.size + 1 from Nat.le_succ _) | refine below_set ?_ (show w.heap.size ≤ w.heap.size from Nat.le_refl _))⟩
        have d2 : decide (v0 > 1073741824) = false := decide_eq_false q2
        cases g0
        · skip
          have e_ : chkB 0 true ts ls v0 v1 false g1 = false := chk_no0 (Or.inl rfl) (by unfold rs; simp [d1])
          go_wp2
          (try (go_quiet (fail)))
          (try go_wp2)
          go_ret
          exact ⟨by first | rfl | exact congrArg (fun b => Ending.returned (Value.bool b)) e_.symm, by repeat (first | with_reducible exact HB.out | with_reducible apply pw_below_drewN | with_reducible apply below_drew1 | refine below_set ?_ (show w.heap.size ≤ w.heap.size + 1 from Nat.le_succ _) | refine below_set ?_ (show w.heap.size ≤ w.heap.size from Nat.le_refl _))⟩
        · by_cases q3 : v0 < ls
          · have d3 : decide (v0 < ls) = true := decide_eq_true q3
            have e_ : chkB 0 true ts ls v0 v1 true g1 = false := chk_no0 (Or.inl rfl) (by unfold rs; simp [q3])
            go_wp2
            (try (go_quiet (fail)))
            (try go_wp2)
            go_ret
            exact ⟨by first | rfl | exact congrArg (fun b => Ending.returned (Value.bool b)) e_.symm, by repeat (first | with_reducible exact HB.out | with_reducible apply pw_below_drewN | with_reducible apply below_drew1 | refine below_set ?_ (show w.heap.size ≤ w.heap.size + 1 from Nat.le_succ _) | refine below_set ?_ (show w.heap.size ≤ w.heap.size from Nat.le_refl _))⟩
          have d3 : decide (v0 < ls) = false := decide_eq_false q3
          have s_ : rs v0 true ls true = false := by unfold rs; simp [d1, d2, d3]
          go_wp2
          (try (go_quiet (fail)))
          (try go_wp2)
          go_roundg (gk - 1)
          case measure => omega
          case rel => exact ⟨1, by omega, by omega, rfl, ⟨by first | exact BK.out | exact blk_drewN BK.out _⟩, ⟨by repeat (first | with_reducible exact HB.out | with_reducible apply pw_below_drewN | with_reducible apply below_drew1 | refine below_set ?_ (show w.heap.size ≤ w.heap.size + 1 from Nat.le_succ _) | refine below_set ?_ (show w.heap.size ≤ w.heap.size from Nat.le_refl _))⟩, ⟨⟨fun _ => s_, fun h => by omega⟩⟩⟩
      · by_cases q1 : v1 < 0
        · have d1 : decide (v1 < 0) = true := decide_eq_true q1
          have e_ : chkB 0 true ts ls v0 v1 g0 g1 = false := chk_no1 (Or.inl rfl) (by unfold rs; simp [q1])
          go_wp2
          (try (go_quiet (fail)))
          (try go_wp2)
          go_ret
          exact ⟨by first | rfl | exact congrArg (fun b => Ending.returned (Value.bool b)) e_.symm, by repeat (first | with_reducible exact HB.out | with_reducible apply pw_below_drewN | with_reducible apply below_drew1 | refine below_set ?_ (show w.heap.size ≤ w.heap.size + 1 from Nat.le_succ _) | refine below_set ?_ (show w.heap.size ≤ w.heap.size from Nat.le_refl _))⟩
        have d1 : decide (v1 < 0) = false := decide_eq_false q1
        by_cases q2 : v1 > 1073741824
        · have d2 : decide (v1 > 1073741824) = true := decide_eq_true q2
          have e_ : chkB 0 true ts ls v0 v1 g0 g1 = false := chk_no1 (Or.inl rfl) (by unfold rs; simp [q2])
          go_wp2
          (try (go_quiet (fail)))
          (try go_wp2)
          go_ret
          exact ⟨by first | rfl | exact congrArg (fun b => Ending.returned (Value.bool b)) e_.symm, by repeat (first | with_reducible exact HB.out | with_reducible apply pw_below_drewN | with_reducible apply below_drew1 | refine below_set ?_ (show w.heap.size ≤ w.heap.size + 1 from Nat.le_succ _) | refine below_set ?_ (show w.heap.size ≤ w.heap.size from Nat.le_refl _))⟩
        have d2 : decide (v1 > 1073741824) = false := decide_eq_false q2
        cases g1
        · skip
          have e_ : chkB 0 true ts ls v0 v1 g0 false = false := chk_no1 (Or.inl rfl) (by unfold rs; simp [d1])
          go_wp2
          (try (go_quiet (fail)))
          (try go_wp2)
          go_ret
          exact ⟨by first | rfl | exact congrArg (fun b => Ending.returned (Value.bool b)) e_.symm, by repeat (first | with_reducible exact HB.out | with_reducible apply pw_below_drewN | with_reducible apply below_drew1 | refine below_set ?_ (show w.heap.size ≤ w.heap.size + 1 from Nat.le_succ _) | refine below_set ?_ (show w.heap.size ≤ w.heap.size from Nat.le_refl _))⟩
        · by_cases q3 : v1 < ls
          · have d3 : decide (v1 < ls) = true := decide_eq_true q3
            have e_ : chkB 0 true ts ls v0 v1 g0 true = false := chk_no1 (Or.inl rfl) (by unfold rs; simp [q3])
            go_wp2
            (try (go_quiet (fail)))
            (try go_wp2)
            go_ret
            exact ⟨by first | rfl | exact congrArg (fun b => Ending.returned (Value.bool b)) e_.symm, by repeat (first | with_reducible exact HB.out | with_reducible apply pw_below_drewN | with_reducible apply below_drew1 | refine below_set ?_ (show w.heap.size ≤ w.heap.size + 1 from Nat.le_succ _) | refine below_set ?_ (show w.heap.size ≤ w.heap.size from Nat.le_refl _))⟩
          have d3 : decide (v1 < ls) = false := decide_eq_false q3
          have s_ : rs v1 true ls true = false := by unfold rs; simp [d1, d2, d3]
          go_wp2
          (try (go_quiet (fail)))
          (try go_wp2)
          go_roundg (gk - 1)
          case measure => omega
          case rel => exact ⟨2, by omega, by omega, rfl, ⟨by first | exact BK.out | exact blk_drewN BK.out _⟩, ⟨by repeat (first | with_reducible exact HB.out | with_reducible apply pw_below_drewN | with_reducible apply below_drew1 | refine below_set ?_ (show w.heap.size ≤ w.heap.size + 1 from Nat.le_succ _) | refine below_set ?_ (show w.heap.size ≤ w.heap.size from Nat.le_refl _))⟩, ⟨⟨fun _ => S.out.1 (by omega), fun _ => s_⟩⟩⟩
      · have e_ : chkB 0 true ts ls v0 v1 g0 g1 = true := chk_yes (Or.inl rfl) HP.out (S.out.1 (by omega)) (S.out.2 (by omega))
        go_wp2
        go_ret
        exact ⟨by first | rfl | exact congrArg (fun b => Ending.returned (Value.bool b)) e_.symm, by repeat (first | with_reducible exact HB.out | with_reducible apply pw_below_drewN | with_reducible apply below_drew1 | refine below_set ?_ (show w.heap.size ≤ w.heap.size + 1 from Nat.le_succ _) | refine below_set ?_ (show w.heap.size ≤ w.heap.size from Nat.le_refl _))⟩
  · skip
    obtain rfl := hz rfl
    clear hz
    have hpre : pre 1 false 0 ls = false := by unfold pre; simp at dp3 dp4 dp5 dp6 ⊢; omega
    have HP := Aside0.mk hpre
    clear hpre
    go_upto_region 3 with (fail)
    go_wp2
    go_loopg [3] 2 (fun kq v3 w' => ∃ i : Nat, i ≤ 2 ∧ kq + i = 2 ∧ v3 = .int .i64 i ∧ Aside0 (w'.heap[w.heap.size]? = some (.cells #[.int .i64 1, .bool false, .int .i64 0, .int .i64 ls, .int .i64 v0, .int .i64 v1, .bool g0, .bool g1] 40 (0, 0))) ∧ Aside0 (Below w.heap.size w w') ∧ Aside0 ((0 < i → rs v0 g0 ls false = false) ∧ (1 < i → rs v1 g1 ls true = false)))
    case atStart => exact ⟨0, by omega, by omega, rfl, BK, HB, ⟨⟨fun h => by omega, fun h => by omega⟩⟩⟩
    case round =>
      clear BK HB c0 c1 c2 c3 c4 c5 c6 c7
      obtain ⟨i, hi, hki, rfl, BK, HB, S⟩ := hrel
      have c0 := (blk_cell BK.out 0).trans rfl
      have c1 := (blk_cell BK.out 1).trans rfl
      have c2 := (blk_cell BK.out 2).trans rfl
      have c3 := (blk_cell BK.out 3).trans rfl
      have c4 := (blk_cell BK.out 4).trans rfl
      have c5 := (blk_cell BK.out 5).trans rfl
      have c6 := (blk_cell BK.out 6).trans rfl
      have c7 := (blk_cell BK.out 7).trans rfl
      have hcase : i = 0 ∨ i = 1 ∨ i = 2 := by omega
      rcases hcase with rfl | rfl | rfl
      · by_cases q1 : v0 < 0
        · have d1 : decide (v0 < 0) = true := decide_eq_true q1
          have e_ : chkB 1 false 0 ls v0 v1 g0 g1 = false := chk_no0 (Or.inr rfl) (by unfold rs; simp [q1])
          go_wp2
          (try (go_quiet (fail)))
          (try go_wp2)
          go_ret
          exact ⟨by first | rfl | exact congrArg (fun b => Ending.returned (Value.bool b)) e_.symm, by repeat (first | with_reducible exact HB.out | with_reducible apply pw_below_drewN | with_reducible apply below_drew1 | refine below_set ?_ (show w.heap.size ≤ w.heap.size + 1 from Nat.le_succ _) | refine below_set ?_ (show w.heap.size ≤ w.heap.size from Nat.le_refl _))⟩
        have d1 : decide (v0 < 0) = false := decide_eq_false q1
        by_cases q2 : v0 > 1073741824
        · have d2 : decide (v0 > 1073741824) = true := decide_eq_true q2
          have e_ : chkB 1 false 0 ls v0 v1 g0 g1 = false := chk_no0 (Or.inr rfl) (by unfold rs; simp [q2])
          go_wp2
          (try (go_quiet (fail)))
          (try go_wp2)
          go_ret
          exact ⟨by first | rfl | exact congrArg (fun b => Ending.returned (Value.bool b)) e_.symm, by repeat (first | with_reducible exact HB.out | with_reducible apply pw_below_drewN | with_reducible apply below_drew1 | refine below_set ?_ (show w.heap.size ≤ w.heap.size + 1 from Nat.le_succ _) | refine below_set ?_ (show w.heap.size ≤ w.heap.size from Nat.le_refl _))⟩
        have d2 : decide (v0 > 1073741824) = false := decide_eq_false q2
        have s_ : rs v0 g0 ls false = false := by unfold rs; simp [d1, d2]
        go_wp2
        (try (go_quiet (fail)))
        (try go_wp2)
        go_roundg (gk - 1)
        case measure => omega
        case rel => exact ⟨1, by omega, by omega, rfl, ⟨by first | exact BK.out | exact blk_drewN BK.out _⟩, ⟨by repeat (first | with_reducible exact HB.out | with_reducible apply pw_below_drewN | with_reducible apply below_drew1 | refine below_set ?_ (show w.heap.size ≤ w.heap.size + 1 from Nat.le_succ _) | refine below_set ?_ (show w.heap.size ≤ w.heap.size from Nat.le_refl _))⟩, ⟨⟨fun _ => s_, fun h => by omega⟩⟩⟩
      · by_cases q1 : v1 < 0
        · have d1 : decide (v1 < 0) = true := decide_eq_true q1
          have e_ : chkB 1 false 0 ls v0 v1 g0 g1 = false := chk_no1 (Or.inr rfl) (by unfold rs; simp [q1])
          go_wp2
          (try (go_quiet (fail)))
          (try go_wp2)
          go_ret
          exact ⟨by first | rfl | exact congrArg (fun b => Ending.returned (Value.bool b)) e_.symm, by repeat (first | with_reducible exact HB.out | with_reducible apply pw_below_drewN | with_reducible apply below_drew1 | refine below_set ?_ (show w.heap.size ≤ w.heap.size + 1 from Nat.le_succ _) | refine below_set ?_ (show w.heap.size ≤ w.heap.size from Nat.le_refl _))⟩
        have d1 : decide (v1 < 0) = false := decide_eq_false q1
        by_cases q2 : v1 > 1073741824
        · have d2 : decide (v1 > 1073741824) = true := decide_eq_true q2
          have e_ : chkB 1 false 0 ls v0 v1 g0 g1 = false := chk_no1 (Or.inr rfl) (by unfold rs; simp [q2])
          go_wp2
          (try (go_quiet (fail)))
          (try go_wp2)
          go_ret
          exact ⟨by first | rfl | exact congrArg (fun b => Ending.returned (Value.bool b)) e_.symm, by repeat (first | with_reducible exact HB.out | with_reducible apply pw_below_drewN | with_reducible apply below_drew1 | refine below_set ?_ (show w.heap.size ≤ w.heap.size + 1 from Nat.le_succ _) | refine below_set ?_ (show w.heap.size ≤ w.heap.size from Nat.le_refl _))⟩
        have d2 : decide (v1 > 1073741824) = false := decide_eq_false q2
        cases g1
        · skip
          have e_ : chkB 1 false 0 ls v0 v1 g0 false = false := chk_no1 (Or.inr rfl) (by unfold rs; simp [d1])
          go_wp2
          (try (go_quiet (fail)))
          (try go_wp2)
          go_ret
          exact ⟨by first | rfl | exact congrArg (fun b => Ending.returned (Value.bool b)) e_.symm, by repeat (first | with_reducible exact HB.out | with_reducible apply pw_below_drewN | with_reducible apply below_drew1 | refine below_set ?_ (show w.heap.size ≤ w.heap.size + 1 from Nat.le_succ _) | refine below_set ?_ (show w.heap.size ≤ w.heap.size from Nat.le_refl _))⟩
        · by_cases q3 : v1 < ls
          · have d3 : decide (v1 < ls) = true := decide_eq_true q3
            have e_ : chkB 1 false 0 ls v0 v1 g0 true = false := chk_no1 (Or.inr rfl) (by unfold rs; simp [q3])
            go_wp2
            (try (go_quiet (fail)))
            (try go_wp2)
            go_ret
            exact ⟨by first | rfl | exact congrArg (fun b => Ending.returned (Value.bool b)) e_.symm, by repeat (first | with_reducible exact HB.out | with_reducible apply pw_below_drewN | with_reducible apply below_drew1 | refine below_set ?_ (show w.heap.size ≤ w.heap.size + 1 from Nat.le_succ _) | refine below_set ?_ (show w.heap.size ≤ w.heap.size from Nat.le_refl _))⟩
          have d3 : decide (v1 < ls) = false := decide_eq_false q3
          have s_ : rs v1 true ls true = false := by unfold rs; simp [d1, d2, d3]
          go_wp2
          (try (go_quiet (fail)))
          (try go_wp2)
          go_roundg (gk - 1)
          case measure => omega
          case rel => exact ⟨2, by omega, by omega, rfl, ⟨by first | exact BK.out | exact blk_drewN BK.out _⟩, ⟨by repeat (first | with_reducible exact HB.out | with_reducible apply pw_below_drewN | with_reducible apply below_drew1 | refine below_set ?_ (show w.heap.size ≤ w.heap.size + 1 from Nat.le_succ _) | refine below_set ?_ (show w.heap.size ≤ w.heap.size from Nat.le_refl _))⟩, ⟨⟨fun _ => S.out.1 (by omega), fun _ => s_⟩⟩⟩
      · have e_ : chkB 1 false 0 ls v0 v1 g0 g1 = true := chk_yes (Or.inr rfl) HP.out (S.out.1 (by omega)) (S.out.2 (by omega))
        go_wp2
        go_ret
        exact ⟨by first | rfl | exact congrArg (fun b => Ending.returned (Value.bool b)) e_.symm, by repeat (first | with_reducible exact HB.out | with_reducible apply pw_below_drewN | with_reducible apply below_drew1 | refine below_set ?_ (show w.heap.size ≤ w.heap.size + 1 from Nat.le_succ _) | refine below_set ?_ (show w.heap.size ≤ w.heap.size from Nat.le_refl _))⟩
  · skip
    clear hz
    have hpre : pre 1 true ts ls = false := by unfold pre; simp at dp3 dp4 dp5 dp6 ⊢; omega
    have HP := Aside0.mk hpre
    clear hpre
    go_upto_region 3 with (fail)
    go_wp2
    go_loopg [3] 2 (fun kq v3 w' => ∃ i : Nat, i ≤ 2 ∧ kq + i = 2 ∧ v3 = .int .i64 i ∧ Aside0 (w'.heap[w.heap.size]? = some (.cells #[.int .i64 1, .bool true, .int .i64 ts, .int .i64 ls, .int .i64 v0, .int .i64 v1, .bool g0, .bool g1] 40 (0, 0))) ∧ Aside0 (Below w.heap.size w w') ∧ Aside0 ((0 < i → rs v0 g0 ls true = false) ∧ (1 < i → rs v1 g1 ls true = false)))
    case atStart => exact ⟨0, by omega, by omega, rfl, BK, HB, ⟨⟨fun h => by omega, fun h => by omega⟩⟩⟩
    case round =>
      clear BK HB c0 c1 c2 c3 c4 c5 c6 c7
      obtain ⟨i, hi, hki, rfl, BK, HB, S⟩ := hrel
      have c0 := (blk_cell BK.out 0).trans rfl
      have c1 := (blk_cell BK.out 1).trans rfl
      have c2 := (blk_cell BK.out 2).trans rfl
      have c3 := (blk_cell BK.out 3).trans rfl
      have c4 := (blk_cell BK.out 4).trans rfl
      have c5 := (blk_cell BK.out 5).trans rfl
      have c6 := (blk_cell BK.out 6).trans rfl
      have c7 := (blk_cell BK.out 7).trans rfl
      have hcase : i = 0 ∨ i = 1 ∨ i = 2 := by omega
      rcases hcase with rfl | rfl | rfl
      · by_cases q1 : v0 < 0
        · have d1 : decide (v0 < 0) = true := decide_eq_true q1
          have e_ : chkB 1 true ts ls v0 v1 g0 g1 = false := chk_no0 (Or.inr rfl) (by unfold rs; simp [q1])
          go_wp2
          (try (go_quiet (fail)))
          (try go_wp2)
          go_ret
          exact ⟨by first | rfl | exact congrArg (fun b => Ending.returned (Value.bool b)) e_.symm, by repeat (first | with_reducible exact HB.out | with_reducible apply pw_below_drewN | with_reducible apply below_drew1 | refine below_set ?_ (show w.heap.size ≤ w.heap.size + 1 from Nat.le_succ _) | refine below_set ?_ (show w.heap.size ≤ w.heap.size from Nat.le_refl _))⟩
        have d1 : decide (v0 < 0) = false := decide_eq_false q1
        by_cases q2 : v0 > 1073741824
        · have d2 : decide (v0 > 1073741824) = true := decide_eq_true q2
          have e_ : chkB 1 true ts ls v0 v1 g0 g1 = false := chk_no0 (Or.inr rfl) (by unfold rs; simp [q2])
          go_wp2
          (try (go_quiet (fail)))
          (try go_wp2)
          go_ret
          exact ⟨by first | rfl | exact congrArg (fun b => Ending.returned (Value.bool b)) e_.symm, by repeat (first | with_reducible exact HB.out | with_reducible apply pw_below_drewN | with_reducible apply below_drew1 | refine below_set ?_ (show w.heap.size ≤ w.heap.size + 1 from Nat.le_succ _) | refine below_set ?_ (show w.heap.size ≤ w.heap.size from Nat.le_refl _))⟩
        have d2 : decide (v0 > 1073741824) = false := decide_eq_false q2
        cases g0
        · skip
          have e_ : chkB 1 true ts ls v0 v1 false g1 = false := chk_no0 (Or.inr rfl) (by unfold rs; simp [d1])
          go_wp2
          (try (go_quiet (fail)))
          (try go_wp2)
          go_ret
          exact ⟨by first | rfl | exact congrArg (fun b => Ending.returned (Value.bool b)) e_.symm, by repeat (first | with_reducible exact HB.out | with_reducible apply pw_below_drewN | with_reducible apply below_drew1 | refine below_set ?_ (show w.heap.size ≤ w.heap.size + 1 from Nat.le_succ _) | refine below_set ?_ (show w.heap.size ≤ w.heap.size from Nat.le_refl _))⟩
        · by_cases q3 : v0 < ls
          · have d3 : decide (v0 < ls) = true := decide_eq_true q3
            have e_ : chkB 1 true ts ls v0 v1 true g1 = false := chk_no0 (Or.inr rfl) (by unfold rs; simp [q3])
            go_wp2
            (try (go_quiet (fail)))
            (try go_wp2)
            go_ret
            exact ⟨by first | rfl | exact congrArg (fun b => Ending.returned (Value.bool b)) e_.symm, by repeat (first | with_reducible exact HB.out | with_reducible apply pw_below_drewN | with_reducible apply below_drew1 | refine below_set ?_ (show w.heap.size ≤ w.heap.size + 1 from Nat.le_succ _) | refine below_set ?_ (show w.heap.size ≤ w.heap.size from Nat.le_refl _))⟩
          have d3 : decide (v0 < ls) = false := decide_eq_false q3
          have s_ : rs v0 true ls true = false := by unfold rs; simp [d1, d2, d3]
          go_wp2
          (try (go_quiet (fail)))
          (try go_wp2)
          go_roundg (gk - 1)
          case measure => omega
          case rel => exact ⟨1, by omega, by omega, rfl, ⟨by first | exact BK.out | exact blk_drewN BK.out _⟩, ⟨by repeat (first | with_reducible exact HB.out | with_reducible apply pw_below_drewN | with_reducible apply below_drew1 | refine below_set ?_ (show w.heap.size ≤ w.heap.size + 1 from Nat.le_succ _) | refine below_set ?_ (show w.heap.size ≤ w.heap.size from Nat.le_refl _))⟩, ⟨⟨fun _ => s_, fun h => by omega⟩⟩⟩
      · by_cases q1 : v1 < 0
        · have d1 : decide (v1 < 0) = true := decide_eq_true q1
          have e_ : chkB 1 true ts ls v0 v1 g0 g1 = false := chk_no1 (Or.inr rfl) (by unfold rs; simp [q1])
          go_wp2
          (try (go_quiet (fail)))
          (try go_wp2)
          go_ret
          exact ⟨by first | rfl | exact congrArg (fun b => Ending.returned (Value.bool b)) e_.symm, by repeat (first | with_reducible exact HB.out | with_reducible apply pw_below_drewN | with_reducible apply below_drew1 | refine below_set ?_ (show w.heap.size ≤ w.heap.size + 1 from Nat.le_succ _) | refine below_set ?_ (show w.heap.size ≤ w.heap.size from Nat.le_refl _))⟩
        have d1 : decide (v1 < 0) = false := decide_eq_false q1
        by_cases q2 : v1 > 1073741824
        · have d2 : decide (v1 > 1073741824) = true := decide_eq_true q2
          have e_ : chkB 1 true ts ls v0 v1 g0 g1 = false := chk_no1 (Or.inr rfl) (by unfold rs; simp [q2])
          go_wp2
          (try (go_quiet (fail)))
          (try go_wp2)
          go_ret
          exact ⟨by first | rfl | exact congrArg (fun b => Ending.returned (Value.bool b)) e_.symm, by repeat (first | with_reducible exact HB.out | with_reducible apply pw_below_drewN | with_reducible apply below_drew1 | refine below_set ?_ (show w.heap.size ≤ w.heap.size + 1 from Nat.le_succ _) | refine below_set ?_ (show w.heap.size ≤ w.heap.size from Nat.le_refl _))⟩
        have d2 : decide (v1 > 1073741824) = false := decide_eq_false q2
        cases g1
        · skip
          have e_ : chkB 1 true ts ls v0 v1 g0 false = false := chk_no1 (Or.inr rfl) (by unfold rs; simp [d1])
          go_wp2
          (try (go_quiet (fail)))
          (try go_wp2)
          go_ret
          exact ⟨by first | rfl | exact congrArg (fun b => Ending.returned (Value.bool b)) e_.symm, by repeat (first | with_reducible exact HB.out | with_reducible apply pw_below_drewN | with_reducible apply below_drew1 | refine below_set ?_ (show w.heap.size ≤ w.heap.size + 1 from Nat.le_succ _) | refine below_set ?_ (show w.heap.size ≤ w.heap.size from Nat.le_refl _))⟩
        · by_cases q3 : v1 < ls
          · have d3 : decide (v1 < ls) = true := decide_eq_true q3
            have e_ : chkB 1 true ts ls v0 v1 g0 true = false := chk_no1 (Or.inr rfl) (by unfold rs; simp [q3])
            go_wp2
            (try (go_quiet (fail)))
            (try go_wp2)
            go_ret
            exact ⟨by first | rfl | exact congrArg (fun b => Ending.returned (Value.bool b)) e_.symm, by repeat (first | with_reducible exact HB.out | with_reducible apply pw_below_drewN | with_reducible apply below_drew1 | refine below_set ?_ (show w.heap.size ≤ w.heap.size + 1 from Nat.le_succ _) | refine below_set ?_ (show w.heap.size ≤ w.heap.size from Nat.le_refl _))⟩
          have d3 : decide (v1 < ls) = false := decide_eq_false q3
          have s_ : rs v1 true ls true = false := by unfold rs; simp [d1, d2, d3]
          go_wp2
          (try (go_quiet (fail)))
          (try go_wp2)
          go_roundg (gk - 1)
          case measure => omega
          case rel => exact ⟨2, by omega, by omega, rfl, ⟨by first | exact BK.out | exact blk_drewN BK.out _⟩, ⟨by repeat (first | with_reducible exact HB.out | with_reducible apply pw_below_drewN | with_reducible apply below_drew1 | refine below_set ?_ (show w.heap.size ≤ w.heap.size + 1 from Nat.le_succ _) | refine below_set ?_ (show w.heap.size ≤ w.heap.size from Nat.le_refl _))⟩, ⟨⟨fun _ => S.out.1 (by omega), fun _ => s_⟩⟩⟩
      · have e_ : chkB 1 true ts ls v0 v1 g0 g1 = true := chk_yes (Or.inr rfl) HP.out (S.out.1 (by omega)) (S.out.2 (by omega))
        go_wp2
        go_ret
        exact ⟨by first | rfl | exact congrArg (fun b => Ending.returned (Value.bool b)) e_.symm, by repeat (first | with_reducible exact HB.out | with_reducible apply pw_below_drewN | with_reducible apply below_drew1 | refine below_set ?_ (show w.heap.size ≤ w.heap.size + 1 from Nat.le_succ _) | refine below_set ?_ (show w.heap.size ≤ w.heap.size from Nat.le_refl _))⟩
end Go.Proofs.Ytoiahmdibibceaa.Tb
