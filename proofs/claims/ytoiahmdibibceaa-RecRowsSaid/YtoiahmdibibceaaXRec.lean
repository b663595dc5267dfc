/- The numbers of a record that its kind has, and whether a record may be: walked by hand. Conditions: none. -/
import Derived.Test.YtoiahmdibibceaaProg
import Derived.WalkKit
import Derived.RegionTactic
import Derived.Deep.QuietTactic
import Derived.BigQuiet
import Derived.LoopN
import Derived.Lib.LazyBuf
import Derived.Test.YtoiahmdibibceaaYW
set_option linter.unusedVariables false
set_option linter.unusedSimpArgs false
namespace Go.Proofs.Ytoiahmdibibceaa.Rc
open Go.RowKit Go.Proofs.YtoiahmdibibceaaW.PrintWords Go.Proofs.YtoiahmdibibceaaW.PrintLast Go.Proofs.YtoiahmdibibceaaW.PrintMore
/-- A record in memory. -/
def IsRec (w : World) (g : Nat) (k c1 c2 c3 c4 c5 : Int) : Prop := w.heap[g]? = some (.cells #[.int .i64 k, .int .i64 c1, .int .i64 c2, .int .i64 c3, .int .i64 c4, .int .i64 c5] 58 (0, 0))
/-- A row that was made behind the world w: its value, its cells. -/
def RowAt (w w' : World) (v : Value) (e : TypeId) (xs : Array Value) : Prop := ∃ b, v = .slice (some ⟨b, 0, none⟩) xs.size xs.size ∧ w'.heap[b]? = some (.cells xs e (0, 0)) ∧ w.heap.size ≤ b
theorem two_0 (w : World) (a b : Obj) : ((w.alloc a).alloc b).heap[w.heap.size]? = some a := by
  show ((w.heap.push a).push b)[w.heap.size]? = some a
  rw [Array.getElem?_push, if_neg (by rw [Array.size_push]; omega), Array.getElem?_push, if_pos rfl]
theorem two_1 (w : World) (a b : Obj) : ((w.alloc a).alloc b).heap[w.heap.size + 1]? = some b := by
  show ((w.heap.push a).push b)[w.heap.size + 1]? = some b
  rw [Array.getElem?_push, if_pos (by rw [Array.size_push])]
theorem quiet2 {P : Program} {f : FuncId} {args : Array Value} {w : World} {q n : Nat} {v : Value} (h : Calls P f args (w.drewN (q + n)) fun e w' => e = .returned v ∧ ∃ m, w' = (w.drewN (q + n)).drewN m) :
    Calls P f args (w.drewN (q + n)) fun e w'' => e = .returned v ∧ ∃ m, w'' = w.drewN (q + m) :=
  h.mono fun _ _ ⟨he, m, hm⟩ => ⟨he, n + m, by rw [hm, World.drewN_drewN, Nat.add_assoc]⟩
theorem below_fresh {w : World} : Below w.heap.size w w := Below.refl _ _
theorem in_calls (a b c : Int) (w : World) : Calls Try.prog 61 #[.int .i64 a, .int .i64 b, .int .i64 c] w fun e w' => e = .returned (.bool (decide (b ≤ a) && decide (a ≤ c))) ∧ Drawn0 w w' := by
  by_cases h1 : b ≤ a
  · by_cases h2 : a ≤ c
    · have e1 : decide (a ≥ b) = true := decide_eq_true h1
      have e2 : decide (a ≤ c) = true := decide_eq_true h2
      go_enter Try.func61, Try.ntmps61
      go_wp2
      go_ret
      exact ⟨by simp [h1, h2], by repeat (first | exact Drawn0.refl _ | apply Drawn0.step)⟩
    · have e1 : decide (a ≥ b) = true := decide_eq_true h1
      have e2 : decide (a ≤ c) = false := decide_eq_false h2
      go_enter Try.func61, Try.ntmps61
      go_wp2
      go_ret
      exact ⟨by simp [h1, h2], by repeat (first | exact Drawn0.refl _ | apply Drawn0.step)⟩
  · have e1 : decide (a ≥ b) = false := decide_eq_false h1
    go_enter Try.func61, Try.ntmps61
    go_wp2
    go_ret
    exact ⟨by simp [h1], by repeat (first | exact Drawn0.refl _ | apply Drawn0.step)⟩
set_option maxHeartbeats 4000000 in
theorem fields_1 (g : Nat) (c1 c2 c3 c4 c5 : Int) (w : World) (h : IsRec w g 1 c1 c2 c3 c4 c5) :
    Calls Try.prog 60 #[.pointer (some ⟨g, 0, none⟩)] w fun e w' => ∃ vl vm, e = .returned (.tuple #[vl, vm]) ∧ RowAt w w' vl 92 #[.pointer (some ⟨g, 1, none⟩), .pointer (some ⟨g, 2, none⟩), .pointer (some ⟨g, 3, none⟩)] ∧ RowAt w w' vm 3 #[.int .i64 15, .int .i64 1023, .int .i64 511] ∧ Below w.heap.size w w' := by
  have h0 : w.cell? ⟨g, 0, none⟩ = some (.int .i64 1) := (blk_cell h 0).trans rfl
  go_enter Try.func60, Try.ntmps60
  go_wp2
  go_region
  all_goals go_wp2
  all_goals go_ret2
  all_goals refine ⟨_, _, rfl, ⟨_, rfl, ?_, ?_⟩, ⟨_, rfl, ?_, ?_⟩, ?_⟩
  all_goals first
    | omega
    | ((repeat (first | exact Below.refl _ _ | apply below_alloc | apply pw_below_drewN | apply below_drew1)); done)
    | exact two_0 w _ _
    | exact two_1 w _ _
set_option maxHeartbeats 4000000 in
theorem fields_2 (g : Nat) (c1 c2 c3 c4 c5 : Int) (w : World) (h : IsRec w g 2 c1 c2 c3 c4 c5) :
    Calls Try.prog 60 #[.pointer (some ⟨g, 0, none⟩)] w fun e w' => ∃ vl vm, e = .returned (.tuple #[vl, vm]) ∧ RowAt w w' vl 92 #[.pointer (some ⟨g, 1, none⟩), .pointer (some ⟨g, 2, none⟩)] ∧ RowAt w w' vm 3 #[.int .i64 15, .int .i64 1023] ∧ Below w.heap.size w w' := by
  have h0 : w.cell? ⟨g, 0, none⟩ = some (.int .i64 2) := (blk_cell h 0).trans rfl
  go_enter Try.func60, Try.ntmps60
  go_wp2
  go_region
  all_goals go_wp2
  all_goals go_ret2
  all_goals refine ⟨_, _, rfl, ⟨_, rfl, ?_, ?_⟩, ⟨_, rfl, ?_, ?_⟩, ?_⟩
  all_goals first
    | omega
    | ((repeat (first | exact Below.refl _ _ | apply below_alloc | apply pw_below_drewN | apply below_drew1)); done)
    | exact two_0 w _ _
    | exact two_1 w _ _
set_option maxHeartbeats 4000000 in
theorem fields_3 (g : Nat) (c1 c2 c3 c4 c5 : Int) (w : World) (h : IsRec w g 3 c1 c2 c3 c4 c5) :
    Calls Try.prog 60 #[.pointer (some ⟨g, 0, none⟩)] w fun e w' => ∃ vl vm, e = .returned (.tuple #[vl, vm]) ∧ RowAt w w' vl 92 #[.pointer (some ⟨g, 3, none⟩), .pointer (some ⟨g, 4, none⟩)] ∧ RowAt w w' vm 3 #[.int .i64 511, .int .i64 511] ∧ Below w.heap.size w w' := by
  have h0 : w.cell? ⟨g, 0, none⟩ = some (.int .i64 3) := (blk_cell h 0).trans rfl
  go_enter Try.func60, Try.ntmps60
  go_wp2
  go_region
  all_goals go_wp2
  all_goals go_ret2
  all_goals refine ⟨_, _, rfl, ⟨_, rfl, ?_, ?_⟩, ⟨_, rfl, ?_, ?_⟩, ?_⟩
  all_goals first
    | omega
    | ((repeat (first | exact Below.refl _ _ | apply below_alloc | apply pw_below_drewN | apply below_drew1)); done)
    | exact two_0 w _ _
    | exact two_1 w _ _
set_option maxHeartbeats 4000000 in
theorem fields_4 (g : Nat) (c1 c2 c3 c4 c5 : Int) (w : World) (h : IsRec w g 4 c1 c2 c3 c4 c5) :
    Calls Try.prog 60 #[.pointer (some ⟨g, 0, none⟩)] w fun e w' => ∃ vl vm, e = .returned (.tuple #[vl, vm]) ∧ RowAt w w' vl 92 #[.pointer (some ⟨g, 1, none⟩), .pointer (some ⟨g, 5, none⟩)] ∧ RowAt w w' vm 3 #[.int .i64 15, .int .i64 1024] ∧ Below w.heap.size w w' := by
  have h0 : w.cell? ⟨g, 0, none⟩ = some (.int .i64 4) := (blk_cell h 0).trans rfl
  go_enter Try.func60, Try.ntmps60
  go_wp2
  go_region
  all_goals go_wp2
  all_goals go_ret2
  all_goals refine ⟨_, _, rfl, ⟨_, rfl, ?_, ?_⟩, ⟨_, rfl, ?_, ?_⟩, ?_⟩
  all_goals first
    | omega
    | ((repeat (first | exact Below.refl _ _ | apply below_alloc | apply pw_below_drewN | apply below_drew1)); done)
    | exact two_0 w _ _
    | exact two_1 w _ _
set_option maxHeartbeats 4000000 in
theorem fields_5 (g : Nat) (c1 c2 c3 c4 c5 : Int) (w : World) (h : IsRec w g 5 c1 c2 c3 c4 c5) :
    Calls Try.prog 60 #[.pointer (some ⟨g, 0, none⟩)] w fun e w' => ∃ vl vm, e = .returned (.tuple #[vl, vm]) ∧ RowAt w w' vl 92 #[.pointer (some ⟨g, 1, none⟩)] ∧ RowAt w w' vm 3 #[.int .i64 15] ∧ Below w.heap.size w w' := by
  have h0 : w.cell? ⟨g, 0, none⟩ = some (.int .i64 5) := (blk_cell h 0).trans rfl
  go_enter Try.func60, Try.ntmps60
  go_wp2
  all_goals go_ret2
  all_goals refine ⟨_, _, rfl, ⟨_, rfl, ?_, ?_⟩, ⟨_, rfl, ?_, ?_⟩, ?_⟩
  all_goals first
    | omega
    | ((repeat (first | exact Below.refl _ _ | apply below_alloc | apply pw_below_drewN | apply below_drew1)); done)
    | exact two_0 w _ _
    | exact two_1 w _ _
set_option maxHeartbeats 4000000 in
theorem fields_6 (g : Nat) (c1 c2 c3 c4 c5 : Int) (w : World) (h : IsRec w g 6 c1 c2 c3 c4 c5) :
    Calls Try.prog 60 #[.pointer (some ⟨g, 0, none⟩)] w fun e w' => ∃ vl vm, e = .returned (.tuple #[vl, vm]) ∧ RowAt w w' vl 92 #[.pointer (some ⟨g, 1, none⟩), .pointer (some ⟨g, 4, none⟩)] ∧ RowAt w w' vm 3 #[.int .i64 15, .int .i64 15] ∧ Below w.heap.size w w' := by
  have h0 : w.cell? ⟨g, 0, none⟩ = some (.int .i64 6) := (blk_cell h 0).trans rfl
  go_enter Try.func60, Try.ntmps60
  go_wp2
  go_region
  all_goals go_wp2
  all_goals go_ret2
  all_goals refine ⟨_, _, rfl, ⟨_, rfl, ?_, ?_⟩, ⟨_, rfl, ?_, ?_⟩, ?_⟩
  all_goals first
    | omega
    | ((repeat (first | exact Below.refl _ _ | apply below_alloc | apply pw_below_drewN | apply below_drew1)); done)
    | exact two_0 w _ _
    | exact two_1 w _ _
set_option maxHeartbeats 4000000 in
theorem fields_7 (g : Nat) (c1 c2 c3 c4 c5 : Int) (w : World) (h : IsRec w g 7 c1 c2 c3 c4 c5) :
    Calls Try.prog 60 #[.pointer (some ⟨g, 0, none⟩)] w fun e w' => ∃ vl vm, e = .returned (.tuple #[vl, vm]) ∧ RowAt w w' vl 92 #[.pointer (some ⟨g, 1, none⟩)] ∧ RowAt w w' vm 3 #[.int .i64 15] ∧ Below w.heap.size w w' := by
  have h0 : w.cell? ⟨g, 0, none⟩ = some (.int .i64 7) := (blk_cell h 0).trans rfl
  go_enter Try.func60, Try.ntmps60
  go_wp2
  all_goals go_ret2
  all_goals refine ⟨_, _, rfl, ⟨_, rfl, ?_, ?_⟩, ⟨_, rfl, ?_, ?_⟩, ?_⟩
  all_goals first
    | omega
    | ((repeat (first | exact Below.refl _ _ | apply below_alloc | apply pw_below_drewN | apply below_drew1)); done)
    | exact two_0 w _ _
    | exact two_1 w _ _
set_option maxHeartbeats 4000000 in
theorem fields_8 (g : Nat) (c1 c2 c3 c4 c5 : Int) (w : World) (h : IsRec w g 8 c1 c2 c3 c4 c5) :
    Calls Try.prog 60 #[.pointer (some ⟨g, 0, none⟩)] w fun e w' => ∃ vl vm, e = .returned (.tuple #[vl, vm]) ∧ RowAt w w' vl 92 #[.pointer (some ⟨g, 3, none⟩)] ∧ RowAt w w' vm 3 #[.int .i64 31] ∧ Below w.heap.size w w' := by
  have h0 : w.cell? ⟨g, 0, none⟩ = some (.int .i64 8) := (blk_cell h 0).trans rfl
  go_enter Try.func60, Try.ntmps60
  go_wp2
  all_goals go_ret2
  all_goals refine ⟨_, _, rfl, ⟨_, rfl, ?_, ?_⟩, ⟨_, rfl, ?_, ?_⟩, ?_⟩
  all_goals first
    | omega
    | ((repeat (first | exact Below.refl _ _ | apply below_alloc | apply pw_below_drewN | apply below_drew1)); done)
    | exact two_0 w _ _
    | exact two_1 w _ _
set_option maxHeartbeats 4000000 in
theorem fields_9 (g : Nat) (c1 c2 c3 c4 c5 : Int) (w : World) (h : IsRec w g 9 c1 c2 c3 c4 c5) :
    Calls Try.prog 60 #[.pointer (some ⟨g, 0, none⟩)] w fun e w' => ∃ vl vm, e = .returned (.tuple #[vl, vm]) ∧ RowAt w w' vl 92 #[.pointer (some ⟨g, 3, none⟩), .pointer (some ⟨g, 5, none⟩)] ∧ RowAt w w' vm 3 #[.int .i64 31, .int .i64 1073741824] ∧ Below w.heap.size w w' := by
  have h0 : w.cell? ⟨g, 0, none⟩ = some (.int .i64 9) := (blk_cell h 0).trans rfl
  go_enter Try.func60, Try.ntmps60
  go_wp2
  go_region
  all_goals go_wp2
  all_goals go_ret2
  all_goals refine ⟨_, _, rfl, ⟨_, rfl, ?_, ?_⟩, ⟨_, rfl, ?_, ?_⟩, ?_⟩
  all_goals first
    | omega
    | ((repeat (first | exact Below.refl _ _ | apply below_alloc | apply pw_below_drewN | apply below_drew1)); done)
    | exact two_0 w _ _
    | exact two_1 w _ _
set_option maxHeartbeats 4000000 in
theorem fields_0 (g : Nat) (k c1 c2 c3 c4 c5 : Int) (w : World) (h : IsRec w g k c1 c2 c3 c4 c5) (n1 : k ≠ 1) (n2 : k ≠ 2) (n3 : k ≠ 3) (n4 : k ≠ 4) (n5 : k ≠ 5) (n6 : k ≠ 6) (n7 : k ≠ 7) (n8 : k ≠ 8) (n9 : k ≠ 9) :
    Calls Try.prog 60 #[.pointer (some ⟨g, 0, none⟩)] w fun e w' => e = .returned (.tuple #[.slice none 0 0, .slice none 0 0]) ∧ Below w.heap.size w w' := by
  have h0 : w.cell? ⟨g, 0, none⟩ = some (.int .i64 k) := (blk_cell h 0).trans rfl
  have b1 : (k == 1) = false := beq_eq_false_iff_ne.mpr n1
  have b2 : (k == 2) = false := beq_eq_false_iff_ne.mpr n2
  have b3 : (k == 3) = false := beq_eq_false_iff_ne.mpr n3
  have b4 : (k == 4) = false := beq_eq_false_iff_ne.mpr n4
  have b5 : (k == 5) = false := beq_eq_false_iff_ne.mpr n5
  have b6 : (k == 6) = false := beq_eq_false_iff_ne.mpr n6
  have b7 : (k == 7) = false := beq_eq_false_iff_ne.mpr n7
  have b8 : (k == 8) = false := beq_eq_false_iff_ne.mpr n8
  have b9 : (k == 9) = false := beq_eq_false_iff_ne.mpr n9
  clear h
  go_enter Try.func60, Try.ntmps60
  go_wp2
  go_ret2
  exact ⟨rfl, by repeat (first | exact Below.refl _ _ | apply below_alloc | apply pw_below_drewN | apply below_drew1)⟩
/-- The numbers of a record that its kind has. -/
def flds (k c1 c2 c3 c4 c5 : Int) : List Int :=
  if k = 1 then [c1, c2, c3] else if k = 2 then [c1, c2] else if k = 3 then [c3, c4] else if k = 4 then [c1, c5] else if k = 5 then [c1] else if k = 6 then [c1, c4] else if k = 7 then [c1] else if k = 8 then [c3] else if k = 9 then [c3, c5] else []
def mosts (k : Int) : List Int :=
  if k = 1 then [15, 1023, 511] else if k = 2 then [15, 1023] else if k = 3 then [511, 511] else if k = 4 then [15, 1024] else if k = 5 then [15] else if k = 6 then [15, 15] else if k = 7 then [15] else if k = 8 then [31] else if k = 9 then [31, 1073741824] else []
def mkR (k : Int) (l : List Int) : Int × Int × Int × Int × Int :=
  if k = 1 then (l.getD 0 0, l.getD 1 0, l.getD 2 0, 0, 0) else if k = 2 then (l.getD 0 0, l.getD 1 0, 0, 0, 0) else if k = 3 then (0, 0, l.getD 0 0, l.getD 1 0, 0) else if k = 4 then (l.getD 0 0, 0, 0, 0, l.getD 1 0) else if k = 5 then (l.getD 0 0, 0, 0, 0, 0) else if k = 6 then (l.getD 0 0, 0, 0, l.getD 1 0, 0) else if k = 7 then (l.getD 0 0, 0, 0, 0, 0) else if k = 8 then (0, 0, l.getD 0 0, 0, 0) else if k = 9 then (0, 0, l.getD 0 0, 0, l.getD 1 0) else (0, 0, 0, 0, 0)
theorem flds_none {k c1 c2 c3 c4 c5 : Int} (n1 : k ≠ 1) (n2 : k ≠ 2) (n3 : k ≠ 3) (n4 : k ≠ 4) (n5 : k ≠ 5) (n6 : k ≠ 6) (n7 : k ≠ 7) (n8 : k ≠ 8) (n9 : k ≠ 9) : flds k c1 c2 c3 c4 c5 = [] := by unfold flds; rw [if_neg n1, if_neg n2, if_neg n3, if_neg n4, if_neg n5, if_neg n6, if_neg n7, if_neg n8, if_neg n9]
theorem mosts_none {k : Int} (n1 : k ≠ 1) (n2 : k ≠ 2) (n3 : k ≠ 3) (n4 : k ≠ 4) (n5 : k ≠ 5) (n6 : k ≠ 6) (n7 : k ≠ 7) (n8 : k ≠ 8) (n9 : k ≠ 9) : mosts k = [] := by unfold mosts; rw [if_neg n1, if_neg n2, if_neg n3, if_neg n4, if_neg n5, if_neg n6, if_neg n7, if_neg n8, if_neg n9]
theorem rec_new (w : World) (k c1 c2 c3 c4 c5 : Int) : IsRec (w.alloc (.cells #[.int .i64 k, .int .i64 c1, .int .i64 c2, .int .i64 c3, .int .i64 c4, .int .i64 c5] 58)) w.heap.size k c1 c2 c3 c4 c5 := by
  show (w.heap.push _)[w.heap.size]? = _
  simp
theorem size_alloc (w : World) (o : Obj) : (w.alloc o).heap.size = w.heap.size + 1 := by
  show (w.heap.push o).size = _
  rw [Array.size_push]
def inB (c m : Int) : Bool := decide (0 ≤ c) && decide (c ≤ m)
/-- May a record be? -/
def chk (k c1 c2 c3 c4 c5 : Int) : Bool :=
  if k = 1 then (inB c1 15 && inB c2 1023 && inB c3 511 && decide (c1 ≥ 1) && (c4 == 0) && (c5 == 0)) else if k = 2 then (inB c1 15 && inB c2 1023 && decide (c1 ≥ 1) && (c3 == 0) && (c4 == 0) && (c5 == 0)) else if k = 3 then (inB c3 511 && inB c4 511 && (c1 == 0) && (c2 == 0) && (c5 == 0)) else if k = 4 then (inB c1 15 && inB c5 1024 && decide (c1 ≥ 1) && decide (c5 ≥ 1) && (c2 == 0) && (c3 == 0) && (c4 == 0)) else if k = 5 then (inB c1 15 && decide (c1 ≥ 1) && (c2 == 0) && (c3 == 0) && (c4 == 0) && (c5 == 0)) else if k = 6 then (inB c1 15 && inB c4 15 && decide (c1 ≥ 1) && decide (c4 ≥ 1) && (c2 == 0) && (c3 == 0) && (c5 == 0)) else if k = 7 then (inB c1 15 && decide (c1 ≥ 1) && (c2 == 0) && (c3 == 0) && (c4 == 0) && (c5 == 0)) else if k = 8 then (inB c3 31 && (c1 == 0) && (c2 == 0) && (c4 == 0) && (c5 == 0)) else if k = 9 then (inB c3 31 && inB c5 1073741824 && (c1 == 0) && (c2 == 0) && (c4 == 0)) else false
set_option maxHeartbeats 8000000 in
set_option maxRecDepth 100000 in
theorem check_1 (c1 c2 c3 c4 c5 : Int) (w : World) : Calls Try.prog 41 #[.agg #[.int .i64 1, .int .i64 c1, .int .i64 c2, .int .i64 c3, .int .i64 c4, .int .i64 c5]] w fun e w' => e = .returned (.bool (chk 1 c1 c2 c3 c4 c5)) ∧ Below w.heap.size w w' := by
  have hsn : ∀ (w : World) (a : Option Addr) (l c : Nat), (binOp .eql 87 (.slice a l c) (.slice none 0 0)).run Try.prog w = .ok (.bool a.isNone) w := fun w a l c => run_eql_slice_nil w 87 92 a l c Try.underlying87
  go_enter Try.func41, Try.ntmps41
  go_wp2_with (go_at_call 60; refine (fields_1 w.heap.size c1 c2 c3 c4 c5 _ (rec_new w 1 c1 c2 c3 c4 c5)).mono ?_; rintro e w2 ⟨vl, vm, rfl, ⟨bl, rfl, hl, gl⟩, ⟨bm, rfl, hm, gm⟩, hb⟩; have hbl : ¬ (w.heap.size = bl) := (by rw [size_alloc] at gl; omega); have hbl' : ¬ (bl = w.heap.size) := (by rw [size_alloc] at gl; omega); clear gl gm; have cl0 : w2.cell? ⟨bl, 0, none⟩ = some (.pointer (some ⟨w.heap.size, 1, none⟩)) := (blk_cell hl 0).trans rfl; have cl1 : w2.cell? ⟨bl, 1, none⟩ = some (.pointer (some ⟨w.heap.size, 2, none⟩)) := (blk_cell hl 1).trans rfl; have cl2 : w2.cell? ⟨bl, 2, none⟩ = some (.pointer (some ⟨w.heap.size, 3, none⟩)) := (blk_cell hl 2).trans rfl; have cm0 : w2.cell? ⟨bm, 0, none⟩ = some (.int .i64 15) := (blk_cell hm 0).trans rfl; have cm1 : w2.cell? ⟨bm, 1, none⟩ = some (.int .i64 1023) := (blk_cell hm 1).trans rfl; have cm2 : w2.cell? ⟨bm, 2, none⟩ = some (.int .i64 511) := (blk_cell hm 2).trans rfl; have hr : IsRec w2 w.heap.size 1 c1 c2 c3 c4 c5 := (hb.block _ (by rw [size_alloc]; omega)).trans (rec_new w 1 c1 c2 c3 c4 c5); clear hl hm)
  have HB : Below w.heap.size w w2 := below_step (below_alloc (Below.refl _ _) _) hb
  clear hb
  have hc0 : w2.cell? ⟨w.heap.size, 0, none⟩ = some (.int .i64 1) := (blk_cell hr 0).trans rfl
  have hc1 : w2.cell? ⟨w.heap.size, 1, none⟩ = some (.int .i64 c1) := (blk_cell hr 1).trans rfl
  have hc2 : w2.cell? ⟨w.heap.size, 2, none⟩ = some (.int .i64 c2) := (blk_cell hr 2).trans rfl
  have hc3 : w2.cell? ⟨w.heap.size, 3, none⟩ = some (.int .i64 c3) := (blk_cell hr 3).trans rfl
  have hc4 : w2.cell? ⟨w.heap.size, 4, none⟩ = some (.int .i64 c4) := (blk_cell hr 4).trans rfl
  have hc5 : w2.cell? ⟨w.heap.size, 5, none⟩ = some (.int .i64 c5) := (blk_cell hr 5).trans rfl
  have hf1 := blk_frozen hr 1
  have hf2 := blk_frozen hr 2
  have hf3 := blk_frozen hr 3
  clear hr
  refine wp_loop_rounds 4 ?_
  rw [rounds_succ]
  go_wp2
  cases hb0 : (decide (0 ≤ c1) && decide (c1 ≤ 15))
  · go_quiet (first | (go_at_call 61; exact Calls.quiet_of ((in_calls _ _ _ _).mono (fun e w3 h => ⟨h.1, h.2.out⟩))) | (go_at_call 61; exact quiet2 ((in_calls _ _ _ _).mono (fun e w3 h => ⟨h.1, h.2.out⟩))))
    go_wp2
    go_ret
    exact ⟨by first | rfl | (simp [chk, inB, *]; done) | (have ht_ := of_decide_eq_true ht1; simp [chk, inB, *] <;> omega) | (have ht_ := of_decide_eq_true ht0; simp [chk, inB, *] <;> omega) | (have ht_ := of_decide_eq_false ht1; have ht2_ := of_decide_eq_true ht0; simp [chk, inB, *] <;> omega) | (simp [chk, inB, *] <;> omega), by repeat (first | exact HB | apply pw_below_drewN | apply below_drew1 | refine below_set ?_ (Nat.le_refl _))⟩
  · go_quiet (first | (go_at_call 61; exact Calls.quiet_of ((in_calls _ _ _ _).mono (fun e w3 h => ⟨h.1, h.2.out⟩))) | (go_at_call 61; exact quiet2 ((in_calls _ _ _ _).mono (fun e w3 h => ⟨h.1, h.2.out⟩))))
    go_wp2
    rw [rounds_succ]
    go_wp2
    cases hb1 : (decide (0 ≤ c2) && decide (c2 ≤ 1023))
    · go_quiet (first | (go_at_call 61; exact Calls.quiet_of ((in_calls _ _ _ _).mono (fun e w3 h => ⟨h.1, h.2.out⟩))) | (go_at_call 61; exact quiet2 ((in_calls _ _ _ _).mono (fun e w3 h => ⟨h.1, h.2.out⟩))))
      go_wp2
      go_ret
      exact ⟨by first | rfl | (simp [chk, inB, *]; done) | (have ht_ := of_decide_eq_true ht1; simp [chk, inB, *] <;> omega) | (have ht_ := of_decide_eq_true ht0; simp [chk, inB, *] <;> omega) | (have ht_ := of_decide_eq_false ht1; have ht2_ := of_decide_eq_true ht0; simp [chk, inB, *] <;> omega) | (simp [chk, inB, *] <;> omega), by repeat (first | exact HB | apply pw_below_drewN | apply below_drew1 | refine below_set ?_ (Nat.le_refl _))⟩
    · go_quiet (first | (go_at_call 61; exact Calls.quiet_of ((in_calls _ _ _ _).mono (fun e w3 h => ⟨h.1, h.2.out⟩))) | (go_at_call 61; exact quiet2 ((in_calls _ _ _ _).mono (fun e w3 h => ⟨h.1, h.2.out⟩))))
      go_wp2
      rw [rounds_succ]
      go_wp2
      cases hb2 : (decide (0 ≤ c3) && decide (c3 ≤ 511))
      · go_quiet (first | (go_at_call 61; exact Calls.quiet_of ((in_calls _ _ _ _).mono (fun e w3 h => ⟨h.1, h.2.out⟩))) | (go_at_call 61; exact quiet2 ((in_calls _ _ _ _).mono (fun e w3 h => ⟨h.1, h.2.out⟩))))
        go_wp2
        go_ret
        exact ⟨by first | rfl | (simp [chk, inB, *]; done) | (have ht_ := of_decide_eq_true ht1; simp [chk, inB, *] <;> omega) | (have ht_ := of_decide_eq_true ht0; simp [chk, inB, *] <;> omega) | (have ht_ := of_decide_eq_false ht1; have ht2_ := of_decide_eq_true ht0; simp [chk, inB, *] <;> omega) | (simp [chk, inB, *] <;> omega), by repeat (first | exact HB | apply pw_below_drewN | apply below_drew1 | refine below_set ?_ (Nat.le_refl _))⟩
      · go_quiet (first | (go_at_call 61; exact Calls.quiet_of ((in_calls _ _ _ _).mono (fun e w3 h => ⟨h.1, h.2.out⟩))) | (go_at_call 61; exact quiet2 ((in_calls _ _ _ _).mono (fun e w3 h => ⟨h.1, h.2.out⟩))))
        go_wp2
        cases ht0 : decide (c1 ≥ 1)
        · rw [rounds_succ]
          go_wp2
          all_goals go_ret
          all_goals exact ⟨by first | rfl | (simp [chk, inB, *]; done) | (have ht_ := of_decide_eq_true ht1; simp [chk, inB, *] <;> omega) | (have ht_ := of_decide_eq_true ht0; simp [chk, inB, *] <;> omega) | (have ht_ := of_decide_eq_false ht1; have ht2_ := of_decide_eq_true ht0; simp [chk, inB, *] <;> omega) | (simp [chk, inB, *] <;> omega), by repeat (first | exact HB | apply pw_below_drewN | apply below_drew1 | refine below_set ?_ (Nat.le_refl _))⟩
        · skip
          rw [rounds_succ]
          go_wp2
          refine wp_loop_rounds 4 ?_
          rw [rounds_succ]
          go_wp2
          rw [rounds_succ]
          go_wp2
          rw [rounds_succ]
          go_wp2
          rw [rounds_succ]
          go_wp2
          all_goals go_ret
          all_goals exact ⟨by first | rfl | (simp [chk, inB, *]; done) | (have ht_ := of_decide_eq_true ht1; simp [chk, inB, *] <;> omega) | (have ht_ := of_decide_eq_true ht0; simp [chk, inB, *] <;> omega) | (have ht_ := of_decide_eq_false ht1; have ht2_ := of_decide_eq_true ht0; simp [chk, inB, *] <;> omega) | (simp [chk, inB, *] <;> omega), by repeat (first | exact HB | apply pw_below_drewN | apply below_drew1 | refine below_set ?_ (Nat.le_refl _))⟩
set_option maxHeartbeats 8000000 in
set_option maxRecDepth 100000 in
theorem check_2 (c1 c2 c3 c4 c5 : Int) (w : World) : Calls Try.prog 41 #[.agg #[.int .i64 2, .int .i64 c1, .int .i64 c2, .int .i64 c3, .int .i64 c4, .int .i64 c5]] w fun e w' => e = .returned (.bool (chk 2 c1 c2 c3 c4 c5)) ∧ Below w.heap.size w w' := by
  have hsn : ∀ (w : World) (a : Option Addr) (l c : Nat), (binOp .eql 87 (.slice a l c) (.slice none 0 0)).run Try.prog w = .ok (.bool a.isNone) w := fun w a l c => run_eql_slice_nil w 87 92 a l c Try.underlying87
  go_enter Try.func41, Try.ntmps41
  go_wp2_with (go_at_call 60; refine (fields_2 w.heap.size c1 c2 c3 c4 c5 _ (rec_new w 2 c1 c2 c3 c4 c5)).mono ?_; rintro e w2 ⟨vl, vm, rfl, ⟨bl, rfl, hl, gl⟩, ⟨bm, rfl, hm, gm⟩, hb⟩; have hbl : ¬ (w.heap.size = bl) := (by rw [size_alloc] at gl; omega); have hbl' : ¬ (bl = w.heap.size) := (by rw [size_alloc] at gl; omega); clear gl gm; have cl0 : w2.cell? ⟨bl, 0, none⟩ = some (.pointer (some ⟨w.heap.size, 1, none⟩)) := (blk_cell hl 0).trans rfl; have cl1 : w2.cell? ⟨bl, 1, none⟩ = some (.pointer (some ⟨w.heap.size, 2, none⟩)) := (blk_cell hl 1).trans rfl; have cm0 : w2.cell? ⟨bm, 0, none⟩ = some (.int .i64 15) := (blk_cell hm 0).trans rfl; have cm1 : w2.cell? ⟨bm, 1, none⟩ = some (.int .i64 1023) := (blk_cell hm 1).trans rfl; have hr : IsRec w2 w.heap.size 2 c1 c2 c3 c4 c5 := (hb.block _ (by rw [size_alloc]; omega)).trans (rec_new w 2 c1 c2 c3 c4 c5); clear hl hm)
  have HB : Below w.heap.size w w2 := below_step (below_alloc (Below.refl _ _) _) hb
  clear hb
  have hc0 : w2.cell? ⟨w.heap.size, 0, none⟩ = some (.int .i64 2) := (blk_cell hr 0).trans rfl
  have hc1 : w2.cell? ⟨w.heap.size, 1, none⟩ = some (.int .i64 c1) := (blk_cell hr 1).trans rfl
  have hc2 : w2.cell? ⟨w.heap.size, 2, none⟩ = some (.int .i64 c2) := (blk_cell hr 2).trans rfl
  have hc3 : w2.cell? ⟨w.heap.size, 3, none⟩ = some (.int .i64 c3) := (blk_cell hr 3).trans rfl
  have hc4 : w2.cell? ⟨w.heap.size, 4, none⟩ = some (.int .i64 c4) := (blk_cell hr 4).trans rfl
  have hc5 : w2.cell? ⟨w.heap.size, 5, none⟩ = some (.int .i64 c5) := (blk_cell hr 5).trans rfl
  have hf1 := blk_frozen hr 1
  have hf2 := blk_frozen hr 2
  clear hr
  refine wp_loop_rounds 3 ?_
  rw [rounds_succ]
  go_wp2
  cases hb0 : (decide (0 ≤ c1) && decide (c1 ≤ 15))
  · go_quiet (first | (go_at_call 61; exact Calls.quiet_of ((in_calls _ _ _ _).mono (fun e w3 h => ⟨h.1, h.2.out⟩))) | (go_at_call 61; exact quiet2 ((in_calls _ _ _ _).mono (fun e w3 h => ⟨h.1, h.2.out⟩))))
    go_wp2
    go_ret
    exact ⟨by first | rfl | (simp [chk, inB, *]; done) | (have ht_ := of_decide_eq_true ht1; simp [chk, inB, *] <;> omega) | (have ht_ := of_decide_eq_true ht0; simp [chk, inB, *] <;> omega) | (have ht_ := of_decide_eq_false ht1; have ht2_ := of_decide_eq_true ht0; simp [chk, inB, *] <;> omega) | (simp [chk, inB, *] <;> omega), by repeat (first | exact HB | apply pw_below_drewN | apply below_drew1 | refine below_set ?_ (Nat.le_refl _))⟩
  · go_quiet (first | (go_at_call 61; exact Calls.quiet_of ((in_calls _ _ _ _).mono (fun e w3 h => ⟨h.1, h.2.out⟩))) | (go_at_call 61; exact quiet2 ((in_calls _ _ _ _).mono (fun e w3 h => ⟨h.1, h.2.out⟩))))
    go_wp2
    rw [rounds_succ]
    go_wp2
    cases hb1 : (decide (0 ≤ c2) && decide (c2 ≤ 1023))
    · go_quiet (first | (go_at_call 61; exact Calls.quiet_of ((in_calls _ _ _ _).mono (fun e w3 h => ⟨h.1, h.2.out⟩))) | (go_at_call 61; exact quiet2 ((in_calls _ _ _ _).mono (fun e w3 h => ⟨h.1, h.2.out⟩))))
      go_wp2
      go_ret
      exact ⟨by first | rfl | (simp [chk, inB, *]; done) | (have ht_ := of_decide_eq_true ht1; simp [chk, inB, *] <;> omega) | (have ht_ := of_decide_eq_true ht0; simp [chk, inB, *] <;> omega) | (have ht_ := of_decide_eq_false ht1; have ht2_ := of_decide_eq_true ht0; simp [chk, inB, *] <;> omega) | (simp [chk, inB, *] <;> omega), by repeat (first | exact HB | apply pw_below_drewN | apply below_drew1 | refine below_set ?_ (Nat.le_refl _))⟩
    · go_quiet (first | (go_at_call 61; exact Calls.quiet_of ((in_calls _ _ _ _).mono (fun e w3 h => ⟨h.1, h.2.out⟩))) | (go_at_call 61; exact quiet2 ((in_calls _ _ _ _).mono (fun e w3 h => ⟨h.1, h.2.out⟩))))
      go_wp2
      cases ht0 : decide (c1 ≥ 1)
      · rw [rounds_succ]
        go_wp2
        all_goals go_ret
        all_goals exact ⟨by first | rfl | (simp [chk, inB, *]; done) | (have ht_ := of_decide_eq_true ht1; simp [chk, inB, *] <;> omega) | (have ht_ := of_decide_eq_true ht0; simp [chk, inB, *] <;> omega) | (have ht_ := of_decide_eq_false ht1; have ht2_ := of_decide_eq_true ht0; simp [chk, inB, *] <;> omega) | (simp [chk, inB, *] <;> omega), by repeat (first | exact HB | apply pw_below_drewN | apply below_drew1 | refine below_set ?_ (Nat.le_refl _))⟩
      · skip
        rw [rounds_succ]
        go_wp2
        refine wp_loop_rounds 3 ?_
        rw [rounds_succ]
        go_wp2
        rw [rounds_succ]
        go_wp2
        rw [rounds_succ]
        go_wp2
        all_goals go_ret
        all_goals exact ⟨by first | rfl | (simp [chk, inB, *]; done) | (have ht_ := of_decide_eq_true ht1; simp [chk, inB, *] <;> omega) | (have ht_ := of_decide_eq_true ht0; simp [chk, inB, *] <;> omega) | (have ht_ := of_decide_eq_false ht1; have ht2_ := of_decide_eq_true ht0; simp [chk, inB, *] <;> omega) | (simp [chk, inB, *] <;> omega), by repeat (first | exact HB | apply pw_below_drewN | apply below_drew1 | refine below_set ?_ (Nat.le_refl _))⟩
set_option maxHeartbeats 8000000 in
set_option maxRecDepth 100000 in
theorem check_3 (c1 c2 c3 c4 c5 : Int) (w : World) : Calls Try.prog 41 #[.agg #[.int .i64 3, .int .i64 c1, .int .i64 c2, .int .i64 c3, .int .i64 c4, .int .i64 c5]] w fun e w' => e = .returned (.bool (chk 3 c1 c2 c3 c4 c5)) ∧ Below w.heap.size w w' := by
  have hsn : ∀ (w : World) (a : Option Addr) (l c : Nat), (binOp .eql 87 (.slice a l c) (.slice none 0 0)).run Try.prog w = .ok (.bool a.isNone) w := fun w a l c => run_eql_slice_nil w 87 92 a l c Try.underlying87
  go_enter Try.func41, Try.ntmps41
  go_wp2_with (go_at_call 60; refine (fields_3 w.heap.size c1 c2 c3 c4 c5 _ (rec_new w 3 c1 c2 c3 c4 c5)).mono ?_; rintro e w2 ⟨vl, vm, rfl, ⟨bl, rfl, hl, gl⟩, ⟨bm, rfl, hm, gm⟩, hb⟩; have hbl : ¬ (w.heap.size = bl) := (by rw [size_alloc] at gl; omega); have hbl' : ¬ (bl = w.heap.size) := (by rw [size_alloc] at gl; omega); clear gl gm; have cl0 : w2.cell? ⟨bl, 0, none⟩ = some (.pointer (some ⟨w.heap.size, 3, none⟩)) := (blk_cell hl 0).trans rfl; have cl1 : w2.cell? ⟨bl, 1, none⟩ = some (.pointer (some ⟨w.heap.size, 4, none⟩)) := (blk_cell hl 1).trans rfl; have cm0 : w2.cell? ⟨bm, 0, none⟩ = some (.int .i64 511) := (blk_cell hm 0).trans rfl; have cm1 : w2.cell? ⟨bm, 1, none⟩ = some (.int .i64 511) := (blk_cell hm 1).trans rfl; have hr : IsRec w2 w.heap.size 3 c1 c2 c3 c4 c5 := (hb.block _ (by rw [size_alloc]; omega)).trans (rec_new w 3 c1 c2 c3 c4 c5); clear hl hm)
  have HB : Below w.heap.size w w2 := below_step (below_alloc (Below.refl _ _) _) hb
  clear hb
  have hc0 : w2.cell? ⟨w.heap.size, 0, none⟩ = some (.int .i64 3) := (blk_cell hr 0).trans rfl
  have hc1 : w2.cell? ⟨w.heap.size, 1, none⟩ = some (.int .i64 c1) := (blk_cell hr 1).trans rfl
  have hc2 : w2.cell? ⟨w.heap.size, 2, none⟩ = some (.int .i64 c2) := (blk_cell hr 2).trans rfl
  have hc3 : w2.cell? ⟨w.heap.size, 3, none⟩ = some (.int .i64 c3) := (blk_cell hr 3).trans rfl
  have hc4 : w2.cell? ⟨w.heap.size, 4, none⟩ = some (.int .i64 c4) := (blk_cell hr 4).trans rfl
  have hc5 : w2.cell? ⟨w.heap.size, 5, none⟩ = some (.int .i64 c5) := (blk_cell hr 5).trans rfl
  have hf3 := blk_frozen hr 3
  have hf4 := blk_frozen hr 4
  clear hr
  refine wp_loop_rounds 3 ?_
  rw [rounds_succ]
  go_wp2
  cases hb0 : (decide (0 ≤ c3) && decide (c3 ≤ 511))
  · go_quiet (first | (go_at_call 61; exact Calls.quiet_of ((in_calls _ _ _ _).mono (fun e w3 h => ⟨h.1, h.2.out⟩))) | (go_at_call 61; exact quiet2 ((in_calls _ _ _ _).mono (fun e w3 h => ⟨h.1, h.2.out⟩))))
    go_wp2
    go_ret
    exact ⟨by first | rfl | (simp [chk, inB, *]; done) | (have ht_ := of_decide_eq_true ht1; simp [chk, inB, *] <;> omega) | (have ht_ := of_decide_eq_true ht0; simp [chk, inB, *] <;> omega) | (have ht_ := of_decide_eq_false ht1; have ht2_ := of_decide_eq_true ht0; simp [chk, inB, *] <;> omega) | (simp [chk, inB, *] <;> omega), by repeat (first | exact HB | apply pw_below_drewN | apply below_drew1 | refine below_set ?_ (Nat.le_refl _))⟩
  · go_quiet (first | (go_at_call 61; exact Calls.quiet_of ((in_calls _ _ _ _).mono (fun e w3 h => ⟨h.1, h.2.out⟩))) | (go_at_call 61; exact quiet2 ((in_calls _ _ _ _).mono (fun e w3 h => ⟨h.1, h.2.out⟩))))
    go_wp2
    rw [rounds_succ]
    go_wp2
    cases hb1 : (decide (0 ≤ c4) && decide (c4 ≤ 511))
    · go_quiet (first | (go_at_call 61; exact Calls.quiet_of ((in_calls _ _ _ _).mono (fun e w3 h => ⟨h.1, h.2.out⟩))) | (go_at_call 61; exact quiet2 ((in_calls _ _ _ _).mono (fun e w3 h => ⟨h.1, h.2.out⟩))))
      go_wp2
      go_ret
      exact ⟨by first | rfl | (simp [chk, inB, *]; done) | (have ht_ := of_decide_eq_true ht1; simp [chk, inB, *] <;> omega) | (have ht_ := of_decide_eq_true ht0; simp [chk, inB, *] <;> omega) | (have ht_ := of_decide_eq_false ht1; have ht2_ := of_decide_eq_true ht0; simp [chk, inB, *] <;> omega) | (simp [chk, inB, *] <;> omega), by repeat (first | exact HB | apply pw_below_drewN | apply below_drew1 | refine below_set ?_ (Nat.le_refl _))⟩
    · go_quiet (first | (go_at_call 61; exact Calls.quiet_of ((in_calls _ _ _ _).mono (fun e w3 h => ⟨h.1, h.2.out⟩))) | (go_at_call 61; exact quiet2 ((in_calls _ _ _ _).mono (fun e w3 h => ⟨h.1, h.2.out⟩))))
      go_wp2
      rw [rounds_succ]
      go_wp2
      refine wp_loop_rounds 3 ?_
      rw [rounds_succ]
      go_wp2
      rw [rounds_succ]
      go_wp2
      rw [rounds_succ]
      go_wp2
      all_goals go_ret
      all_goals exact ⟨by first | rfl | (simp [chk, inB, *]; done) | (have ht_ := of_decide_eq_true ht1; simp [chk, inB, *] <;> omega) | (have ht_ := of_decide_eq_true ht0; simp [chk, inB, *] <;> omega) | (have ht_ := of_decide_eq_false ht1; have ht2_ := of_decide_eq_true ht0; simp [chk, inB, *] <;> omega) | (simp [chk, inB, *] <;> omega), by repeat (first | exact HB | apply pw_below_drewN | apply below_drew1 | refine below_set ?_ (Nat.le_refl _))⟩
set_option maxHeartbeats 8000000 in
set_option maxRecDepth 100000 in
theorem check_4 (c1 c2 c3 c4 c5 : Int) (w : World) : Calls Try.prog 41 #[.agg #[.int .i64 4, .int .i64 c1, .int .i64 c2, .int .i64 c3, .int .i64 c4, .int .i64 c5]] w fun e w' => e = .returned (.bool (chk 4 c1 c2 c3 c4 c5)) ∧ Below w.heap.size w w' := by
  have hsn : ∀ (w : World) (a : Option Addr) (l c : Nat), (binOp .eql 87 (.slice a l c) (.slice none 0 0)).run Try.prog w = .ok (.bool a.isNone) w := fun w a l c => run_eql_slice_nil w 87 92 a l c Try.underlying87
  go_enter Try.func41, Try.ntmps41
  go_wp2_with (go_at_call 60; refine (fields_4 w.heap.size c1 c2 c3 c4 c5 _ (rec_new w 4 c1 c2 c3 c4 c5)).mono ?_; rintro e w2 ⟨vl, vm, rfl, ⟨bl, rfl, hl, gl⟩, ⟨bm, rfl, hm, gm⟩, hb⟩; have hbl : ¬ (w.heap.size = bl) := (by rw [size_alloc] at gl; omega); have hbl' : ¬ (bl = w.heap.size) := (by rw [size_alloc] at gl; omega); clear gl gm; have cl0 : w2.cell? ⟨bl, 0, none⟩ = some (.pointer (some ⟨w.heap.size, 1, none⟩)) := (blk_cell hl 0).trans rfl; have cl1 : w2.cell? ⟨bl, 1, none⟩ = some (.pointer (some ⟨w.heap.size, 5, none⟩)) := (blk_cell hl 1).trans rfl; have cm0 : w2.cell? ⟨bm, 0, none⟩ = some (.int .i64 15) := (blk_cell hm 0).trans rfl; have cm1 : w2.cell? ⟨bm, 1, none⟩ = some (.int .i64 1024) := (blk_cell hm 1).trans rfl; have hr : IsRec w2 w.heap.size 4 c1 c2 c3 c4 c5 := (hb.block _ (by rw [size_alloc]; omega)).trans (rec_new w 4 c1 c2 c3 c4 c5); clear hl hm)
  have HB : Below w.heap.size w w2 := below_step (below_alloc (Below.refl _ _) _) hb
  clear hb
  have hc0 : w2.cell? ⟨w.heap.size, 0, none⟩ = some (.int .i64 4) := (blk_cell hr 0).trans rfl
  have hc1 : w2.cell? ⟨w.heap.size, 1, none⟩ = some (.int .i64 c1) := (blk_cell hr 1).trans rfl
  have hc2 : w2.cell? ⟨w.heap.size, 2, none⟩ = some (.int .i64 c2) := (blk_cell hr 2).trans rfl
  have hc3 : w2.cell? ⟨w.heap.size, 3, none⟩ = some (.int .i64 c3) := (blk_cell hr 3).trans rfl
  have hc4 : w2.cell? ⟨w.heap.size, 4, none⟩ = some (.int .i64 c4) := (blk_cell hr 4).trans rfl
  have hc5 : w2.cell? ⟨w.heap.size, 5, none⟩ = some (.int .i64 c5) := (blk_cell hr 5).trans rfl
  have hf1 := blk_frozen hr 1
  have hf5 := blk_frozen hr 5
  clear hr
  refine wp_loop_rounds 3 ?_
  rw [rounds_succ]
  go_wp2
  cases hb0 : (decide (0 ≤ c1) && decide (c1 ≤ 15))
  · go_quiet (first | (go_at_call 61; exact Calls.quiet_of ((in_calls _ _ _ _).mono (fun e w3 h => ⟨h.1, h.2.out⟩))) | (go_at_call 61; exact quiet2 ((in_calls _ _ _ _).mono (fun e w3 h => ⟨h.1, h.2.out⟩))))
    go_wp2
    go_ret
    exact ⟨by first | rfl | (simp [chk, inB, *]; done) | (have ht_ := of_decide_eq_true ht1; simp [chk, inB, *] <;> omega) | (have ht_ := of_decide_eq_true ht0; simp [chk, inB, *] <;> omega) | (have ht_ := of_decide_eq_false ht1; have ht2_ := of_decide_eq_true ht0; simp [chk, inB, *] <;> omega) | (simp [chk, inB, *] <;> omega), by repeat (first | exact HB | apply pw_below_drewN | apply below_drew1 | refine below_set ?_ (Nat.le_refl _))⟩
  · go_quiet (first | (go_at_call 61; exact Calls.quiet_of ((in_calls _ _ _ _).mono (fun e w3 h => ⟨h.1, h.2.out⟩))) | (go_at_call 61; exact quiet2 ((in_calls _ _ _ _).mono (fun e w3 h => ⟨h.1, h.2.out⟩))))
    go_wp2
    rw [rounds_succ]
    go_wp2
    cases hb1 : (decide (0 ≤ c5) && decide (c5 ≤ 1024))
    · go_quiet (first | (go_at_call 61; exact Calls.quiet_of ((in_calls _ _ _ _).mono (fun e w3 h => ⟨h.1, h.2.out⟩))) | (go_at_call 61; exact quiet2 ((in_calls _ _ _ _).mono (fun e w3 h => ⟨h.1, h.2.out⟩))))
      go_wp2
      go_ret
      exact ⟨by first | rfl | (simp [chk, inB, *]; done) | (have ht_ := of_decide_eq_true ht1; simp [chk, inB, *] <;> omega) | (have ht_ := of_decide_eq_true ht0; simp [chk, inB, *] <;> omega) | (have ht_ := of_decide_eq_false ht1; have ht2_ := of_decide_eq_true ht0; simp [chk, inB, *] <;> omega) | (simp [chk, inB, *] <;> omega), by repeat (first | exact HB | apply pw_below_drewN | apply below_drew1 | refine below_set ?_ (Nat.le_refl _))⟩
    · go_quiet (first | (go_at_call 61; exact Calls.quiet_of ((in_calls _ _ _ _).mono (fun e w3 h => ⟨h.1, h.2.out⟩))) | (go_at_call 61; exact quiet2 ((in_calls _ _ _ _).mono (fun e w3 h => ⟨h.1, h.2.out⟩))))
      go_wp2
      cases ht0 : decide (c1 ≥ 1)
      · rw [rounds_succ]
        go_wp2
        all_goals go_ret
        all_goals exact ⟨by first | rfl | (simp [chk, inB, *]; done) | (have ht_ := of_decide_eq_true ht1; simp [chk, inB, *] <;> omega) | (have ht_ := of_decide_eq_true ht0; simp [chk, inB, *] <;> omega) | (have ht_ := of_decide_eq_false ht1; have ht2_ := of_decide_eq_true ht0; simp [chk, inB, *] <;> omega) | (simp [chk, inB, *] <;> omega), by repeat (first | exact HB | apply pw_below_drewN | apply below_drew1 | refine below_set ?_ (Nat.le_refl _))⟩
      · skip
        cases ht1 : decide (c5 < 1)
        case true =>
          rw [rounds_succ]
          go_wp2
          all_goals go_ret
          all_goals exact ⟨by first | rfl | (simp [chk, inB, *]; done) | (have ht_ := of_decide_eq_true ht1; simp [chk, inB, *] <;> omega) | (have ht_ := of_decide_eq_true ht0; simp [chk, inB, *] <;> omega) | (have ht_ := of_decide_eq_false ht1; have ht2_ := of_decide_eq_true ht0; simp [chk, inB, *] <;> omega) | (simp [chk, inB, *] <;> omega), by repeat (first | exact HB | apply pw_below_drewN | apply below_drew1 | refine below_set ?_ (Nat.le_refl _))⟩
        rw [rounds_succ]
        go_wp2
        refine wp_loop_rounds 3 ?_
        rw [rounds_succ]
        go_wp2
        rw [rounds_succ]
        go_wp2
        rw [rounds_succ]
        go_wp2
        all_goals go_ret
        all_goals exact ⟨by first | rfl | (simp [chk, inB, *]; done) | (have ht_ := of_decide_eq_true ht1; simp [chk, inB, *] <;> omega) | (have ht_ := of_decide_eq_true ht0; simp [chk, inB, *] <;> omega) | (have ht_ := of_decide_eq_false ht1; have ht2_ := of_decide_eq_true ht0; simp [chk, inB, *] <;> omega) | (simp [chk, inB, *] <;> omega), by repeat (first | exact HB | apply pw_below_drewN | apply below_drew1 | refine below_set ?_ (Nat.le_refl _))⟩
set_option maxHeartbeats 8000000 in
set_option maxRecDepth 100000 in
theorem check_5 (c1 c2 c3 c4 c5 : Int) (w : World) : Calls Try.prog 41 #[.agg #[.int .i64 5, .int .i64 c1, .int .i64 c2, .int .i64 c3, .int .i64 c4, .int .i64 c5]] w fun e w' => e = .returned (.bool (chk 5 c1 c2 c3 c4 c5)) ∧ Below w.heap.size w w' := by
  have hsn : ∀ (w : World) (a : Option Addr) (l c : Nat), (binOp .eql 87 (.slice a l c) (.slice none 0 0)).run Try.prog w = .ok (.bool a.isNone) w := fun w a l c => run_eql_slice_nil w 87 92 a l c Try.underlying87
  go_enter Try.func41, Try.ntmps41
  go_wp2_with (go_at_call 60; refine (fields_5 w.heap.size c1 c2 c3 c4 c5 _ (rec_new w 5 c1 c2 c3 c4 c5)).mono ?_; rintro e w2 ⟨vl, vm, rfl, ⟨bl, rfl, hl, gl⟩, ⟨bm, rfl, hm, gm⟩, hb⟩; have hbl : ¬ (w.heap.size = bl) := (by rw [size_alloc] at gl; omega); have hbl' : ¬ (bl = w.heap.size) := (by rw [size_alloc] at gl; omega); clear gl gm; have cl0 : w2.cell? ⟨bl, 0, none⟩ = some (.pointer (some ⟨w.heap.size, 1, none⟩)) := (blk_cell hl 0).trans rfl; have cm0 : w2.cell? ⟨bm, 0, none⟩ = some (.int .i64 15) := (blk_cell hm 0).trans rfl; have hr : IsRec w2 w.heap.size 5 c1 c2 c3 c4 c5 := (hb.block _ (by rw [size_alloc]; omega)).trans (rec_new w 5 c1 c2 c3 c4 c5); clear hl hm)
  have HB : Below w.heap.size w w2 := below_step (below_alloc (Below.refl _ _) _) hb
  clear hb
  have hc0 : w2.cell? ⟨w.heap.size, 0, none⟩ = some (.int .i64 5) := (blk_cell hr 0).trans rfl
  have hc1 : w2.cell? ⟨w.heap.size, 1, none⟩ = some (.int .i64 c1) := (blk_cell hr 1).trans rfl
  have hc2 : w2.cell? ⟨w.heap.size, 2, none⟩ = some (.int .i64 c2) := (blk_cell hr 2).trans rfl
  have hc3 : w2.cell? ⟨w.heap.size, 3, none⟩ = some (.int .i64 c3) := (blk_cell hr 3).trans rfl
  have hc4 : w2.cell? ⟨w.heap.size, 4, none⟩ = some (.int .i64 c4) := (blk_cell hr 4).trans rfl
  have hc5 : w2.cell? ⟨w.heap.size, 5, none⟩ = some (.int .i64 c5) := (blk_cell hr 5).trans rfl
  have hf1 := blk_frozen hr 1
  clear hr
  refine wp_loop_rounds 2 ?_
  rw [rounds_succ]
  go_wp2
  cases hb0 : (decide (0 ≤ c1) && decide (c1 ≤ 15))
  · go_quiet (first | (go_at_call 61; exact Calls.quiet_of ((in_calls _ _ _ _).mono (fun e w3 h => ⟨h.1, h.2.out⟩))) | (go_at_call 61; exact quiet2 ((in_calls _ _ _ _).mono (fun e w3 h => ⟨h.1, h.2.out⟩))))
    go_wp2
    go_ret
    exact ⟨by first | rfl | (simp [chk, inB, *]; done) | (have ht_ := of_decide_eq_true ht1; simp [chk, inB, *] <;> omega) | (have ht_ := of_decide_eq_true ht0; simp [chk, inB, *] <;> omega) | (have ht_ := of_decide_eq_false ht1; have ht2_ := of_decide_eq_true ht0; simp [chk, inB, *] <;> omega) | (simp [chk, inB, *] <;> omega), by repeat (first | exact HB | apply pw_below_drewN | apply below_drew1 | refine below_set ?_ (Nat.le_refl _))⟩
  · go_quiet (first | (go_at_call 61; exact Calls.quiet_of ((in_calls _ _ _ _).mono (fun e w3 h => ⟨h.1, h.2.out⟩))) | (go_at_call 61; exact quiet2 ((in_calls _ _ _ _).mono (fun e w3 h => ⟨h.1, h.2.out⟩))))
    go_wp2
    cases ht0 : decide (c1 ≥ 1)
    · rw [rounds_succ]
      go_wp2
      all_goals go_ret
      all_goals exact ⟨by first | rfl | (simp [chk, inB, *]; done) | (have ht_ := of_decide_eq_true ht1; simp [chk, inB, *] <;> omega) | (have ht_ := of_decide_eq_true ht0; simp [chk, inB, *] <;> omega) | (have ht_ := of_decide_eq_false ht1; have ht2_ := of_decide_eq_true ht0; simp [chk, inB, *] <;> omega) | (simp [chk, inB, *] <;> omega), by repeat (first | exact HB | apply pw_below_drewN | apply below_drew1 | refine below_set ?_ (Nat.le_refl _))⟩
    · skip
      rw [rounds_succ]
      go_wp2
      refine wp_loop_rounds 2 ?_
      rw [rounds_succ]
      go_wp2
      rw [rounds_succ]
      go_wp2
      all_goals go_ret
      all_goals exact ⟨by first | rfl | (simp [chk, inB, *]; done) | (have ht_ := of_decide_eq_true ht1; simp [chk, inB, *] <;> omega) | (have ht_ := of_decide_eq_true ht0; simp [chk, inB, *] <;> omega) | (have ht_ := of_decide_eq_false ht1; have ht2_ := of_decide_eq_true ht0; simp [chk, inB, *] <;> omega) | (simp [chk, inB, *] <;> omega), by repeat (first | exact HB | apply pw_below_drewN | apply below_drew1 | refine below_set ?_ (Nat.le_refl _))⟩
set_option maxHeartbeats 8000000 in
set_option maxRecDepth 100000 in
theorem check_6 (c1 c2 c3 c4 c5 : Int) (w : World) : Calls Try.prog 41 #[.agg #[.int .i64 6, .int .i64 c1, .int .i64 c2, .int .i64 c3, .int .i64 c4, .int .i64 c5]] w fun e w' => e = .returned (.bool (chk 6 c1 c2 c3 c4 c5)) ∧ Below w.heap.size w w' := by
  have hsn : ∀ (w : World) (a : Option Addr) (l c : Nat), (binOp .eql 87 (.slice a l c) (.slice none 0 0)).run Try.prog w = .ok (.bool a.isNone) w := fun w a l c => run_eql_slice_nil w 87 92 a l c Try.underlying87
  go_enter Try.func41, Try.ntmps41
  go_wp2_with (go_at_call 60; refine (fields_6 w.heap.size c1 c2 c3 c4 c5 _ (rec_new w 6 c1 c2 c3 c4 c5)).mono ?_; rintro e w2 ⟨vl, vm, rfl, ⟨bl, rfl, hl, gl⟩, ⟨bm, rfl, hm, gm⟩, hb⟩; have hbl : ¬ (w.heap.size = bl) := (by rw [size_alloc] at gl; omega); have hbl' : ¬ (bl = w.heap.size) := (by rw [size_alloc] at gl; omega); clear gl gm; have cl0 : w2.cell? ⟨bl, 0, none⟩ = some (.pointer (some ⟨w.heap.size, 1, none⟩)) := (blk_cell hl 0).trans rfl; have cl1 : w2.cell? ⟨bl, 1, none⟩ = some (.pointer (some ⟨w.heap.size, 4, none⟩)) := (blk_cell hl 1).trans rfl; have cm0 : w2.cell? ⟨bm, 0, none⟩ = some (.int .i64 15) := (blk_cell hm 0).trans rfl; have cm1 : w2.cell? ⟨bm, 1, none⟩ = some (.int .i64 15) := (blk_cell hm 1).trans rfl; have hr : IsRec w2 w.heap.size 6 c1 c2 c3 c4 c5 := (hb.block _ (by rw [size_alloc]; omega)).trans (rec_new w 6 c1 c2 c3 c4 c5); clear hl hm)
  have HB : Below w.heap.size w w2 := below_step (below_alloc (Below.refl _ _) _) hb
  clear hb
  have hc0 : w2.cell? ⟨w.heap.size, 0, none⟩ = some (.int .i64 6) := (blk_cell hr 0).trans rfl
  have hc1 : w2.cell? ⟨w.heap.size, 1, none⟩ = some (.int .i64 c1) := (blk_cell hr 1).trans rfl
  have hc2 : w2.cell? ⟨w.heap.size, 2, none⟩ = some (.int .i64 c2) := (blk_cell hr 2).trans rfl
  have hc3 : w2.cell? ⟨w.heap.size, 3, none⟩ = some (.int .i64 c3) := (blk_cell hr 3).trans rfl
  have hc4 : w2.cell? ⟨w.heap.size, 4, none⟩ = some (.int .i64 c4) := (blk_cell hr 4).trans rfl
  have hc5 : w2.cell? ⟨w.heap.size, 5, none⟩ = some (.int .i64 c5) := (blk_cell hr 5).trans rfl
  have hf1 := blk_frozen hr 1
  have hf4 := blk_frozen hr 4
  clear hr
  refine wp_loop_rounds 3 ?_
  rw [rounds_succ]
  go_wp2
  cases hb0 : (decide (0 ≤ c1) && decide (c1 ≤ 15))
  · go_quiet (first | (go_at_call 61; exact Calls.quiet_of ((in_calls _ _ _ _).mono (fun e w3 h => ⟨h.1, h.2.out⟩))) | (go_at_call 61; exact quiet2 ((in_calls _ _ _ _).mono (fun e w3 h => ⟨h.1, h.2.out⟩))))
    go_wp2
    go_ret
    exact ⟨by first | rfl | (simp [chk, inB, *]; done) | (have ht_ := of_decide_eq_true ht1; simp [chk, inB, *] <;> omega) | (have ht_ := of_decide_eq_true ht0; simp [chk, inB, *] <;> omega) | (have ht_ := of_decide_eq_false ht1; have ht2_ := of_decide_eq_true ht0; simp [chk, inB, *] <;> omega) | (simp [chk, inB, *] <;> omega), by repeat (first | exact HB | apply pw_below_drewN | apply below_drew1 | refine below_set ?_ (Nat.le_refl _))⟩
  · go_quiet (first | (go_at_call 61; exact Calls.quiet_of ((in_calls _ _ _ _).mono (fun e w3 h => ⟨h.1, h.2.out⟩))) | (go_at_call 61; exact quiet2 ((in_calls _ _ _ _).mono (fun e w3 h => ⟨h.1, h.2.out⟩))))
    go_wp2
    rw [rounds_succ]
    go_wp2
    cases hb1 : (decide (0 ≤ c4) && decide (c4 ≤ 15))
    · go_quiet (first | (go_at_call 61; exact Calls.quiet_of ((in_calls _ _ _ _).mono (fun e w3 h => ⟨h.1, h.2.out⟩))) | (go_at_call 61; exact quiet2 ((in_calls _ _ _ _).mono (fun e w3 h => ⟨h.1, h.2.out⟩))))
      go_wp2
      go_ret
      exact ⟨by first | rfl | (simp [chk, inB, *]; done) | (have ht_ := of_decide_eq_true ht1; simp [chk, inB, *] <;> omega) | (have ht_ := of_decide_eq_true ht0; simp [chk, inB, *] <;> omega) | (have ht_ := of_decide_eq_false ht1; have ht2_ := of_decide_eq_true ht0; simp [chk, inB, *] <;> omega) | (simp [chk, inB, *] <;> omega), by repeat (first | exact HB | apply pw_below_drewN | apply below_drew1 | refine below_set ?_ (Nat.le_refl _))⟩
    · go_quiet (first | (go_at_call 61; exact Calls.quiet_of ((in_calls _ _ _ _).mono (fun e w3 h => ⟨h.1, h.2.out⟩))) | (go_at_call 61; exact quiet2 ((in_calls _ _ _ _).mono (fun e w3 h => ⟨h.1, h.2.out⟩))))
      go_wp2
      cases ht0 : decide (c1 ≥ 1)
      · rw [rounds_succ]
        go_wp2
        all_goals go_ret
        all_goals exact ⟨by first | rfl | (simp [chk, inB, *]; done) | (have ht_ := of_decide_eq_true ht1; simp [chk, inB, *] <;> omega) | (have ht_ := of_decide_eq_true ht0; simp [chk, inB, *] <;> omega) | (have ht_ := of_decide_eq_false ht1; have ht2_ := of_decide_eq_true ht0; simp [chk, inB, *] <;> omega) | (simp [chk, inB, *] <;> omega), by repeat (first | exact HB | apply pw_below_drewN | apply below_drew1 | refine below_set ?_ (Nat.le_refl _))⟩
      · skip
        cases ht1 : decide (c4 < 1)
        case true =>
          rw [rounds_succ]
          go_wp2
          all_goals go_ret
          all_goals exact ⟨by first | rfl | (simp [chk, inB, *]; done) | (have ht_ := of_decide_eq_true ht1; simp [chk, inB, *] <;> omega) | (have ht_ := of_decide_eq_true ht0; simp [chk, inB, *] <;> omega) | (have ht_ := of_decide_eq_false ht1; have ht2_ := of_decide_eq_true ht0; simp [chk, inB, *] <;> omega) | (simp [chk, inB, *] <;> omega), by repeat (first | exact HB | apply pw_below_drewN | apply below_drew1 | refine below_set ?_ (Nat.le_refl _))⟩
        rw [rounds_succ]
        go_wp2
        refine wp_loop_rounds 3 ?_
        rw [rounds_succ]
        go_wp2
        rw [rounds_succ]
        go_wp2
        rw [rounds_succ]
        go_wp2
        all_goals go_ret
        all_goals exact ⟨by first | rfl | (simp [chk, inB, *]; done) | (have ht_ := of_decide_eq_true ht1; simp [chk, inB, *] <;> omega) | (have ht_ := of_decide_eq_true ht0; simp [chk, inB, *] <;> omega) | (have ht_ := of_decide_eq_false ht1; have ht2_ := of_decide_eq_true ht0; simp [chk, inB, *] <;> omega) | (simp [chk, inB, *] <;> omega), by repeat (first | exact HB | apply pw_below_drewN | apply below_drew1 | refine below_set ?_ (Nat.le_refl _))⟩
set_option maxHeartbeats 8000000 in
set_option maxRecDepth 100000 in
theorem check_7 (c1 c2 c3 c4 c5 : Int) (w : World) : Calls Try.prog 41 #[.agg #[.int .i64 7, .int .i64 c1, .int .i64 c2, .int .i64 c3, .int .i64 c4, .int .i64 c5]] w fun e w' => e = .returned (.bool (chk 7 c1 c2 c3 c4 c5)) ∧ Below w.heap.size w w' := by
  have hsn : ∀ (w : World) (a : Option Addr) (l c : Nat), (binOp .eql 87 (.slice a l c) (.slice none 0 0)).run Try.prog w = .ok (.bool a.isNone) w := fun w a l c => run_eql_slice_nil w 87 92 a l c Try.underlying87
  go_enter Try.func41, Try.ntmps41
  go_wp2_with (go_at_call 60; refine (fields_7 w.heap.size c1 c2 c3 c4 c5 _ (rec_new w 7 c1 c2 c3 c4 c5)).mono ?_; rintro e w2 ⟨vl, vm, rfl, ⟨bl, rfl, hl, gl⟩, ⟨bm, rfl, hm, gm⟩, hb⟩; have hbl : ¬ (w.heap.size = bl) := (by rw [size_alloc] at gl; omega); have hbl' : ¬ (bl = w.heap.size) := (by rw [size_alloc] at gl; omega); clear gl gm; have cl0 : w2.cell? ⟨bl, 0, none⟩ = some (.pointer (some ⟨w.heap.size, 1, none⟩)) := (blk_cell hl 0).trans rfl; have cm0 : w2.cell? ⟨bm, 0, none⟩ = some (.int .i64 15) := (blk_cell hm 0).trans rfl; have hr : IsRec w2 w.heap.size 7 c1 c2 c3 c4 c5 := (hb.block _ (by rw [size_alloc]; omega)).trans (rec_new w 7 c1 c2 c3 c4 c5); clear hl hm)
  have HB : Below w.heap.size w w2 := below_step (below_alloc (Below.refl _ _) _) hb
  clear hb
  have hc0 : w2.cell? ⟨w.heap.size, 0, none⟩ = some (.int .i64 7) := (blk_cell hr 0).trans rfl
  have hc1 : w2.cell? ⟨w.heap.size, 1, none⟩ = some (.int .i64 c1) := (blk_cell hr 1).trans rfl
  have hc2 : w2.cell? ⟨w.heap.size, 2, none⟩ = some (.int .i64 c2) := (blk_cell hr 2).trans rfl
  have hc3 : w2.cell? ⟨w.heap.size, 3, none⟩ = some (.int .i64 c3) := (blk_cell hr 3).trans rfl
  have hc4 : w2.cell? ⟨w.heap.size, 4, none⟩ = some (.int .i64 c4) := (blk_cell hr 4).trans rfl
  have hc5 : w2.cell? ⟨w.heap.size, 5, none⟩ = some (.int .i64 c5) := (blk_cell hr 5).trans rfl
  have hf1 := blk_frozen hr 1
  clear hr
  refine wp_loop_rounds 2 ?_
  rw [rounds_succ]
  go_wp2
  cases hb0 : (decide (0 ≤ c1) && decide (c1 ≤ 15))
  · go_quiet (first | (go_at_call 61; exact Calls.quiet_of ((in_calls _ _ _ _).mono (fun e w3 h => ⟨h.1, h.2.out⟩))) | (go_at_call 61; exact quiet2 ((in_calls _ _ _ _).mono (fun e w3 h => ⟨h.1, h.2.out⟩))))
    go_wp2
    go_ret
    exact ⟨by first | rfl | (simp [chk, inB, *]; done) | (have ht_ := of_decide_eq_true ht1; simp [chk, inB, *] <;> omega) | (have ht_ := of_decide_eq_true ht0; simp [chk, inB, *] <;> omega) | (have ht_ := of_decide_eq_false ht1; have ht2_ := of_decide_eq_true ht0; simp [chk, inB, *] <;> omega) | (simp [chk, inB, *] <;> omega), by repeat (first | exact HB | apply pw_below_drewN | apply below_drew1 | refine below_set ?_ (Nat.le_refl _))⟩
  · go_quiet (first | (go_at_call 61; exact Calls.quiet_of ((in_calls _ _ _ _).mono (fun e w3 h => ⟨h.1, h.2.out⟩))) | (go_at_call 61; exact quiet2 ((in_calls _ _ _ _).mono (fun e w3 h => ⟨h.1, h.2.out⟩))))
    go_wp2
    cases ht0 : decide (c1 ≥ 1)
    · rw [rounds_succ]
      go_wp2
      all_goals go_ret
      all_goals exact ⟨by first | rfl | (simp [chk, inB, *]; done) | (have ht_ := of_decide_eq_true ht1; simp [chk, inB, *] <;> omega) | (have ht_ := of_decide_eq_true ht0; simp [chk, inB, *] <;> omega) | (have ht_ := of_decide_eq_false ht1; have ht2_ := of_decide_eq_true ht0; simp [chk, inB, *] <;> omega) | (simp [chk, inB, *] <;> omega), by repeat (first | exact HB | apply pw_below_drewN | apply below_drew1 | refine below_set ?_ (Nat.le_refl _))⟩
    · skip
      rw [rounds_succ]
      go_wp2
      refine wp_loop_rounds 2 ?_
      rw [rounds_succ]
      go_wp2
      rw [rounds_succ]
      go_wp2
      all_goals go_ret
      all_goals exact ⟨by first | rfl | (simp [chk, inB, *]; done) | (have ht_ := of_decide_eq_true ht1; simp [chk, inB, *] <;> omega) | (have ht_ := of_decide_eq_true ht0; simp [chk, inB, *] <;> omega) | (have ht_ := of_decide_eq_false ht1; have ht2_ := of_decide_eq_true ht0; simp [chk, inB, *] <;> omega) | (simp [chk, inB, *] <;> omega), by repeat (first | exact HB | apply pw_below_drewN | apply below_drew1 | refine below_set ?_ (Nat.le_refl _))⟩
set_option maxHeartbeats 8000000 in
set_option maxRecDepth 100000 in
theorem check_8 (c1 c2 c3 c4 c5 : Int) (w : World) : Calls Try.prog 41 #[.agg #[.int .i64 8, .int .i64 c1, .int .i64 c2, .int .i64 c3, .int .i64 c4, .int .i64 c5]] w fun e w' => e = .returned (.bool (chk 8 c1 c2 c3 c4 c5)) ∧ Below w.heap.size w w' := by
  have hsn : ∀ (w : World) (a : Option Addr) (l c : Nat), (binOp .eql 87 (.slice a l c) (.slice none 0 0)).run Try.prog w = .ok (.bool a.isNone) w := fun w a l c => run_eql_slice_nil w 87 92 a l c Try.underlying87
  go_enter Try.func41, Try.ntmps41
  go_wp2_with (go_at_call 60; refine (fields_8 w.heap.size c1 c2 c3 c4 c5 _ (rec_new w 8 c1 c2 c3 c4 c5)).mono ?_; rintro e w2 ⟨vl, vm, rfl, ⟨bl, rfl, hl, gl⟩, ⟨bm, rfl, hm, gm⟩, hb⟩; have hbl : ¬ (w.heap.size = bl) := (by rw [size_alloc] at gl; omega); have hbl' : ¬ (bl = w.heap.size) := (by rw [size_alloc] at gl; omega); clear gl gm; have cl0 : w2.cell? ⟨bl, 0, none⟩ = some (.pointer (some ⟨w.heap.size, 3, none⟩)) := (blk_cell hl 0).trans rfl; have cm0 : w2.cell? ⟨bm, 0, none⟩ = some (.int .i64 31) := (blk_cell hm 0).trans rfl; have hr : IsRec w2 w.heap.size 8 c1 c2 c3 c4 c5 := (hb.block _ (by rw [size_alloc]; omega)).trans (rec_new w 8 c1 c2 c3 c4 c5); clear hl hm)
  have HB : Below w.heap.size w w2 := below_step (below_alloc (Below.refl _ _) _) hb
  clear hb
  have hc0 : w2.cell? ⟨w.heap.size, 0, none⟩ = some (.int .i64 8) := (blk_cell hr 0).trans rfl
  have hc1 : w2.cell? ⟨w.heap.size, 1, none⟩ = some (.int .i64 c1) := (blk_cell hr 1).trans rfl
  have hc2 : w2.cell? ⟨w.heap.size, 2, none⟩ = some (.int .i64 c2) := (blk_cell hr 2).trans rfl
  have hc3 : w2.cell? ⟨w.heap.size, 3, none⟩ = some (.int .i64 c3) := (blk_cell hr 3).trans rfl
  have hc4 : w2.cell? ⟨w.heap.size, 4, none⟩ = some (.int .i64 c4) := (blk_cell hr 4).trans rfl
  have hc5 : w2.cell? ⟨w.heap.size, 5, none⟩ = some (.int .i64 c5) := (blk_cell hr 5).trans rfl
  have hf3 := blk_frozen hr 3
  clear hr
  refine wp_loop_rounds 2 ?_
  rw [rounds_succ]
  go_wp2
  cases hb0 : (decide (0 ≤ c3) && decide (c3 ≤ 31))
  · go_quiet (first | (go_at_call 61; exact Calls.quiet_of ((in_calls _ _ _ _).mono (fun e w3 h => ⟨h.1, h.2.out⟩))) | (go_at_call 61; exact quiet2 ((in_calls _ _ _ _).mono (fun e w3 h => ⟨h.1, h.2.out⟩))))
    go_wp2
    go_ret
    exact ⟨by first | rfl | (simp [chk, inB, *]; done) | (have ht_ := of_decide_eq_true ht1; simp [chk, inB, *] <;> omega) | (have ht_ := of_decide_eq_true ht0; simp [chk, inB, *] <;> omega) | (have ht_ := of_decide_eq_false ht1; have ht2_ := of_decide_eq_true ht0; simp [chk, inB, *] <;> omega) | (simp [chk, inB, *] <;> omega), by repeat (first | exact HB | apply pw_below_drewN | apply below_drew1 | refine below_set ?_ (Nat.le_refl _))⟩
  · go_quiet (first | (go_at_call 61; exact Calls.quiet_of ((in_calls _ _ _ _).mono (fun e w3 h => ⟨h.1, h.2.out⟩))) | (go_at_call 61; exact quiet2 ((in_calls _ _ _ _).mono (fun e w3 h => ⟨h.1, h.2.out⟩))))
    go_wp2
    rw [rounds_succ]
    go_wp2
    refine wp_loop_rounds 2 ?_
    rw [rounds_succ]
    go_wp2
    rw [rounds_succ]
    go_wp2
    all_goals go_ret
    all_goals exact ⟨by first | rfl | (simp [chk, inB, *]; done) | (have ht_ := of_decide_eq_true ht1; simp [chk, inB, *] <;> omega) | (have ht_ := of_decide_eq_true ht0; simp [chk, inB, *] <;> omega) | (have ht_ := of_decide_eq_false ht1; have ht2_ := of_decide_eq_true ht0; simp [chk, inB, *] <;> omega) | (simp [chk, inB, *] <;> omega), by repeat (first | exact HB | apply pw_below_drewN | apply below_drew1 | refine below_set ?_ (Nat.le_refl _))⟩
set_option maxHeartbeats 8000000 in
set_option maxRecDepth 100000 in
theorem check_9 (c1 c2 c3 c4 c5 : Int) (w : World) : Calls Try.prog 41 #[.agg #[.int .i64 9, .int .i64 c1, .int .i64 c2, .int .i64 c3, .int .i64 c4, .int .i64 c5]] w fun e w' => e = .returned (.bool (chk 9 c1 c2 c3 c4 c5)) ∧ Below w.heap.size w w' := by
  have hsn : ∀ (w : World) (a : Option Addr) (l c : Nat), (binOp .eql 87 (.slice a l c) (.slice none 0 0)).run Try.prog w = .ok (.bool a.isNone) w := fun w a l c => run_eql_slice_nil w 87 92 a l c Try.underlying87
  go_enter Try.func41, Try.ntmps41
  go_wp2_with (go_at_call 60; refine (fields_9 w.heap.size c1 c2 c3 c4 c5 _ (rec_new w 9 c1 c2 c3 c4 c5)).mono ?_; rintro e w2 ⟨vl, vm, rfl, ⟨bl, rfl, hl, gl⟩, ⟨bm, rfl, hm, gm⟩, hb⟩; have hbl : ¬ (w.heap.size = bl) := (by rw [size_alloc] at gl; omega); have hbl' : ¬ (bl = w.heap.size) := (by rw [size_alloc] at gl; omega); clear gl gm; have cl0 : w2.cell? ⟨bl, 0, none⟩ = some (.pointer (some ⟨w.heap.size, 3, none⟩)) := (blk_cell hl 0).trans rfl; have cl1 : w2.cell? ⟨bl, 1, none⟩ = some (.pointer (some ⟨w.heap.size, 5, none⟩)) := (blk_cell hl 1).trans rfl; have cm0 : w2.cell? ⟨bm, 0, none⟩ = some (.int .i64 31) := (blk_cell hm 0).trans rfl; have cm1 : w2.cell? ⟨bm, 1, none⟩ = some (.int .i64 1073741824) := (blk_cell hm 1).trans rfl; have hr : IsRec w2 w.heap.size 9 c1 c2 c3 c4 c5 := (hb.block _ (by rw [size_alloc]; omega)).trans (rec_new w 9 c1 c2 c3 c4 c5); clear hl hm)
  have HB : Below w.heap.size w w2 := below_step (below_alloc (Below.refl _ _) _) hb
  clear hb
  have hc0 : w2.cell? ⟨w.heap.size, 0, none⟩ = some (.int .i64 9) := (blk_cell hr 0).trans rfl
  have hc1 : w2.cell? ⟨w.heap.size, 1, none⟩ = some (.int .i64 c1) := (blk_cell hr 1).trans rfl
  have hc2 : w2.cell? ⟨w.heap.size, 2, none⟩ = some (.int .i64 c2) := (blk_cell hr 2).trans rfl
  have hc3 : w2.cell? ⟨w.heap.size, 3, none⟩ = some (.int .i64 c3) := (blk_cell hr 3).trans rfl
  have hc4 : w2.cell? ⟨w.heap.size, 4, none⟩ = some (.int .i64 c4) := (blk_cell hr 4).trans rfl
  have hc5 : w2.cell? ⟨w.heap.size, 5, none⟩ = some (.int .i64 c5) := (blk_cell hr 5).trans rfl
  have hf3 := blk_frozen hr 3
  have hf5 := blk_frozen hr 5
  clear hr
  refine wp_loop_rounds 3 ?_
  rw [rounds_succ]
  go_wp2
  cases hb0 : (decide (0 ≤ c3) && decide (c3 ≤ 31))
  · go_quiet (first | (go_at_call 61; exact Calls.quiet_of ((in_calls _ _ _ _).mono (fun e w3 h => ⟨h.1, h.2.out⟩))) | (go_at_call 61; exact quiet2 ((in_calls _ _ _ _).mono (fun e w3 h => ⟨h.1, h.2.out⟩))))
    go_wp2
    go_ret
    exact ⟨by first | rfl | (simp [chk, inB, *]; done) | (have ht_ := of_decide_eq_true ht1; simp [chk, inB, *] <;> omega) | (have ht_ := of_decide_eq_true ht0; simp [chk, inB, *] <;> omega) | (have ht_ := of_decide_eq_false ht1; have ht2_ := of_decide_eq_true ht0; simp [chk, inB, *] <;> omega) | (simp [chk, inB, *] <;> omega), by repeat (first | exact HB | apply pw_below_drewN | apply below_drew1 | refine below_set ?_ (Nat.le_refl _))⟩
  · go_quiet (first | (go_at_call 61; exact Calls.quiet_of ((in_calls _ _ _ _).mono (fun e w3 h => ⟨h.1, h.2.out⟩))) | (go_at_call 61; exact quiet2 ((in_calls _ _ _ _).mono (fun e w3 h => ⟨h.1, h.2.out⟩))))
    go_wp2
    rw [rounds_succ]
    go_wp2
    cases hb1 : (decide (0 ≤ c5) && decide (c5 ≤ 1073741824))
    · go_quiet (first | (go_at_call 61; exact Calls.quiet_of ((in_calls _ _ _ _).mono (fun e w3 h => ⟨h.1, h.2.out⟩))) | (go_at_call 61; exact quiet2 ((in_calls _ _ _ _).mono (fun e w3 h => ⟨h.1, h.2.out⟩))))
      go_wp2
      go_ret
      exact ⟨by first | rfl | (simp [chk, inB, *]; done) | (have ht_ := of_decide_eq_true ht1; simp [chk, inB, *] <;> omega) | (have ht_ := of_decide_eq_true ht0; simp [chk, inB, *] <;> omega) | (have ht_ := of_decide_eq_false ht1; have ht2_ := of_decide_eq_true ht0; simp [chk, inB, *] <;> omega) | (simp [chk, inB, *] <;> omega), by repeat (first | exact HB | apply pw_below_drewN | apply below_drew1 | refine below_set ?_ (Nat.le_refl _))⟩
    · go_quiet (first | (go_at_call 61; exact Calls.quiet_of ((in_calls _ _ _ _).mono (fun e w3 h => ⟨h.1, h.2.out⟩))) | (go_at_call 61; exact quiet2 ((in_calls _ _ _ _).mono (fun e w3 h => ⟨h.1, h.2.out⟩))))
      go_wp2
      rw [rounds_succ]
      go_wp2
      refine wp_loop_rounds 3 ?_
      rw [rounds_succ]
      go_wp2
      rw [rounds_succ]
      go_wp2
      rw [rounds_succ]
      go_wp2
      all_goals go_ret
      all_goals exact ⟨by first | rfl | (simp [chk, inB, *]; done) | (have ht_ := of_decide_eq_true ht1; simp [chk, inB, *] <;> omega) | (have ht_ := of_decide_eq_true ht0; simp [chk, inB, *] <;> omega) | (have ht_ := of_decide_eq_false ht1; have ht2_ := of_decide_eq_true ht0; simp [chk, inB, *] <;> omega) | (simp [chk, inB, *] <;> omega), by repeat (first | exact HB | apply pw_below_drewN | apply below_drew1 | refine below_set ?_ (Nat.le_refl _))⟩
set_option maxHeartbeats 8000000 in
set_option maxRecDepth 100000 in
theorem check_0 (k c1 c2 c3 c4 c5 : Int) (w : World) (n1 : k ≠ 1) (n2 : k ≠ 2) (n3 : k ≠ 3) (n4 : k ≠ 4) (n5 : k ≠ 5) (n6 : k ≠ 6) (n7 : k ≠ 7) (n8 : k ≠ 8) (n9 : k ≠ 9) : Calls Try.prog 41 #[.agg #[.int .i64 k, .int .i64 c1, .int .i64 c2, .int .i64 c3, .int .i64 c4, .int .i64 c5]] w fun e w' => e = .returned (.bool (chk k c1 c2 c3 c4 c5)) ∧ Below w.heap.size w w' := by
  have hsn : ∀ (w : World) (a : Option Addr) (l c : Nat), (binOp .eql 87 (.slice a l c) (.slice none 0 0)).run Try.prog w = .ok (.bool a.isNone) w := fun w a l c => run_eql_slice_nil w 87 92 a l c Try.underlying87
  go_enter Try.func41, Try.ntmps41
  go_wp2_with (go_at_call 60; refine (fields_0 w.heap.size k c1 c2 c3 c4 c5 _ (rec_new w k c1 c2 c3 c4 c5) n1 n2 n3 n4 n5 n6 n7 n8 n9).mono ?_; rintro e w2 ⟨rfl, hb⟩; have hr : IsRec w2 w.heap.size k c1 c2 c3 c4 c5 := (hb.block _ (by rw [size_alloc]; omega)).trans (rec_new w k c1 c2 c3 c4 c5))
  have HB : Below w.heap.size w w2 := below_step (below_alloc (Below.refl _ _) _) hb
  clear hb
  have hc0 : w2.cell? ⟨w.heap.size, 0, none⟩ = some (.int .i64 k) := (blk_cell hr 0).trans rfl
  have hc1 : w2.cell? ⟨w.heap.size, 1, none⟩ = some (.int .i64 c1) := (blk_cell hr 1).trans rfl
  have hc2 : w2.cell? ⟨w.heap.size, 2, none⟩ = some (.int .i64 c2) := (blk_cell hr 2).trans rfl
  have hc3 : w2.cell? ⟨w.heap.size, 3, none⟩ = some (.int .i64 c3) := (blk_cell hr 3).trans rfl
  have hc4 : w2.cell? ⟨w.heap.size, 4, none⟩ = some (.int .i64 c4) := (blk_cell hr 4).trans rfl
  have hc5 : w2.cell? ⟨w.heap.size, 5, none⟩ = some (.int .i64 c5) := (blk_cell hr 5).trans rfl
  have hch : chk k c1 c2 c3 c4 c5 = false := by unfold chk; simp [n1, n2, n3, n4, n5, n6, n7, n8, n9]
  clear hr n1 n2 n3 n4 n5 n6 n7 n8 n9
  refine wp_loop_rounds 1 ?_
  rw [rounds_succ]
  go_wp2
  all_goals go_ret
  all_goals exact ⟨by first | rfl | (rw [hch]; rfl), by repeat (first | exact HB | apply pw_below_drewN | apply below_drew1)⟩
theorem check_calls (k c1 c2 c3 c4 c5 : Int) (w : World) : Calls Try.prog 41 #[.agg #[.int .i64 k, .int .i64 c1, .int .i64 c2, .int .i64 c3, .int .i64 c4, .int .i64 c5]] w fun e w' => e = .returned (.bool (chk k c1 c2 c3 c4 c5)) ∧ Below w.heap.size w w' := by
  by_cases n1 : k = 1
  · subst n1; exact check_1 c1 c2 c3 c4 c5 w
  by_cases n2 : k = 2
  · subst n2; exact check_2 c1 c2 c3 c4 c5 w
  by_cases n3 : k = 3
  · subst n3; exact check_3 c1 c2 c3 c4 c5 w
  by_cases n4 : k = 4
  · subst n4; exact check_4 c1 c2 c3 c4 c5 w
  by_cases n5 : k = 5
  · subst n5; exact check_5 c1 c2 c3 c4 c5 w
  by_cases n6 : k = 6
  · subst n6; exact check_6 c1 c2 c3 c4 c5 w
  by_cases n7 : k = 7
  · subst n7; exact check_7 c1 c2 c3 c4 c5 w
  by_cases n8 : k = 8
  · subst n8; exact check_8 c1 c2 c3 c4 c5 w
  by_cases n9 : k = 9
  · subst n9; exact check_9 c1 c2 c3 c4 c5 w
  exact check_0 k c1 c2 c3 c4 c5 w n1 n2 n3 n4 n5 n6 n7 n8 n9
end Go.Proofs.Ytoiahmdibibceaa.Rc
