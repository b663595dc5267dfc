import Derived.Test.YtoiahmdibibceaaProg
import Derived.Below
import Derived.Deep.Draws
import Derived.Deep.AppendLies
import Derived.Maps.AppendAt
import Derived.OwnWalk
import Derived.Laws.BytesArg
import Derived.Laws.MakeOwn
import Derived.Laws.OwnMore
import Derived.Deep.OwnRows
import Derived.Tactics
import Derived.Lib.ConvBytes
import Derived.Laws.Slices
import Derived.WalkKit
import Derived.KernelRfl
import Derived.RowKit3
import Derived.Deep.LoopGhost
import Derived.Deep.QuietTactic
import Derived.BigQuiet
import Derived.WideLaws
import Derived.Deep.DeepCutAuto
import Derived.Deep.CutBlock
import Derived.Deep.RegionHeld3
import Derived.Laws.Rows
import Derived.Lib.AppendStr
import Derived.ArgAppend
import Derived.Laws.IdiomCopy
import Derived.OrdersHeld
import Derived.Laws.BitsLemmas
import Derived.RowKit
import Derived.Test.YtoiahmdibibceaaYW
set_option linter.unusedVariables false
set_option linter.unusedSimpArgs false
namespace Go.Proofs.Ytoiahmdibibceaa.Tb
open Go.RowKit Go.Proofs.YtoiahmdibibceaaW.PrintWords Go.Proofs.YtoiahmdibibceaaW.PrintLast Go.Proofs.YtoiahmdibibceaaW.PrintMore
/-- What is kept, as its cells. -/
abbrev bcells (a : Int) (tr : Bool) (ts ls v0 v1 : Int) (g0 g1 : Bool) : Array Value := #[.int .i64 a, .bool tr, .int .i64 ts, .int .i64 ls, .int .i64 v0, .int .i64 v1, .bool g0, .bool g1]
def sbad (v : Int) (g : Bool) (ls : Int) (eqA tr : Bool) : Bool := decide (v < 0) || decide (v > 1073741824) || (g && decide (v < ls) && (eqA || tr))
def pre (a : Int) (tr : Bool) (ts ls : Int) : Bool := decide (a < 0) || decide (a > 1) || decide (ts < 0) || decide (ts > 7) || decide (ls < 1) || decide (ls > 1073741824) || (!tr && decide (ts > 0))
def chkB (a : Int) (tr : Bool) (ts ls v0 v1 : Int) (g0 g1 : Bool) : Bool :=
  !(pre a tr ts ls) && !(sbad v0 g0 ls (a == 0) tr) && !(sbad v1 g1 ls (a == 1) tr) && ((if a = 0 then g0 else g1) && (!tr || (if a = 0 then g1 else g0)))
def stF (a : Int) (tr : Bool) (ts : Int) (g0 g1 : Bool) : Int := if tr = true ∧ ts = 0 then 3 else if tr = true then 2 else if (if a = 0 then g1 else g0) = true then 1 else 0
theorem info40 : (Try.prog.info? 40).map (·.size) = some 8 := by kernel_rfl

theorem blk_keep {w w1 : World} {g : Nat} {o : Obj} (h : w.heap[g]? = some o) (hb : Below w.heap.size w w1) : w1.heap[g]? = some o := (hb.block g (blk_lt h)).trans h
theorem blk_drew1 {w : World} {g : Nat} {o : Obj} (h : w.heap[g]? = some o) : w.drew.heap[g]? = some o := h
theorem blk_all8 {w : World} {g : Nat} {t : TypeId} {cs : Array Value} (h : w.heap[g]? = some (.cells cs t (0, 0))) (hs : cs.size = 8) (x0 x1 x2 x3 x4 x5 x6 x7 : Value) :
    ((((((((w.setCell ⟨g, 0, none⟩ x0).setCell ⟨g, 1, none⟩ x1).setCell ⟨g, 2, none⟩ x2).setCell ⟨g, 3, none⟩ x3).setCell ⟨g, 4, none⟩ x4).setCell ⟨g, 5, none⟩ x5).setCell ⟨g, 6, none⟩ x6).setCell ⟨g, 7, none⟩ x7).heap[g]? = some (.cells #[x0, x1, x2, x3, x4, x5, x6, x7] t (0, 0)) := by
  refine (blk_set (blk_set (blk_set (blk_set (blk_set (blk_set (blk_set (blk_set h 0 x0) 1 x1) 2 x2) 3 x3) 4 x4) 5 x5) 6 x6) 7 x7).trans ?_
  refine congrArg (fun c => some (Obj.cells c t (0, 0))) ?_
  apply Array.ext
  · simp [hs]
  · intro i h1 h2
    have h3 : i < 8 := by simpa using h2
    have : i = 0 ∨ i = 1 ∨ i = 2 ∨ i = 3 ∨ i = 4 ∨ i = 5 ∨ i = 6 ∨ i = 7 := by omega
    rcases this with rfl | rfl | rfl | rfl | rfl | rfl | rfl | rfl <;> simp [Array.getElem_setIfInBounds, hs]
def aggD : TypeDesc → Bool | .struct _ | .array _ _ => true | _ => false
theorem run_row {P : Program} (w : World) (g : Nat) (t ty : TypeId) (cs : Array Value) (fr : Nat × Nat) (d : TypeDesc) (hg : w.heap[g]? = some (.cells cs t fr)) (hu : P.underlying ty = some d) (hd : aggD d = true) (hi : (P.info? ty).map (·.size) = some cs.size) :
    (loadVar ty ⟨g, 0, none⟩).run P w = .ok (.agg cs) w := run_loadVar_row w g t ty cs fr d hg hu (by cases d <;> first | rfl | exact hd) hi
theorem ret2_row {fn : Func} {p u : Tmp} {ty : TypeId} (h : fn.results = #[.cell p ty, .tmp u]) (P : Program) (tmps : Array Value) (w : World) (g : Nat) (t : TypeId) (cs : Array Value) (fr : Nat × Nat) (d : TypeDesc) (v : Value)
    (hp : tmps.getD p undef = .pointer (some ⟨g, 0, none⟩)) (hv : tmps.getD u undef = v) (hg : w.heap[g]? = some (.cells cs t fr))
    (hu : P.underlying ty = some d) (hd : aggD d = true) (hi : (P.info? ty).map (·.size) = some cs.size) :
    (results fn tmps).run P w = .ok (.tuple #[.agg cs, v]) w := by
  rw [results_cell_tmp h, hp, hv]
  simp [asAddr, run_row w g t ty cs fr d hg hu hd hi, Result.andThen]
theorem ret3_row {fn : Func} {q p u : Tmp} {ty : TypeId} (h : fn.results = #[.tmp q, .cell p ty, .tmp u]) (P : Program) (tmps : Array Value) (w : World) (g : Nat) (t : TypeId) (cs : Array Value) (fr : Nat × Nat) (d : TypeDesc) (v0 v : Value)
    (h0 : tmps.getD q undef = v0) (hp : tmps.getD p undef = .pointer (some ⟨g, 0, none⟩)) (hv : tmps.getD u undef = v) (hg : w.heap[g]? = some (.cells cs t fr))
    (hu : P.underlying ty = some d) (hd : aggD d = true) (hi : (P.info? ty).map (·.size) = some cs.size) :
    (results fn tmps).run P w = .ok (.tuple #[v0, .agg cs, v]) w := by
  have e : (results fn tmps).run P w = ((asAddr (tmps.getD p undef)).run P w).andThen fun a w₁ => ((loadVar ty a).run P w₁).andThen fun x w₂ => .ok (.tuple #[tmps.getD q undef, x, tmps.getD u undef]) w₂ := by
    simp only [results, h]
    simp [Sem.run_bind, Result.andThen]
  rw [e, hp, hv, h0]
  simp [asAddr, run_row w g t ty cs fr d hg hu hd hi, Result.andThen]
/-- What is kept. -/
structure Bt where
  a : Int
  tr : Bool
  ts : Int
  ls : Int
  v0 : Int
  v1 : Int
  g0 : Bool
  g1 : Bool
def Bt.c (x : Bt) : Array Value := bcells x.a x.tr x.ts x.ls x.v0 x.v1 x.g0 x.g1
def Bt.chk (x : Bt) : Bool := chkB x.a x.tr x.ts x.ls x.v0 x.v1 x.g0 x.g1
def Bt.st (x : Bt) : Int := stF x.a x.tr x.ts x.g0 x.g1
def Bt.zero : Bt := ⟨0, false, 0, 0, 0, 0, false, false⟩
def Bt.vo (x : Bt) : Int := if x.a = 0 then x.v1 else x.v0
def Bt.go (x : Bt) : Bool := if x.a = 0 then x.g1 else x.g0
def Bt.va (x : Bt) : Int := if x.a = 0 then x.v0 else x.v1
def Bt.setO (x : Bt) (n : Int) (g : Bool) : Bt := if x.a = 0 then { x with v1 := n, g1 := g } else { x with v0 := n, g0 := g }
def Bt.inst (x : Bt) (n : Int) : Bt × Int := if x.chk = false then (Bt.zero, 1) else if x.tr = true then (Bt.zero, 211) else if n < x.ls then (Bt.zero, 210) else if n > 1073741824 then (Bt.zero, 1) else (x.setO n false, 0)
def Bt.ready (x : Bt) : Bt × Int := if x.chk = false then (Bt.zero, 1) else if x.tr = true then (Bt.zero, 211) else if x.vo < x.ls then (Bt.zero, 210) else (x.setO x.vo true, 0)
def Bt.switch (x : Bt) (n : Int) : Bt × Int := if x.chk = false ∨ n < 1 ∨ n > 7 then (Bt.zero, 1) else if x.tr = true then (Bt.zero, 211) else if x.go = false then (Bt.zero, 212) else if x.vo < x.ls then (Bt.zero, 210) else ({ x with a := 1 - x.a, tr := true, ts := n }, 0)
def Bt.started (x : Bt) : Bt := if x.st = 2 then { x with ts := x.ts - 1 } else if x.st = 3 then (if x.a = 0 then { x with g0 := false, a := 1, tr := false } else { x with g1 := false, a := 0, tr := false }) else x
def Bt.start (x : Bt) : Int × Bt × Int := if x.chk = false then (0, Bt.zero, 1) else (x.started.a, x.started, 0)
def Bt.confirm (x : Bt) : Bt × Int := if x.chk = false then (Bt.zero, 1) else if x.tr = false then (Bt.zero, 211) else ({ x with tr := false, ts := 0, ls := max x.ls x.va }, 0)
theorem chk_a {a : Int} {tr : Bool} {ts ls v0 v1 : Int} {g0 g1 : Bool} (h : chkB a tr ts ls v0 v1 g0 g1 = true) : a = 0 ∨ a = 1 := by
  unfold chkB pre at h
  simp only [Bool.and_eq_true, Bool.not_eq_true', Bool.or_eq_false_iff, decide_eq_false_iff_not] at h
  omega
theorem chk_ts {a : Int} {tr : Bool} {ts ls v0 v1 : Int} {g0 g1 : Bool} (h : chkB a tr ts ls v0 v1 g0 g1 = true) : 0 ≤ ts ∧ ts ≤ 7 := by
  unfold chkB pre at h
  simp only [Bool.and_eq_true, Bool.not_eq_true', Bool.or_eq_false_iff, decide_eq_false_iff_not] at h
  omega

end Go.Proofs.Ytoiahmdibibceaa.Tb
