import Derived.Test.YtoiahmdibibceaaXTbA
import Derived.WideShapes
set_option linter.unusedVariables false
set_option linter.unusedSimpArgs false
set_option linter.constructorNameAsVariable false
namespace Go.Proofs.Ytoiahmdibibceaa.Tb
open Go.RowKit Go.Proofs.YtoiahmdibibceaaW.PrintWords Go.Proofs.YtoiahmdibibceaaW.PrintLast Go.Proofs.YtoiahmdibibceaaW.PrintMore
theorem cell_int {W : World} {r : Reach} {b0 : Nat} {v : Value} (h : Cell.okWide Try.prog W r b0 3 v) : ∃ n, v = .int .i64 n := by
  simp only [Cell.okWide, Try.underlying3] at h
  cases v <;> simp_all [Cell.ok, Try.underlying3]
theorem cell_bool {W : World} {r : Reach} {b0 : Nat} {v : Value} (h : Cell.okWide Try.prog W r b0 4 v) : ∃ b, v = .bool b := by
  simp only [Cell.okWide, Try.underlying4] at h
  cases v <;> simp_all [Cell.ok, Try.underlying4]
set_option maxRecDepth 100000 in
theorem open_row {W : World} {r : Reach} {b0 : Nat} {v : Value} {t : TypeId} {fs : Array Field} {ts : List TypeId} (hu : Try.prog.underlying t = some (.struct fs)) (hc : Try.prog.cellTypes Try.prog.depth t = some ts) (hn : Try.prog.cellsOf t = ts.length) (h : Value.okWide Try.prog W r b0 t v) :
    ∃ cs : Array Value, v = .agg cs ∧ cs.size = ts.length ∧ ∀ (i : Nat) (x : Value) (u : TypeId), cs[i]? = some x → ts[i]? = some u → Cell.okWide Try.prog W r b0 u x := by
  simp only [Value.okWide, hu] at h
  obtain ⟨cs, h1, h2, ts', h3, ⟨n, h4⟩, h5⟩ := h
  rw [hc] at h3
  injection h3 with h3
  subst h3
  refine ⟨cs, h1, by rw [h2, hn], fun i x u hx hu => ?_⟩
  obtain ⟨u', h6, h7⟩ := h5 i x hx
  have hi : i < cs.size := (Array.getElem?_eq_some_iff.1 hx).1
  rw [h2, hn] at hi
  rw [Nat.mod_eq_of_lt hi, hu] at h6
  injection h6 with h6
  subst h6
  exact h7
set_option maxRecDepth 100000 in
theorem open_boot {W : World} {r : Reach} {b0 : Nat} {v : Value} (h : Value.okWide Try.prog W r b0 40 v) :
    ∃ (a : Int) (tr : Bool) (ts ls v0 v1 : Int) (g0 g1 : Bool), v = .agg (bcells a tr ts ls v0 v1 g0 g1) := by
  obtain ⟨cs, rfl, hs, hc⟩ := open_row (ts := [3, 4, 3, 3, 3, 3, 4, 4]) Try.underlying40 (by kernel_rfl) (by kernel_rfl) h
  have hs8 : cs.size = 8 := hs
  have each : ∀ i, (hi : i < 8) → cs[i]? = some (cs[i]'(by omega)) := fun i hi => Array.getElem?_eq_getElem _
  obtain ⟨a, e0⟩ := cell_int (hc 0 _ 3 (each 0 (by decide)) rfl)
  obtain ⟨tr, e1⟩ := cell_bool (hc 1 _ 4 (each 1 (by decide)) rfl)
  obtain ⟨ts, e2⟩ := cell_int (hc 2 _ 3 (each 2 (by decide)) rfl)
  obtain ⟨ls, e3⟩ := cell_int (hc 3 _ 3 (each 3 (by decide)) rfl)
  obtain ⟨v0, e4⟩ := cell_int (hc 4 _ 3 (each 4 (by decide)) rfl)
  obtain ⟨v1, e5⟩ := cell_int (hc 5 _ 3 (each 5 (by decide)) rfl)
  obtain ⟨g0, e6⟩ := cell_bool (hc 6 _ 4 (each 6 (by decide)) rfl)
  obtain ⟨g1, e7⟩ := cell_bool (hc 7 _ 4 (each 7 (by decide)) rfl)
  refine ⟨a, tr, ts, ls, v0, v1, g0, g1, congrArg Value.agg (Array.ext (by rw [hs8]; rfl) fun i h1 h2 => ?_)⟩
  have h3 : i < 8 := by omega
  have : i = 0 ∨ i = 1 ∨ i = 2 ∨ i = 3 ∨ i = 4 ∨ i = 5 ∨ i = 6 ∨ i = 7 := by omega
  rcases this with rfl | rfl | rfl | rfl | rfl | rfl | rfl | rfl <;> first | exact e0 | exact e1 | exact e2 | exact e3 | exact e4 | exact e5 | exact e6 | exact e7
set_option maxRecDepth 100000 in
theorem open_act {W : World} {r : Reach} {b0 : Nat} {v : Value} (h : Value.okWide Try.prog W r b0 49 v) : ∃ k n : Int, v = .agg #[.int .i64 k, .int .i64 n] := by
  obtain ⟨cs, rfl, hs, hc⟩ := open_row (ts := [3, 3]) Try.underlying49 (by kernel_rfl) (by kernel_rfl) h
  have hs8 : cs.size = 2 := hs
  have each : ∀ i, (hi : i < 2) → cs[i]? = some (cs[i]'(by omega)) := fun i hi => Array.getElem?_eq_getElem _
  obtain ⟨k, e0⟩ := cell_int (hc 0 _ 3 (each 0 (by decide)) rfl)
  obtain ⟨n, e1⟩ := cell_int (hc 1 _ 3 (each 1 (by decide)) rfl)
  refine ⟨k, n, congrArg Value.agg (Array.ext (by rw [hs8]; rfl) fun i h1 h2 => ?_)⟩
  have : i = 0 ∨ i = 1 := by omega
  rcases this with rfl | rfl <;> first | exact e0 | exact e1
end Go.Proofs.Ytoiahmdibibceaa.Tb
