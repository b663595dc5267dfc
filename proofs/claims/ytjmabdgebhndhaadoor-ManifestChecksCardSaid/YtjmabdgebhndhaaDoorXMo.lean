import Derived.Test.YtjmabdgebhndhaaDoorProg
import Derived.WideShapes
import Derived.RowKit
set_option linter.unusedVariables false
set_option linter.unusedSimpArgs false
set_option linter.constructorNameAsVariable false
namespace Go.Proofs.YtjmabdgebhndhaaDoor.Mf
open Go.RowKit
theorem cell_int {W : World} {r : Reach} {b0 : Nat} {v : Value} (h : Cell.okWide Tryd.prog W r b0 3 v) : ∃ n, v = .int .i64 n := by
  simp only [Cell.okWide, Tryd.underlying3] at h
  cases v <;> simp_all [Cell.ok, Tryd.underlying3]
theorem cell_string {W : World} {r : Reach} {b0 : Nat} {v : Value} (h : Cell.okWide Tryd.prog W r b0 9 v) : ∃ s, v = .string s := by
  simp only [Cell.okWide, Tryd.underlying9] at h
  cases v <;> simp_all [Cell.ok, Tryd.underlying9]
set_option maxRecDepth 100000 in
theorem open_row {W : World} {r : Reach} {b0 : Nat} {v : Value} {t : TypeId} {fs : Array Field} {ts : List TypeId} (hu : Tryd.prog.underlying t = some (.struct fs)) (hc : Tryd.prog.cellTypes Tryd.prog.depth t = some ts) (hn : Tryd.prog.cellsOf t = ts.length) (h : Value.okWide Tryd.prog W r b0 t v) :
    ∃ cs : Array Value, v = .agg cs ∧ cs.size = ts.length ∧ ∀ (i : Nat) (x : Value) (u : TypeId), cs[i]? = some x → ts[i]? = some u → Cell.okWide Tryd.prog W r b0 u x := by
  simp only [Value.okWide, hu] at h
  obtain ⟨cs, h1, h2, ts', h3, ⟨n, h4⟩, h5⟩ := h
  rw [hc] at h3
  injection h3 with h3
  subst h3
  refine ⟨cs, h1, by rw [h2, hn], fun i x u hx hu => ?_⟩
  obtain ⟨u', h6, h7⟩ := h5 i x hx
  have hi : i < cs.size := (Array.getElem?_eq_some_iff.1 hx).1
  rw [h2, hn] at hi
  rw [Nat.mod_eq_of_lt hi, hu] at h6
  injection h6 with h6
  subst h6
  exact h7
set_option maxRecDepth 100000 in
theorem open_man {W : World} {r : Reach} {b0 : Nat} {v : Value} (h : Value.okWide Tryd.prog W r b0 23 v) :
    ∃ (x y : Int) (d : ByteArray), v = .agg #[.int .i64 x, .int .i64 y, .string d] := by
  obtain ⟨cs, rfl, hs, hc⟩ := open_row (ts := [3, 3, 9]) Tryd.underlying23 (by kernel_rfl) (by kernel_rfl) h
  have hs8 : cs.size = 3 := hs
  have each : ∀ i, (hi : i < 3) → cs[i]? = some (cs[i]'(by omega)) := fun i hi => Array.getElem?_eq_getElem _
  obtain ⟨x, e0⟩ := cell_int (hc 0 _ 3 (each 0 (by decide)) rfl)
  obtain ⟨y, e1⟩ := cell_int (hc 1 _ 3 (each 1 (by decide)) rfl)
  obtain ⟨d, e2⟩ := cell_string (hc 2 _ 9 (each 2 (by decide)) rfl)
  refine ⟨x, y, d, congrArg Value.agg (Array.ext (by rw [hs8]; rfl) fun i h1 h2 => ?_)⟩
  have : i = 0 ∨ i = 1 ∨ i = 2 := by omega
  rcases this with rfl | rfl | rfl <;> first | exact e0 | exact e1 | exact e2
end Go.Proofs.YtjmabdgebhndhaaDoor.Mf
