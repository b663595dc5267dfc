import Derived.Test.YtoiahmdibibceaaXTbA
import Derived.Test.YtoiahmdibibceaaXTbI
import Derived.Test.YtoiahmdibibceaaXTbR
import Derived.Test.YtoiahmdibibceaaXTbW
import Derived.Test.YtoiahmdibibceaaXTbT
import Derived.Test.YtoiahmdibibceaaXTbF
set_option linter.unusedVariables false
set_option linter.unusedSimpArgs false
namespace Go.Proofs.Ytoiahmdibibceaa.Tb
open Go.RowKit Go.Proofs.YtoiahmdibibceaaW.PrintWords Go.Proofs.YtoiahmdibibceaaW.PrintLast Go.Proofs.YtoiahmdibibceaaW.PrintMore
theorem install_y (x : Bt) (n : Int) {a1 : Int} {tr1 : Bool} {ts1 ls1 v01 v11 : Int} {g01 g11 : Bool} {c : Int} (h : x.inst n = (⟨a1, tr1, ts1, ls1, v01, v11, g01, g11⟩, c)) (w : World) : Calls Try.prog 29 #[.agg (bcells x.a x.tr x.ts x.ls x.v0 x.v1 x.g0 x.g1), .int .i64 n] w fun e w' => e = .returned (.tuple #[.agg (bcells a1 tr1 ts1 ls1 v01 v11 g01 g11), .int .i64 c]) ∧ Below w.heap.size w w' := by
  have q := install_calls x n w; rw [h] at q; exact q
theorem ready_y (x : Bt) {a1 : Int} {tr1 : Bool} {ts1 ls1 v01 v11 : Int} {g01 g11 : Bool} {c : Int} (h : x.ready = (⟨a1, tr1, ts1, ls1, v01, v11, g01, g11⟩, c)) (w : World) : Calls Try.prog 30 #[.agg (bcells x.a x.tr x.ts x.ls x.v0 x.v1 x.g0 x.g1)] w fun e w' => e = .returned (.tuple #[.agg (bcells a1 tr1 ts1 ls1 v01 v11 g01 g11), .int .i64 c]) ∧ Below w.heap.size w w' := by
  have q := ready_calls x w; rw [h] at q; exact q
theorem switch_y (x : Bt) (n : Int) {a1 : Int} {tr1 : Bool} {ts1 ls1 v01 v11 : Int} {g01 g11 : Bool} {c : Int} (h : x.switch n = (⟨a1, tr1, ts1, ls1, v01, v11, g01, g11⟩, c)) (w : World) : Calls Try.prog 31 #[.agg (bcells x.a x.tr x.ts x.ls x.v0 x.v1 x.g0 x.g1), .int .i64 n] w fun e w' => e = .returned (.tuple #[.agg (bcells a1 tr1 ts1 ls1 v01 v11 g01 g11), .int .i64 c]) ∧ Below w.heap.size w w' := by
  have q := switch_calls x n w; rw [h] at q; exact q
theorem start_y (x : Bt) {s : Int} {a1 : Int} {tr1 : Bool} {ts1 ls1 v01 v11 : Int} {g01 g11 : Bool} {c : Int} (h : x.start = (s, ⟨a1, tr1, ts1, ls1, v01, v11, g01, g11⟩, c)) (w : World) : Calls Try.prog 33 #[.agg (bcells x.a x.tr x.ts x.ls x.v0 x.v1 x.g0 x.g1)] w fun e w' => e = .returned (.tuple #[.int .i64 s, .agg (bcells a1 tr1 ts1 ls1 v01 v11 g01 g11), .int .i64 c]) ∧ Below w.heap.size w w' := by
  have q := start_calls x w; rw [h] at q; exact q
theorem confirm_y (x : Bt) {a1 : Int} {tr1 : Bool} {ts1 ls1 v01 v11 : Int} {g01 g11 : Bool} {c : Int} (h : x.confirm = (⟨a1, tr1, ts1, ls1, v01, v11, g01, g11⟩, c)) (w : World) : Calls Try.prog 58 #[.agg (bcells x.a x.tr x.ts x.ls x.v0 x.v1 x.g0 x.g1)] w fun e w' => e = .returned (.tuple #[.agg (bcells a1 tr1 ts1 ls1 v01 v11 g01 g11), .int .i64 c]) ∧ Below w.heap.size w w' := by
  have q := confirm_calls x w; rw [h] at q; exact q
theorem info49 : (Try.prog.info? 49).map (·.size) = some 2 := by kernel_rfl
theorem wp_gen {P : Program} {c : Code} {Q : Exit → Act → World → Prop} {a : Act} {W : World} (Good : World → Prop) (h : Good W) (k : ∀ W, Good W → Code.wp P c Q a W) : Code.wp P c Q a W := k W h
end Go.Proofs.Ytoiahmdibibceaa.Tb
