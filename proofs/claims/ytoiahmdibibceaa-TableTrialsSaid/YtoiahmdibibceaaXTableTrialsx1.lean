-- Written by xprint.py of this repo (the kit's print with turns of our own) out of the translation.
import Derived.Test.YtoiahmdibibceaaXTableTrialsx0
namespace Go.Proofs.Ytoiahmdibibceaa.XTableTrials
open Go.RowKit Go.Proofs.YtoiahmdibibceaaW.PrintWords Go.Proofs.YtoiahmdibibceaaW.PrintLast Go.Proofs.YtoiahmdibibceaaW.PrintMore
attribute [local go_sem] max2_int min2_int max_two min_two max_three min_three max_four min_four   -- for this text's walks alone
set_option linter.unusedVariables false
set_option linter.unusedSimpArgs false

-- NOT PRINTED: function 28 (table_First)

-- NOT PRINTED: function 36 (table_Check)

-- NOT PRINTED: function 29 (table_Install)

-- NOT PRINTED: function 30 (table_Ready)

-- NOT PRINTED: function 31 (table_Switch)

-- NOT PRINTED: function 38 (table_State)

-- NOT PRINTED: function 32 (tinderboxlaw21_awake)

-- NOT PRINTED: function 33 (table_Start)

/-! ### tinderboxlaw21_TableTrials: function 6 -/
/-- Nothing is left to show: the walk shows that the law answers with true. -/
def tinderboxlaw21_TableTrials.Pure : Prop := True
theorem tinderboxlaw21_TableTrials.walk (P : tinderboxlaw21_TableTrials.Pure) (a0 : Int) (a1 : Int) (a2 : Int) (w : World) (w0 : (Lit.int .i64 a0).wf = true) (w1 : (Lit.int .i64 a1).wf = true) (w2 : (Lit.int .i64 a2).wf = true) :
    Calls Try.prog 6 #[.int .i64 a0, .int .i64 a1, .int .i64 a2] w fun e w' => e = .returned (.bool true) ∧ Below w.heap.size w w' := Tb.trials_calls a0 a1 a2 w

end Go.Proofs.Ytoiahmdibibceaa.XTableTrials
