/- A slot on trial starts as often as there are tries, then the other one does, as it was ahead of the trial. For every input. -/
import Derived.Test.YtoiahmdibibceaaXTableTrialsx1
namespace Go.Proofs.Ytoiahmdibibceaa.Pure
open Go.RowKit Go.Proofs.Ytoiahmdibibceaa Go.Proofs.Ytoiahmdibibceaa.XTableTrials Go.Proofs.YtoiahmdibibceaaW.PrintWords Go.Proofs.YtoiahmdibibceaaW.PrintLast Go.Proofs.YtoiahmdibibceaaW.PrintMore
set_option linter.unusedVariables false
set_option linter.unusedSimpArgs false
theorem TableTrials : tinderboxlaw21_TableTrials.Pure := trivial
end Go.Proofs.Ytoiahmdibibceaa.Pure
