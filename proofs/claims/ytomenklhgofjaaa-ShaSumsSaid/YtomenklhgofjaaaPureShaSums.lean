/- The digest is the reference digest, of 32 bytes. For every input. -/
import Derived.Test.YtomenklhgofjaaaXShaSumsx1
namespace Go.Proofs.Ytomenklhgofjaaa.Pure
open Go.RowKit Go.Proofs.Ytomenklhgofjaaa Go.Proofs.Ytomenklhgofjaaa.XShaSums Go.Proofs.YtomenklhgofjaaaW.PrintWords Go.Proofs.YtomenklhgofjaaaW.PrintLast Go.Proofs.YtomenklhgofjaaaW.PrintMore
set_option linter.unusedVariables false
set_option linter.unusedSimpArgs false
theorem few_f (a0 : ByteArray) : ∃ t, tinderboxlaw02_few.f a0 = some t ∧ t.size ≤ 300 := by
  unfold tinderboxlaw02_few.f
  by_cases h : (a0.size : Int) > 300
  · rw [if_pos h, if_pos (by decide), if_pos (by omega)]
    exact ⟨_, rfl, by rw [ByteArray.size_extract]; omega⟩
  · rw [if_neg h]
    exact ⟨_, rfl, by omega⟩
theorem ShaSums : tinderboxlaw02_ShaSums.Pure := by
  intro a0 _
  obtain ⟨t, ht, hs⟩ := few_f a0
  have aw : tinderboxlaw02_awake.f = some true := by decide +kernel
  have e1 : sha_Sum.f t = some (Sh.SHA t) := if_pos (by omega)
  have e2 : tinderboxref02_Sum.f t = some (Sh.SHA t) := if_pos (by omega)
  unfold tinderboxlaw02_ShaSums.f
  rw [ht, Option.bind_some, aw, Option.bind_some, if_pos rfl, e1, Option.bind_some, e2, Option.bind_some, if_pos rfl, Option.bind_some, Sh.SHA_size]
  rfl
end Go.Proofs.Ytomenklhgofjaaa.Pure
