/- The digest is the reference digest at every length around whole blocks. For every input. -/
import Derived.Test.YtomenklhgofjaaaXShaLengthsx1
import Derived.Test.YtomenklhgofjaaaXShaLengthsx2
import Derived.Test.YtomenklhgofjaaaMBits
namespace Go.Proofs.Ytomenklhgofjaaa.Pure
open Go.RowKit Go.Proofs.Ytomenklhgofjaaa Go.Proofs.Ytomenklhgofjaaa.XShaLengths Go.Proofs.YtomenklhgofjaaaW.PrintWords Go.Proofs.YtomenklhgofjaaaW.PrintLast Go.Proofs.YtomenklhgofjaaaW.PrintMore
set_option linter.unusedVariables false
set_option linter.unusedSimpArgs false
theorem l_all (x1 : Int) : ∀ (n : Nat) (x5 : List Int) (i : Nat), x5.length = i + n → x5.length ≤ 300 → ∃ k, tinderboxlaw02_ShaLengths.l0 k x1 x5 (i : Int) = some true := by
  intro n
  induction n with
  | zero =>
    intro x5 i hl hs
    have aw : tinderboxlaw02_awake.f = some true := by decide +kernel
    have hz : (strOfNums x5).size ≤ 140737488351232 := by rw [Sh.strNums_size]; omega
    have e1 : sha_Sum.f (strOfNums x5) = some (Sh.SHA (strOfNums x5)) := if_pos hz
    have e2 : tinderboxref02_Sum.f (strOfNums x5) = some (Sh.SHA (strOfNums x5)) := if_pos hz
    refine ⟨1, ?_⟩
    unfold tinderboxlaw02_ShaLengths.l0
    rw [if_neg (by omega), aw, Option.bind_some, if_pos rfl, e1, Option.bind_some, e2, Option.bind_some]
    exact congrArg some (beq_self_eq_true _)
  | succ n ih =>
    intro x5 i hl hs
    obtain ⟨k, hk⟩ := ih (x5.set ((i : Int)).toNat ((x1 + ((i : Int) % 256)) % 256)) (i + 1) (by rw [List.length_set]; omega) (by rw [List.length_set]; exact hs)
    refine ⟨k + 1, ?_⟩
    unfold tinderboxlaw02_ShaLengths.l0
    rw [if_pos (by omega), if_pos (by omega), show wrap64 ((i : Int) + 1) = ((i + 1 : Nat) : Int) from by unfold wrap64; omega]
    exact hk
theorem ShaLengths : tinderboxlaw02_ShaLengths.Pure := by
  intro a0 a1 _ _
  have hm : Go.bits .and .i64 a0 255 = a0 % 256 := Bt.mask64 a0 8 (by decide)
  obtain ⟨k, hk⟩ := l_all a1 (a0 % 256).toNat (List.replicate (a0 % 256).toNat 0) 0 (by rw [List.length_replicate]; omega) (by rw [List.length_replicate]; omega)
  refine ⟨k, ?_⟩
  unfold tinderboxlaw02_ShaLengths.f
  rw [hm, if_pos (by omega), if_pos (by omega)]
  exact hk
end Go.Proofs.Ytomenklhgofjaaa.Pure
