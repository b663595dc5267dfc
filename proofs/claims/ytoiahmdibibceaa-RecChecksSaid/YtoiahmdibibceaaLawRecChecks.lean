-- Written by lawrow.py of this repo.
import Derived.Test.YtoiahmdibibceaaRows
import Derived.Test.YtoiahmdibibceaaXRecChecksx9
import Derived.Test.YtoiahmdibibceaaPureRecChecks
import Derived.Test.YtoiahmdibibceaaXRows
import Derived.WalkKit
import Derived.ProofKit
import Derived.OpenShut
import Derived.ShutString
import Derived.ChangeOld
import Derived.Below
import Derived.SizedLaws
import Derived.Carry
namespace Go.Proofs.Ytoiahmdibibceaa.recChecks
open Go.ChangeShapes Go.WideShapes Go.ChangeAt Go.RowKit
open Go.ChangeMaps (open_string shut_string)
set_option linter.unusedVariables false
theorem own : ownKnob Try.prog.godebug = none := by kernel_rfl
theorem laid : laidOutB Try.prog = true := by kernel_rfl
theorem rk58 {fs : Array Field} (h : Try.prog.underlying 58 = some (.struct fs)) : Go.Deep.oneCellFields Try.prog fs = true ∧ Try.prog.cellsOf 58 = fs.size ∧ (∀ (i : Nat) (f : Field), fs[i]? = some f → Try.prog.underlying f.type = some (.int .i64)) ∧ fs.size = 6 := by
  rw [Try.underlying58] at h
  injection h with h
  injection h with h
  subst h
  refine ⟨by kernel_rfl, by kernel_rfl, fun i f hf => ?_, rfl⟩
  have h3 : f.type = 3 := by
    rcases i with _ | _ | _ | _ | _ | _ | i
    · (injection hf with hf; rw [← hf]; rfl)
    · (injection hf with hf; rw [← hf]; rfl)
    · (injection hf with hf; rw [← hf]; rfl)
    · (injection hf with hf; rw [← hf]; rfl)
    · (injection hf with hf; rw [← hf]; rfl)
    · (injection hf with hf; rw [← hf]; rfl)
    · cases hf
  rw [h3]
  exact Try.underlying3
set_option maxRecDepth 100000 in
theorem lifted (os : Os) (started : os.Started) (H : Type) (enc : TypeId × Value → H) :
    ReturnsInHanded {} Try.checked os 9 .any (Rows.recChecksSpec.pre6 enc Try.prog Try.f9 Rows.recChecksRow.domain false) (Rows.recChecksSpec.post enc Try.prog Try.f9 false true false false) := by
  refine returnsInHanded_of_change_sized (C := Try.checked) own started (by kernel_rfl) Try.func9
    (ChangeSpec.witness6 (enc := enc) (C := Try.checked) false ⟨#[], #[.agg #[.int .i64 0, .int .i64 0, .int .i64 0, .int .i64 0, .int .i64 0, .int .i64 0]], []⟩ 8 (by kernel_rfl) (by kernel_rfl) (by kernel_rfl) (by kernel_rfl)) ?_
  intro W base args ds gs before hval0 hW hcnd hsz0 _
  have hsz : (DataW.weightsEach Try.prog (Try.f9.params.toList ++ Rows.recChecksSpec.plain.varTypes Try.prog) (ds ++ gs)).all (· ≤ reachBytes) = true := hsz0
  have hval : ∀ (j : Nat) t v, Try.f9.params[j]? = some t → args[j]? = some v → Value.okWide Try.prog W .any base t v := hval0
  have hW' := hW
  obtain ⟨p, q, hA0, hV, rfl, hfz, hnd⟩ := hW
  have hA : DataW.TrodAll enc Try.prog W 0 (fun _ => true) true Try.f9.params.toList args.toList ds p := hA0
  rw [Try.params9] at hA hval hsz
  obtain ⟨v0, vs0, d0, ds0, p0, q0, hargs, rfl, rfl, h0, r0⟩ := trodAll_cons hA
  obtain ⟨rfl, rfl, rfl⟩ := trodAll_nil r0
  obtain rfl : args = #[v0] := by cases args; simp_all
  obtain ⟨rfl, rfl⟩ := trodVars_none hV
  have k0 := h0
  have hlt0 : ∀ x ∈ p0, x.block < W.heap.size := fun x hx => by simpa using hW'.lt x (by simp [hx])
  obtain ⟨ns0, n0, rfl, w0⟩ := Rw.open_rec Try.underlying58 (rk58 Try.underlying58).1 (rk58 Try.underlying58).2.1 (rk58 Try.underlying58).2.2.1 (hval 0 58 v0 rfl rfl) h0
  rw [(rk58 Try.underlying58).2.2.2] at n0
  obtain ⟨a0_0, a0_1, a0_2, a0_3, a0_4, a0_5, rfl⟩ := Rw.six _ n0
  clear hA0 hval0 hsz0 hsz
  obtain ⟨k, hk⟩ := Pure.RecChecks a0_0 a0_1 a0_2 a0_3 a0_4 a0_5
  refine (XRecChecks.tinderboxlaw07_RecChecks.calls k a0_0 a0_1 a0_2 a0_3 a0_4 a0_5 true W  hk rfl).mono fun e W' ⟨he, bel⟩ => ?_
  subst he
  exact ⟨_, rfl, _, _, _, [], _, [], hW', trodAll_mk1 (shut_bool Try.underlying4 _), (trodAll_cons_mk (Below.trod laid (by kernel_rfl) (of_decide_eq_true (by kernel_rfl)) k0 bel hlt0) trodAll_mk0), rfl, bel.frame _, fun h => by cases h⟩
theorem over : Rows.recChecksRow.holds Try.pinned (OpenSpec.ofChange Rows.recChecksSpec) :=
  OpenClaim.holds_of_wide 9 Try.f9 rfl rfl rfl rfl rfl rfl rfl ⟨rfl, rfl, rfl, rfl, rfl⟩ rfl rfl rfl rfl rfl (by kernel_rfl) Try.func9 (by kernel_rfl)
    (of_decide_eq_true (by kernel_rfl)) (by unfold Func.isWrapper; first | (rw [if_pos (by decide +kernel)]; kernel_rfl) | (rw [if_neg (by decide +kernel)]; exact ⟨rfl, rfl⟩))
    (fun os started H enc _ => lifted os started H enc)
theorem proved : Rows.RecChecksSaid := over
#print axioms proved
end Go.Proofs.Ytoiahmdibibceaa.recChecks
namespace Go.Proofs.Ytoiahmdibibceaa
/-- The row, under a short name, for the claim. -/
theorem recChecks_holds : Rows.RecChecksSaid := recChecks.proved
end Go.Proofs.Ytoiahmdibibceaa
