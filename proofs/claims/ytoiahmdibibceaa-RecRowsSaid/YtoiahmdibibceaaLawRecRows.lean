-- Written by lawrow.py of this repo.
import Derived.Test.YtoiahmdibibceaaRows
import Derived.Test.YtoiahmdibibceaaXRecRowsx5
import Derived.Test.YtoiahmdibibceaaPureRecRows
import Derived.Test.YtoiahmdibibceaaXRows
import Derived.WalkKit
import Derived.ProofKit
import Derived.OpenShut
import Derived.ShutString
import Derived.ChangeOld
import Derived.Below
import Derived.SizedLaws
import Derived.Carry
namespace Go.Proofs.Ytoiahmdibibceaa.recRows
open Go.ChangeShapes Go.WideShapes Go.ChangeAt Go.RowKit
open Go.ChangeMaps (open_string shut_string)
set_option linter.unusedVariables false
theorem own : ownKnob Try.prog.godebug = none := by kernel_rfl
theorem laid : laidOutB Try.prog = true := by kernel_rfl
theorem rk58 {fs : Array Field} (h : Try.prog.underlying 58 = some (.struct fs)) : Go.Deep.oneCellFields Try.prog fs = true ∧ Try.prog.cellsOf 58 = fs.size ∧ (∀ (i : Nat) (f : Field), fs[i]? = some f → Try.prog.underlying f.type = some (.int .i64)) ∧ fs.size = 6 := by
  rw [Try.underlying58] at h
  injection h with h
  injection h with h
  subst h
  refine ⟨by kernel_rfl, by kernel_rfl, fun i f hf => ?_, rfl⟩
  have h3 : f.type = 3 := by
    rcases i with _ | _ | _ | _ | _ | _ | i
    · (injection hf with hf; rw [← hf]; rfl)
    · (injection hf with hf; rw [← hf]; rfl)
    · (injection hf with hf; rw [← hf]; rfl)
    · (injection hf with hf; rw [← hf]; rfl)
    · (injection hf with hf; rw [← hf]; rfl)
    · (injection hf with hf; rw [← hf]; rfl)
    · cases hf
  rw [h3]
  exact Try.underlying3
set_option maxRecDepth 100000 in
theorem lifted (os : Os) (started : os.Started) (H : Type) (enc : TypeId × Value → H) :
    ReturnsInHanded {} Try.checked os 10 .any (Rows.recRowsSpec.pre6 enc Try.prog Try.f10 Rows.recRowsRow.domain false) (Rows.recRowsSpec.post enc Try.prog Try.f10 false true false false) := by
  refine returnsInHanded_of_change_sized (C := Try.checked) own started (by kernel_rfl) Try.func10
    (ChangeSpec.witness6 (enc := enc) (C := Try.checked) false ⟨#[], #[.slice none 0 0], []⟩ 8 (by kernel_rfl) (by kernel_rfl) (by kernel_rfl) (by kernel_rfl)) ?_
  intro W base args ds gs before hval0 hW hcnd hsz0 _
  have hsz : (DataW.weightsEach Try.prog (Try.f10.params.toList ++ Rows.recRowsSpec.plain.varTypes Try.prog) (ds ++ gs)).all (· ≤ reachBytes) = true := hsz0
  have hval : ∀ (j : Nat) t v, Try.f10.params[j]? = some t → args[j]? = some v → Value.okWide Try.prog W .any base t v := hval0
  have hW' := hW
  obtain ⟨p, q, hA0, hV, rfl, hfz, hnd⟩ := hW
  have hA : DataW.TrodAll enc Try.prog W 0 (fun _ => true) true Try.f10.params.toList args.toList ds p := hA0
  rw [Try.params10] at hA hval hsz
  obtain ⟨v0, vs0, d0, ds0, p0, q0, hargs, rfl, rfl, h0, r0⟩ := trodAll_cons hA
  obtain ⟨rfl, rfl, rfl⟩ := trodAll_nil r0
  obtain rfl : args = #[v0] := by cases args; simp_all
  obtain ⟨rfl, rfl⟩ := trodVars_none hV
  have k0 := h0
  have hlt0 : ∀ x ∈ p0, x.block < W.heap.size := fun x hx => by simpa using hW'.lt x (by simp [hx])
  obtain ⟨ad0, len0, cap0, rfl⟩ := okWide_slice Try.underlying63 (hval 0 63 v0 rfl rfl)
  obtain ⟨fuel0, g0⟩ := h0
  obtain ⟨A0, c0, m0, e0, hc0, hm0, w0, hr0⟩ := Rw.open_C_lists Try.underlying63 Try.underlying58 (rk58 Try.underlying58).1 (rk58 Try.underlying58).2.1 (rk58 Try.underlying58).2.2.1 g0
  rw [(rk58 Try.underlying58).2.2.2] at w0 hr0
  injection e0 with ea eb ec
  subst ea
  subst eb
  subst ec
  have hC0 := Rw.C_of_lists (w := W) XRecRows.k58 (fun ns => (⟨ns.getD 0 0, ns.getD 1 0, ns.getD 2 0, ns.getD 3 0, ns.getD 4 0, ns.getD 5 0⟩ : XRecRows.S58)) (sz := 6) rfl (Nat.le_trans hc0 (Nat.le_trans hm0 (by decide))) (fun ns hns => by
    have hl := (w0 ns hns).1
    obtain ⟨a0_0, a0_1, a0_2, a0_3, a0_4, a0_5, rfl⟩ := Rw.six _ hl
    exact XRecRows.k58_mk W ⟨a0_0, a0_1, a0_2, a0_3, a0_4, a0_5⟩) (fun ns hns => (w0 ns hns).1) hr0
  obtain ⟨l0, hl0⟩ : ∃ l, l = m0.map (fun ns : List Int => (⟨ns.getD 0 0, ns.getD 1 0, ns.getD 2 0, ns.getD 3 0, ns.getD 4 0, ns.getD 5 0⟩ : XRecRows.S58)) := ⟨_, rfl⟩
  have hL0 : l0.length = m0.length := by rw [hl0]; exact List.length_map _
  rw [← hl0] at hC0
  have hd0 : l0.length ≤ cap0 := by rw [hL0]; exact hc0
  clear hA0 hval0 hsz0 hsz
  obtain ⟨k, hk⟩ := Pure.RecRows l0 (Nat.le_trans hd0 hm0)
  have hcalls := XRecRows.tinderboxlaw07_RecRows.calls k ad0 cap0 l0 true W hC0 hd0 hk rfl
  rw [hL0] at hcalls
  refine hcalls.mono fun e W' ⟨he, bel⟩ => ?_
  subst he
  exact ⟨_, rfl, _, _, _, [], _, [], hW', trodAll_mk1 (shut_bool Try.underlying4 _), (trodAll_cons_mk (Below.trod laid (by kernel_rfl) (of_decide_eq_true (by kernel_rfl)) k0 bel hlt0) trodAll_mk0), rfl, bel.frame _, fun h => by cases h⟩
theorem over : Rows.recRowsRow.holds Try.pinned (OpenSpec.ofChange Rows.recRowsSpec) :=
  OpenClaim.holds_of_wide 10 Try.f10 rfl rfl rfl rfl rfl rfl rfl ⟨rfl, rfl, rfl, rfl, rfl⟩ rfl rfl rfl rfl rfl (by kernel_rfl) Try.func10 (by kernel_rfl)
    (of_decide_eq_true (by kernel_rfl)) (by unfold Func.isWrapper; first | (rw [if_pos (by decide +kernel)]; kernel_rfl) | (rw [if_neg (by decide +kernel)]; exact ⟨rfl, rfl⟩))
    (fun os started H enc _ => lifted os started H enc)
theorem proved : Rows.RecRowsSaid := over
#print axioms proved
end Go.Proofs.Ytoiahmdibibceaa.recRows
namespace Go.Proofs.Ytoiahmdibibceaa
/-- The row, under a short name, for the claim. -/
theorem recRows_holds : Rows.RecRowsSaid := recRows.proved
end Go.Proofs.Ytoiahmdibibceaa
