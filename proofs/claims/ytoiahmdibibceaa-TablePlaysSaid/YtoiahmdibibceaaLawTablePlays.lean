-- Written by lawrow.py of this repo.
import Derived.Test.YtoiahmdibibceaaRows
import Derived.Test.YtoiahmdibibceaaXRows
import Derived.Test.YtoiahmdibibceaaXTbO2
import Derived.WalkKit
import Derived.ProofKit
import Derived.OpenShut
import Derived.ShutString
import Derived.ChangeOld
import Derived.Below
import Derived.SizedLaws
import Derived.Carry
namespace Go.Proofs.Ytoiahmdibibceaa.tablePlays
open Go.ChangeShapes Go.WideShapes Go.ChangeAt Go.RowKit
open Go.ChangeMaps (open_string shut_string)
set_option linter.unusedVariables false
theorem own : ownKnob Try.prog.godebug = none := by kernel_rfl
theorem laid : laidOutB Try.prog = true := by kernel_rfl
theorem rk49 {fs : Array Field} (h : Try.prog.underlying 49 = some (.struct fs)) : Go.Deep.oneCellFields Try.prog fs = true ∧ Try.prog.cellsOf 49 = fs.size ∧ (∀ (i : Nat) (f : Field), fs[i]? = some f → Try.prog.underlying f.type = some (.int .i64)) ∧ fs.size = 2 := by
  rw [Try.underlying49] at h
  injection h with h
  injection h with h
  subst h
  refine ⟨by kernel_rfl, by kernel_rfl, fun i f hf => ?_, rfl⟩
  have h3 : f.type = 3 := by
    rcases i with _ | _ | i
    · (injection hf with hf; rw [← hf]; rfl)
    · (injection hf with hf; rw [← hf]; rfl)
    · cases hf
  rw [h3]
  exact Try.underlying3
set_option maxRecDepth 100000 in
theorem lifted (os : Os) (started : os.Started) (H : Type) (enc : TypeId × Value → H) :
    ReturnsInHanded {} Try.checked os 8 .any (Rows.tablePlaysSpec.pre6 enc Try.prog Try.f8 Rows.tablePlaysRow.domain false) (Rows.tablePlaysSpec.post enc Try.prog Try.f8 false true false false) := by
  refine returnsInHanded_of_change_sized (C := Try.checked) own started (by kernel_rfl) Try.func8
    (ChangeSpec.witness6 (enc := enc) (C := Try.checked) false ⟨#[], #[.int .i64 0, .slice none 0 0], []⟩ 8 (by kernel_rfl) (by kernel_rfl) (by kernel_rfl) (by kernel_rfl)) ?_
  intro W base args ds gs before hval0 hW hcnd hsz0 _
  have hsz : (DataW.weightsEach Try.prog (Try.f8.params.toList ++ Rows.tablePlaysSpec.plain.varTypes Try.prog) (ds ++ gs)).all (· ≤ reachBytes) = true := hsz0
  have hval : ∀ (j : Nat) t v, Try.f8.params[j]? = some t → args[j]? = some v → Value.okWide Try.prog W .any base t v := hval0
  have hW' := hW
  obtain ⟨p, q, hA0, hV, rfl, hfz, hnd⟩ := hW
  have hA : DataW.TrodAll enc Try.prog W 0 (fun _ => true) true Try.f8.params.toList args.toList ds p := hA0
  rw [Try.params8] at hA hval hsz
  obtain ⟨v0, vs0, d0, ds0, p0, q0, hargs, rfl, rfl, h0, r0⟩ := trodAll_cons hA
  obtain ⟨v1, vs1, d1, ds1, p1, q1, rfl, rfl, rfl, h1, r1⟩ := trodAll_cons r0
  obtain ⟨rfl, rfl, rfl⟩ := trodAll_nil r1
  obtain rfl : args = #[v0, v1] := by cases args; simp_all
  obtain ⟨rfl, rfl⟩ := trodVars_none hV
  obtain ⟨a0, rfl, rfl, rfl, w0⟩ := open_int Try.underlying3 (hval 0 3 v0 rfl rfl) h0
  have k1 := h1
  have hlt1 : ∀ x ∈ p1, x.block < W.heap.size := fun x hx => by simpa using hW'.lt x (by simp [hx])
  obtain ⟨ad1, len1, cap1, rfl⟩ := okWide_slice Try.underlying55 (hval 1 55 v1 rfl rfl)
  obtain ⟨fuel1, g1⟩ := h1
  obtain ⟨A1, c1, m1, e1, hc1, hm1, w1, hr1⟩ := Rw.open_C_lists Try.underlying55 Try.underlying49 (rk49 Try.underlying49).1 (rk49 Try.underlying49).2.1 (rk49 Try.underlying49).2.2.1 g1
  rw [(rk49 Try.underlying49).2.2.2] at w1 hr1
  injection e1 with ea eb ec
  subst ea
  subst eb
  subst ec
  have hX1 := Tb.acts_of (fun ns h => (w1 ns h).1) hr1
  clear hA0 hval0 hsz0 hsz
  have hcalls := Tb.plays_calls a0 ad1 cap1 _ W (by rw [List.length_map]; exact Nat.le_trans hc1 (Nat.le_trans hm1 (by decide))) hX1
  rw [List.length_map] at hcalls
  refine hcalls.mono fun e W' ⟨he, bel⟩ => ?_
  subst he
  exact ⟨_, rfl, _, _, _, [], _, [], hW', trodAll_mk1 (shut_bool Try.underlying4 _), (trodAll_cons_mk (shut_int Try.underlying3 w0) (trodAll_cons_mk (Below.trod laid (by kernel_rfl) (of_decide_eq_true (by kernel_rfl)) k1 bel hlt1) trodAll_mk0)), rfl, bel.frame _, fun h => by cases h⟩
theorem over : Rows.tablePlaysRow.holds Try.pinned (OpenSpec.ofChange Rows.tablePlaysSpec) :=
  OpenClaim.holds_of_wide 8 Try.f8 rfl rfl rfl rfl rfl rfl rfl ⟨rfl, rfl, rfl, rfl, rfl⟩ rfl rfl rfl rfl rfl (by kernel_rfl) Try.func8 (by kernel_rfl)
    (of_decide_eq_true (by kernel_rfl)) (by unfold Func.isWrapper; first | (rw [if_pos (by decide +kernel)]; kernel_rfl) | (rw [if_neg (by decide +kernel)]; exact ⟨rfl, rfl⟩))
    (fun os started H enc _ => lifted os started H enc)
theorem proved : Rows.TablePlaysSaid := over
#print axioms proved
end Go.Proofs.Ytoiahmdibibceaa.tablePlays
namespace Go.Proofs.Ytoiahmdibibceaa
/-- The row, under a short name, for the claim. -/
theorem tablePlays_holds : Rows.TablePlaysSaid := tablePlays.proved
end Go.Proofs.Ytoiahmdibibceaa
