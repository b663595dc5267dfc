import Derived.Test.YtoiahmdibibceaaXTbLC
import Derived.Test.YtoiahmdibibceaaXTbO
set_option linter.unusedVariables false
set_option linter.unusedSimpArgs false
namespace Go.Proofs.Ytoiahmdibibceaa.Tb
open Go.RowKit
theorem acts_of {W : World} {A : Option Addr} {m : List (List Int)} (hw : ∀ ns ∈ m, ns.length = 2)
    (hr : 0 < m.length → ∃ ad : Addr, A = some ad ∧ ∀ (j : Nat) ns, m[j]? = some ns → ∀ (i : Nat) u, (ns.map (Value.int .i64))[i]? = some u → W.cell? (ad.add (j * 2 + i)) = some u) :
    ActsAt W A (m.map fun ns : List Int => (ns.getD 0 0, ns.getD 1 0)) := by
  intro h0
  rw [List.length_map] at h0
  obtain ⟨ad, hA, hc⟩ := hr h0
  refine ⟨ad, hA, fun j k n hj => ?_⟩
  rw [List.getElem?_map] at hj
  cases hm : m[j]? with
  | none => rw [hm] at hj; cases hj
  | some ns =>
    rw [hm] at hj
    injection hj with hj
    injection hj with h1 h2
    have hl := hw ns (List.mem_of_getElem? hm)
    match ns, hl with
    | [a, b], _ =>
      have e1 : a = k := h1
      have e2 : b = n := h2
      subst e1 e2
      exact ⟨hc j _ hm 0 _ rfl, hc j _ hm 1 _ rfl⟩
end Go.Proofs.Ytoiahmdibibceaa.Tb
