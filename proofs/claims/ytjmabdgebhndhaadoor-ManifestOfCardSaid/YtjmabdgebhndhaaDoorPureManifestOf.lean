/- The manifest of an image has its length and its digest, and may be just where the reference says so. For every input. -/
import Derived.Test.YtjmabdgebhndhaaDoorXManifestOfx1
import Derived.Test.YtjmabdgebhndhaaDoorXManifestOfx2
import Derived.Test.YtjmabdgebhndhaaDoorXManifestOfx3
import Derived.Test.YtjmabdgebhndhaaDoorXManifestOfx4
import Derived.Test.YtjmabdgebhndhaaDoorXManifestOfx5
namespace Go.Proofs.YtjmabdgebhndhaaDoor.Pure
open Go.RowKit Go.Proofs.YtjmabdgebhndhaaDoor Go.Proofs.YtjmabdgebhndhaaDoor.XManifestOf Go.Proofs.YtjmabdgebhndhaaDoorW.PrintWords Go.Proofs.YtjmabdgebhndhaaDoorW.PrintLast Go.Proofs.YtjmabdgebhndhaaDoorW.PrintMore
set_option linter.unusedVariables false
set_option linter.unusedSimpArgs false
set_option maxRecDepth 100000 in
theorem awake_f : tinderboxlaw20_awake.f 400 = some true := by decide +kernel
theorem few_f (a0 : ByteArray) : ∃ t, tinderboxlaw20_few.f a0 = some t ∧ t.size ≤ 400 := by
  unfold tinderboxlaw20_few.f
  by_cases h : (a0.size : Int) > 400
  · rw [if_pos h, if_pos (by decide), if_pos (by omega)]
    exact ⟨_, rfl, by rw [ByteArray.size_extract]; omega⟩
  · rw [if_neg h]
    exact ⟨_, rfl, by omega⟩
theorem check_eq (v l : Int) (d : ByteArray) : ∃ b, manifest_Check.f v l d = some b ∧ tinderboxref20_Check.f v l d = some b := by
  unfold manifest_Check.f tinderboxref20_Check.f
  (repeat' split) <;> first | exact ⟨_, rfl, rfl⟩ | contradiction | omega
theorem ManifestOf (a0 : Int) (_ : (Lit.int .i64 a0).wf = true) (a1 : ByteArray) (_ : a1.size ≤ 140737488351232) : ∃ k, tinderboxlaw20_ManifestOf.f k a0 a1 = some true := by
  obtain ⟨t, ht, hs⟩ := few_f a1
  have e1 : sha_Sum.f t = some (Sh.SHA t) := if_pos (by omega)
  have e2 : tinderboxref02_Sum.f t = some (Sh.SHA t) := if_pos (by omega)
  have e3 : manifest_Of.f a0 t = some (a0, (t.size : Int), Sh.SHA t) := by unfold manifest_Of.f; rw [e1, Option.bind_some]
  obtain ⟨b, h1, h2⟩ := check_eq a0 t.size (Sh.SHA t)
  refine ⟨400, ?_⟩
  unfold tinderboxlaw20_ManifestOf.f
  rw [ht, Option.bind_some, e3, Option.bind_some, awake_f, Option.bind_some, if_pos rfl, e2, Option.bind_some, if_pos (by simp), h1, Option.bind_some, h2, Option.bind_some]
  simp
end Go.Proofs.YtjmabdgebhndhaaDoor.Pure
