/- Which manifests may be is what the reference says. For every input. -/
import Derived.Test.YtjmabdgebhndhaaDoorXManifestChecksx1
import Derived.Test.YtjmabdgebhndhaaDoorXManifestChecksx2
import Derived.Test.YtjmabdgebhndhaaDoorXManifestChecksx3
import Derived.Test.YtjmabdgebhndhaaDoorXManifestChecksx4
namespace Go.Proofs.YtjmabdgebhndhaaDoor.Pure
open Go.RowKit Go.Proofs.YtjmabdgebhndhaaDoor Go.Proofs.YtjmabdgebhndhaaDoor.XManifestChecks Go.Proofs.YtjmabdgebhndhaaDoorW.PrintWords Go.Proofs.YtjmabdgebhndhaaDoorW.PrintLast Go.Proofs.YtjmabdgebhndhaaDoorW.PrintMore
set_option linter.unusedVariables false
set_option linter.unusedSimpArgs false
set_option maxRecDepth 100000 in
theorem awake_f : tinderboxlaw20_awake.f 400 = some true := by decide +kernel
theorem check_eq (v l : Int) (d : ByteArray) : ∃ b, manifest_Check.f v l d = some b ∧ tinderboxref20_Check.f v l d = some b := by
  unfold manifest_Check.f tinderboxref20_Check.f
  (repeat' split) <;> first | exact ⟨_, rfl, rfl⟩ | contradiction | omega
theorem ManifestChecks (v l : Int) (d : ByteArray) : ∃ k, tinderboxlaw20_ManifestChecks.f k v l d = some true := by
  obtain ⟨b, h1, h2⟩ := check_eq v l d
  refine ⟨400, ?_⟩
  unfold tinderboxlaw20_ManifestChecks.f
  rw [awake_f, Option.bind_some, if_pos rfl, h1, Option.bind_some, h2, Option.bind_some]
  simp
theorem checks_calls (v l : Int) (d : ByteArray) (w : World) : Calls Tryd.prog 5 #[.agg #[.int .i64 v, .int .i64 l, .string d]] w fun e w' => e = .returned (.bool true) ∧ Below w.heap.size w w' := by
  obtain ⟨k, h⟩ := ManifestChecks v l d
  exact tinderboxlaw20_ManifestChecks.calls k v l d true w h rfl
end Go.Proofs.YtjmabdgebhndhaaDoor.Pure
