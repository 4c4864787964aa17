import Derived.Test.YtjbfkdbbdkafnaaTre1
import Derived.Test.YtjbfkdbbdkafnaaPXc
set_option linter.unusedVariables false
set_option linter.unusedSimpArgs false
set_option linter.unusedVariables false
set_option linter.unusedSimpArgs false
set_option maxRecDepth 100000
noncomputable section
namespace PX
open Go
open Md
namespace Te
theorem se_ok : EnvOK Go.Proofs.Try.prog SE := env_ok ⟨rfl, rfl, rfl, rfl⟩ (⟨⟨Go.Proofs.Try.func9, rfl, rfl⟩, ⟨Go.Proofs.Try.func23, rfl, rfl⟩, ⟨Go.Proofs.Try.func22, rfl, rfl⟩, ⟨Go.Proofs.Try.func11, rfl, rfl⟩, ⟨Go.Proofs.Try.func24, rfl, rfl⟩, ⟨Go.Proofs.Try.func14, rfl, rfl⟩, ⟨Go.Proofs.Try.func26, rfl, rfl⟩, ⟨Go.Proofs.Try.func16, rfl, rfl⟩, ⟨Go.Proofs.Try.func13, rfl, rfl⟩, ⟨Go.Proofs.Try.func17, rfl, rfl⟩, ⟨Go.Proofs.Try.func10, rfl, rfl⟩, ⟨Go.Proofs.Try.func12, rfl, rfl⟩, ⟨Go.Proofs.Try.func3, rfl, rfl⟩, ⟨Go.Proofs.Try.func25, rfl, rfl⟩, ⟨Go.Proofs.Try.func15, rfl, rfl⟩, ⟨Go.Proofs.Try.func4, rfl, rfl⟩, ⟨Go.Proofs.Try.func18, rfl, rfl⟩, ⟨Go.Proofs.Try.func5, rfl, rfl⟩, ⟨Go.Proofs.Try.func19, rfl, rfl⟩, ⟨Go.Proofs.Try.func6, rfl, rfl⟩, ⟨Go.Proofs.Try.func7, rfl, rfl⟩, ⟨Go.Proofs.Try.func20, rfl, rfl⟩, ⟨Go.Proofs.Try.func21, rfl, rfl⟩, ⟨Go.Proofs.Try.func8, rfl, rfl⟩, trivial⟩) (by kernel_rfl) (by kernel_rfl) (by kernel_rfl) (by kernel_rfl) rfl trivial
end Te
end PX
