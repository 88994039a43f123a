/- The program's CountGamesOf answers as the reference's does, for every number of frames and every total, whatever they are; nothing else is asked. -/
import Derived.Test.YtdioconinnpmmaaMFnExactCountGamesOfx5
import Derived.Test.YtdioconinnpmmaaWSized
set_option linter.unusedVariables false
set_option linter.unusedSimpArgs false
namespace Go.Proofs.Ytdioconinnpmmaa.Pure
open Go.RowKit Go.Proofs.Ytdioconinnpmmaa.MFnExactCountGamesOf Go.Proofs.YtdioconinnpmmaaW.PrintWords Go.Proofs.YtdioconinnpmmaaW.PrintLast
theorem FnExactCountGamesOf : laws_FnExactCountGamesOf.Pure := by
  intro a0 a1 _ _
  refine ⟨0, ?_⟩
  unfold laws_FnExactCountGamesOf.f spec_CountGamesOf.f impl_CountGamesOf.f
  simp
end Go.Proofs.Ytdioconinnpmmaa.Pure
namespace Go.Proofs.Ytdioconinnpmmaa.PrintWords
theorem sized_ints : type_of% @Go.Proofs.YtdioconinnpmmaaW.PrintWords.sized_ints := @Go.Proofs.YtdioconinnpmmaaW.PrintWords.sized_ints
end Go.Proofs.Ytdioconinnpmmaa.PrintWords
