/- The program's MostGames answers as the reference's does, for every number of frames, whatever it is; nothing else is asked. -/
import Derived.Test.YtdioconinnpmmaaMFnExactMostGamesx5
import Derived.Test.YtdioconinnpmmaaWSized
set_option linter.unusedVariables false
set_option linter.unusedSimpArgs false
namespace Go.Proofs.Ytdioconinnpmmaa.Pure
open Go.RowKit Go.Proofs.Ytdioconinnpmmaa.MFnExactMostGames Go.Proofs.YtdioconinnpmmaaW.PrintWords Go.Proofs.YtdioconinnpmmaaW.PrintLast
theorem FnExactMostGames : laws_FnExactMostGames.Pure := by
  intro a0 _
  refine ⟨0, ?_⟩
  unfold laws_FnExactMostGames.f spec_MostGames.f impl_MostGames.f
  simp
end Go.Proofs.Ytdioconinnpmmaa.Pure
namespace Go.Proofs.Ytdioconinnpmmaa.PrintWords
theorem sized_ints : type_of% @Go.Proofs.YtdioconinnpmmaaW.PrintWords.sized_ints := @Go.Proofs.YtdioconinnpmmaaW.PrintWords.sized_ints
end Go.Proofs.Ytdioconinnpmmaa.PrintWords
