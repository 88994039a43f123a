/- The law on potted balls holds: the statement over numbers and lists. -/
import Derived.Test.YtcmlmjgoidpabaaGreatDoorZFpLaw
import Derived.Test.YtcmlmjgoidpabaaGreatDoorZMFnFramesPottedx16
import Derived.Test.YtcmlmjgoidpabaaGreatDoorZU
namespace Go.Proofs.YtcmlmjgoidpabaaGreatDoor.Pure
open Go.RowKit Go.Proofs.YtcmlmjgoidpabaaGreatDoor.MFnFramesPotted Go.Proofs.YtcmlmjgoidpabaaGreatDoorW.PrintWords Go.Proofs.YtcmlmjgoidpabaaGreatDoorW.PrintLast
theorem FnFramesPotted : laws_FnFramesPotted.Pure := by
  intro l0 l1 _ _ h0 _ _ h1
  exact Tot.rounds (law_t (u8_in h0) (u8_in h1))
end Go.Proofs.YtcmlmjgoidpabaaGreatDoor.Pure
namespace Go.Proofs.YtcmlmjgoidpabaaGreatDoor.PrintWords
theorem sized_ints : type_of% @Go.Proofs.YtcmlmjgoidpabaaGreatDoorW.PrintWords.sized_ints := @Go.Proofs.YtcmlmjgoidpabaaGreatDoorW.PrintWords.sized_ints
end Go.Proofs.YtcmlmjgoidpabaaGreatDoor.PrintWords

