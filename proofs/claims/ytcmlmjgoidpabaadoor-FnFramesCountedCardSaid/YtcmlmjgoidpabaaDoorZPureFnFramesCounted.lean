/- The law on counted frames holds: the statement over numbers and lists. -/
import Derived.Test.YtcmlmjgoidpabaaDoorZFcLaw
import Derived.Test.YtcmlmjgoidpabaaDoorZU
namespace Go.Proofs.YtcmlmjgoidpabaaDoor.PrintWords
theorem sized_ints : type_of% @Go.Proofs.YtcmlmjgoidpabaaDoorW.PrintWords.sized_ints := @Go.Proofs.YtcmlmjgoidpabaaDoorW.PrintWords.sized_ints
end Go.Proofs.YtcmlmjgoidpabaaDoor.PrintWords

