/- What the program's function answers on a lane: for every number of frames and every list of rolls. -/
import Derived.Test.YtdioconinnpmmaaDoorLaneR
set_option linter.unusedVariables false
set_option linter.unusedSimpArgs false
namespace Go.Proofs.YtdioconinnpmmaaDoor.Lane
open Go.RowKit Go.Proofs.YtdioconinnpmmaaDoorW.PrintWords Go.Proofs.YtdioconinnpmmaaDoorW.PrintLast
set_option maxRecDepth 100000 in
set_option maxHeartbeats 4000000 in
theorem areRolls_calls (w : World) (F : Int) (A : Option Addr) (c : Nat) (xs : List Int) (hr : ReadsInt w .i64 A xs.length xs) :
    Calls Tryd.prog 20 #[.int .i64 F, .slice A xs.length c] w fun e w' => e = .returned (.bool (readV F xs).isSome) ∧ Below w.heap.size w w' := by
  cases hv : readV F xs with
  | none =>
    go_enter Tryd.func20, Tryd.ntmps20
    go_wp2_with (go_at_call 32; refine (read_none hv _ _ _ hr).mono ?_; rintro e w' ⟨rfl, hb⟩)
    go_ret
    exact ⟨rfl, by repeat (first | exact hb | apply pw_below_drewN)⟩
  | some s =>
    go_enter Tryd.func20, Tryd.ntmps20
    go_wp2_with (go_at_call 32; refine (read_some hv _ _ _ hr).mono ?_; rintro e w' ⟨rfl, own, hl, hg, p0, p1, f0, f1, hb⟩)
    go_ret
    exact ⟨rfl, by repeat (first | exact hb | apply pw_below_drewN)⟩
end Go.Proofs.YtdioconinnpmmaaDoor.Lane
