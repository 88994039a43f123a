/- What the program's function answers on a lane: for every number of frames and every list of rolls. -/
import Derived.Test.YtdioconinnpmmaaLaneR
set_option linter.unusedVariables false
set_option linter.unusedSimpArgs false
namespace Go.Proofs.Ytdioconinnpmmaa.Lane
open Go.RowKit Go.Proofs.YtdioconinnpmmaaW.PrintWords Go.Proofs.YtdioconinnpmmaaW.PrintLast
def allOf (F : Int) (xs : List Int) : Bool := match readV F xs with
  | some s => allV F.toNat s.1
  | none => false
set_option maxRecDepth 100000 in
set_option maxHeartbeats 4000000 in
theorem areAll_calls (w : World) (F : Int) (A : Option Addr) (c : Nat) (xs : List Int) (hr : ReadsInt w .i64 A xs.length xs) :
    Calls Try.prog 56 #[.int .i64 F, .slice A xs.length c] w fun e w' => e = .returned (.tuple #[.bool (allOf F xs), .bool (readV F xs).isSome]) ∧ Below w.heap.size w w' := by
  unfold allOf
  cases hv : readV F xs with
  | none =>
    go_enter Try.func56, Try.ntmps56
    go_wp2_with (go_at_call 30; refine (read_none hv _ _ _ hr).mono ?_; rintro e w' ⟨rfl, hb⟩)
    go_ret2
    exact ⟨rfl, by repeat (first | exact hb | apply pw_below_drewN)⟩
  | some s =>
    go_enter Try.func56, Try.ntmps56
    go_wp2_with (first | (go_at_call 30; refine (read_some hv _ _ _ hr).mono ?_; rintro e w' ⟨rfl, own, hl, hg, p0, p1, f0, f1, hb⟩) | (go_at_call 31; refine (all_calls hl f0 hg.1).mono ?_; rintro e w'' ⟨rfl, ⟨nd, rfl⟩⟩))
    go_ret2
    exact ⟨rfl, by repeat (first | exact hb | apply pw_below_drewN)⟩
end Go.Proofs.Ytdioconinnpmmaa.Lane
