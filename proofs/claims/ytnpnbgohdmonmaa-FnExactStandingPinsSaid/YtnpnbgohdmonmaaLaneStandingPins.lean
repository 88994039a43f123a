/- What the program's function answers on a lane: for every number of frames and every list of rolls. -/
import Derived.Test.YtnpnbgohdmonmaaLaneR
set_option linter.unusedVariables false
set_option linter.unusedSimpArgs false
namespace Go.Proofs.Ytnpnbgohdmonmaa.Lane
open Go.RowKit Go.Proofs.YtnpnbgohdmonmaaW.PrintWords Go.Proofs.YtnpnbgohdmonmaaW.PrintLast
def standOf (F : Int) (xs : List Int) : Int × Bool := match readV F xs with
  | some s => if allV F.toNat s.1 = true then (0, false) else (s.2.1, true)
  | none => (0, false)
set_option maxRecDepth 100000 in
set_option maxHeartbeats 4000000 in
theorem standing_calls (w : World) (F : Int) (A : Option Addr) (c : Nat) (xs : List Int) (hr : ReadsInt w .i64 A xs.length xs) :
    Calls Try.prog 22 #[.int .i64 F, .slice A xs.length c] w fun e w' => e = .returned (.tuple #[.int .i64 (standOf F xs).1, .bool (standOf F xs).2]) ∧ Below w.heap.size w w' := by
  cases hv : readV F xs with
  | none =>
    rw [show standOf F xs = (0, false) by unfold standOf; rw [hv]]
    go_enter Try.func22, Try.ntmps22
    go_wp2_with (go_at_call 47; refine (read_none hv _ _ _ hr).mono ?_; rintro e w' ⟨rfl, hb⟩)
    go_ret2
    exact ⟨rfl, by repeat (first | exact hb | apply pw_below_drewN)⟩
  | some s =>
    cases ha : allV F.toNat s.1 with
    | true =>
      rw [show standOf F xs = (0, false) by unfold standOf; rw [hv]; simp [ha]]
      go_enter Try.func22, Try.ntmps22
      go_wp2_with (first | (go_at_call 47; refine (read_some hv _ _ _ hr).mono ?_; rintro e w' ⟨rfl, own, hl, hg, p0, p1, f0, f1, hb⟩) | (go_at_call 49; refine (all_calls hl f0 hg.1).mono ?_; rw [ha]; rintro e w'' ⟨rfl, ⟨nd, rfl⟩⟩))
      go_ret2
      exact ⟨rfl, by repeat (first | exact hb | apply pw_below_drewN)⟩
    | false =>
      rw [show standOf F xs = (s.2.1, true) by unfold standOf; rw [hv]; simp [ha]]
      go_enter Try.func22, Try.ntmps22
      go_wp2_with (first | (go_at_call 47; refine (read_some hv _ _ _ hr).mono ?_; rintro e w' ⟨rfl, own, hl, hg, p0, p1, f0, f1, hb⟩; obtain ⟨k0, k2, k3, _, fz, _, _⟩ := hl.cells) | (go_at_call 49; refine (all_calls hl f0 hg.1).mono ?_; rw [ha]; rintro e w'' ⟨rfl, ⟨nd, rfl⟩⟩))
      go_ret2
      exact ⟨rfl, by repeat (first | exact hb | apply pw_below_drewN)⟩
end Go.Proofs.Ytnpnbgohdmonmaa.Lane
