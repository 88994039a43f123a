/- What the program's function answers on a lane: for every number of frames and every list of rolls. -/
import Derived.Test.YtnpnbgohdmonmaaLaneR
set_option linter.unusedVariables false
set_option linter.unusedSimpArgs false
namespace Go.Proofs.Ytnpnbgohdmonmaa.Lane
open Go.RowKit Go.Proofs.YtnpnbgohdmonmaaW.PrintWords Go.Proofs.YtnpnbgohdmonmaaW.PrintLast
theorem btoi_calls (w : World) (b : Bool) : Calls Try.prog 52 #[.bool b] w fun e w' => e = .returned (.int .i64 (if b = true then 1 else 0)) ∧ Drawn0 w w' := by
  cases b with
  | true =>
    go_enter Try.func52, Try.ntmps52
    go_wp2
    go_ret
    exact ⟨rfl, by repeat (first | exact Drawn0.refl _ | apply Drawn0.step)⟩
  | false =>
    go_enter Try.func52, Try.ntmps52
    go_wp2
    go_ret
    exact ⟨rfl, by repeat (first | exact Drawn0.refl _ | apply Drawn0.step)⟩
theorem btoi_of (w : World) {b : Bool} {d : Int} (h : (if b = true then (1 : Int) else 0) = d) : Calls Try.prog 52 #[.bool b] w fun e w' => e = .returned (.int .i64 d) ∧ Drawn0 w w' := h ▸ btoi_calls w b
/-- How many frames are so. -/
def manyV (p : List Int → Bool) (bg : List (List Int)) : Int := ((bg.countP p : Nat) : Int)
theorem manyV_step (p : List Int → Bool) (bg : List (List Int)) (i : Nat) (hi : i < bg.length) : manyV p (bg.take (i + 1)) = manyV p (bg.take i) + (if p bg[i] = true then 1 else 0) := by
  unfold manyV
  rw [List.take_succ_eq_append_getElem hi, List.countP_append]
  cases h : p bg[i] <;> simp [h]
theorem manyV_le (p : List Int → Bool) (bg : List (List Int)) (i : Nat) (hi : i ≤ bg.length) : 0 ≤ manyV p (bg.take i) ∧ manyV p (bg.take i) ≤ i := by
  unfold manyV
  have h := List.countP_le_length (p := p) (l := bg.take i)
  rw [List.length_take] at h
  omega
end Go.Proofs.Ytnpnbgohdmonmaa.Lane
