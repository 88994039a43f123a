/- The sign of a ball: for every lane and every ball of 0 to as many as stand. -/
import Derived.Test.YtdioconinnpmmaaDoorLaneR
import Derived.Laws.EntriesVeiled
import Derived.Shelf.Strings.BuilderK
import Derived.Test.YtdioconinnpmmaaDoorShelf
set_option linter.unusedVariables false
set_option linter.unusedSimpArgs false
namespace Go.Proofs.YtdioconinnpmmaaDoor.Lane
open Go.RowKit Go.Proofs.YtdioconinnpmmaaDoorW.PrintWords Go.Proofs.YtdioconinnpmmaaDoorW.PrintLast
/-! ### The sign of a ball -/
def signV (p : Int) (fr : Bool) (n : Int) : ByteArray := if n = 0 then ⟨#[45]⟩ else if n = p then (if fr = true then ⟨#[88]⟩ else ⟨#[47]⟩) else ⟨(Lib.decDigits n.toNat).toArray⟩
theorem g_itoa {n p : Int} (h : 0 ≤ n ∧ n ≤ p) (hp : p ≤ 10) : n.toNat < 100 ∧ ((n.toNat : Nat) : Int) = n := by omega
set_option maxRecDepth 100000 in
set_option maxHeartbeats 4000000 in
theorem sign_calls {w : World} {base g : Nat} {own : Nat → Prop} {fr : Int} {bg : List (List Int)} {fresh : Bool} {pins : Int} (n : Int) (h : LN w base own g fr bg pins fresh) (hn : 0 ≤ n ∧ n ≤ pins) (hp : pins ≤ 10)
    (HItoa : ∀ (m : Nat) (w1 : World), m < 100 → Calls Tryd.prog 26 #[.int .i64 (m : Int)] w1 fun e w' => e = .returned (.string ⟨(Lib.decDigits m).toArray⟩) ∧ w' = w1) :
    Calls Tryd.prog 16 #[.pointer (some ⟨g, 0, none⟩), .int .i64 n] w fun e w' => e = .returned (.string (signV pins fresh n)) ∧ Drawn0 w w' := by
  obtain ⟨k0, k2, k3, _, fz, _, _⟩ := h.cells
  obtain ⟨i1, i2⟩ := g_itoa hn hp
  have hit := HItoa n.toNat
  rw [i2] at hit
  have HI := Aside0.mk (fun w1 => hit w1 i1)
  clear HItoa hit i1 i2 h hn hp
  by_cases h0 : n = 0
  · have hs : signV pins fresh n = ⟨#[45]⟩ := by unfold signV; rw [if_pos h0]
    rw [hs]
    subst h0
    go_enter Tryd.func16, Tryd.ntmps16
    go_wp2
    go_ret
    exact ⟨rfl, by repeat (first | exact Drawn0.refl _ | apply Drawn0.step)⟩
  · have u0 : (n == 0) = false := by simpa using h0
    by_cases hq : n = pins
    · have u1 : (n == pins) = true := by simpa using hq
      cases fresh with
      | true =>
        have hs : signV pins true n = ⟨#[88]⟩ := by unfold signV; rw [if_neg h0, if_pos hq, if_pos rfl]
        rw [hs]
        subst hq
        go_enter Tryd.func16, Tryd.ntmps16
        go_wp2
        go_ret
        exact ⟨rfl, by repeat (first | exact Drawn0.refl _ | apply Drawn0.step)⟩
      | false =>
        have hs : signV pins false n = ⟨#[47]⟩ := by unfold signV; rw [if_neg h0, if_pos hq, if_neg (by decide)]
        rw [hs]
        subst hq
        go_enter Tryd.func16, Tryd.ntmps16
        go_wp2
        go_ret
        exact ⟨rfl, by repeat (first | exact Drawn0.refl _ | apply Drawn0.step)⟩
    · have u1 : (n == pins) = false := by simpa using hq
      have hs : signV pins fresh n = ⟨(Lib.decDigits n.toNat).toArray⟩ := by unfold signV; rw [if_neg h0, if_neg hq]
      rw [hs]
      go_enter Tryd.func16, Tryd.ntmps16
      go_wp2_with (go_at_call 26; refine (HI.out _).mono ?_; rintro e w' ⟨rfl, rfl⟩)
      go_ret
      exact ⟨rfl, by repeat (first | exact Drawn0.refl _ | apply Drawn0.step)⟩
end Go.Proofs.YtdioconinnpmmaaDoor.Lane
