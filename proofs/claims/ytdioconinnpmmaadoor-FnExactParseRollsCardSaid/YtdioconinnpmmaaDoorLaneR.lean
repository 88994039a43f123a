/- The reading of rolls, by its answer: for every number of frames and every list of rolls. -/
import Derived.Test.YtdioconinnpmmaaDoorLane
set_option linter.unusedVariables false
set_option linter.unusedSimpArgs false
namespace Go.Proofs.YtdioconinnpmmaaDoor.Lane
open Go.RowKit Go.Proofs.YtdioconinnpmmaaDoorW.PrintWords Go.Proofs.YtdioconinnpmmaaDoorW.PrintLast
/-- readRolls where the rolls are none. -/
theorem read_none {F : Int} {xs : List Int} (hv : readV F xs = none) (w : World) (A : Option Addr) (c : Nat) (hr : ReadsInt w .i64 A xs.length xs) :
    Calls Tryd.prog 32 #[.int .i64 F, .slice A xs.length c] w fun e w' => e = .returned (.tuple #[.pointer none, .bool false]) ∧ Below w.heap.size w w' := by
  refine (read_calls w F A c xs hr).mono ?_
  intro e w' h
  unfold ReadAll at h
  rw [hv] at h
  exact ⟨h.2, h.1⟩
/-- readRolls where they are some: where the lane lies. -/
theorem read_some {F : Int} {xs : List Int} {s : List (List Int) × Int × Bool} (hv : readV F xs = some s) (w : World) (A : Option Addr) (c : Nat) (hr : ReadsInt w .i64 A xs.length xs) :
    Calls Tryd.prog 32 #[.int .i64 F, .slice A xs.length c] w fun e w' => e = .returned (.tuple #[.pointer (some ⟨w.heap.size, 0, none⟩), .bool true]) ∧
      ∃ own, LN w' w.heap.size own w.heap.size (F.toNat : Int) s.1 s.2.1 s.2.2 ∧ Good F.toNat s.1 ∧ 0 ≤ s.2.1 ∧ s.2.1 ≤ 10 ∧ 1 ≤ F.toNat ∧ F.toNat ≤ 10 ∧ Below w.heap.size w w' := by
  have hF : 1 ≤ F ∧ F ≤ 10 := by
    by_cases h : 1 ≤ F ∧ F ≤ 10 ∧ xs.length ≤ 21
    · exact ⟨h.1, h.2.1⟩
    · unfold readV at hv
      rw [if_neg h] at hv
      cases hv
  refine (read_calls w F A c xs hr).mono ?_
  intro e w' h
  unfold ReadAll at h
  rw [hv] at h
  obtain ⟨hb, he, own, hl, hg, p0, p1⟩ := h
  refine ⟨he, own, ?_, hg, p0, p1, by omega, by omega, hb⟩
  rw [show ((F.toNat : Nat) : Int) = F by omega]
  exact hl
theorem read_some3 {F : Int} {xs : List Int} {bg : List (List Int)} {pins : Int} {fr : Bool} (hv : readV F xs = some (bg, pins, fr)) (w : World) (A : Option Addr) (c : Nat) (hr : ReadsInt w .i64 A xs.length xs) :
    Calls Tryd.prog 32 #[.int .i64 F, .slice A xs.length c] w fun e w' => e = .returned (.tuple #[.pointer (some ⟨w.heap.size, 0, none⟩), .bool true]) ∧
      ∃ own, LN w' w.heap.size own w.heap.size (F.toNat : Int) bg pins fr ∧ Good F.toNat bg ∧ 0 ≤ pins ∧ pins ≤ 10 ∧ 1 ≤ F.toNat ∧ F.toNat ≤ 10 ∧ Below w.heap.size w w' := read_some hv w A c hr
theorem of_C {w : World} {A : Option Addr} {n : Nat} {xs : List Int} (h : Kd.C (Kd.int .i64) w A n xs) : ReadsInt w .i64 A n xs := readsInt_of.mpr (Kd.reads_of_C (enc := Value.int .i64) (d := (0 : Int)) (h1 := fun _ => rfl) h)
end Go.Proofs.YtdioconinnpmmaaDoor.Lane
