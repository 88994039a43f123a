/- What a lane behind rolls is: for every list of rolls. -/
import Derived.Test.YtdioconinnpmmaaLaneR
set_option linter.unusedVariables false
set_option linter.unusedSimpArgs false
namespace Go.Proofs.Ytdioconinnpmmaa.Lane
open Go.RowKit Go.Proofs.YtdioconinnpmmaaW.PrintWords Go.Proofs.YtdioconinnpmmaaW.PrintLast
theorem rolls_good {F : Nat} (hF : 1 ≤ F) : ∀ (l : List Int) (s s' : List (List Int) × Int × Bool), rollsV F l s = some s' → Good F s.1 → 0 ≤ s.2.1 ∧ s.2.1 ≤ 10 → Good F s'.1 ∧ 0 ≤ s'.2.1 ∧ s'.2.1 ≤ 10
  | [], s, s', h, hg, hp => by
    unfold rollsV at h
    injection h with h
    subst h
    exact ⟨hg, hp⟩
  | n :: l, s, s', h, hg, hp => by
    unfold rollsV at h
    split at h
    · rename_i hm
      have hm2 := hm
      unfold mayV at hm2
      simp only [Bool.and_eq_true, decide_eq_true_eq] at hm2
      exact rolls_good hF l _ s' h (good_beg hF hg hm hp.2) (end_pins hm2.2 hp.2)
    · cases h
theorem read_good {F : Int} {xs : List Int} {s : List (List Int) × Int × Bool} (h : readV F xs = some s) : 1 ≤ F ∧ F ≤ 10 ∧ xs.length ≤ 21 ∧ Good F.toNat s.1 ∧ 0 ≤ s.2.1 ∧ s.2.1 ≤ 10 := by
  by_cases hc : 1 ≤ F ∧ F ≤ 10 ∧ xs.length ≤ 21
  · unfold readV at h
    rw [if_pos hc] at h
    obtain ⟨h1, h2⟩ := rolls_good (by omega) xs _ _ h (good_start F.toNat) ⟨by decide, by decide⟩
    exact ⟨hc.1, hc.2.1, hc.2.2, h1, h2⟩
  · unfold readV at h
    rw [if_neg hc] at h
    cases h
end Go.Proofs.Ytdioconinnpmmaa.Lane
