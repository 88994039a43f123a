/- How many balls lie in frames: for every list of rolls. -/
import Derived.Test.YtdioconinnpmmaaDoorLaneR
set_option linter.unusedVariables false
set_option linter.unusedSimpArgs false
namespace Go.Proofs.YtdioconinnpmmaaDoor.Lane
open Go.RowKit Go.Proofs.YtdioconinnpmmaaDoorW.PrintWords Go.Proofs.YtdioconinnpmmaaDoorW.PrintLast
/-- How many balls lie in the frames. -/
def ballsV : List (List Int) → Nat
  | [] => 0
  | r :: t => r.length + ballsV t
theorem ballsV_append (a b : List (List Int)) : ballsV (a ++ b) = ballsV a + ballsV b := by
  induction a with
  | nil => simp [ballsV]
  | cons r t ih => simp only [List.cons_append, ballsV, ih]; omega
theorem ballsV_set (bg : List (List Int)) (m : Nat) (h : m < bg.length) (n : Int) : ballsV (bg.set m (bg.getD m [] ++ [n])) = ballsV bg + 1 := by
  induction bg generalizing m with
  | nil => simp at h
  | cons r t ih =>
    cases m with
    | zero => simp [ballsV]; omega
    | succ m =>
      have := ih m (by simpa using h)
      simp only [List.set_cons_succ, List.getD_cons_succ, ballsV, this]
      omega
theorem ballsV_beg (F : Nat) (bg : List (List Int)) (n : Int) : ballsV (begV F bg n) = ballsV bg + 1 := by
  unfold begV
  split
  · rw [List.set_append_right _ _ (Nat.le_refl _), ballsV_append]
    simp [ballsV]
  · rename_i h
    refine ballsV_set bg _ ?_ n
    cases bg with
    | nil => simp [newV] at h
    | cons r t => simp
theorem rolls_balls (F : Nat) : ∀ (l : List Int) (s s' : List (List Int) × Int × Bool), rollsV F l s = some s' → ballsV s'.1 = ballsV s.1 + l.length
  | [], s, s', h => by
    unfold rollsV at h
    injection h with h
    subst h
    simp
  | n :: l, s, s', h => by
    unfold rollsV at h
    split at h
    · have := rolls_balls F l _ _ h
      rw [ballsV_beg] at this
      simp only [List.length_cons]
      omega
    · cases h
theorem balls_le : ∀ (bg : List (List Int)) (F : Nat), (∀ i (h : i < bg.length), i + 1 < F → bg[i].length ≤ 2) → (∀ r ∈ bg, r.length ≤ 3) → bg.length ≤ F → ballsV bg ≤ 2 * bg.length + 1
  | [], _, _, _, _ => by simp [ballsV]
  | r :: t, F, h1, h2, h3 => by
    simp only [ballsV, List.length_cons] at *
    cases t with
    | nil =>
      have := h2 r (by simp)
      simp [ballsV]
      omega
    | cons r2 t2 =>
      have hr := h1 0 (by simp) (by simp only [List.length_cons] at h3; omega)
      simp only [List.getElem_cons_zero] at hr
      have := balls_le (r2 :: t2) (F - 1) (fun i h hi => by
        have := h1 (i + 1) (by simp only [List.length_cons] at h ⊢; omega) (by omega)
        simpa using this) (fun x hx => h2 x (by simp [hx])) (by simp only [List.length_cons] at h3 ⊢; omega)
      simp only [List.length_cons] at this ⊢
      omega
theorem rolls_few {F : Nat} {l : List Int} {s : List (List Int) × Int × Bool} (hF9 : F ≤ 10) (h : rollsV F l ([], 10, true) = some s) (hg : Good F s.1) : l.length ≤ 21 := by
  have h1 := rolls_balls F l _ _ h
  have h2 := balls_le s.1 F hg.2.2 (fun r hr => (hg.1 r hr).2.1) hg.2.1
  have h3 := hg.2.1
  simp only [ballsV] at h1
  omega
/-- Where a ball leads. -/
def stepV (F : Nat) (s : List (List Int) × Int × Bool) (n : Int) : List (List Int) × Int × Bool := (begV F s.1 n, endV F ((begV F s.1 n).length - 1) (begV F s.1 n) (s.2.1 - n))
theorem rolls_more (F : Nat) : ∀ (l : List Int) (s s' : List (List Int) × Int × Bool) (n : Int), rollsV F l s = some s' → mayV F s'.1 s'.2.1 n = true → rollsV F (l ++ [n]) s = some (stepV F s' n)
  | [], s, s', n, h, hm => by
    unfold rollsV at h
    injection h with h
    subst h
    show (if _ then _ else _) = _
    rw [if_pos hm]
    rfl
  | x :: l, s, s', n, h, hm => by
    unfold rollsV at h
    split at h
    · rename_i hx
      show (if _ then _ else _) = _
      rw [if_pos hx]
      exact rolls_more F l _ s' n h hm
    · cases h
end Go.Proofs.YtdioconinnpmmaaDoor.Lane
