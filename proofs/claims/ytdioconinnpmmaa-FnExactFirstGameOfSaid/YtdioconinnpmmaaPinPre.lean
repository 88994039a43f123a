/- The first game with a total, ball by ball: for every number of frames. -/
import Derived.Test.YtdioconinnpmmaaPinFrom
set_option linter.unusedVariables false
set_option linter.unusedSimpArgs false
namespace Go.Proofs.Ytdioconinnpmmaa.Pin
open Go.RowKit Go.Proofs.YtdioconinnpmmaaW.PrintWords Go.Proofs.YtdioconinnpmmaaW.PrintLast
/-! ### Pins: the first game with a total, ball by ball -/
def ltL : List Int → List Int → Bool
  | a :: al, b :: bl => if a < b then true else if b < a then false else ltL al bl
  | _, _ => false
theorem inner_sorted : innerL.Pairwise (fun a b => ltL a b = true) := by decide +kernel
theorem last_sorted : lastL.Pairwise (fun a b => ltL a b = true) := by decide +kernel
theorem frames_sorted (l : Int) : (framesV l).Pairwise (fun a b => ltL a b = true) := by
  unfold framesV
  split
  · exact last_sorted
  · exact inner_sorted
theorem ltL_not : ∀ (bs r0 r1 : List Int) (p p0 : Int), p < p0 → ltL (bs ++ p0 :: r0) (bs ++ p :: r1) = false
  | [], r0, r1, p, p0, h => by
    show (if p0 < p then true else if p < p0 then false else ltL r0 r1) = false
    rw [if_neg (by omega), if_pos h]
  | b :: bs, r0, r1, p, p0, h => by
    show (if b < b then true else if b < b then false else ltL (bs ++ p0 :: r0) (bs ++ p :: r1)) = false
    rw [if_neg (by omega), if_neg (by omega)]
    exact ltL_not bs r0 r1 p p0 h
def preL (L : List (List Int)) (bs : List Int) : List (List Int) := L.filter (fun fr => bs.isPrefixOf fr)
theorem mem_pre {L : List (List Int)} {bs fr : List Int} : fr ∈ preL L bs ↔ fr ∈ L ∧ ∃ r, fr = bs ++ r := by
  unfold preL
  rw [List.mem_filter]
  refine and_congr_right (fun _ => ?_)
  rw [List.isPrefixOf_iff_prefix]
  constructor
  · rintro ⟨r, h⟩
    exact ⟨r, h.symm⟩
  · rintro ⟨r, h⟩
    exact ⟨r, h.symm⟩
/-- How many games begin with these balls of the frame. -/
def sumPre (n : Nat) (x y q : Int) (bs : List Int) : Nat := ((preL (framesV ((n + 1 : Nat) : Int)) bs).map fun fr => cntP n (nextV (0, x, y) fr).2.1 (nextV (0, x, y) fr).2.2 (q - pointsV x y fr)).sum
theorem le_sum {α : Type} (f : α → Nat) : ∀ (L : List α) (x : α), x ∈ L → f x ≤ (L.map f).sum
  | a :: L, x, h => by
    rw [List.map_cons, List.sum_cons]
    rcases List.mem_cons.1 h with rfl | h
    · omega
    · have := le_sum f L x h
      omega
theorem pre_hit {n : Nat} {x y q : Int} {fr0 : List Int} (h : (framesV ((n + 1 : Nat) : Int)).find? (posP n x y q) = some fr0) {bs r : List Int} (e : fr0 = bs ++ r) : 0 < sumPre n x y q bs := by
  have h1 := List.find?_some h
  have h2 := List.mem_of_find?_eq_some h
  unfold posP at h1
  rw [decide_eq_true_eq] at h1
  have := le_sum (fun fr => cntP n (nextV (0, x, y) fr).2.1 (nextV (0, x, y) fr).2.2 (q - pointsV x y fr)) (preL (framesV ((n + 1 : Nat) : Int)) bs) fr0 (mem_pre.2 ⟨h2, r, e⟩)
  unfold sumPre
  omega
theorem pre_low {n : Nat} {x y q : Int} {fr0 : List Int} (h : (framesV ((n + 1 : Nat) : Int)).find? (posP n x y q) = some fr0) {bs r0 : List Int} {p0 p : Int} (e : fr0 = bs ++ p0 :: r0) (hp : p < p0) : sumPre n x y q (bs ++ [p]) = 0 := by
  obtain ⟨_, al, cl, hL, has⟩ := List.find?_eq_some_iff_append.1 h
  unfold sumPre
  refine sum_zero _ _ (fun fr hfr => ?_)
  obtain ⟨hm, r1, hr1⟩ := mem_pre.1 hfr
  rw [List.append_assoc] at hr1
  have hs := frames_sorted ((n + 1 : Nat) : Int)
  rw [hL] at hm hs
  rcases List.mem_append.1 hm with hm | hm
  · have := has fr hm
    unfold posP at this
    rw [Bool.not_eq_true', decide_eq_false_iff_not] at this
    omega
  · exfalso
    rcases List.mem_cons.1 hm with hm | hm
    · have h2 := ltL_not bs r0 r1 p p0 hp
      rw [hm, e] at hr1
      have h3 := List.append_cancel_left hr1
      injection h3 with h3 _
      omega
    · have h1 := (List.pairwise_cons.1 (List.pairwise_append.1 hs).2.1).1 fr hm
      rw [e, hr1] at h1
      have h2 := ltL_not bs r0 r1 p p0 hp
      rw [show [p] ++ r1 = p :: r1 from rfl] at h1
      rw [h1] at h2
      cases h2
/-! what these balls leave -/
theorem cap_nine (n : Nat) (hn : n ≤ 9) : capP n ≤ 100000000000000000 := by
  have h0 : capP 0 = 1 := capP.eq_1
  have h1 := cap_one
  have h2 : capP 2 = 15906 := by rw [cap_two 0, h1]
  have h3 : capP 3 = 1049796 := by rw [cap_two 1, h2]
  have h4 : capP 4 = 69286536 := by rw [cap_two 2, h3]
  have h5 : capP 5 = 4572911376 := by rw [cap_two 3, h4]
  have h6 : capP 6 = 301812150816 := by rw [cap_two 4, h5]
  have h7 : capP 7 = 19919601953856 := by rw [cap_two 5, h6]
  have h8 : capP 8 = 1314693728954496 := by rw [cap_two 6, h7]
  have h9 : capP 9 = 86769786110996736 := by rw [cap_two 7, h8]
  have hc : n = 0 ∨ n = 1 ∨ n = 2 ∨ n = 3 ∨ n = 4 ∨ n = 5 ∨ n = 6 ∨ n = 7 ∨ n = 8 ∨ n = 9 := by omega
  rcases hc with rfl | rfl | rfl | rfl | rfl | rfl | rfl | rfl | rfl | rfl
  · rw [h0]; decide
  · rw [h1]; decide
  · rw [h2]; decide
  · rw [h3]; decide
  · rw [h4]; decide
  · rw [h5]; decide
  · rw [h6]; decide
  · rw [h7]; decide
  · rw [h8]; decide
  · rw [h9]; decide
/-- A state that can come up, with few games behind it. -/
def Fine (F : Int) (b : BoT) : Prop := Rch 2 F b.s b.o b.w ∧ ∀ t, wayB 2 F b.s b.o b.w t ≤ 5726805883325784576
theorem fine_bnd (F k S x y : Int) (hk : 0 ≤ k ∧ k < F) (hF : F ≤ 10) (j : Nat) (hj : j < 4) (hx : x = onesP j) (hy : y = twosP j) : Fine F ⟨⟨k, [], 10, false⟩, S, x, y⟩ :=
  ⟨Or.inr (Or.inl ⟨rfl, rfl, hk, j, hj, hx, hy⟩), fun t => by
    rw [way_bnd _ _ _ _ _ _ rfl rfl]
    exact Nat.le_trans (cnt_cap _ _ _ _) (cap_all _ (by simp only; omega))⟩
theorem fine_over (F S x y k st : Int) (bs : List Int) : Fine F ⟨⟨k, bs, st, true⟩, S, x, y⟩ :=
  ⟨Or.inl rfl, fun t => by rw [way_over _ _ _ _ _ _ rfl]; split <;> omega⟩
theorem range_sum_le (f : Nat → Nat) (B : Nat) (hf : ∀ p, f p ≤ B) : ∀ m : Nat, ((List.range m).map f).sum ≤ m * B := fun m => by
  have := sum_le f B (List.range m) (fun p _ => hf p)
  rwa [List.length_range] at this
/-- In the middle of a frame but the last. -/
theorem inner_roll (F k a p : Int) (hk : k + 1 < F) : rollP F ⟨k, [a], 10 - a, false⟩ p = ⟨k + 1, [], 10, false⟩ := by
  unfold rollP
  rw [if_pos (by simp only; omega)]
  split
  · rfl
  · exact if_pos rfl
theorem way_inner (F k a y t : Int) (hk : 0 ≤ k ∧ k + 1 < F) (ha : 0 ≤ a ∧ a < 10) (j : Nat) : wayB (j + 1) F ⟨k, [a], 10 - a, false⟩ y 1 t = ((List.range (11 - a.toNat)).map fun (p : Nat) => cntP (F - k - 1).toNat (if a + (p : Int) = 10 then 2 else 1) 1 (t - (p : Int) * y)).sum := by
  rw [way_mid _ _ _ _ _ _ rfl (by simp)]
  simp only
  rw [show (10 - a).toNat + 1 = 11 - a.toNat by omega]
  refine congrArg List.sum (List.map_congr_left (fun p hp => ?_))
  rw [inner_roll F k a p hk.2, way_bnd _ _ _ _ _ _ rfl rfl]
  simp only
  rw [show (F - (k + 1)).toNat = (F - k - 1).toNat by omega]
  congr 1
  unfold firstP
  simp only
  by_cases h : a + (p : Int) = 10
  · rw [if_pos h, if_pos ⟨by omega, by omega⟩]; rfl
  · rw [if_neg h, if_neg (fun h_ => h (by omega))]
theorem fine_inner (F k a y S : Int) (hk : 0 ≤ k ∧ k + 1 < F) (hF : F ≤ 10) (ha : 0 ≤ a ∧ a < 10) (hy : 1 ≤ y ∧ y ≤ 2) : Fine F ⟨⟨k, [a], 10 - a, false⟩, S, y, 1⟩ := by
  refine ⟨Or.inr (Or.inr ⟨rfl, ⟨by simp, by simp, ?_, by simp only; omega, by simp only; omega, by simp only; omega, by simp only; omega⟩, fun p hp => ?_⟩), fun t => ?_⟩
  · intro b hb
    rw [List.mem_singleton] at hb
    omega
  · rw [inner_roll F k a p hk.2]
    have hf : firstP F ⟨k, [a], 10 - a, false⟩ 1 (p : Int) = 2 ∨ firstP F ⟨k, [a], 10 - a, false⟩ 1 (p : Int) = 1 := by
      unfold firstP
      split
      · exact Or.inl rfl
      · exact Or.inr rfl
    refine ⟨Or.inr (Or.inl ⟨rfl, rfl, by simp only; omega, ?_⟩), fun t => ?_⟩
    · rcases hf with e | e
      · exact ⟨1, by omega, e, rfl⟩
      · exact ⟨0, by omega, e, rfl⟩
    · rw [way_bnd _ _ _ _ _ _ rfl rfl]
      exact Nat.le_trans (cnt_cap _ _ _ _) (cap_nine _ (by simp only; omega))
  · simp only
    rw [way_inner F k a y t hk ha 1]
    have := range_sum_le (fun (p : Nat) => cntP (F - k - 1).toNat (if a + (p : Int) = 10 then 2 else 1) 1 (t - (p : Int) * y)) 100000000000000000 (fun p => Nat.le_trans (cnt_cap _ _ _ _) (cap_nine _ (by omega))) (11 - a.toNat)
    have h2 : (11 - a.toNat) * 100000000000000000 ≤ 11 * 100000000000000000 := Nat.mul_le_mul_right _ (by omega)
    omega
end Go.Proofs.Ytdioconinnpmmaa.Pin
