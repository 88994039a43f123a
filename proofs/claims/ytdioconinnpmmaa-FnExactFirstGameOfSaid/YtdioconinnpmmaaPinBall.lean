/- The balls of a frame, one by one: for every number of frames. -/
import Derived.Test.YtdioconinnpmmaaPinPre
set_option linter.unusedVariables false
set_option linter.unusedSimpArgs false
namespace Go.Proofs.Ytdioconinnpmmaa.Pin
open Go.RowKit Go.Proofs.YtdioconinnpmmaaW.PrintWords Go.Proofs.YtdioconinnpmmaaW.PrintLast
/-! ### Pins: ball by ball -/
def st1 (a : Int) : Int := if 10 - a = 0 then 10 else 10 - a
def st2 (a b : Int) : Int := if st1 a - b = 0 then 10 else st1 a - b
theorem pre_I1 : ∀ a : Fin 10, preL innerL [(a.1 : Int)] = (List.range (11 - a.1)).map (fun (b : Nat) => [(a.1 : Int), (b : Int)]) := by decide +kernel
theorem pre_I2 : ∀ a : Fin 10, ∀ b : Fin 11, a.1 + b.1 ≤ 10 → preL innerL [(a.1 : Int), (b.1 : Int)] = [[(a.1 : Int), (b.1 : Int)]] := by decide +kernel
theorem pre_I3 : preL innerL [10] = [[10]] := by decide +kernel
theorem pre_L1 : ∀ a : Fin 11, preL lastL [(a.1 : Int)] = (List.range ((st1 (a.1 : Int)).toNat + 1)).flatMap (fun (b : Nat) => preL lastL [(a.1 : Int), (b : Int)]) := by decide +kernel
theorem pre_L2 : ∀ a : Fin 11, ∀ b : Fin 11, (b.1 : Int) ≤ st1 (a.1 : Int) → preL lastL [(a.1 : Int), (b.1 : Int)] = if overP [(a.1 : Int), (b.1 : Int)] = true then [[(a.1 : Int), (b.1 : Int)]] else (List.range ((st2 (a.1 : Int) (b.1 : Int)).toNat + 1)).map (fun (c : Nat) => [(a.1 : Int), (b.1 : Int), (c : Int)]) := by decide +kernel
theorem pre_L3 : ∀ a : Fin 11, ∀ b : Fin 11, ∀ c : Fin 11, (b.1 : Int) ≤ st1 (a.1 : Int) → overP [(a.1 : Int), (b.1 : Int)] = false → (c.1 : Int) ≤ st2 (a.1 : Int) (b.1 : Int) → preL lastL [(a.1 : Int), (b.1 : Int), (c.1 : Int)] = [[(a.1 : Int), (b.1 : Int), (c.1 : Int)]] := by decide +kernel
def lastOk (fr : List Int) : Bool := match fr with
  | [a, b] => decide ((0 ≤ a ∧ a ≤ 10) ∧ 0 ≤ b ∧ b ≤ st1 a) && overP [a, b]
  | [a, b, c] => decide ((0 ≤ a ∧ a ≤ 10) ∧ (0 ≤ b ∧ b ≤ st1 a) ∧ 0 ≤ c ∧ c ≤ st2 a b) && !overP [a, b]
  | _ => false
theorem last_ok : lastL.all lastOk = true := by decide +kernel
theorem st1_in {a : Int} (h : 0 ≤ a ∧ a ≤ 10) : 1 ≤ st1 a ∧ st1 a ≤ 10 := by unfold st1; split <;> omega
theorem st2_in {a b : Int} (h : 0 ≤ a ∧ a ≤ 10) (hb : 0 ≤ b ∧ b ≤ st1 a) : 1 ≤ st2 a b ∧ st2 a b ≤ 10 := by have := st1_in h; unfold st2; split <;> omega
/-! a last frame -/
theorem last_roll1 (F k p st : Int) (hk : k + 1 = F) : rollP F ⟨k, [], st, false⟩ p = ⟨k, [p], if st - p = 0 then 10 else st - p, false⟩ := by
  unfold rollP
  rw [if_neg (by simp only; omega)]
  rfl
theorem last_roll2 (F k a p st : Int) (hk : k + 1 = F) : rollP F ⟨k, [a], st, false⟩ p = ⟨k, [a, p], if st - p = 0 then 10 else st - p, overP [a, p]⟩ := by
  unfold rollP
  rw [if_neg (by simp only; omega)]
  rfl
theorem last_roll3 (F k a b p st : Int) (hk : k + 1 = F) : rollP F ⟨k, [a, b], st, false⟩ p = ⟨k, [a, b, p], if st - p = 0 then 10 else st - p, true⟩ := by
  unfold rollP
  rw [if_neg (by simp only; omega)]
  rfl
theorem last_first (F k p st w : Int) (bs : List Int) (ov : Bool) (hk : k + 1 = F) : firstP F ⟨k, bs, st, ov⟩ w p = w := by
  unfold firstP
  rw [if_neg (fun h => by have := h.1; simp only at this; omega)]
theorem way_last2 (F k a b st t : Int) (hk : k + 1 = F) (j : Nat) : wayB (j + 1) F ⟨k, [a, b], st, false⟩ 1 1 t = ((List.range (st.toNat + 1)).map fun (c : Nat) => if t - (c : Int) = 0 then 1 else 0).sum := by
  rw [way_mid _ _ _ _ _ _ rfl (by simp)]
  simp only
  refine congrArg List.sum (List.map_congr_left (fun c _ => ?_))
  rw [last_roll3 F k a b c st hk, way_over _ _ _ _ _ _ rfl, Int.mul_one]
theorem way_last1 (F k a y st t : Int) (hk : k + 1 = F) (j : Nat) : wayB (j + 1) F ⟨k, [a], st, false⟩ y 1 t = ((List.range (st.toNat + 1)).map fun (b : Nat) => wayB j F ⟨k, [a, (b : Int)], if st - (b : Int) = 0 then 10 else st - (b : Int), overP [a, (b : Int)]⟩ 1 1 (t - (b : Int) * y)).sum := by
  rw [way_mid _ _ _ _ _ _ rfl (by simp)]
  simp only
  refine congrArg List.sum (List.map_congr_left (fun b _ => ?_))
  rw [last_roll2 F k a b st hk, last_first F k b st 1 [a] false hk]
theorem mid_last2 (F k a b st : Int) (hk : 0 ≤ k ∧ k + 1 = F) (ha : 0 ≤ a ∧ a ≤ 10) (hb : 0 ≤ b ∧ b ≤ 10) (hst : 0 ≤ st ∧ st ≤ 10) (j : Nat) : Rch (j + 1) F ⟨k, [a, b], st, false⟩ 1 1 := by
  refine Or.inr (Or.inr ⟨rfl, ⟨by simp, by simp, ?_, hst, by simp only; omega, by omega, by omega⟩, fun p hp => ?_⟩)
  · intro c hc
    simp only [List.mem_cons, List.not_mem_nil, or_false] at hc
    rcases hc with rfl | rfl
    · exact ha
    · exact hb
  · rw [last_roll3 F k a b p st hk.2]
    refine ⟨?_, fun t => ?_⟩
    · cases j with
      | zero => exact Or.inl rfl
      | succ j => exact Or.inl rfl
    · rw [way_over _ _ _ _ _ _ rfl]
      split <;> omega
theorem ind_le (t : Int) : (if t = 0 then 1 else 0 : Nat) ≤ 1 := by split <;> omega
theorem way_small2 (F k a b st t : Int) (hk : k + 1 = F) (hst : st ≤ 10) (j : Nat) : wayB (j + 1) F ⟨k, [a, b], st, false⟩ 1 1 t ≤ 11 := by
  rw [way_last2 F k a b st t hk j]
  have := range_sum_le (fun (c : Nat) => if t - (c : Int) = 0 then 1 else 0) 1 (fun c => ind_le _) (st.toNat + 1)
  omega
theorem fine_last2 (F k a b st S : Int) (hk : 0 ≤ k ∧ k + 1 = F) (ha : 0 ≤ a ∧ a ≤ 10) (hb : 0 ≤ b ∧ b ≤ 10) (hst : 0 ≤ st ∧ st ≤ 10) : Fine F ⟨⟨k, [a, b], st, false⟩, S, 1, 1⟩ :=
  ⟨mid_last2 F k a b st hk ha hb hst 1, fun t => Nat.le_trans (way_small2 F k a b st t hk.2 hst.2 1) (by decide)⟩
theorem way_small1 (F k a b st t : Int) (hk : k + 1 = F) (hst : st ≤ 10) : wayB 1 F ⟨k, [a, b], st, overP [a, b]⟩ 1 1 t ≤ 11 := by
  cases h : overP [a, b] with
  | true =>
    rw [way_over _ _ _ _ _ _ rfl]
    have := ind_le t
    omega
  | false => exact way_small2 F k a b st t hk hst 0
theorem fine_last1 (F k a y S : Int) (hk : 0 ≤ k ∧ k + 1 = F) (ha : 0 ≤ a ∧ a ≤ 10) (hy : 1 ≤ y ∧ y ≤ 2) : Fine F ⟨⟨k, [a], st1 a, false⟩, S, y, 1⟩ := by
  have h1 := st1_in ha
  have hs2 : ∀ p : Nat, (p : Int) ≤ st1 a → 0 ≤ (if st1 a - (p : Int) = 0 then 10 else st1 a - (p : Int)) ∧ (if st1 a - (p : Int) = 0 then 10 else st1 a - (p : Int)) ≤ 10 := fun p hp => by split <;> omega
  refine ⟨Or.inr (Or.inr ⟨rfl, ⟨by simp, by simp, ?_, by simp only; omega, by simp only; omega, by simp only; omega, by simp only; omega⟩, fun p hp => ?_⟩), fun t => ?_⟩
  · intro b hb
    rw [List.mem_singleton] at hb
    omega
  · simp only at hp
    simp only
    rw [last_roll2 F k a p (st1 a) hk.2, last_first F k p (st1 a) 1 [a] false hk.2]
    refine ⟨?_, fun t => ?_⟩
    · cases h : overP [a, (p : Int)] with
      | true => exact Or.inl rfl
      | false => exact mid_last2 F k a p _ hk ha (by omega) (hs2 p hp) 0
    · have := way_small1 F k a p (if st1 a - (p : Int) = 0 then 10 else st1 a - (p : Int)) t hk.2 (hs2 p hp).2
      omega
  · simp only
    rw [way_last1 F k a y (st1 a) t hk.2 1]
    have := sum_le (fun (b : Nat) => wayB 1 F ⟨k, [a, (b : Int)], if st1 a - (b : Int) = 0 then 10 else st1 a - (b : Int), overP [a, (b : Int)]⟩ 1 1 (t - (b : Int) * y)) 11 (List.range ((st1 a).toNat + 1)) (fun b hb => by
      have h2 := List.mem_range.1 hb
      exact way_small1 F k a b _ _ hk.2 (hs2 b (by omega)).2)
    rw [List.length_range] at this
    have h3 : ((st1 a).toNat + 1) * 11 ≤ 11 * 11 := Nat.mul_le_mul_right _ (by omega)
    omega
/-! the frames that begin with some balls -/
theorem sumPre_one {n : Nat} {x y q : Int} {bs fr : List Int} (h : preL (framesV ((n + 1 : Nat) : Int)) bs = [fr]) : sumPre n x y q bs = cntP n (nextV (0, x, y) fr).2.1 (nextV (0, x, y) fr).2.2 (q - pointsV x y fr) := by
  unfold sumPre
  rw [h]
  simp
theorem nat_of {a : Int} (h : 0 ≤ a) : ∃ n : Nat, a = (n : Int) := ⟨a.toNat, by omega⟩
theorem pre_inner1 {n : Nat} (hn : 0 < n) {a x y q : Int} (ha : 0 ≤ a ∧ a < 10) : sumPre n x y q [a] = ((List.range (11 - a.toNat)).map fun (p : Nat) => cntP n (if a + (p : Int) = 10 then 2 else 1) 1 (q - a * x - (p : Int) * y)).sum := by
  obtain ⟨m, rfl⟩ := nat_of ha.1
  unfold sumPre
  rw [← framesV_inner n hn, pre_I1 ⟨m, by omega⟩, List.map_map, Int.toNat_natCast]
  refine congrArg List.sum (List.map_congr_left (fun p hp => ?_))
  show cntP n (nextV (0, x, y) [(m : Int), (p : Int)]).2.1 (nextV (0, x, y) [(m : Int), (p : Int)]).2.2 (q - ((m : Int) * x + (p : Int) * y)) = _
  unfold nextV
  rw [if_neg (show ([(m : Int), (p : Int)] : List Int).getD 0 0 ≠ 10 by show (m : Int) ≠ 10; omega), show ([(m : Int), (p : Int)] : List Int).sum = (m : Int) + (p : Int) by simp]
  rw [show q - ((m : Int) * x + (p : Int) * y) = q - (m : Int) * x - (p : Int) * y by omega]
  by_cases h : (m : Int) + (p : Int) = 10
  · rw [if_pos h, if_pos h]
  · rw [if_neg h, if_neg h]
theorem pre_inner2 {n : Nat} (hn : 0 < n) {a b x y q : Int} (ha : 0 ≤ a ∧ a < 10) (hb : 0 ≤ b ∧ a + b ≤ 10) : sumPre n x y q [a, b] = cntP n (if a + b = 10 then 2 else 1) 1 (q - a * x - b * y) := by
  obtain ⟨m, rfl⟩ := nat_of ha.1
  obtain ⟨p, rfl⟩ := nat_of hb.1
  rw [sumPre_one (by rw [← framesV_inner n hn]; exact pre_I2 ⟨m, by omega⟩ ⟨p, by omega⟩ (by simp only; omega))]
  show cntP n (nextV (0, x, y) [(m : Int), (p : Int)]).2.1 (nextV (0, x, y) [(m : Int), (p : Int)]).2.2 (q - ((m : Int) * x + (p : Int) * y)) = _
  unfold nextV
  rw [if_neg (show ([(m : Int), (p : Int)] : List Int).getD 0 0 ≠ 10 by show (m : Int) ≠ 10; omega), show ([(m : Int), (p : Int)] : List Int).sum = (m : Int) + (p : Int) by simp]
  rw [show q - ((m : Int) * x + (p : Int) * y) = q - (m : Int) * x - (p : Int) * y by omega]
  by_cases h : (m : Int) + (p : Int) = 10
  · rw [if_pos h, if_pos h]
  · rw [if_neg h, if_neg h]
theorem pre_inner3 {n : Nat} (hn : 0 < n) {x y q : Int} : sumPre n x y q [10] = cntP n (y + 1) 2 (q - 10 * x) := by
  rw [sumPre_one (by rw [← framesV_inner n hn]; exact pre_I3)]
  rfl
theorem framesV_last : lastL = framesV ((0 + 1 : Nat) : Int) := (if_pos rfl : framesV ((0 + 1 : Nat) : Int) = lastL).symm
theorem pre_last3 {a b c x y q : Int} (ha : 0 ≤ a ∧ a ≤ 10) (hb : 0 ≤ b ∧ b ≤ st1 a) (ho : overP [a, b] = false) (hc : 0 ≤ c ∧ c ≤ st2 a b) : sumPre 0 x y q [a, b, c] = if q - a * x - b * y - c = 0 then 1 else 0 := by
  have h1 := st1_in ha
  have h2 := st2_in ha hb
  obtain ⟨m, rfl⟩ := nat_of ha.1
  obtain ⟨p, rfl⟩ := nat_of hb.1
  obtain ⟨r, rfl⟩ := nat_of hc.1
  rw [sumPre_one (by rw [← framesV_last]; exact pre_L3 ⟨m, by omega⟩ ⟨p, by omega⟩ ⟨r, by omega⟩ hb.2 ho hc.2)]
  show (if q - ((m : Int) * x + (p : Int) * y + (r : Int)) = 0 then 1 else 0) = _
  rw [show q - ((m : Int) * x + (p : Int) * y + (r : Int)) = q - (m : Int) * x - (p : Int) * y - (r : Int) by omega]
theorem pre_last2 {F k a b x y q : Int} (hk : k + 1 = F) (ha : 0 ≤ a ∧ a ≤ 10) (hb : 0 ≤ b ∧ b ≤ st1 a) (j : Nat) : sumPre 0 x y q [a, b] = wayB (j + 1) F ⟨k, [a, b], st2 a b, overP [a, b]⟩ 1 1 (q - a * x - b * y) := by
  have h1 := st1_in ha
  obtain ⟨m, rfl⟩ := nat_of ha.1
  obtain ⟨p, rfl⟩ := nat_of hb.1
  have h2 := pre_L2 ⟨m, by omega⟩ ⟨p, by omega⟩ hb.2
  simp only at h2
  cases ho : overP [(m : Int), (p : Int)] with
  | true =>
    rw [ho, if_pos rfl] at h2
    rw [sumPre_one (by rw [← framesV_last]; exact h2), way_over _ _ _ _ _ _ rfl]
    show (if q - ((m : Int) * x + (p : Int) * y) = 0 then 1 else 0) = _
    rw [show q - ((m : Int) * x + (p : Int) * y) = q - (m : Int) * x - (p : Int) * y by omega]
  | false =>
    rw [ho, if_neg (by decide)] at h2
    rw [way_last2 F k _ _ _ _ hk j]
    unfold sumPre
    rw [← framesV_last, h2, List.map_map]
    refine congrArg List.sum (List.map_congr_left (fun c _ => ?_))
    show (if q - ((m : Int) * x + (p : Int) * y + (c : Int)) = 0 then 1 else 0) = _
    rw [show q - ((m : Int) * x + (p : Int) * y + (c : Int)) = q - (m : Int) * x - (p : Int) * y - (c : Int) by omega]
theorem sum_flat {α β : Type} (f : β → Nat) (g : α → List β) : ∀ L : List α, ((L.flatMap g).map f).sum = (L.map fun a => ((g a).map f).sum).sum
  | [] => rfl
  | a :: L => by
    rw [List.flatMap_cons, List.map_append, List.sum_append, List.map_cons, List.sum_cons, sum_flat f g L]
theorem pre_last1 {F k a x y q : Int} (hk : k + 1 = F) (ha : 0 ≤ a ∧ a ≤ 10) : sumPre 0 x y q [a] = wayB 2 F ⟨k, [a], st1 a, false⟩ y 1 (q - a * x) := by
  rw [way_last1 F k a y (st1 a) _ hk 1]
  have h1 := pre_L1 ⟨a.toNat, by omega⟩
  simp only at h1
  rw [show ((a.toNat : Nat) : Int) = a by omega] at h1
  have h0 : sumPre 0 x y q [a] = ((List.range ((st1 a).toNat + 1)).map fun (b : Nat) => sumPre 0 x y q [a, (b : Int)]).sum := by
    unfold sumPre
    rw [← framesV_last, h1, sum_flat]
  rw [h0]
  refine congrArg List.sum (List.map_congr_left (fun b hb => ?_))
  have h3 := List.mem_range.1 hb
  have h4 := st1_in ha
  rw [pre_last2 (F := F) (k := k) hk ha (show 0 ≤ (b : Int) ∧ (b : Int) ≤ st1 a by omega) 0]
  rfl
end Go.Proofs.Ytdioconinnpmmaa.Pin
