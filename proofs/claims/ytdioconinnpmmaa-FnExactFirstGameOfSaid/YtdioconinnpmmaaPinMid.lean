/- The first game with a total, from ball to ball: for every number of frames. -/
import Derived.Test.YtdioconinnpmmaaPinBall
set_option linter.unusedVariables false
set_option linter.unusedSimpArgs false
namespace Go.Proofs.Ytdioconinnpmmaa.Pin
open Go.RowKit Go.Proofs.YtdioconinnpmmaaW.PrintWords Go.Proofs.YtdioconinnpmmaaW.PrintLast
/-! ### Pins: from ball to ball -/
def stateP (k x y S : Int) : List Int → BoT
  | [] => ⟨⟨k, [], 10, false⟩, S, x, y⟩
  | [a] => ⟨⟨k, [a], st1 a, false⟩, S + a * x, y, 1⟩
  | a :: b :: _ => ⟨⟨k, [a, b], st2 a b, false⟩, S + a * x + b * y, 1, 1⟩
theorem bot_eq {b : BoT} {s : BoS} {S o w : Int} (h1 : b.s = s) (h2 : b.sum = S) (h3 : b.o = o) (h4 : b.w = w) : b = ⟨s, S, o, w⟩ := by
  obtain ⟨_, _, _, _⟩ := b
  simp only at h1 h2 h3 h4
  subst h1 h2 h3 h4
  rfl
theorem step_A (F k x y S p : Int) (h : k + 1 = F ∨ (k + 1 < F ∧ p < 10)) : stepT F (stateP k x y S []) p = stateP k x y S [p] := by
  refine bot_eq ?_ rfl ?_ ?_
  · show rollP F ⟨k, [], 10, false⟩ p = _
    rcases h with h | h
    · exact last_roll1 F k p 10 h
    · unfold rollP
      rw [if_pos (by simp only; omega), if_neg (by simp only; omega), if_neg (by simp)]
      unfold st1
      rw [if_neg (by omega)]
      rfl
  · show nextO F ⟨⟨k, [], 10, false⟩, S, x, y⟩ p = y
    unfold nextO
    simp only
    by_cases hf : k < F - 1
    · rw [if_pos hf, if_neg (by omega), if_neg (by simp)]
    · rw [if_neg hf]
  · show nextW F ⟨⟨k, [], 10, false⟩, S, x, y⟩ p = 1
    unfold nextW
    simp only
    rw [if_neg (by omega)]
theorem step_B (F k x y S : Int) (h : k + 1 < F) : stepT F (stateP k x y S []) 10 = ⟨⟨k + 1, [], 10, false⟩, S + 10 * x, y + 1, 2⟩ := by
  refine bot_eq ?_ rfl ?_ ?_
  · show rollP F ⟨k, [], 10, false⟩ 10 = _
    unfold rollP
    rw [if_pos (by simp only; omega), if_pos (by simp only; omega)]
  · show nextO F ⟨⟨k, [], 10, false⟩, S, x, y⟩ 10 = y + 1
    unfold nextO
    simp only
    rw [if_pos (by omega), if_pos (by simp)]
  · show nextW F ⟨⟨k, [], 10, false⟩, S, x, y⟩ 10 = 2
    unfold nextW
    simp only
    rw [if_pos ⟨by omega, by simp⟩]
theorem step_C (F k x y S a p : Int) (h : k + 1 < F) (ha : a < 10) : stepT F (stateP k x y S [a]) p = ⟨⟨k + 1, [], 10, false⟩, S + a * x + p * y, if a + p = 10 then 2 else 1, 1⟩ := by
  have e : st1 a = 10 - a := by unfold st1; rw [if_neg (by omega)]
  refine bot_eq ?_ rfl ?_ ?_
  · show rollP F ⟨k, [a], st1 a, false⟩ p = _
    rw [e]
    exact inner_roll F k a p h
  · show nextO F ⟨⟨k, [a], st1 a, false⟩, S + a * x, y, 1⟩ p = _
    unfold nextO
    simp only
    rw [if_pos (by omega), if_neg (by simp), e]
    by_cases hp : a + p = 10
    · rw [if_pos ⟨rfl, by omega⟩, if_pos hp]; rfl
    · rw [if_neg (fun h_ => hp (by omega)), if_neg hp]
  · show nextW F ⟨⟨k, [a], st1 a, false⟩, S + a * x, y, 1⟩ p = 1
    unfold nextW
    simp only
    rw [if_neg (by simp)]
theorem step_D (F k x y S a p : Int) (h : k + 1 = F) : stepT F (stateP k x y S [a]) p = ⟨⟨k, [a, p], st2 a p, overP [a, p]⟩, S + a * x + p * y, 1, 1⟩ := by
  refine bot_eq ?_ rfl ?_ ?_
  · show rollP F ⟨k, [a], st1 a, false⟩ p = _
    exact last_roll2 F k a p (st1 a) h
  · show nextO F ⟨⟨k, [a], st1 a, false⟩, S + a * x, y, 1⟩ p = _
    exact if_neg (by simp only; omega)
  · exact if_neg (by simp [stateP])
theorem step_E (F k x y S a b p : Int) (h : k + 1 = F) : ∃ st, stepT F (stateP k x y S [a, b]) p = ⟨⟨k, [a, b, p], st, true⟩, S + a * x + b * y + p, 1, 1⟩ := by
  refine ⟨_, bot_eq (last_roll3 F k a b p (st2 a b) h) ?_ ?_ ?_⟩
  · show S + a * x + b * y + p * 1 = _
    rw [Int.mul_one]
  · show nextO F ⟨⟨k, [a, b], st2 a b, false⟩, S + a * x + b * y, 1, 1⟩ p = _
    exact if_neg (by simp only; omega)
  · exact if_neg (by simp [stateP])
/-- Where the reference stands in the middle of the first game. -/
structure Mid (F tot : Int) (RES gs : List Int) (b : BoT) (fr0 bs : List Int) (n : Nat) (k x y S : Int) : Prop where
  hb : b = behindT F gs
  eb : b = stateP k x y S bs
  nk : F = k + (n : Int) + 1 ∧ 0 ≤ k ∧ F ≤ 10
  xy : ∃ j, j < 4 ∧ x = onesP j ∧ y = twosP j
  find : (framesV ((n + 1 : Nat) : Int)).find? (posP n x y (tot - S)) = some fr0
  res : ∃ g0, gs = g0 ++ bs ∧ g0 ++ (fr0 ++ firstL n (nextV (0, x, y) fr0).2.1 (nextV (0, x, y) fr0).2.2 (tot - S - pointsV x y fr0)) = RES
  sum : 0 ≤ S ∧ S ≤ 60 * k
theorem frame_last {fr : List Int} (h : fr ∈ framesV ((0 + 1 : Nat) : Int)) : lastOk fr = true := List.all_eq_true.1 last_ok fr (by rw [framesV_last]; exact h)
theorem frame_inner {n : Nat} (hn : 0 < n) {fr : List Int} (h : fr ∈ framesV ((n + 1 : Nat) : Int)) : frOk fr = true ∧ fr.length ≤ 2 := by
  rw [← framesV_inner n hn] at h
  have := List.all_eq_true.1 inner_all fr h
  rw [Bool.and_eq_true, decide_eq_true_eq] at this
  exact this
theorem mem_find {n : Nat} {x y q : Int} {fr0 : List Int} (h : (framesV ((n + 1 : Nat) : Int)).find? (posP n x y q) = some fr0) : fr0 ∈ framesV ((n + 1 : Nat) : Int) := List.mem_of_find?_eq_some h
theorem last_first_ {p : Int} {r : List Int} (h : lastOk (p :: r) = true) : 0 ≤ p ∧ p ≤ 10 := by
  match r, h with
  | [b], h =>
    unfold lastOk at h
    rw [Bool.and_eq_true, decide_eq_true_eq] at h
    exact h.1.1
  | [b, c], h =>
    unfold lastOk at h
    rw [Bool.and_eq_true, decide_eq_true_eq] at h
    exact h.1.1
theorem last_second_ {a p : Int} {r : List Int} (h : lastOk (a :: p :: r) = true) : (0 ≤ a ∧ a ≤ 10) ∧ (0 ≤ p ∧ p ≤ st1 a) ∧ (overP [a, p] = true ↔ r = []) := by
  match r, h with
  | [], h =>
    unfold lastOk at h
    rw [Bool.and_eq_true, decide_eq_true_eq] at h
    exact ⟨h.1.1, h.1.2, fun _ => rfl, fun _ => h.2⟩
  | [c], h =>
    unfold lastOk at h
    rw [Bool.and_eq_true, decide_eq_true_eq] at h
    exact ⟨h.1.1, h.1.2.1, fun h_ => by rw [h_] at h; exact absurd h.2 (by decide), fun h_ => by cases h_⟩
theorem last_third_ {a b p : Int} {r : List Int} (h : lastOk (a :: b :: p :: r) = true) : (0 ≤ a ∧ a ≤ 10) ∧ (0 ≤ b ∧ b ≤ st1 a) ∧ overP [a, b] = false ∧ (0 ≤ p ∧ p ≤ st2 a b) ∧ r = [] := by
  match r, h with
  | [], h =>
    unfold lastOk at h
    rw [Bool.and_eq_true, decide_eq_true_eq] at h
    refine ⟨h.1.1, h.1.2.1, ?_, h.1.2.2, rfl⟩
    cases ho : overP [a, b] with
    | false => rfl
    | true => rw [ho] at h; exact absurd h.2 (by decide)
theorem inner_first_ {p : Int} {r : List Int} (h : frOk (p :: r) = true) (hl : (p :: r).length ≤ 2) : (0 ≤ p ∧ p ≤ 10) ∧ (p = 10 ↔ r = []) := by
  match r, h, hl with
  | [], h, _ =>
    have h := of_decide_eq_true h
    exact ⟨by omega, fun _ => rfl, fun _ => h⟩
  | [b], h, _ =>
    have h := of_decide_eq_true h
    exact ⟨by omega, fun h_ => by omega, fun h_ => by cases h_⟩
  | b :: c :: r, _, hl => simp at hl
theorem inner_second_ {a p : Int} {r : List Int} (h : frOk (a :: p :: r) = true) (hl : (a :: p :: r).length ≤ 2) : (0 ≤ a ∧ a < 10) ∧ (0 ≤ p ∧ a + p ≤ 10) ∧ r = [] := by
  match r, h, hl with
  | [], h, _ =>
    have h := of_decide_eq_true h
    exact ⟨h.1, h.2, rfl⟩
  | c :: r, _, hl => simp at hl
/-- What the next ball can be, and what is then told. -/
theorem mid_ball {F tot : Int} {RES gs : List Int} {b : BoT} {fr0 bs : List Int} {n : Nat} {k x y S : Int} (M : Mid F tot RES gs b fr0 bs n k x y S) {p0 : Int} {r0 : List Int} (e : fr0 = bs ++ p0 :: r0) :
    (okT F b ∧ b.s.ov = false ∧ 0 ≤ p0 ∧ p0 ≤ b.s.st) ∧ ∀ p, 0 ≤ p → p ≤ p0 → Fine F (stepT F b p) ∧ (0 ≤ (stepT F b p).sum ∧ (stepT F b p).sum ≤ 3000) ∧ wayB 2 F (stepT F b p).s (stepT F b p).o (stepT F b p).w (tot - (stepT F b p).sum) = sumPre n x y (tot - S) (bs ++ [p]) := by
  obtain ⟨j, hj, hx, hy⟩ := M.xy
  have hin := ones_in j
  rw [← hx, ← hy] at hin
  have hnk := M.nk
  have hS := M.sum
  have hmem := mem_find M.find
  have hx3 : x = 1 ∨ x = 2 ∨ x = 3 := by omega
  have hy3 : y = 1 ∨ y = 2 ∨ y = 3 := by omega
  rw [M.eb]
  have ht0 : okT F (stateP k x y S []) := ⟨by show 0 ≤ k ∧ k < F; omega, Nat.zero_le _, fun x hx => absurd hx (by simp [stateP]), by show (0 : Int) ≤ 10 ∧ (10 : Int) ≤ 10; omega, by show 0 ≤ S ∧ S ≤ 2000; omega, by show 1 ≤ x ∧ x ≤ 3; omega, by show 1 ≤ y ∧ y ≤ 2; omega⟩
  have ht1 : ∀ a : Int, 0 ≤ a ∧ a ≤ 10 → okT F (stateP k x y S [a]) := fun a ha => by
    have m1 := mul3 (a := a) (x := x) ha.1 ha.2 hx3
    have h1 := st1_in ha
    refine ⟨by show 0 ≤ k ∧ k < F; omega, by show 1 ≤ 2; omega, fun z hz => ?_, by show 0 ≤ st1 a ∧ st1 a ≤ 10; omega, by show 0 ≤ S + a * x ∧ S + a * x ≤ 2000; omega, by show 1 ≤ y ∧ y ≤ 3; omega, by show (1 : Int) ≤ 1 ∧ (1 : Int) ≤ 2; omega⟩
    have : z = a := List.mem_singleton.1 hz
    omega
  by_cases hn : n = 0
  · subst hn
    have hk : k + 1 = F := by omega
    have hlo := frame_last hmem
    rw [e] at hlo
    match bs, hlo with
    | [], hlo =>
      have hp := last_first_ hlo
      refine ⟨⟨ht0, rfl, hp.1, hp.2⟩, fun p h0 h1 => ?_⟩
      have m1 := mul3 (a := p) (x := x) h0 (by omega) hx3
      rw [step_A F k x y S p (Or.inl hk)]
      refine ⟨fine_last1 F k p y _ ⟨hnk.2.1, hk⟩ ⟨h0, by omega⟩ (by omega), ?_, ?_⟩
      · show 0 ≤ S + p * x ∧ S + p * x ≤ 3000
        omega
      · show wayB 2 F ⟨k, [p], st1 p, false⟩ y 1 (tot - (S + p * x)) = _
        rw [show [] ++ [p] = [p] from rfl, pre_last1 (F := F) (k := k) hk ⟨h0, by omega⟩, show tot - (S + p * x) = tot - S - p * x by omega]
    | [a], hlo =>
      obtain ⟨ha, hp, _⟩ := last_second_ hlo
      have hs1 := st1_in ha
      refine ⟨⟨ht1 a ha, rfl, hp.1, hp.2⟩, fun p h0 h1 => ?_⟩
      have m1 := mul3 (a := a) (x := x) ha.1 ha.2 hx3
      have m2 := mul3 (a := p) (x := y) h0 (by omega) hy3
      have hs2 := st2_in ha (b := p) ⟨h0, by omega⟩
      rw [step_D F k x y S a p hk]
      refine ⟨?_, ?_, ?_⟩
      · cases overP [a, p] with
        | true => exact fine_over _ _ _ _ _ _ _
        | false => exact fine_last2 F k a p _ _ ⟨hnk.2.1, hk⟩ ha ⟨h0, by omega⟩ ⟨by omega, hs2.2⟩
      · show 0 ≤ S + a * x + p * y ∧ S + a * x + p * y ≤ 3000
        omega
      · show wayB 2 F ⟨k, [a, p], st2 a p, overP [a, p]⟩ 1 1 (tot - (S + a * x + p * y)) = _
        rw [show [a] ++ [p] = [a, p] from rfl, pre_last2 (F := F) (k := k) hk ha ⟨h0, by omega⟩ 1, show tot - (S + a * x + p * y) = tot - S - a * x - p * y by omega]
    | [a, b1], hlo =>
      obtain ⟨ha, hb, ho, hp, _⟩ := last_third_ hlo
      have hs1 := st1_in ha
      have hs2 := st2_in ha hb
      have m1 := mul3 (a := a) (x := x) ha.1 ha.2 hx3
      have m2 := mul3 (a := b1) (x := y) hb.1 (by omega) hy3
      refine ⟨⟨⟨by show 0 ≤ k ∧ k < F; omega, by show 2 ≤ 2; omega, fun z hz => ?_, by show 0 ≤ st2 a b1 ∧ st2 a b1 ≤ 10; omega, by show 0 ≤ S + a * x + b1 * y ∧ S + a * x + b1 * y ≤ 2000; omega, by show (1 : Int) ≤ 1 ∧ (1 : Int) ≤ 3; omega, by show (1 : Int) ≤ 1 ∧ (1 : Int) ≤ 2; omega⟩, rfl, hp.1, hp.2⟩, fun p h0 h1 => ?_⟩
      · have hz : z ∈ [a, b1] := hz
        simp only [List.mem_cons, List.not_mem_nil, or_false] at hz
        rcases hz with rfl | rfl <;> omega
      · obtain ⟨st, es⟩ := step_E F k x y S a b1 p hk
        rw [es]
        refine ⟨fine_over _ _ _ _ _ _ _, ?_, ?_⟩
        · show 0 ≤ S + a * x + b1 * y + p ∧ S + a * x + b1 * y + p ≤ 3000
          omega
        · show wayB 2 F ⟨k, [a, b1, p], st, true⟩ 1 1 (tot - (S + a * x + b1 * y + p)) = _
          rw [show [a, b1] ++ [p] = [a, b1, p] from rfl, pre_last3 ha hb ho ⟨h0, by omega⟩, way_over _ _ _ _ _ _ rfl, show tot - (S + a * x + b1 * y + p) = tot - S - a * x - b1 * y - p by omega]
    | a :: b1 :: c1 :: bl, hlo => exact absurd (last_third_ hlo).2.2.2.2 (by cases bl <;> simp)
  · have hk : k + 1 < F := by omega
    obtain ⟨hfo, hl⟩ := frame_inner (by omega) hmem
    rw [e] at hfo hl
    have hF1 : (F - k - 1).toNat = n := by omega
    match bs, hfo, hl with
    | [], hfo, hl =>
      obtain ⟨hp, _⟩ := inner_first_ hfo hl
      refine ⟨⟨ht0, rfl, hp.1, hp.2⟩, fun p h0 h1 => ?_⟩
      have m1 := mul3 (a := p) (x := x) h0 (by omega) hx3
      by_cases h10 : p = 10
      · subst h10
        rw [step_B F k x y S hk]
        have hj2 : ∃ j, j < 4 ∧ y + 1 = onesP j ∧ (2 : Int) = twosP j := by
          have : y = 1 ∨ y = 2 := by omega
          rcases this with rfl | rfl
          · exact ⟨2, by omega, rfl, rfl⟩
          · exact ⟨3, by omega, rfl, rfl⟩
        obtain ⟨j2, hj2, e1, e2⟩ := hj2
        refine ⟨fine_bnd F (k + 1) _ _ _ (by omega) hnk.2.2 j2 hj2 e1 e2, ?_, ?_⟩
        · show 0 ≤ S + 10 * x ∧ S + 10 * x ≤ 3000
          omega
        · show wayB 2 F ⟨k + 1, [], 10, false⟩ (y + 1) 2 (tot - (S + 10 * x)) = _
          rw [show ([] : List Int) ++ [10] = [10] from rfl, pre_inner3 (by omega), way_bnd _ _ _ _ _ _ rfl rfl]
          simp only
          rw [show (F - (k + 1)).toNat = n by omega, show tot - (S + 10 * x) = tot - S - 10 * x by omega]
      · rw [step_A F k x y S p (Or.inr ⟨hk, by omega⟩)]
        have es : st1 p = 10 - p := by unfold st1; rw [if_neg (by omega)]
        show Fine F ⟨⟨k, [p], st1 p, false⟩, S + p * x, y, 1⟩ ∧ (0 ≤ S + p * x ∧ S + p * x ≤ 3000) ∧ wayB 2 F ⟨k, [p], st1 p, false⟩ y 1 (tot - (S + p * x)) = _
        rw [es]
        refine ⟨fine_inner F k p y _ ⟨hnk.2.1, hk⟩ hnk.2.2 ⟨h0, by omega⟩ (by omega), by omega, ?_⟩
        rw [show [] ++ [p] = [p] from rfl, pre_inner1 (by omega) ⟨h0, by omega⟩, way_inner F k p y _ ⟨hnk.2.1, hk⟩ ⟨h0, by omega⟩ 1, hF1, show tot - (S + p * x) = tot - S - p * x by omega]
    | [a], hfo, hl =>
      obtain ⟨ha, hp, _⟩ := inner_second_ hfo hl
      have es : st1 a = 10 - a := by unfold st1; rw [if_neg (by omega)]
      refine ⟨⟨ht1 a ⟨ha.1, by omega⟩, rfl, hp.1, by show p0 ≤ st1 a; omega⟩, fun p h0 h1 => ?_⟩
      have m1 := mul3 (a := a) (x := x) ha.1 (by omega) hx3
      have m2 := mul3 (a := p) (x := y) h0 (by omega) hy3
      rw [step_C F k x y S a p hk ha.2]
      have hj2 : ∃ j, j < 4 ∧ (if a + p = 10 then (2 : Int) else 1) = onesP j ∧ (1 : Int) = twosP j := by
        by_cases h : a + p = 10
        · rw [if_pos h]; exact ⟨1, by omega, rfl, rfl⟩
        · rw [if_neg h]; exact ⟨0, by omega, rfl, rfl⟩
      obtain ⟨j2, hj2, e1, e2⟩ := hj2
      refine ⟨fine_bnd F (k + 1) _ _ _ (by omega) hnk.2.2 j2 hj2 e1 e2, ?_, ?_⟩
      · show 0 ≤ S + a * x + p * y ∧ S + a * x + p * y ≤ 3000
        omega
      · show wayB 2 F ⟨k + 1, [], 10, false⟩ (if a + p = 10 then 2 else 1) 1 (tot - (S + a * x + p * y)) = _
        rw [show [a] ++ [p] = [a, p] from rfl, pre_inner2 (by omega) ha ⟨h0, by omega⟩, way_bnd _ _ _ _ _ _ rfl rfl]
        simp only
        rw [show (F - (k + 1)).toNat = n by omega, show tot - (S + a * x + p * y) = tot - S - a * x - p * y by omega]
    | a :: b1 :: bl, hfo, hl =>
      simp at hl
/-- A frame begins. -/
theorem mid_start {F tot : Int} {RES gs : List Int} {b : BoT} {n : Nat} {k x y S : Int} (hb : b = behindT F gs) (eb : b = ⟨⟨k, [], 10, false⟩, S, x, y⟩) (nk : F = k + (n : Int) + 1 ∧ 0 ≤ k ∧ F ≤ 10) (xy : ∃ j, j < 4 ∧ x = onesP j ∧ y = twosP j) (hc : cntP (n + 1) x y (tot - S) ≠ 0)
    (hr : gs ++ firstL (n + 1) x y (tot - S) = RES) (hs : 0 ≤ S ∧ S ≤ 60 * k) : ∃ fr', Mid F tot RES gs b fr' [] n k x y S ∧ ∃ p1 r1, fr' = [] ++ p1 :: r1 := by
  obtain ⟨fr, hf, hm, _⟩ := has_frame hc
  refine ⟨fr, ⟨hb, eb, nk, xy, hf, ⟨gs, by rw [List.append_nil], by rw [← firstL_step hf]; exact hr⟩, hs⟩, ?_⟩
  have := frOk_len (frames_ok _ fr hm)
  match fr, this with
  | p1 :: r1, _ => exact ⟨p1, r1, rfl⟩
/-- What lies behind the ball. -/
theorem mid_next {F tot : Int} {RES gs : List Int} {b : BoT} {fr0 bs : List Int} {n : Nat} {k x y S : Int} (M : Mid F tot RES gs b fr0 bs n k x y S) {p0 : Int} {r0 : List Int} (e : fr0 = bs ++ p0 :: r0) :
    ((stepT F b p0).s.ov = true ∧ gs ++ [p0] = RES) ∨ ((stepT F b p0).s.ov = false ∧ ∃ fr' bs' n' k' x' y' S', Mid F tot RES (gs ++ [p0]) (stepT F b p0) fr' bs' n' k' x' y' S' ∧ ∃ p1 r1, fr' = bs' ++ p1 :: r1) := by
  obtain ⟨j, hj, hx, hy⟩ := M.xy
  have hin := ones_in j
  rw [← hx, ← hy] at hin
  have hnk := M.nk
  have hS := M.sum
  have hmem := mem_find M.find
  have hx3 : x = 1 ∨ x = 2 ∨ x = 3 := by omega
  have hy3 : y = 1 ∨ y = 2 ∨ y = 3 := by omega
  have hbe : stepT F b p0 = behindT F (gs ++ [p0]) := by rw [behind_more, M.hb]
  obtain ⟨g0, hg0, hres⟩ := M.res
  have hpos : cntP n (nextV (0, x, y) fr0).2.1 (nextV (0, x, y) fr0).2.2 (tot - S - pointsV x y fr0) ≠ 0 := by
    have h1 := List.find?_some M.find
    unfold posP at h1
    rw [decide_eq_true_eq] at h1
    omega
  -- the same frame goes on
  have same : ∀ p1 r1, r0 = p1 :: r1 → stepT F b p0 = stateP k x y S (bs ++ [p0]) → (stepT F b p0).s.ov = false → ((stepT F b p0).s.ov = true ∧ gs ++ [p0] = RES) ∨ ((stepT F b p0).s.ov = false ∧ ∃ fr' bs' n' k' x' y' S', Mid F tot RES (gs ++ [p0]) (stepT F b p0) fr' bs' n' k' x' y' S' ∧ ∃ p1 r1, fr' = bs' ++ p1 :: r1) := fun p1 r1 hr hst hov =>
    Or.inr ⟨hov, fr0, bs ++ [p0], n, k, x, y, S, ⟨hbe, hst, hnk, M.xy, M.find, ⟨g0, by rw [hg0, List.append_assoc], hres⟩, hS⟩, p1, r1, by rw [e, hr, List.append_assoc]; rfl⟩
  -- the frame is whole
  have whole : r0 = [] → gs ++ [p0] = g0 ++ fr0 := fun hr => by rw [hg0, e, hr, List.append_assoc]
  by_cases hn : n = 0
  · subst hn
    have hk : k + 1 = F := by omega
    have hlo := frame_last hmem
    have hend : r0 = [] → gs ++ [p0] = RES := fun hr => by
      rw [whole hr, ← hres, show firstL 0 (nextV (0, x, y) fr0).2.1 (nextV (0, x, y) fr0).2.2 (tot - S - pointsV x y fr0) = [] from rfl, List.append_nil]
    rw [e] at hlo
    match bs, hlo with
    | [], hlo =>
      match r0, hlo with
      | p1 :: r1, hlo =>
        refine same p1 r1 rfl ?_ ?_
        · rw [M.eb, step_A F k x y S p0 (Or.inl hk)]; rfl
        · rw [M.eb, step_A F k x y S p0 (Or.inl hk)]; rfl
    | [a], hlo =>
      obtain ⟨ha, hp, ho⟩ := last_second_ hlo
      match r0, ho with
      | [], ho =>
        refine Or.inl ⟨?_, hend rfl⟩
        rw [M.eb, step_D F k x y S a p0 hk]
        exact ho.2 rfl
      | p1 :: r1, ho =>
        have ho2 : overP [a, p0] = false := by
          cases h : overP [a, p0] with
          | false => rfl
          | true => cases ho.1 h
        refine same p1 r1 rfl ?_ ?_
        · rw [M.eb, step_D F k x y S a p0 hk, ho2]; rfl
        · rw [M.eb, step_D F k x y S a p0 hk]; exact ho2
    | [a, b1], hlo =>
      obtain ⟨_, _, _, _, hr⟩ := last_third_ hlo
      obtain ⟨st, es⟩ := step_E F k x y S a b1 p0 hk
      refine Or.inl ⟨?_, hend hr⟩
      rw [M.eb, es]
    | a :: b1 :: c1 :: bl, hlo => exact absurd (last_third_ hlo).2.2.2.2 (by cases bl <;> simp)
  · obtain ⟨m, rfl⟩ : ∃ m, n = m + 1 := ⟨n - 1, by omega⟩
    have hk : k + 1 < F := by omega
    obtain ⟨hfo, hl⟩ := frame_inner (by omega) hmem
    rw [e] at hfo hl
    -- another frame begins
    have next : ∀ x' y' S' : Int, r0 = [] → stepT F b p0 = ⟨⟨k + 1, [], 10, false⟩, S', x', y'⟩ → (∃ j, j < 4 ∧ x' = onesP j ∧ y' = twosP j) → (nextV (0, x, y) fr0).2.1 = x' → (nextV (0, x, y) fr0).2.2 = y' → tot - S - pointsV x y fr0 = tot - S' → (0 ≤ S' ∧ S' ≤ 60 * (k + 1)) →
        ((stepT F b p0).s.ov = true ∧ gs ++ [p0] = RES) ∨ ((stepT F b p0).s.ov = false ∧ ∃ fr' bs' n' k' x' y' S', Mid F tot RES (gs ++ [p0]) (stepT F b p0) fr' bs' n' k' x' y' S' ∧ ∃ p1 r1, fr' = bs' ++ p1 :: r1) := fun x' y' S' hr hst hxy h1 h2 h3 h4 => by
      rw [h1, h2, h3] at hpos hres
      obtain ⟨fr', hM, hp1⟩ := mid_start (F := F) (tot := tot) (RES := RES) hbe hst ⟨by omega, by omega, hnk.2.2⟩ hxy hpos (by rw [whole hr, List.append_assoc]; exact hres) h4
      exact Or.inr ⟨by rw [hst], fr', [], m, k + 1, x', y', S', hM, hp1⟩
    match bs, hfo, hl with
    | [], hfo, hl =>
      obtain ⟨hp, h10⟩ := inner_first_ hfo hl
      match r0, h10 with
      | [], h10 =>
        have hp10 := h10.2 rfl
        subst hp10
        refine next (y + 1) 2 (S + 10 * x) rfl (by rw [M.eb, step_B F k x y S hk]) ?_ ?_ ?_ ?_ ?_
        · have : y = 1 ∨ y = 2 := by omega
          rcases this with rfl | rfl
          · exact ⟨2, by omega, rfl, rfl⟩
          · exact ⟨3, by omega, rfl, rfl⟩
        · rw [e]; rfl
        · rw [e]; rfl
        · rw [e]
          show tot - S - 10 * x = tot - (S + 10 * x)
          omega
        · omega
      | p1 :: r1, h10 =>
        have hp10 : p0 ≠ 10 := fun h_ => by cases h10.1 h_
        refine same p1 r1 rfl ?_ ?_
        · rw [M.eb, step_A F k x y S p0 (Or.inr ⟨hk, by omega⟩)]; rfl
        · rw [M.eb, step_A F k x y S p0 (Or.inr ⟨hk, by omega⟩)]; rfl
    | [a], hfo, hl =>
      obtain ⟨ha, hp, hr⟩ := inner_second_ hfo hl
      subst hr
      have m1 := mul3 (a := a) (x := x) ha.1 (by omega) hx3
      have m2 := mul3 (a := p0) (x := y) hp.1 (by omega) hy3
      have hne : fr0.getD 0 0 ≠ 10 := by rw [e]; show a ≠ 10; omega
      have hsum : fr0.sum = a + p0 := by rw [e]; simp
      refine next (if a + p0 = 10 then 2 else 1) 1 (S + a * x + p0 * y) rfl (by rw [M.eb, step_C F k x y S a p0 hk ha.2]) ?_ ?_ ?_ ?_ ?_
      · by_cases h : a + p0 = 10
        · rw [if_pos h]; exact ⟨1, by omega, rfl, rfl⟩
        · rw [if_neg h]; exact ⟨0, by omega, rfl, rfl⟩
      · unfold nextV
        rw [if_neg hne, hsum]
        by_cases h : a + p0 = 10
        · rw [if_pos h, if_pos h]
        · rw [if_neg h, if_neg h]
      · unfold nextV
        rw [if_neg hne, hsum]
        by_cases h : a + p0 = 10
        · rw [if_pos h]
        · rw [if_neg h]
      · rw [e]
        show tot - S - (a * x + p0 * y) = tot - (S + a * x + p0 * y)
        omega
      · omega
    | a :: b1 :: bl, hfo, hl =>
      simp at hl
/-- The first game begins. -/
theorem mid_zero {f t : Int} (h : ((1 ≤ f ∧ f ≤ 10) ∧ 0 ≤ t ∧ t ≤ 300) ∧ cntP f.toNat 1 1 t ≠ 0) : ∃ fr' n', Mid f t (firstL f.toNat 1 1 t) [] startT fr' [] n' 0 1 1 0 ∧ ∃ p1 r1, fr' = [] ++ p1 :: r1 := by
  obtain ⟨n, hn⟩ : ∃ n, f.toNat = n + 1 := ⟨f.toNat - 1, by omega⟩
  have hc := h.2
  rw [hn] at hc
  rw [hn]
  obtain ⟨fr', hM, hp⟩ := mid_start (F := f) (tot := t) (RES := firstL (n + 1) 1 1 t) (gs := []) (b := startT) (n := n) (k := 0) (x := 1) (y := 1) (S := 0) rfl rfl ⟨by omega, by omega, h.1.1.2⟩ ⟨0, by omega, rfl, rfl⟩ (by rw [Int.sub_zero]; exact hc) (by rw [Int.sub_zero]; rfl) ⟨by omega, by omega⟩
  exact ⟨fr', n, hM, hp⟩
end Go.Proofs.Ytdioconinnpmmaa.Pin
