/- The program's PointsLeft answers as the reference's does, for every frame, whatever numbers it holds; nothing else is asked. -/
import Derived.Test.YtogcikjkfobjiaaDoorMFnExactPointsLeftx3
import Derived.Test.YtogcikjkfobjiaaDoorWSized
set_option linter.unusedVariables false
set_option linter.unusedSimpArgs false
namespace Go.Proofs.YtogcikjkfobjiaaDoor.Pure
open Go.RowKit Go.Proofs.YtogcikjkfobjiaaDoor.MFnExactPointsLeft Go.Proofs.YtogcikjkfobjiaaDoorW.PrintWords Go.Proofs.YtogcikjkfobjiaaDoorW.PrintLast
/-! ### Rounds: some number of rounds on, a function tells r, and r has a property -/
def Tot {α : Type} (g : Nat → Option α) (P : α → Prop) : Prop := ∃ r, Ev g r ∧ P r
theorem Tot.ret {α : Type} {P : α → Prop} {r : α} (h : P r) : Tot (fun _ => some r) P := ⟨r, Ev.now r, h⟩
theorem Tot.pos {α : Type} {c : Prop} [Decidable c] {f g : Nat → Option α} {P : α → Prop} (h : c) (hf : Tot f P) : Tot (fun k => if c then f k else g k) P := by
  simp only [if_pos h]; exact hf
theorem Tot.neg {α : Type} {c : Prop} [Decidable c] {f g : Nat → Option α} {P : α → Prop} (h : ¬ c) (hg : Tot g P) : Tot (fun k => if c then f k else g k) P := by
  simp only [if_neg h]; exact hg
theorem Tot.ite {α : Type} {c : Prop} [Decidable c] {f g : Nat → Option α} {P : α → Prop} (hf : c → Tot f P) (hg : ¬ c → Tot g P) : Tot (fun k => if c then f k else g k) P := by
  by_cases h : c
  · exact Tot.pos h (hf h)
  · exact Tot.neg h (hg h)
theorem Tot.bind {α β : Type} {g : Nat → Option α} {f : Nat → α → Option β} {P : α → Prop} {Q : β → Prop} (h : Tot g P) (k : ∀ a, P a → Tot (fun n => f n a) Q) : Tot (fun n => (g n).bind (f n)) Q := by
  obtain ⟨a, ha, hp⟩ := h
  obtain ⟨r, hr, hq⟩ := k a hp
  exact ⟨r, Ev.bind ha hr, hq⟩
theorem Tot.some_bind {α β : Type} {f : Nat → α → Option β} {Q : β → Prop} {a : α} (k : Tot (fun n => f n a) Q) : Tot (fun n => (some a).bind (f n)) Q := k
theorem Tot.step {α : Type} {g f : Nat → Option α} {P : α → Prop} (h : ∀ k, g (k + 1) = f k) (k : Tot f P) : Tot g P := by
  obtain ⟨r, hr, hp⟩ := k
  exact ⟨r, Ev.step h hr, hp⟩
theorem Tot.congr {α : Type} {g f : Nat → Option α} {P : α → Prop} (h : ∀ k, g k = f k) (k : Tot f P) : Tot g P := by
  obtain ⟨r, hr, hp⟩ := k
  exact ⟨r, Ev.congr h hr, hp⟩
theorem Tot.mono {α : Type} {g : Nat → Option α} {P Q : α → Prop} (h : Tot g P) (k : ∀ r, P r → Q r) : Tot g Q := by
  obtain ⟨r, hr, hp⟩ := h
  exact ⟨r, hr, k r hp⟩
theorem Tot.rounds {α : Type} {g : Nat → Option α} {r : α} (h : Tot g (Eq r)) : ∃ k, g k = some r := by
  obtain ⟨_, hr, rfl⟩ := h
  exact hr.rounds
theorem Tot.ev {α : Type} {g : Nat → Option α} {r : α} (h : Tot g (Eq r)) : Ev g r := by
  obtain ⟨_, hr, rfl⟩ := h
  exact hr
theorem Tot.of {α : Type} {g : Nat → Option α} {r : α} (h : Ev g r) : Tot g (Eq r) := ⟨r, h, rfl⟩
theorem wrap_in {x : Int} (h0 : -9223372036854775808 ≤ x) (h1 : x ≤ 9223372036854775807) : wrap64 x = x := by unfold wrap64; omega
theorem wrap_nat (n : Nat) (h : n < 4611686018427387904) : wrap64 ((n : Int) + 1) = ((n + 1 : Nat) : Int) := by rw [wrap_in] <;> omega
theorem rd_mid (pre suf : List Int) (x : Int) : rd (pre ++ x :: suf) (pre.length : Int) = x := by simp [rd]
theorem rd_get (l : List Int) (i : Nat) (h : i < l.length) : rd l (i : Int) = l[i] := by simp [rd, h]
theorem set_mid {α : Type} (pre suf : List α) (x y : α) : (pre ++ x :: suf).set (pre.length : Int).toNat y = pre ++ y :: suf := by simp
def goodB (r : Int) (c : Bool) (l : Int) : Bool := decide (0 ≤ r ∧ r ≤ 15 ∧ 2 ≤ l ∧ l ≤ 8 ∧ (c = true → r ≠ 15) ∧ (l = 2 ∨ (r = 0 ∧ c = false)))
theorem within_eq (a b c : Int) : impl_within.f a b c = some (decide (b ≤ a ∧ a ≤ c)) := by
  unfold impl_within.f; split <;> simp [*]
theorem l1In_eq (a b c : Int) : spec_l1In.f a b c = some (decide (b ≤ a ∧ a ≤ c)) := by
  unfold spec_l1In.f
  split
  · simp [*]
  · have : ¬ (b ≤ a ∧ a ≤ c) := by omega
    simp [this]
theorem frGood_eq (r : Int) (c : Bool) (l : Int) : spec_frGood.f r c l = some (goodB r c l) := by
  unfold spec_frGood.f goodB
  simp only [l1In_eq, Option.bind_some, decide_eq_true_eq]
  by_cases h1 : 0 ≤ r ∧ r ≤ 15
  · by_cases h2 : 2 ≤ l ∧ l ≤ 8
    · rw [if_pos h1, if_pos h2]
      cases c with
      | true =>
        by_cases h3 : r = 15
        · rw [if_pos rfl, if_pos h3]; simp [h3]
        · by_cases h4 : l = 2
          · rw [if_pos rfl, if_neg h3, if_pos h4]; simp [h3, h4]; omega
          · rw [if_pos rfl, if_neg h3, if_neg h4]
            simp [h4]
      | false =>
        by_cases h4 : l = 2
        · rw [if_neg (by simp), if_pos h4]; simp [h4]; omega
        · by_cases h5 : r = 0
          · rw [if_neg (by simp), if_neg h4, if_pos h5]; simp [h5]; omega
          · rw [if_neg (by simp), if_neg h4, if_neg h5]; simp [h4, h5]
    · rw [if_pos h1, if_neg h2]
      rw [decide_eq_false (fun e => h2 ⟨e.2.2.1, e.2.2.2.1⟩)]
  · rw [if_neg h1, decide_eq_false (fun e => h1 ⟨e.1, e.2.1⟩)]
theorem isFrame_t (r : Int) (c : Bool) (l : Int) : Tot (fun k => impl_IsFrame.f k r c l) (Eq (goodB r c l)) := by
  unfold impl_IsFrame.f
  simp only [within_eq]
  refine Tot.some_bind ?_
  have tail : (0 ≤ r ∧ r ≤ 15) → ¬ (c = true ∧ r = 15) → Tot (fun k => impl_IsFrame.j0 k false r c l) (Eq (goodB r c l)) := by
    intro h1 h3
    refine Tot.step (fun k => impl_IsFrame.j0.eq_2 _ _ _ _ _) ?_
    simp only [within_eq]
    refine Tot.neg (by simp) ?_
    refine Tot.ite (fun h => Tot.ret ?_) (fun h => Tot.ite (fun hc => Tot.ret ?_) (fun hc => Tot.some_bind (Tot.ret ?_)))
    · rw [Bool.eq_iff_iff, beq_iff_eq, goodB, decide_eq_true_eq]
      constructor
      · rintro ⟨_, _, _, _, _, e | e⟩ <;> omega
      · intro e; exact ⟨by omega, by omega, by omega, by omega, fun hc e => h3 ⟨hc, e⟩, .inl e⟩
    · subst hc
      rw [Bool.eq_iff_iff, beq_iff_eq, goodB, decide_eq_true_eq]
      constructor
      · rintro ⟨_, _, _, _, _, e | ⟨_, e⟩⟩
        · exact e
        · cases e
      · intro e; exact ⟨by omega, by omega, by omega, by omega, fun hc e => h3 ⟨hc, e⟩, .inl e⟩
    · have hc' : c = false := by simpa using hc
      subst hc'
      rw [Bool.eq_iff_iff, decide_eq_true_eq, goodB, decide_eq_true_eq]
      constructor
      · rintro ⟨_, _, e1, e2, _⟩; exact ⟨e1, e2⟩
      · intro e; exact ⟨by omega, by omega, e.1, e.2, fun hc => (by cases hc), .inr ⟨by omega, rfl⟩⟩
  have gone : ¬ ((0 ≤ r ∧ r ≤ 15) ∧ ¬ (c = true ∧ r = 15)) → Tot (fun k => impl_IsFrame.j0 k true r c l) (Eq (goodB r c l)) := by
    intro h
    refine Tot.step (fun k => impl_IsFrame.j0.eq_2 _ _ _ _ _) ?_
    refine Tot.pos rfl (Tot.ret ?_)
    rw [goodB, decide_eq_false]
    rintro ⟨e1, e2, _, _, e3, _⟩
    exact h ⟨⟨e1, e2⟩, fun e => e3 e.1 e.2⟩
  refine Tot.ite (fun h1 => ?_) (fun h1 => ?_)
  · have h1' : 0 ≤ r ∧ r ≤ 15 := by simpa using h1
    refine Tot.ite (fun hc => ?_) (fun hc => tail h1' (fun e => hc e.1))
    by_cases h3 : r = 15
    · rw [show (r == 15) = true by simpa using h3]
      exact gone (fun e => e.2 ⟨hc, h3⟩)
    · rw [show (r == 15) = false by simpa using h3]
      exact tail h1' (fun e => h3 e.2)
  · have h1' : ¬ (0 ≤ r ∧ r ≤ 15) := by simpa using h1
    exact gone (fun e => h1' e.1)
theorem good_range {r : Int} {c : Bool} {l : Int} (h : goodB r c l = true) : 0 ≤ r ∧ r ≤ 15 ∧ 2 ≤ l ∧ l ≤ 8 ∧ (c = true → r ≠ 15) ∧ (l = 2 ∨ (r = 0 ∧ c = false)) := by
  rwa [goodB, decide_eq_true_eq] at h
set_option maxRecDepth 100000 in
theorem all_good : ∀ r < 16, ∀ c : Bool, ∀ l < 9, goodB (r : Nat) c (l : Nat) = true → laws_FnExactPointsLeft.f 100 (r : Nat) c (l : Nat) = some true := by decide +kernel
theorem FnExactPointsLeft : ∀ (r : Int) (c : Bool) (l : Int), (Lit.int .i64 r).wf = true → (Lit.int .i64 l).wf = true → ∃ k, laws_FnExactPointsLeft.f k r c l = some true := by
  intro r c l _ _
  by_cases h : goodB r c l = true
  · obtain ⟨h1, h2, h3, h4, _⟩ := good_range h
    obtain ⟨n, rfl⟩ : ∃ n : Nat, r = (n : Int) := ⟨r.toNat, by omega⟩
    obtain ⟨m, rfl⟩ : ∃ m : Nat, l = (m : Int) := ⟨l.toNat, by omega⟩
    exact ⟨100, all_good n (by omega) c m (by omega) h⟩
  · refine Tot.rounds ?_
    unfold laws_FnExactPointsLeft.f laws_toFrame.f
    refine Tot.some_bind (Tot.bind (P := Eq ((0 : Int), false)) ?_ ?_)
    · unfold spec_PointsLeft.f
      rw [frGood_eq]
      exact Tot.some_bind (Tot.neg h (Tot.ret rfl))
    rintro _ rfl
    refine Tot.some_bind (Tot.bind (P := Eq ((0 : Int), false)) ?_ ?_)
    · unfold impl_PointsLeft.f
      refine Tot.bind (P := Eq ((⟨#[]⟩ : ByteArray), 0, false)) ?_ ?_
      · unfold impl_HighestBreak.f
        refine Tot.bind (isFrame_t r c l) ?_
        rintro _ rfl
        exact Tot.neg h (Tot.ret rfl)
      · rintro _ rfl
        exact Tot.ret rfl
    rintro _ rfl
    repeat (first | refine Tot.pos rfl ?_ | refine Tot.neg (by simp; done) ?_)
    exact Tot.ret rfl
end Go.Proofs.YtogcikjkfobjiaaDoor.Pure
namespace Go.Proofs.YtogcikjkfobjiaaDoor.PrintWords
theorem sized_ints : type_of% @Go.Proofs.YtogcikjkfobjiaaDoorW.PrintWords.sized_ints := @Go.Proofs.YtogcikjkfobjiaaDoorW.PrintWords.sized_ints
end Go.Proofs.YtogcikjkfobjiaaDoor.PrintWords
