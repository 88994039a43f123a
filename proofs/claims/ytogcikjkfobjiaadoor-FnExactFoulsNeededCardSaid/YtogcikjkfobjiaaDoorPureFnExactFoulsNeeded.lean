/- The program's FoulsNeeded answers as the reference's does, for every frame and every number of points, whatever they are; nothing else is asked. -/
import Derived.Test.YtogcikjkfobjiaaDoorMFnExactFoulsNeededx3
import Derived.Test.YtogcikjkfobjiaaDoorWSized
set_option linter.unusedVariables false
set_option linter.unusedSimpArgs false
namespace Go.Proofs.YtogcikjkfobjiaaDoor.Pure
open Go.RowKit Go.Proofs.YtogcikjkfobjiaaDoor.MFnExactFoulsNeeded Go.Proofs.YtogcikjkfobjiaaDoorW.PrintWords Go.Proofs.YtogcikjkfobjiaaDoorW.PrintLast
/-! ### Rounds: some number of rounds on, a function tells r, and r has a property -/
def Tot {α : Type} (g : Nat → Option α) (P : α → Prop) : Prop := ∃ r, Ev g r ∧ P r
theorem Tot.ret {α : Type} {P : α → Prop} {r : α} (h : P r) : Tot (fun _ => some r) P := ⟨r, Ev.now r, h⟩
theorem Tot.pos {α : Type} {c : Prop} [Decidable c] {f g : Nat → Option α} {P : α → Prop} (h : c) (hf : Tot f P) : Tot (fun k => if c then f k else g k) P := by
  simp only [if_pos h]; exact hf
theorem Tot.neg {α : Type} {c : Prop} [Decidable c] {f g : Nat → Option α} {P : α → Prop} (h : ¬ c) (hg : Tot g P) : Tot (fun k => if c then f k else g k) P := by
  simp only [if_neg h]; exact hg
theorem Tot.ite {α : Type} {c : Prop} [Decidable c] {f g : Nat → Option α} {P : α → Prop} (hf : c → Tot f P) (hg : ¬ c → Tot g P) : Tot (fun k => if c then f k else g k) P := by
  by_cases h : c
  · exact Tot.pos h (hf h)
  · exact Tot.neg h (hg h)
theorem Tot.bind {α β : Type} {g : Nat → Option α} {f : Nat → α → Option β} {P : α → Prop} {Q : β → Prop} (h : Tot g P) (k : ∀ a, P a → Tot (fun n => f n a) Q) : Tot (fun n => (g n).bind (f n)) Q := by
  obtain ⟨a, ha, hp⟩ := h
  obtain ⟨r, hr, hq⟩ := k a hp
  exact ⟨r, Ev.bind ha hr, hq⟩
theorem Tot.some_bind {α β : Type} {f : Nat → α → Option β} {Q : β → Prop} {a : α} (k : Tot (fun n => f n a) Q) : Tot (fun n => (some a).bind (f n)) Q := k
theorem Tot.step {α : Type} {g f : Nat → Option α} {P : α → Prop} (h : ∀ k, g (k + 1) = f k) (k : Tot f P) : Tot g P := by
  obtain ⟨r, hr, hp⟩ := k
  exact ⟨r, Ev.step h hr, hp⟩
theorem Tot.congr {α : Type} {g f : Nat → Option α} {P : α → Prop} (h : ∀ k, g k = f k) (k : Tot f P) : Tot g P := by
  obtain ⟨r, hr, hp⟩ := k
  exact ⟨r, Ev.congr h hr, hp⟩
theorem Tot.mono {α : Type} {g : Nat → Option α} {P Q : α → Prop} (h : Tot g P) (k : ∀ r, P r → Q r) : Tot g Q := by
  obtain ⟨r, hr, hp⟩ := h
  exact ⟨r, hr, k r hp⟩
theorem Tot.rounds {α : Type} {g : Nat → Option α} {r : α} (h : Tot g (Eq r)) : ∃ k, g k = some r := by
  obtain ⟨_, hr, rfl⟩ := h
  exact hr.rounds
theorem Tot.ev {α : Type} {g : Nat → Option α} {r : α} (h : Tot g (Eq r)) : Ev g r := by
  obtain ⟨_, hr, rfl⟩ := h
  exact hr
theorem Tot.of {α : Type} {g : Nat → Option α} {r : α} (h : Ev g r) : Tot g (Eq r) := ⟨r, h, rfl⟩
theorem wrap_in {x : Int} (h0 : -9223372036854775808 ≤ x) (h1 : x ≤ 9223372036854775807) : wrap64 x = x := by unfold wrap64; omega
theorem wrap_nat (n : Nat) (h : n < 4611686018427387904) : wrap64 ((n : Int) + 1) = ((n + 1 : Nat) : Int) := by rw [wrap_in] <;> omega
theorem rd_mid (pre suf : List Int) (x : Int) : rd (pre ++ x :: suf) (pre.length : Int) = x := by simp [rd]
theorem rd_get (l : List Int) (i : Nat) (h : i < l.length) : rd l (i : Int) = l[i] := by simp [rd, h]
theorem set_mid {α : Type} (pre suf : List α) (x y : α) : (pre ++ x :: suf).set (pre.length : Int).toNat y = pre ++ y :: suf := by simp
/-! ### Two functions side by side -/
def Two {α β : Type} (g : Nat → Option α) (f : Nat → Option β) (R : α → β → Prop) : Prop := ∃ a b, Ev g a ∧ Ev f b ∧ R a b
section
variable {α β α' β' : Type} {g : Nat → Option α} {f : Nat → Option β} {R : α → β → Prop}
theorem Two.ret {a : α} {b : β} (h : R a b) : Two (fun _ => some a) (fun _ => some b) R := ⟨a, b, Ev.now a, Ev.now b, h⟩
theorem Two.lpos {c : Prop} [Decidable c] {g' : Nat → Option α} (h : c) (t : Two g f R) : Two (fun k => if c then g k else g' k) f R := by
  simp only [if_pos h]; exact t
theorem Two.lneg {c : Prop} [Decidable c] {g' : Nat → Option α} (h : ¬ c) (t : Two g f R) : Two (fun k => if c then g' k else g k) f R := by
  simp only [if_neg h]; exact t
theorem Two.rpos {c : Prop} [Decidable c] {f' : Nat → Option β} (h : c) (t : Two g f R) : Two g (fun k => if c then f k else f' k) R := by
  simp only [if_pos h]; exact t
theorem Two.rneg {c : Prop} [Decidable c] {f' : Nat → Option β} (h : ¬ c) (t : Two g f R) : Two g (fun k => if c then f' k else f k) R := by
  simp only [if_neg h]; exact t
theorem Two.lbind {g' : Nat → α → Option α'} {P : α → Prop} {S : α' → β → Prop} (h : Tot g P) (k : ∀ a, P a → Two (fun n => g' n a) f S) : Two (fun n => (g n).bind (g' n)) f S := by
  obtain ⟨a, ha, hp⟩ := h
  obtain ⟨r, q, hr, hq, hs⟩ := k a hp
  exact ⟨r, q, Ev.bind ha hr, hq, hs⟩
theorem Two.rbind {f' : Nat → β → Option β'} {P : β → Prop} {S : α → β' → Prop} (h : Tot f P) (k : ∀ b, P b → Two g (fun n => f' n b) S) : Two g (fun n => (f n).bind (f' n)) S := by
  obtain ⟨a, ha, hp⟩ := h
  obtain ⟨r, q, hr, hq, hs⟩ := k a hp
  exact ⟨r, q, hr, Ev.bind ha hq, hs⟩
theorem Two.lsome {g' : Nat → α → Option α'} {S : α' → β → Prop} {a : α} (k : Two (fun n => g' n a) f S) : Two (fun n => (some a).bind (g' n)) f S := k
theorem Two.rsome {f' : Nat → β → Option β'} {S : α → β' → Prop} {b : β} (k : Two g (fun n => f' n b) S) : Two g (fun n => (some b).bind (f' n)) S := k
theorem Two.bind {g' : Nat → α → Option α'} {f' : Nat → β → Option β'} {S : α' → β' → Prop} (h : Two g f R) (k : ∀ a b, R a b → Two (fun n => g' n a) (fun n => f' n b) S) : Two (fun n => (g n).bind (g' n)) (fun n => (f n).bind (f' n)) S := by
  obtain ⟨a, b, ha, hb, hp⟩ := h
  obtain ⟨r, q, hr, hq, hs⟩ := k a b hp
  exact ⟨r, q, Ev.bind ha hr, Ev.bind hb hq, hs⟩
theorem Two.lstep {g' : Nat → Option α} (h : ∀ k, g (k + 1) = g' k) (t : Two g' f R) : Two g f R := by
  obtain ⟨a, b, ha, hb, hp⟩ := t
  exact ⟨a, b, Ev.step h ha, hb, hp⟩
theorem Two.rstep {f' : Nat → Option β} (h : ∀ k, f (k + 1) = f' k) (t : Two g f' R) : Two g f R := by
  obtain ⟨a, b, ha, hb, hp⟩ := t
  exact ⟨a, b, ha, Ev.step h hb, hp⟩
theorem Two.mono {S : α → β → Prop} (t : Two g f R) (h : ∀ a b, R a b → S a b) : Two g f S := by
  obtain ⟨a, b, ha, hb, hp⟩ := t
  exact ⟨a, b, ha, hb, h a b hp⟩
theorem Two.eqs {f : Nat → Option α} (t : Two g f Eq) : ∃ v, Tot g (Eq v) ∧ Tot f (Eq v) := by
  obtain ⟨a, b, ha, hb, rfl⟩ := t
  exact ⟨a, ⟨a, ha, rfl⟩, ⟨a, hb, rfl⟩⟩
end
theorem Tot.both {α : Type} {g f : Nat → Option α} {P : α → Prop} (h : ∀ k, g k = f k) (t : Tot f P) : ∃ v, Tot g (Eq v) ∧ Tot f (Eq v) := by
  obtain ⟨v, hv, _⟩ := t
  exact ⟨v, ⟨v, Ev.congr h hv, rfl⟩, ⟨v, hv, rfl⟩⟩
theorem Tot.two {α β : Type} {g : Nat → Option α} {f : Nat → Option β} {P : α → Prop} {Q : β → Prop} {R : α → β → Prop} (t : Tot g P) (s : Tot f Q) (h : ∀ a b, P a → Q b → R a b) : Two g f R := by
  obtain ⟨a, ha, hp⟩ := t
  obtain ⟨b, hb, hq⟩ := s
  exact ⟨a, b, ha, hb, h a b hp hq⟩
theorem mn_eq (a b : Int) : mn a b = if a < b then a else b := by unfold mn; split <;> split <;> omega
theorem tdiv_in {a b : Int} (h : 0 ≤ a) : Int.tdiv a b = a / b := Int.tdiv_eq_ediv_of_nonneg h
theorem tmod_in {a b : Int} (h : 0 ≤ a) : Int.tmod a b = a % b := Int.tmod_eq_emod_of_nonneg h
def goodB (r : Int) (c : Bool) (l : Int) : Bool := decide (0 ≤ r ∧ r ≤ 15 ∧ 2 ≤ l ∧ l ≤ 8 ∧ (c = true → r ≠ 15) ∧ (l = 2 ∨ (r = 0 ∧ c = false)))
theorem within_eq (a b c : Int) : impl_within.f a b c = some (decide (b ≤ a ∧ a ≤ c)) := by
  unfold impl_within.f; split <;> simp [*]
theorem l1In_eq (a b c : Int) : spec_l1In.f a b c = some (decide (b ≤ a ∧ a ≤ c)) := by
  unfold spec_l1In.f
  split
  · simp [*]
  · have : ¬ (b ≤ a ∧ a ≤ c) := by omega
    simp [this]
theorem frGood_eq (r : Int) (c : Bool) (l : Int) : spec_frGood.f r c l = some (goodB r c l) := by
  unfold spec_frGood.f goodB
  simp only [l1In_eq, Option.bind_some, decide_eq_true_eq]
  by_cases h1 : 0 ≤ r ∧ r ≤ 15
  · by_cases h2 : 2 ≤ l ∧ l ≤ 8
    · rw [if_pos h1, if_pos h2]
      cases c with
      | true =>
        by_cases h3 : r = 15
        · rw [if_pos rfl, if_pos h3]; simp [h3]
        · by_cases h4 : l = 2
          · rw [if_pos rfl, if_neg h3, if_pos h4]; simp [h3, h4]; omega
          · rw [if_pos rfl, if_neg h3, if_neg h4]
            simp [h4]
      | false =>
        by_cases h4 : l = 2
        · rw [if_neg (by simp), if_pos h4]; simp [h4]; omega
        · by_cases h5 : r = 0
          · rw [if_neg (by simp), if_neg h4, if_pos h5]; simp [h5]; omega
          · rw [if_neg (by simp), if_neg h4, if_neg h5]; simp [h4, h5]
    · rw [if_pos h1, if_neg h2]
      rw [decide_eq_false (fun e => h2 ⟨e.2.2.1, e.2.2.2.1⟩)]
  · rw [if_neg h1, decide_eq_false (fun e => h1 ⟨e.1, e.2.1⟩)]
theorem isFrame_t (r : Int) (c : Bool) (l : Int) : Tot (fun k => impl_IsFrame.f k r c l) (Eq (goodB r c l)) := by
  unfold impl_IsFrame.f
  simp only [within_eq]
  refine Tot.some_bind ?_
  have tail : (0 ≤ r ∧ r ≤ 15) → ¬ (c = true ∧ r = 15) → Tot (fun k => impl_IsFrame.j0 k false r c l) (Eq (goodB r c l)) := by
    intro h1 h3
    refine Tot.step (fun k => impl_IsFrame.j0.eq_2 _ _ _ _ _) ?_
    simp only [within_eq]
    refine Tot.neg (by simp) ?_
    refine Tot.ite (fun h => Tot.ret ?_) (fun h => Tot.ite (fun hc => Tot.ret ?_) (fun hc => Tot.some_bind (Tot.ret ?_)))
    · rw [Bool.eq_iff_iff, beq_iff_eq, goodB, decide_eq_true_eq]
      constructor
      · rintro ⟨_, _, _, _, _, e | e⟩ <;> omega
      · intro e; exact ⟨by omega, by omega, by omega, by omega, fun hc e => h3 ⟨hc, e⟩, .inl e⟩
    · subst hc
      rw [Bool.eq_iff_iff, beq_iff_eq, goodB, decide_eq_true_eq]
      constructor
      · rintro ⟨_, _, _, _, _, e | ⟨_, e⟩⟩
        · exact e
        · cases e
      · intro e; exact ⟨by omega, by omega, by omega, by omega, fun hc e => h3 ⟨hc, e⟩, .inl e⟩
    · have hc' : c = false := by simpa using hc
      subst hc'
      rw [Bool.eq_iff_iff, decide_eq_true_eq, goodB, decide_eq_true_eq]
      constructor
      · rintro ⟨_, _, e1, e2, _⟩; exact ⟨e1, e2⟩
      · intro e; exact ⟨by omega, by omega, e.1, e.2, fun hc => (by cases hc), .inr ⟨by omega, rfl⟩⟩
  have gone : ¬ ((0 ≤ r ∧ r ≤ 15) ∧ ¬ (c = true ∧ r = 15)) → Tot (fun k => impl_IsFrame.j0 k true r c l) (Eq (goodB r c l)) := by
    intro h
    refine Tot.step (fun k => impl_IsFrame.j0.eq_2 _ _ _ _ _) ?_
    refine Tot.pos rfl (Tot.ret ?_)
    rw [goodB, decide_eq_false]
    rintro ⟨e1, e2, _, _, e3, _⟩
    exact h ⟨⟨e1, e2⟩, fun e => e3 e.1 e.2⟩
  refine Tot.ite (fun h1 => ?_) (fun h1 => ?_)
  · have h1' : 0 ≤ r ∧ r ≤ 15 := by simpa using h1
    refine Tot.ite (fun hc => ?_) (fun hc => tail h1' (fun e => hc e.1))
    by_cases h3 : r = 15
    · rw [show (r == 15) = true by simpa using h3]
      exact gone (fun e => e.2 ⟨hc, h3⟩)
    · rw [show (r == 15) = false by simpa using h3]
      exact tail h1' (fun e => h3 e.2)
  · have h1' : ¬ (0 ≤ r ∧ r ≤ 15) := by simpa using h1
    exact gone (fun e => h1' e.1)
theorem good_range {r : Int} {c : Bool} {l : Int} (h : goodB r c l = true) : 0 ≤ r ∧ r ≤ 15 ∧ 2 ≤ l ∧ l ≤ 8 ∧ (c = true → r ≠ 15) ∧ (l = 2 ∨ (r = 0 ∧ c = false)) := by
  rwa [goodB, decide_eq_true_eq] at h
/-- The points of the greatest break, as both tell them. -/
def ptsB (r : Int) (c : Bool) (l : Int) : Bool :=
  match spec_frAll.f 100 r c l 55 with
  | some s => match spec_frPoints.f 100 s, impl_HighestBreak.f 100 r c l with
    | some p, some (_, q, true) => decide (p = q ∧ 0 ≤ p ∧ p ≤ 147)
    | _, _ => false
  | none => false
set_option maxRecDepth 100000 in
theorem pts_all : ∀ r < 16, ∀ c : Bool, ∀ l < 9, goodB (r : Nat) c (l : Nat) = true → ptsB (r : Nat) c (l : Nat) = true := by decide +kernel
theorem pts {r : Int} {c : Bool} {l : Int} (h : goodB r c l = true) : ∃ s s' p, 0 ≤ p ∧ p ≤ 147 ∧ Tot (fun k => spec_frAll.f k r c l 55) (Eq s) ∧ Tot (fun k => spec_frPoints.f k s) (Eq p) ∧ Tot (fun k => impl_HighestBreak.f k r c l) (Eq (s', p, true)) := by
  obtain ⟨h1, h2, h3, h4, _⟩ := good_range h
  obtain ⟨n, rfl⟩ : ∃ n : Nat, r = (n : Int) := ⟨r.toNat, by omega⟩
  obtain ⟨m, rfl⟩ : ∃ m : Nat, l = (m : Int) := ⟨l.toNat, by omega⟩
  have hb := pts_all n (by omega) c m (by omega) h
  unfold ptsB at hb
  split at hb
  · rename_i s hs
    split at hb
    · rename_i p s' q hp hq
      rw [decide_eq_true_eq] at hb
      obtain ⟨rfl, p0, p1⟩ := hb
      exact ⟨s, s', p, p0, p1, Tot.of (Ev.of (fun k => spec_frAll.mono _ _ _ _ k) hs), Tot.of (Ev.of (fun k => spec_frPoints.mono _ k) hp), Tot.of (Ev.of (fun k => impl_HighestBreak.mono _ _ _ k) hq)⟩
    · cases hb
  · cases hb
theorem frBehind_eq (r : Int) (c : Bool) (l a : Int) : spec_frBehind.f r c l a = some (goodB r c l && decide (0 ≤ a ∧ a ≤ 400)) := by
  unfold spec_frBehind.f
  simp only [frGood_eq, l1In_eq, Option.bind_some]
  cases goodB r c l <;> simp
theorem pointsLeft_t {r : Int} {c : Bool} {l : Int} {s' : ByteArray} {p : Int} (hH : Tot (fun k => impl_HighestBreak.f k r c l) (Eq (s', p, true))) : Tot (fun k => impl_PointsLeft.f k r c l) (Eq (p, true)) := by
  unfold impl_PointsLeft.f
  refine Tot.bind hH ?_
  rintro _ rfl
  exact Tot.ret rfl
theorem pointsLeft_no {r : Int} {c : Bool} {l : Int} (h : ¬ goodB r c l = true) : Tot (fun k => impl_PointsLeft.f k r c l) (Eq (0, false)) := by
  unfold impl_PointsLeft.f
  refine Tot.bind (P := Eq ((⟨#[]⟩ : ByteArray), 0, false)) ?_ ?_
  · unfold impl_HighestBreak.f
    refine Tot.bind (isFrame_t r c l) ?_
    rintro _ rfl
    exact Tot.neg h (Tot.ret rfl)
  · rintro _ rfl
    exact Tot.ret rfl
theorem fouls_two {r : Int} {c : Bool} {l a : Int} {s : ByteArray} {p : Int} (p0 : 0 ≤ p) (p1 : p ≤ 147) (a0 : 0 ≤ a) (a1 : a ≤ 400) (A : Tot (fun k => spec_frAll.f k r c l 55) (Eq s)) (B : Tot (fun k => spec_frPoints.f k s) (Eq p)) :
    ∀ (d : Nat) (n : Int), 0 ≤ n → n + d = 101 → Two (fun k => spec_FoulsNeeded.l0 k a n r c l) (fun k => impl_FoulsNeeded.l0 k a p n) Eq := by
  intro d
  induction d with
  | zero =>
    intro n n0 hd
    refine Two.lstep (fun k => spec_FoulsNeeded.l0.eq_2 _ _ _ _ _ _) (Two.rstep (fun k => impl_FoulsNeeded.l0.eq_2 _ _ _ _) ?_)
    refine Two.lbind A ?_
    rintro _ rfl
    refine Two.lbind B ?_
    rintro _ rfl
    rw [show wrap64 (4 * n) = 4 * n from wrap_in (by omega) (by omega), show wrap64 (p + 4 * n) = p + 4 * n from wrap_in (by omega) (by omega)]
    exact Two.lneg (by omega) (Two.rneg (by omega) (Two.lpos (by omega) (Two.rpos (by omega) (Two.ret rfl))))
  | succ d ih =>
    intro n n0 hd
    refine Two.lstep (fun k => spec_FoulsNeeded.l0.eq_2 _ _ _ _ _ _) (Two.rstep (fun k => impl_FoulsNeeded.l0.eq_2 _ _ _ _) ?_)
    refine Two.lbind A ?_
    rintro _ rfl
    refine Two.lbind B ?_
    rintro _ rfl
    rw [show wrap64 (4 * n) = 4 * n from wrap_in (by omega) (by omega), show wrap64 (p + 4 * n) = p + 4 * n from wrap_in (by omega) (by omega), show wrap64 (n + 1) = n + 1 from wrap_in (by omega) (by omega)]
    by_cases g : p + 4 * n ≤ a
    · exact Two.lpos g (Two.rpos g (ih (n + 1) (by omega) (by omega)))
    · exact Two.lneg g (Two.rneg g (Two.lneg (by omega) (Two.rneg (by omega) (Two.ret rfl))))
theorem both (r : Int) (c : Bool) (l a : Int) : ∃ v, Tot (fun k => spec_FoulsNeeded.f k r c l a) (Eq v) ∧ Tot (fun k => impl_FoulsNeeded.f k r c l a) (Eq v) := by
  by_cases h : goodB r c l = true
  · obtain ⟨s, s', p, p0, p1, A, B, C⟩ := pts h
    by_cases g : 0 ≤ a ∧ a ≤ 400
    · obtain ⟨v, hv1, hv2⟩ := (fouls_two p0 p1 g.1 g.2 A B 101 0 (by omega) (by omega)).eqs
      refine ⟨v, ?_, ?_⟩
      · unfold spec_FoulsNeeded.f
        rw [frBehind_eq, h, Bool.true_and]
        exact Tot.some_bind (Tot.pos (by simpa using g) hv1)
      · unfold impl_FoulsNeeded.f
        refine Tot.bind (pointsLeft_t C) ?_
        rintro _ rfl
        refine Tot.pos rfl ?_
        simp only [within_eq]
        refine Tot.some_bind ?_
        refine Tot.step (fun k => impl_FoulsNeeded.j0.eq_2 _ _ _ _) ?_
        exact Tot.neg (by simpa using g) hv2
    · refine ⟨(0, false), ?_, ?_⟩
      · unfold spec_FoulsNeeded.f
        rw [frBehind_eq, h, Bool.true_and]
        exact Tot.some_bind (Tot.neg (by simpa using g) (Tot.ret rfl))
      · unfold impl_FoulsNeeded.f
        refine Tot.bind (pointsLeft_t C) ?_
        rintro _ rfl
        refine Tot.pos rfl ?_
        simp only [within_eq]
        refine Tot.some_bind ?_
        refine Tot.step (fun k => impl_FoulsNeeded.j0.eq_2 _ _ _ _) ?_
        exact Tot.pos (by simp only [g, decide_false]; rfl) (Tot.ret rfl)
  · refine ⟨(0, false), ?_, ?_⟩
    · unfold spec_FoulsNeeded.f
      rw [frBehind_eq, Bool.eq_false_iff.2 h, Bool.false_and]
      exact Tot.some_bind (Tot.neg (by simp) (Tot.ret rfl))
    · unfold impl_FoulsNeeded.f
      refine Tot.bind (pointsLeft_no h) ?_
      rintro _ rfl
      refine Tot.neg (by simp) ?_
      refine Tot.step (fun k => impl_FoulsNeeded.j0.eq_2 _ _ _ _) ?_
      exact Tot.pos rfl (Tot.ret rfl)
theorem FnExactFoulsNeeded : ∀ (r : Int) (c : Bool) (l a : Int), (Lit.int .i64 r).wf = true → (Lit.int .i64 l).wf = true → (Lit.int .i64 a).wf = true → ∃ k, laws_FnExactFoulsNeeded.f k r c l a = some true := by
  intro r c l a _ _ _
  refine Tot.rounds ?_
  obtain ⟨v, A, B⟩ := both r c l a
  unfold laws_FnExactFoulsNeeded.f laws_toFrame.f
  refine Tot.some_bind (Tot.bind A ?_)
  rintro _ rfl
  refine Tot.some_bind (Tot.bind B ?_)
  rintro _ rfl
  repeat (first | refine Tot.pos rfl ?_ | refine Tot.neg (by simp; done) ?_)
  exact Tot.ret rfl
end Go.Proofs.YtogcikjkfobjiaaDoor.Pure
namespace Go.Proofs.YtogcikjkfobjiaaDoor.PrintWords
theorem sized_ints : type_of% @Go.Proofs.YtogcikjkfobjiaaDoorW.PrintWords.sized_ints := @Go.Proofs.YtogcikjkfobjiaaDoorW.PrintWords.sized_ints
end Go.Proofs.YtogcikjkfobjiaaDoor.PrintWords
