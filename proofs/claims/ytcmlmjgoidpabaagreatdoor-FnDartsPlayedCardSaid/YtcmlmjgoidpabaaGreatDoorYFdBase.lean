/- Darts: the plain facts that the law shares; visits and legs: both tell alike. -/
import Derived.Test.YtcmlmjgoidpabaaGreatDoorYMFnDartsPlayedx22a
set_option linter.unusedVariables false
set_option linter.unusedSimpArgs false
namespace Go.Proofs.YtcmlmjgoidpabaaGreatDoor.Pure
open Go.RowKit Go.Proofs.YtcmlmjgoidpabaaGreatDoor.MFnDartsPlayed Go.Proofs.YtcmlmjgoidpabaaGreatDoorW.PrintWords Go.Proofs.YtcmlmjgoidpabaaGreatDoorW.PrintLast
def Tot {α : Type} (g : Nat → Option α) (P : α → Prop) : Prop := ∃ r, Ev g r ∧ P r
theorem Tot.ret {α : Type} {P : α → Prop} {r : α} (h : P r) : Tot (fun _ => some r) P := ⟨r, Ev.now r, h⟩
theorem Tot.pos {α : Type} {c : Prop} [Decidable c] {f g : Nat → Option α} {P : α → Prop} (h : c) (hf : Tot f P) : Tot (fun k => if c then f k else g k) P := by
  simp only [if_pos h]; exact hf
theorem Tot.neg {α : Type} {c : Prop} [Decidable c] {f g : Nat → Option α} {P : α → Prop} (h : ¬ c) (hg : Tot g P) : Tot (fun k => if c then f k else g k) P := by
  simp only [if_neg h]; exact hg
theorem Tot.ite {α : Type} {c : Prop} [Decidable c] {f g : Nat → Option α} {P : α → Prop} (hf : c → Tot f P) (hg : ¬ c → Tot g P) : Tot (fun k => if c then f k else g k) P := by
  by_cases h : c
  · exact Tot.pos h (hf h)
  · exact Tot.neg h (hg h)
theorem Tot.bind {α β : Type} {g : Nat → Option α} {f : Nat → α → Option β} {P : α → Prop} {Q : β → Prop} (h : Tot g P) (k : ∀ a, P a → Tot (fun n => f n a) Q) : Tot (fun n => (g n).bind (f n)) Q := by
  obtain ⟨a, ha, hp⟩ := h
  obtain ⟨r, hr, hq⟩ := k a hp
  exact ⟨r, Ev.bind ha hr, hq⟩
theorem Tot.some_bind {α β : Type} {f : Nat → α → Option β} {Q : β → Prop} {a : α} (k : Tot (fun n => f n a) Q) : Tot (fun n => (some a).bind (f n)) Q := k
theorem Tot.step {α : Type} {g f : Nat → Option α} {P : α → Prop} (h : ∀ k, g (k + 1) = f k) (k : Tot f P) : Tot g P := by
  obtain ⟨r, hr, hp⟩ := k
  exact ⟨r, Ev.step h hr, hp⟩
theorem Tot.mono {α : Type} {g : Nat → Option α} {P Q : α → Prop} (h : Tot g P) (k : ∀ r, P r → Q r) : Tot g Q := by
  obtain ⟨r, hr, hp⟩ := h
  exact ⟨r, hr, k r hp⟩
theorem Tot.rounds {α : Type} {g : Nat → Option α} {r : α} (h : Tot g (Eq r)) : ∃ k, g k = some r := by
  obtain ⟨_, hr, rfl⟩ := h
  exact hr.rounds
theorem Tot.of {α : Type} {g : Nat → Option α} {r : α} (h : Ev g r) : Tot g (Eq r) := ⟨r, h, rfl⟩
theorem wrap_in {x : Int} (h0 : -9223372036854775808 ≤ x) (h1 : x ≤ 9223372036854775807) : wrap64 x = x := by unfold wrap64; omega
theorem wrap_nat (n : Nat) (h : n < 4611686018427387904) : wrap64 ((n : Int) + 1) = ((n + 1 : Nat) : Int) := by rw [wrap_in] <;> omega
theorem rd_mid (pre suf : List Int) (x : Int) : rd (pre ++ x :: suf) (pre.length : Int) = x := by simp [rd]
theorem rd_get (l : List Int) (i : Nat) (h : i < l.length) : rd l (i : Int) = l[i] := by simp [rd, h]
section
variable {α β α' β' : Type} {g : Nat → Option α} {f : Nat → Option β} {R : α → β → Prop}
end
theorem tmod_in {a b : Int} (h : 0 ≤ a) : Int.tmod a b = a % b := Int.tmod_eq_emod_of_nonneg h
theorem Ev.uniq {α : Type} {g : Nat → Option α} {r s : α} (h : Ev g r) (k : Ev g s) : r = s := by
  obtain ⟨K, hK⟩ := h
  obtain ⟨J, hJ⟩ := k
  have h1 := hK (max K J) (Nat.le_max_left _ _)
  have h2 := hJ (max K J) (Nat.le_max_right _ _)
  rw [h1] at h2
  exact Option.some.inj h2
theorem Tot.at {α : Type} {g : Nat → Option α} {P : α → Prop} {r : α} (h : Tot g P) (k : Ev g r) : P r := by
  obtain ⟨s, hs, hp⟩ := h
  rw [Ev.uniq k hs]
  exact hp
theorem l1In_eq (a b c : Int) : spec_l1In.f a b c = some (decide (b ≤ a ∧ a ≤ c)) := by
  unfold spec_l1In.f
  by_cases h1 : b ≤ a <;> by_cases h2 : a ≤ c <;> simp [h1, h2]
theorem within_eq (a b c : Int) : impl_within.f a b c = some (decide (b ≤ a ∧ a ≤ c)) := by
  unfold impl_within.f
  by_cases h1 : b ≤ a <;> by_cases h2 : a ≤ c <;> simp [h1, h2]
def goodD (n t : Int) : Bool := decide ((n = 25 ∧ 1 ≤ t ∧ t ≤ 2) ∨ (1 ≤ n ∧ n ≤ 20 ∧ 1 ≤ t ∧ t ≤ 3))
theorem good_iff {n t : Int} : goodD n t = true ↔ (n = 25 ∧ 1 ≤ t ∧ t ≤ 2) ∨ (1 ≤ n ∧ n ≤ 20 ∧ 1 ≤ t ∧ t ≤ 3) := by unfold goodD; exact decide_eq_true_iff
theorem isDart_eq (n t : Int) : impl_IsDart.f n t = some (goodD n t) := by
  unfold impl_IsDart.f goodD
  simp only [within_eq, Option.bind_some]
  by_cases h1 : 1 ≤ n ∧ n ≤ 20
  · have h : n ≠ 25 := by omega
    by_cases h2 : 1 ≤ t ∧ t ≤ 3 <;> simp [h1, h2, h]
  · by_cases h : n = 25
    · subst h
      simp
    · simp [h1, h]
      intro a b
      exact absurd ⟨a, b⟩ h1
theorem daGood_eq (n t : Int) : spec_daGood.f n t = some (goodD n t) := by
  unfold spec_daGood.f goodD
  simp only [l1In_eq, Option.bind_some]
  by_cases h : n = 25
  · subst h
    simp
  · by_cases h1 : 1 ≤ n ∧ n ≤ 20
    · simp [h1, h]
    · simp [h1, h]
      intro a b
      exact absurd ⟨a, b⟩ h1
theorem good_range {n t : Int} (h : goodD n t = true) : 1 ≤ n ∧ n ≤ 25 ∧ 1 ≤ t ∧ t ≤ 3 ∧ 1 ≤ n * t ∧ n * t ≤ 60 := by
  rw [good_iff] at h
  have : t = 1 ∨ t = 2 ∨ t = 3 := by omega
  rcases this with rfl | rfl | rfl <;> omega
theorem good_wrap {n t : Int} (h : goodD n t = true) : wrap64 (n * t) = n * t := by
  obtain ⟨_, _, _, _, a, b⟩ := good_range h
  exact wrap_in (by omega) (by omega)
def gd (d : S52) : Bool := goodD d.f0 d.f1
def allD (l : List S52) : Bool := l.all gd
theorem rdT_mid (pre suf : List S52) (x : S52) : rd_T52 (pre ++ x :: suf) (pre.length : Int) = x := by simp [rd_T52]
theorem len_mid {α : Type} (pre suf : List α) (x : α) : ((pre ++ x :: suf).length : Int) = (pre.length : Int) + 1 + (suf.length : Int) := by simp; omega
theorem nat_succ (pre : List S52) (x : S52) : (((pre ++ [x]).length : Nat) : Int) = (pre.length : Int) + 1 := by simp
theorem walkT {P : List S52 → List S52 → Prop} (l : List S52) (h0 : ∀ pre, pre = l → P pre []) (h1 : ∀ pre x suf, l = pre ++ x :: suf → P (pre ++ [x]) suf → P pre (x :: suf)) : P [] l := by
  have : ∀ suf pre, l = pre ++ suf → P pre suf := by
    intro suf
    induction suf with
    | nil => intro pre h; exact h0 pre (by simpa using h.symm)
    | cons x suf ih => intro pre h; exact h1 pre x suf h (ih (pre ++ [x]) (by simpa using h))
  exact this l [] rfl
theorem find_t (l : List S52) (hl : l.length ≤ 1000000) : Tot (fun k => impl_Dart_158.l0 k l (l.length : Int) 0) (fun v => decide (v ≥ 0) = !allD l) := by
  have := walkT (P := fun pre suf => Tot (fun k => impl_Dart_158.l0 k l (l.length : Int) (pre.length : Int)) (fun v => decide (v ≥ 0) = !allD suf)) l ?_ ?_
  · exact this
  · rintro pre rfl
    exact Tot.step (fun k => impl_Dart_158.l0.eq_2 _ _ _ _) (Tot.neg (by omega) (Tot.ret rfl))
  · intro pre x suf h ih
    have hn := len_mid pre suf x
    rw [← h] at hn
    refine Tot.step (fun k => impl_Dart_158.l0.eq_2 _ _ _ _) (Tot.pos (by omega) (Tot.pos (by omega) (Tot.pos (by omega) ?_)))
    rw [show rd_T52 l (pre.length : Int) = x by rw [h]; exact rdT_mid pre suf x]
    unfold impl_areDarts_1.f
    rw [isDart_eq]
    refine Tot.some_bind (Tot.ite (fun c => Tot.ret ?_) (fun c => ?_))
    · have c : goodD x.f0 x.f1 = false := by simpa using c
      simp [allD, gd, c]
    · have c : goodD x.f0 x.f1 = true := by simpa using c
      rw [wrap_nat pre.length (by omega), ← Int.natCast_one, ← Int.natCast_add] at *
      rw [show ((pre.length + 1 : Nat) : Int) = (((pre ++ [x]).length : Nat) : Int) by simp]
      refine ih.mono (fun v hv => ?_)
      rw [hv]
      simp [allD, gd, c]
theorem areDarts_t (l : List S52) (hl : l.length ≤ 1000000) : Tot (fun k => impl_areDarts.f k l) (Eq (allD l)) := by
  unfold impl_areDarts.f impl_Dart_140.f impl_Dart_158.f
  refine Tot.bind (P := fun b => b = !allD l) ?_ (fun b hb => Tot.ret (by rw [hb, Bool.not_not]))
  exact Tot.bind (find_t l hl) (fun v hv => Tot.ret hv)
theorem allD_cons (d : S52) (r : List S52) : allD (d :: r) = (goodD d.f0 d.f1 && allD r) := rfl
theorem daList_t (l : List S52) (lo hi : Int) (hl : l.length ≤ 1000000) : Tot (fun k => spec_daList.f k l lo hi) (Eq (decide (lo ≤ (l.length : Int) ∧ (l.length : Int) ≤ hi) && allD l)) := by
  have := walkT (P := fun pre suf => Tot (fun k => spec_daList.l0 k l (l.length : Int) (pre.length : Int)) (Eq (allD suf))) l ?_ ?_
  · unfold spec_daList.f
    rw [l1In_eq]
    refine Tot.some_bind (Tot.ite (fun c => ?_) (fun c => Tot.ret ?_))
    · rw [c, Bool.true_and]
      exact this
    · rw [Bool.eq_false_iff.mpr c, Bool.false_and]
  · rintro pre rfl
    exact Tot.step (fun k => spec_daList.l0.eq_2 _ _ _ _) (Tot.neg (by omega) (Tot.ret rfl))
  · intro pre x suf h ih
    have hn := len_mid pre suf x
    rw [← h] at hn
    refine Tot.step (fun k => spec_daList.l0.eq_2 _ _ _ _) (Tot.pos (by omega) (Tot.pos (by omega) (Tot.pos (by omega) ?_)))
    rw [show rd_T52 l (pre.length : Int) = x by rw [h]; exact rdT_mid pre suf x, daGood_eq, allD_cons]
    refine Tot.some_bind (Tot.ite (fun c => ?_) (fun c => Tot.ret ?_))
    · rw [c, Bool.true_and, wrap_in (by omega) (by omega), ← nat_succ pre x]
      exact ih
    · rw [Bool.eq_false_iff.mpr c, Bool.false_and]
def sumD : List S52 → Int
  | [] => 0
  | d :: r => d.f0 * d.f1 + sumD r
theorem sum_range : ∀ (l : List S52), allD l = true → 0 ≤ sumD l ∧ sumD l ≤ 60 * (l.length : Int)
  | [], _ => by simp [sumD]
  | d :: r, h => by
    rw [allD_cons, Bool.and_eq_true] at h
    have h1 := sum_range r h.2
    obtain ⟨_, _, _, _, a, b⟩ := good_range h.1
    simp only [sumD, List.length_cons]
    omega
theorem bAll_t (l : List S52) (hl : l.length ≤ 1000000) : Tot (fun k => laws_bAll.f k l) (Eq (if allD l = true then (sumD l, true) else (0, false))) := by
  have := walkT (P := fun pre suf => ∀ acc : Int, 0 ≤ acc → acc ≤ 60 * (pre.length : Int) → Tot (fun k => laws_bAll.l0 k acc l (l.length : Int) (pre.length : Int)) (Eq (if allD suf = true then (acc + sumD suf, true) else (0, false)))) l ?_ ?_
  · have h := this 0 (by omega) (by simp)
    rw [Int.zero_add] at h
    exact h
  · rintro pre rfl acc _ _
    refine Tot.step (fun k => laws_bAll.l0.eq_2 _ _ _ _ _) (Tot.neg (by omega) (Tot.ret ?_))
    simp [allD, sumD]
  · intro pre x suf h ih acc h0 h1
    have hn := len_mid pre suf x
    rw [← h] at hn
    refine Tot.step (fun k => laws_bAll.l0.eq_2 _ _ _ _ _) (Tot.pos (by omega) (Tot.pos (by omega) (Tot.pos (by omega) ?_)))
    rw [show rd_T52 l (pre.length : Int) = x by rw [h]; exact rdT_mid pre suf x, isDart_eq, allD_cons]
    refine Tot.some_bind (Tot.ite (fun c => ?_) (fun c => Tot.ret ?_))
    · obtain ⟨_, _, _, _, a, b⟩ := good_range c
      rw [c, Bool.true_and, good_wrap c, wrap_in (x := acc + _) (by omega) (by omega), wrap_in (by omega) (by omega), ← nat_succ pre x]
      have h2 := ih (acc + x.f0 * x.f1) (by omega) (by rw [nat_succ]; omega)
      rw [Int.add_assoc] at h2
      exact h2
    · rw [Bool.eq_false_iff.mpr c, Bool.false_and]
      rfl
def scoreV (l : List S52) : Int × Bool := if l.length ≤ 9 ∧ allD l = true then (sumD l, true) else (0, false)
theorem iscore_t (l : List S52) (hl : l.length ≤ 1000000) : Tot (fun k => impl_ScoreOf.f k l) (Eq (scoreV l)) := by
  unfold impl_ScoreOf.f
  refine Tot.ite (fun c => ?_) (fun c => ?_)
  · refine Tot.step (fun k => impl_ScoreOf.j0.eq_2 _ _ _) (Tot.pos rfl (Tot.ret ?_))
    unfold scoreV
    rw [if_neg (by omega)]
  · refine Tot.bind (areDarts_t l hl) ?_
    rintro _ rfl
    refine Tot.step (fun k => impl_ScoreOf.j0.eq_2 _ _ _) (Tot.ite (fun e => Tot.ret ?_) (fun e => ?_))
    · unfold scoreV
      rw [if_neg (by simp at e; simp [e])]
    · have e : allD l = true := by simpa using e
      unfold scoreV
      rw [if_pos ⟨by omega, e⟩]
      have := walkT (P := fun pre suf => ∀ acc : Int, 0 ≤ acc → acc ≤ 60 * (pre.length : Int) → allD suf = true → Tot (fun k => impl_ScoreOf.l0 k acc l (l.length : Int) (pre.length : Int)) (Eq (acc + sumD suf, true))) l ?_ ?_
      · have h := this 0 (by omega) (by simp) e
        rw [Int.zero_add] at h
        exact h
      · rintro pre rfl acc _ _ _
        refine Tot.step (fun k => impl_ScoreOf.l0.eq_2 _ _ _ _ _) (Tot.neg (by omega) (Tot.ret ?_))
        simp [sumD]
      · intro pre x suf h ih acc h0 h1 hg
        have hn := len_mid pre suf x
        rw [← h] at hn
        rw [allD_cons, Bool.and_eq_true] at hg
        obtain ⟨_, _, _, _, a, b⟩ := good_range hg.1
        refine Tot.step (fun k => impl_ScoreOf.l0.eq_2 _ _ _ _ _) (Tot.pos (by omega) (Tot.pos (by omega) (Tot.pos (by omega) ?_)))
        unfold impl_Dart_score.f
        rw [show rd_T52 l (pre.length : Int) = x by rw [h]; exact rdT_mid pre suf x]
        refine Tot.some_bind ?_
        rw [good_wrap hg.1, wrap_in (x := acc + _) (by omega) (by omega), wrap_in (by omega) (by omega), ← nat_succ pre x]
        have h2 := ih (acc + x.f0 * x.f1) (by omega) (by rw [nat_succ]; omega) hg.2
        rw [Int.add_assoc] at h2
        exact h2
theorem sscore_t (l : List S52) (hl : l.length ≤ 1000000) : Tot (fun k => spec_ScoreOf.f k l) (Eq (scoreV l)) := by
  unfold spec_ScoreOf.f
  refine Tot.bind (daList_t l 0 9 hl) ?_
  rintro _ rfl
  refine Tot.ite (fun e => ?_) (fun e => Tot.ret ?_)
  · rw [Bool.and_eq_true, decide_eq_true_eq] at e
    refine Tot.bind (P := Eq (sumD l)) ?_ ?_
    · have := walkT (P := fun pre suf => ∀ acc : Int, 0 ≤ acc → acc ≤ 60 * (pre.length : Int) → allD suf = true → Tot (fun k => spec_daScore.l0 k acc l (l.length : Int) (pre.length : Int)) (Eq (acc + sumD suf))) l ?_ ?_
      · have h := this 0 (by omega) (by simp) e.2
        rw [Int.zero_add] at h
        exact h
      · rintro pre rfl acc _ _ _
        refine Tot.step (fun k => spec_daScore.l0.eq_2 _ _ _ _ _) (Tot.neg (by omega) (Tot.ret ?_))
        simp [sumD]
      · intro pre x suf h ih acc h0 h1 hg
        have hn := len_mid pre suf x
        rw [← h] at hn
        rw [allD_cons, Bool.and_eq_true] at hg
        obtain ⟨_, _, _, _, a, b⟩ := good_range hg.1
        refine Tot.step (fun k => spec_daScore.l0.eq_2 _ _ _ _ _) (Tot.pos (by omega) (Tot.pos (by omega) (Tot.pos (by omega) ?_)))
        rw [show rd_T52 l (pre.length : Int) = x by rw [h]; exact rdT_mid pre suf x]
        rw [good_wrap hg.1, wrap_in (x := acc + _) (by omega) (by omega), wrap_in (by omega) (by omega), ← nat_succ pre x]
        have h2 := ih (acc + x.f0 * x.f1) (by omega) (by rw [nat_succ]; omega) hg.2
        rw [Int.add_assoc] at h2
        exact h2
    · rintro _ rfl
      unfold scoreV
      rw [if_pos ⟨by omega, e.2⟩]
      exact Tot.ret rfl
  · unfold scoreV
    rw [if_neg]
    rintro ⟨a, b⟩
    exact e (by rw [Bool.and_eq_true, decide_eq_true_eq]; exact ⟨by omega, b⟩)
def visR (left now : Int) : List S52 → Int × Bool × Bool
  | [] => (now, false, true)
  | d :: r =>
    if wrap64 (now - wrap64 (d.f0 * d.f1)) < 0 ∨ wrap64 (now - wrap64 (d.f0 * d.f1)) = 1 ∨ (wrap64 (now - wrap64 (d.f0 * d.f1)) = 0 ∧ d.f1 ≠ 2) then (left, true, r.isEmpty)
    else if wrap64 (now - wrap64 (d.f0 * d.f1)) = 0 then (0, false, r.isEmpty) else visR left (wrap64 (now - wrap64 (d.f0 * d.f1))) r
theorem last_eq {pre suf l : List S52} {x : S52} (h : l = pre ++ x :: suf) (hl : l.length ≤ 1000000) : ((pre.length : Int) == wrap64 ((l.length : Int) - 1)) = suf.isEmpty := by
  have hn := len_mid pre suf x
  rw [← h] at hn
  rw [wrap_in (by omega) (by omega), hn]
  cases suf with
  | nil => simp
  | cons y r => simp; omega
theorem before_eq {pre suf l : List S52} {x : S52} (h : l = pre ++ x :: suf) (hl : l.length ≤ 1000000) : decide ((pre.length : Int) < wrap64 ((l.length : Int) - 1)) = !suf.isEmpty := by
  have hn := len_mid pre suf x
  rw [← h] at hn
  rw [wrap_in (by omega) (by omega), hn]
  cases suf with
  | nil => simp
  | cons y r => simp; omega
theorem daVisit_t (left : Int) (l : List S52) (hl : l.length ≤ 1000000) : Tot (fun k => spec_daVisit.f k left l) (Eq (visR left left l)) := by
  have := walkT (P := fun pre suf => ∀ now : Int, Tot (fun k => spec_daVisit.l0 k left l now l (l.length : Int) (pre.length : Int)) (Eq (visR left now suf))) l ?_ ?_
  · exact this left
  · rintro pre rfl now
    exact Tot.step (fun k => spec_daVisit.l0.eq_2 _ _ _ _ _ _ _) (Tot.neg (by omega) (Tot.ret rfl))
  · intro pre x suf h ih now
    have hn := len_mid pre suf x
    rw [← h] at hn
    refine Tot.step (fun k => spec_daVisit.l0.eq_2 _ _ _ _ _ _ _) (Tot.pos (by omega) (Tot.pos (by omega) (Tot.pos (by omega) ?_)))
    rw [show rd_T52 l (pre.length : Int) = x by rw [h]; exact rdT_mid pre suf x, last_eq h hl]
    unfold visR
    generalize wrap64 (now - wrap64 (x.f0 * x.f1)) = n
    have J : ∀ b : Bool, (b = true ↔ (n < 0 ∨ n = 1 ∨ (n = 0 ∧ x.f1 ≠ 2))) → Tot (fun k => spec_daVisit.j1 k left l n suf.isEmpty l (l.length : Int) (pre.length : Int) b) (Eq (if n < 0 ∨ n = 1 ∨ (n = 0 ∧ x.f1 ≠ 2) then (left, true, suf.isEmpty) else if n = 0 then (0, false, suf.isEmpty) else visR left n suf)) := by
      intro b hb
      refine Tot.step (fun k => spec_daVisit.j1.eq_2 _ _ _ _ _ _ _ _ _) (Tot.ite (fun c => Tot.ret ?_) (fun c => ?_))
      · rw [if_pos (hb.1 c)]
      · rw [if_neg (fun e => c (hb.2 e))]
        refine Tot.ite (fun c => Tot.ret ?_) (fun c => ?_)
        · rw [if_pos c]
        · rw [if_neg c, wrap_in (by omega) (by omega), ← nat_succ pre x]
          exact ih n
    refine Tot.ite (fun c => J true ⟨fun _ => .inl c, fun _ => rfl⟩) (fun c1 => Tot.ite (fun c => J true ⟨fun _ => .inr (.inl c), fun _ => rfl⟩) (fun c2 => Tot.ite (fun c => J _ ?_) (fun c => J false ⟨(fun e => by cases e), (fun e => by omega)⟩)))
    rw [bne_iff_ne]
    exact ⟨fun e => .inr (.inr ⟨c, e⟩), fun e => e.elim (fun e => absurd e c1) (fun e => e.elim (fun e => absurd e c2) (fun e => e.2))⟩
def okV (v : Int × Bool × Bool) : Int × Bool × Bool := if v.2.2 = true then v else (0, false, false)
theorem leaves_loop (left : Int) (l : List S52) (hl : l.length ≤ 1000000) : Tot (fun k => impl_visitLeaves.l0 k left l left l (l.length : Int) 0) (Eq (okV (visR left left l))) := by
  have := walkT (P := fun pre suf => ∀ now : Int, Tot (fun k => impl_visitLeaves.l0 k left l now l (l.length : Int) (pre.length : Int)) (Eq (okV (visR left now suf)))) l ?_ ?_
  · exact this left
  · rintro pre rfl now
    exact Tot.step (fun k => impl_visitLeaves.l0.eq_2 _ _ _ _ _ _ _) (Tot.neg (by omega) (Tot.ret rfl))
  · intro pre x suf h ih now
    have hn := len_mid pre suf x
    rw [← h] at hn
    refine Tot.step (fun k => impl_visitLeaves.l0.eq_2 _ _ _ _ _ _ _) (Tot.pos (by omega) (Tot.pos (by omega) (Tot.pos (by omega) ?_)))
    unfold impl_Dart_score.f
    rw [show rd_T52 l (pre.length : Int) = x by rw [h]; exact rdT_mid pre suf x]
    refine Tot.some_bind ?_
    unfold visR
    generalize wrap64 (now - wrap64 (x.f0 * x.f1)) = n
    have hi := before_eq h hl
    have next : Tot (fun k => impl_visitLeaves.l0 k left l n l (l.length : Int) (wrap64 ((pre.length : Int) + 1))) (Eq (okV (visR left n suf))) := by
      rw [wrap_in (by omega) (by omega), ← nat_succ pre x]
      exact ih n
    have B : Tot (fun k => impl_visitLeaves.j4 k left l n true l (l.length : Int) (pre.length : Int) (decide ((pre.length : Int) < wrap64 ((l.length : Int) - 1)))) (Eq (okV (left, true, suf.isEmpty))) := by
      rw [hi]
      refine Tot.step (fun k => impl_visitLeaves.j4.eq_2 _ _ _ _ _ _ _ _ _) (Tot.ite (fun c => Tot.ret ?_) (fun c => Tot.pos rfl (Tot.ret ?_)))
      · have c : suf.isEmpty = false := by simpa using c
        rw [c]; rfl
      · have c : suf.isEmpty = true := by simpa using c
        rw [c]; rfl
    have B3 : Tot (fun k => impl_visitLeaves.j3 k left l n (pre.length : Int) false true l (l.length : Int) (pre.length : Int)) (Eq (okV (left, true, suf.isEmpty))) :=
      Tot.step (fun k => impl_visitLeaves.j3.eq_2 _ _ _ _ _ _ _ _ _ _) (Tot.neg (by decide) (Tot.pos rfl B))
    by_cases h0 : n = 0
    · refine Tot.pos h0 (Tot.step (fun k => impl_visitLeaves.j2.eq_2 _ _ _ _ _ _ _ _ _) (Tot.neg (by omega) (Tot.neg (by omega) (Tot.pos h0 ?_))))
      by_cases h2 : x.f1 = 2
      · rw [if_neg (fun e => e.elim (fun e => by omega) (fun e => e.elim (fun e => by omega) (fun e => e.2 h2))), if_pos h0, h2]
        refine Tot.step (fun k => impl_visitLeaves.j3.eq_2 _ _ _ _ _ _ _ _ _ _) (Tot.pos rfl (Tot.step (fun k => impl_visitLeaves.j4.eq_2 _ _ _ _ _ _ _ _ _) ?_))
        rw [hi]
        refine Tot.ite (fun c => Tot.ret ?_) (fun c => Tot.neg (by decide) ?_)
        · have c : suf.isEmpty = false := by simpa using c
          rw [c]; rfl
        · have c : suf = [] := by simpa using c
          subst c
          rw [h0] at next ⊢
          exact next
      · rw [if_pos (.inr (.inr ⟨h0, h2⟩)), show (x.f1 == 2) = false from beq_eq_false_iff_ne.2 h2]
        exact B3
    · refine Tot.neg h0 (Tot.step (fun k => impl_visitLeaves.j2.eq_2 _ _ _ _ _ _ _ _ _) (Tot.ite (fun c => ?_) (fun c1 => Tot.ite (fun c => ?_) (fun c2 => Tot.neg h0 ?_))))
      · rw [if_pos (.inl c)]; exact B3
      · rw [if_pos (.inr (.inl c))]; exact B3
      · rw [if_neg (fun e => e.elim c1 (fun e => e.elim c2 (fun e => h0 e.1))), if_neg h0]
        exact Tot.step (fun k => impl_visitLeaves.j3.eq_2 _ _ _ _ _ _ _ _ _ _) (Tot.neg (by decide) (Tot.neg (by decide) (Tot.step (fun k => impl_visitLeaves.j4.eq_2 _ _ _ _ _ _ _ _ _) (Tot.neg (by decide) (Tot.neg (by decide) next)))))
def asked (left : Int) (l : List S52) : Bool := decide (1 ≤ left ∧ left ≤ 1001) && (decide (1 ≤ (l.length : Int) ∧ (l.length : Int) ≤ 3) && allD l)
theorem asked_t (left : Int) (l : List S52) (hl : l.length ≤ 1000000) : Tot (fun k => spec_daAsked.f k left l) (Eq (asked left l)) := by
  unfold spec_daAsked.f asked
  rw [l1In_eq]
  refine Tot.some_bind (Tot.ite (fun c => ?_) (fun c => Tot.ret ?_))
  · rw [c, Bool.true_and]
    exact Tot.bind (daList_t l 1 3 hl) (fun b hb => Tot.ret hb)
  · rw [Bool.eq_false_iff.mpr c, Bool.false_and]
def leavesV (left : Int) (l : List S52) : Int × Bool × Bool := if asked left l = true then okV (visR left left l) else (0, false, false)
theorem leaves_t (left : Int) (l : List S52) (hl : l.length ≤ 1000000) : Tot (fun k => impl_visitLeaves.f k left l) (Eq (leavesV left l)) := by
  have no : asked left l = false → Tot (fun k => impl_visitLeaves.j0 k left l true) (Eq (leavesV left l)) := fun e =>
    Tot.step (fun k => impl_visitLeaves.j0.eq_2 _ _ _ _) (Tot.pos rfl (Tot.ret (by unfold leavesV; rw [if_neg (by rw [e]; decide)])))
  unfold impl_visitLeaves.f
  rw [within_eq, within_eq]
  refine Tot.some_bind (Tot.ite (fun c => Tot.some_bind (Tot.ite (fun d => ?_) (fun d => no ?_))) (fun c => no ?_))
  · refine Tot.bind (areDarts_t l hl) ?_
    rintro _ rfl
    cases e : allD l with
    | false => exact no (by unfold asked; rw [e, Bool.and_false, Bool.and_false])
    | true =>
      refine Tot.step (fun k => impl_visitLeaves.j0.eq_2 _ _ _ _) (Tot.neg (by decide) ?_)
      unfold leavesV
      rw [if_pos (by unfold asked; rw [c, d, e]; rfl)]
      exact leaves_loop left l hl
  · unfold asked; rw [Bool.eq_false_iff.mpr d, Bool.false_and, Bool.and_false]
  · unfold asked; rw [Bool.eq_false_iff.mpr c, Bool.false_and]
theorem ileft_t (left : Int) (l : List S52) (hl : l.length ≤ 1000000) : Tot (fun k => impl_LeftAfter.f k left l) (Eq ((leavesV left l).1, (leavesV left l).2.2)) := by
  refine Tot.bind (leaves_t left l hl) ?_
  rintro _ rfl
  exact Tot.ret rfl
theorem ibust_t (left : Int) (l : List S52) (hl : l.length ≤ 1000000) : Tot (fun k => impl_IsBust.f k left l) (Eq ((leavesV left l).2.1, (leavesV left l).2.2)) := by
  refine Tot.bind (leaves_t left l hl) ?_
  rintro _ rfl
  exact Tot.ret rfl
theorem sleft_t (left : Int) (l : List S52) (hl : l.length ≤ 1000000) : Tot (fun k => spec_LeftAfter.f k left l) (Eq ((leavesV left l).1, (leavesV left l).2.2)) := by
  refine Tot.bind (asked_t left l hl) ?_
  rintro _ rfl
  unfold leavesV
  refine Tot.ite (fun c => ?_) (fun c => Tot.ret (by rw [if_neg c]))
  rw [if_pos c]
  refine Tot.bind (daVisit_t left l hl) ?_
  rintro _ rfl
  unfold okV
  refine Tot.ite (fun d => Tot.ret ?_) (fun d => Tot.ret ?_)
  · rw [if_pos d, d]
  · rw [if_neg d]
theorem sbust_t (left : Int) (l : List S52) (hl : l.length ≤ 1000000) : Tot (fun k => spec_IsBust.f k left l) (Eq ((leavesV left l).2.1, (leavesV left l).2.2)) := by
  refine Tot.bind (asked_t left l hl) ?_
  rintro _ rfl
  unfold leavesV
  refine Tot.ite (fun c => ?_) (fun c => Tot.ret (by rw [if_neg c]))
  rw [if_pos c]
  refine Tot.bind (daVisit_t left l hl) ?_
  rintro _ rfl
  unfold okV
  refine Tot.ite (fun d => Tot.ret ?_) (fun d => Tot.ret ?_)
  · rw [if_pos d, d]
  · rw [if_neg d]
theorem visR_facts (left : Int) : ∀ (l : List S52) (now : Int), allD l = true → 0 ≤ now → now ≤ 1001 → (visR left now l).2.2 = true →
    ((visR left now l).2.1 = true → (visR left now l).1 = left) ∧
    ((visR left now l).2.1 = false → (visR left now l).1 = now - sumD l ∧ 0 ≤ (visR left now l).1 ∧ (l ≠ [] → (visR left now l).1 ≠ 1 ∧ ((visR left now l).1 = 0 → (l.getLast?.getD z52).f1 = 2)))
  | [], now, _, h0, h1, _ => by
    refine ⟨fun e => (by cases e), fun _ => ⟨?_, ?_, fun e => absurd rfl e⟩⟩
    · simp [visR, sumD]
    · exact h0
  | d :: r, now, hg, h0, h1, hok => by
    rw [allD_cons, Bool.and_eq_true] at hg
    obtain ⟨_, _, _, _, a, b⟩ := good_range hg.1
    have w : wrap64 (now - wrap64 (d.f0 * d.f1)) = now - d.f0 * d.f1 := by rw [good_wrap hg.1, wrap_in (by omega) (by omega)]
    have e : visR left now (d :: r) = if now - d.f0 * d.f1 < 0 ∨ now - d.f0 * d.f1 = 1 ∨ (now - d.f0 * d.f1 = 0 ∧ d.f1 ≠ 2) then (left, true, r.isEmpty) else if now - d.f0 * d.f1 = 0 then (0, false, r.isEmpty) else visR left (now - d.f0 * d.f1) r := by
      rw [visR, w]
    rw [e] at hok ⊢
    by_cases c : now - d.f0 * d.f1 < 0 ∨ now - d.f0 * d.f1 = 1 ∨ (now - d.f0 * d.f1 = 0 ∧ d.f1 ≠ 2)
    · rw [if_pos c]
      exact ⟨fun _ => rfl, fun e => by cases e⟩
    · rw [if_neg c] at hok ⊢
      by_cases c0 : now - d.f0 * d.f1 = 0
      · rw [if_pos c0] at hok ⊢
        have hr : r = [] := by simpa using hok
        subst hr
        have h2 : d.f1 = 2 := by
          by_cases h2 : d.f1 = 2
          · exact h2
          · exact absurd (.inr (.inr ⟨c0, h2⟩)) c
        refine ⟨(fun e => by cases e), fun _ => ⟨?_, Int.le_refl _, fun _ => ⟨by decide, fun _ => h2⟩⟩⟩
        simp only [sumD]; omega
      · rw [if_neg c0] at hok ⊢
        have hlt : ¬ now - d.f0 * d.f1 < 0 := fun e => c (.inl e)
        have h1' : ¬ now - d.f0 * d.f1 = 1 := fun e => c (.inr (.inl e))
        obtain ⟨f1, f2⟩ := visR_facts left r (now - d.f0 * d.f1) hg.2 (by omega) (by omega) hok
        refine ⟨f1, fun e => ?_⟩
        obtain ⟨g1, g2, g3⟩ := f2 e
        refine ⟨by rw [g1]; simp only [sumD]; omega, g2, fun _ => ?_⟩
        cases r with
        | nil =>
          simp only [visR] at *
          exact ⟨h1', fun e => absurd e c0⟩
        | cons y r => exact g3 (by simp)
theorem leaves_facts (left : Int) (l : List S52) (h : (leavesV left l).2.2 = true) : allD l = true ∧ 1 ≤ l.length ∧ l.length ≤ 3 ∧ 1 ≤ left ∧ left ≤ 1001 ∧ 0 ≤ (leavesV left l).1 ∧ (leavesV left l).1 ≤ left ∧
    ((leavesV left l).2.1 = true → (leavesV left l).1 = left) ∧ ((leavesV left l).2.1 = false → (leavesV left l).1 = left - sumD l ∧ (leavesV left l).1 ≠ 1 ∧ ((leavesV left l).1 = 0 → (l.getLast?.getD z52).f1 = 2)) := by
  unfold leavesV at h ⊢
  by_cases c : asked left l = true
  · rw [if_pos c] at h ⊢
    unfold asked at c
    simp only [Bool.and_eq_true, decide_eq_true_eq] at c
    obtain ⟨⟨c1, c2⟩, ⟨c3, c4⟩, c5⟩ := c
    unfold okV at h ⊢
    by_cases d : (visR left left l).2.2 = true
    · rw [if_pos d] at h ⊢
      obtain ⟨f1, f2⟩ := visR_facts left l left c5 (by omega) c2 d
      have hs := sum_range l c5
      have hne : l ≠ [] := fun e => by subst e; simp at c3
      refine ⟨c5, by omega, by omega, c1, c2, ?_, ?_, f1, fun e => ⟨(f2 e).1, ((f2 e).2.2 hne).1, ((f2 e).2.2 hne).2⟩⟩
      · cases e : (visR left left l).2.1 with
        | true => rw [f1 e]; omega
        | false => exact (f2 e).2.1
      · cases e : (visR left left l).2.1 with
        | true => rw [f1 e]; omega
        | false => rw [(f2 e).1]; omega
    · rw [if_neg d] at h
      cases h
  · rw [if_neg c] at h
    cases h
theorem rd_last (l : List S52) (h : 1 ≤ l.length) : rd_T52 l (((l.length - 1 : Nat) : Int)) = l.getLast?.getD z52 := by
  unfold rd_T52
  rw [Int.toNat_natCast, List.getLast?_eq_getElem?, List.getD_eq_getElem?_getD]
def legR (left : Int) : List (List S52) → Option (List Int)
  | [] => some []
  | v :: r => if (leavesV left v).2.2 = true then (legR (leavesV left v).1 r).map ((leavesV left v).1 :: ·) else none
def legEnd (x : List Int) : Option (List Int) → List Int × Bool
  | some L => (x ++ L, true)
  | none => ([], false)
def legV (left : Int) (vs : List (List S52)) : List Int × Bool := if (0 ≤ left ∧ left ≤ 1001) ∧ vs.length ≤ 100 then legEnd [left] (legR left vs) else ([], false)
theorem rdL_mid (pre suf : List (List S52)) (x : List S52) : rd_L3 (pre ++ x :: suf) (pre.length : Int) = x := by simp [rd_L3]
theorem nat_succL {α : Type} (pre : List α) (x : α) : (((pre ++ [x]).length : Nat) : Int) = (pre.length : Int) + 1 := by simp
theorem walkL {α : Type} {P : List α → List α → Prop} (l : List α) (h0 : ∀ pre, pre = l → P pre []) (h1 : ∀ pre x suf, l = pre ++ x :: suf → P (pre ++ [x]) suf → P pre (x :: suf)) : P [] l := by
  have : ∀ suf pre, l = pre ++ suf → P pre suf := by
    intro suf
    induction suf with
    | nil => intro pre h; exact h0 pre (by simpa using h.symm)
    | cons x suf ih => intro pre h; exact h1 pre x suf h (ih (pre ++ [x]) (by simpa using h))
  exact this l [] rfl
theorem legEnd_cons (x : List Int) (y : Int) (o : Option (List Int)) : legEnd (x ++ [y]) o = legEnd x (o.map (y :: ·)) := by
  cases o <;> simp [legEnd]
theorem ileg_t (left : Int) (vs : List (List S52)) (hv : ∀ v ∈ vs, v.length ≤ 1000000) : Tot (fun k => impl_PlayLeg.f k left vs) (Eq (legV left vs)) := by
  have no : ¬ ((0 ≤ left ∧ left ≤ 1001) ∧ vs.length ≤ 100) → Tot (fun k => impl_PlayLeg.j0 k left vs true) (Eq (legV left vs)) := fun e =>
    Tot.step (fun k => impl_PlayLeg.j0.eq_2 _ _ _ _) (Tot.pos rfl (Tot.ret (by unfold legV; rw [if_neg e])))
  unfold impl_PlayLeg.f
  rw [within_eq]
  refine Tot.some_bind (Tot.ite (fun c => ?_) (fun c => no (fun e => c (decide_eq_true e.1))))
  have c := of_decide_eq_true c
  by_cases d : vs.length ≤ 100
  · rw [decide_eq_false (show ¬ (vs.length : Int) > 100 by omega)]
    refine Tot.step (fun k => impl_PlayLeg.j0.eq_2 _ _ _ _) (Tot.neg (by decide) ?_)
    unfold legV
    rw [if_pos ⟨c, d⟩]
    have := walkL (P := fun pre suf => ∀ (now : Int) (x : List Int), x.length ≤ pre.length + 1 → Tot (fun k => impl_PlayLeg.l0 k now x vs (vs.length : Int) (pre.length : Int)) (Eq (legEnd x (legR now suf)))) vs ?_ ?_
    · exact this left [left] (by simp)
    · rintro pre rfl now x _
      refine Tot.step (fun k => impl_PlayLeg.l0.eq_2 _ _ _ _ _ _) (Tot.neg (by omega) (Tot.ret ?_))
      simp [legR, legEnd]
    · intro pre x suf h ih now xs hx
      have hn := len_mid pre suf x
      rw [← h] at hn
      refine Tot.step (fun k => impl_PlayLeg.l0.eq_2 _ _ _ _ _ _) (Tot.pos (by omega) (Tot.pos (by omega) (Tot.pos (by omega) ?_)))
      rw [show rd_L3 vs (pre.length : Int) = x by rw [h]; exact rdL_mid pre suf x]
      refine Tot.bind (ileft_t now x (hv x (by rw [h]; simp))) ?_
      rintro _ rfl
      unfold legR
      refine Tot.ite (fun e => Tot.pos (by omega) ?_) (fun e => Tot.ret ?_)
      · have e : (leavesV now x).2.2 = true := e
        rw [if_pos e, ← legEnd_cons, wrap_in (by omega) (by omega), ← nat_succL pre x]
        exact ih _ _ (by simp; omega)
      · have e : ¬ (leavesV now x).2.2 = true := e
        rw [if_neg e]
        rfl
  · rw [decide_eq_true (show (vs.length : Int) > 100 by omega)]
    exact no (fun e => d e.2)
theorem sleg_t (left : Int) (vs : List (List S52)) (hv : ∀ v ∈ vs, v.length ≤ 1000000) : Tot (fun k => spec_PlayLeg.f k left vs) (Eq (legV left vs)) := by
  have no : ¬ ((0 ≤ left ∧ left ≤ 1001) ∧ vs.length ≤ 100) → Tot (fun k => spec_PlayLeg.j0 k left vs true) (Eq (legV left vs)) := fun e =>
    Tot.step (fun k => spec_PlayLeg.j0.eq_2 _ _ _ _) (Tot.pos rfl (Tot.ret (by unfold legV; rw [if_neg e])))
  unfold spec_PlayLeg.f spec_daLeft.f
  rw [l1In_eq]
  refine Tot.some_bind (Tot.ite (fun c => ?_) (fun c => no (fun e => c (decide_eq_true e.1))))
  have c := of_decide_eq_true c
  by_cases d : vs.length ≤ 100
  · rw [decide_eq_false (show ¬ (vs.length : Int) > 100 by omega)]
    refine Tot.step (fun k => spec_PlayLeg.j0.eq_2 _ _ _ _) (Tot.neg (by decide) ?_)
    unfold legV
    rw [if_pos ⟨c, d⟩]
    have := walkL (P := fun pre suf => ∀ (now : Int) (x : List Int), x.length ≤ pre.length + 1 → Tot (fun k => spec_PlayLeg.l0 k now x vs (vs.length : Int) (pre.length : Int)) (Eq (legEnd x (legR now suf)))) vs ?_ ?_
    · exact this left [left] (by simp)
    · rintro pre rfl now x _
      refine Tot.step (fun k => spec_PlayLeg.l0.eq_2 _ _ _ _ _ _) (Tot.neg (by omega) (Tot.ret ?_))
      simp [legR, legEnd]
    · intro pre x suf h ih now xs hx
      have hn := len_mid pre suf x
      rw [← h] at hn
      have hm := hv x (by rw [h]; simp)
      refine Tot.step (fun k => spec_PlayLeg.l0.eq_2 _ _ _ _ _ _) (Tot.pos (by omega) (Tot.pos (by omega) (Tot.pos (by omega) ?_)))
      rw [show rd_L3 vs (pre.length : Int) = x by rw [h]; exact rdL_mid pre suf x]
      refine Tot.bind (asked_t now x hm) ?_
      rintro _ rfl
      unfold legR leavesV
      refine Tot.ite (fun e => ?_) (fun e => Tot.ret ?_)
      · rw [if_pos e]
        refine Tot.bind (daVisit_t now x hm) ?_
        rintro _ rfl
        unfold okV
        refine Tot.ite (fun f => Tot.pos (by omega) ?_) (fun f => Tot.ret ?_)
        · rw [if_pos f, if_pos f, ← legEnd_cons, wrap_in (by omega) (by omega), ← nat_succL pre x]
          exact ih _ _ (by simp; omega)
        · rw [if_neg f]
          rfl
      · rw [if_neg e]
        rfl
  · rw [decide_eq_true (show (vs.length : Int) > 100 by omega)]
    exact no (fun e => d e.2)
end Go.Proofs.YtcmlmjgoidpabaaGreatDoor.Pure


