/- The program's GreatestNotReached answers as the reference's does, for every list of at most 1048576 numbers as kinds; for a longer list nothing is asked. -/
import Derived.Test.YtmecamlnbjpkjaaMFnExactGreatestNotReachedx5
import Derived.Test.YtmecamlnbjpkjaaWSized
set_option linter.unusedVariables false
set_option linter.unusedSimpArgs false
namespace Go.Proofs.Ytmecamlnbjpkjaa.Pure
open Go.RowKit Go.Proofs.Ytmecamlnbjpkjaa.PFnExactGreatestNotReached Go.Proofs.YtmecamlnbjpkjaaW.PrintWords Go.Proofs.YtmecamlnbjpkjaaW.PrintLast
/-! ### Rounds: some number of rounds on, a function tells r, and r has a property -/
def Tot {α : Type} (g : Nat → Option α) (P : α → Prop) : Prop := ∃ r, Ev g r ∧ P r
theorem Tot.ret {α : Type} {P : α → Prop} {r : α} (h : P r) : Tot (fun _ => some r) P := ⟨r, Ev.now r, h⟩
theorem Tot.pos {α : Type} {c : Prop} [Decidable c] {f g : Nat → Option α} {P : α → Prop} (h : c) (hf : Tot f P) : Tot (fun k => if c then f k else g k) P := by
  simp only [if_pos h]; exact hf
theorem Tot.neg {α : Type} {c : Prop} [Decidable c] {f g : Nat → Option α} {P : α → Prop} (h : ¬ c) (hg : Tot g P) : Tot (fun k => if c then f k else g k) P := by
  simp only [if_neg h]; exact hg
theorem Tot.ite {α : Type} {c : Prop} [Decidable c] {f g : Nat → Option α} {P : α → Prop} (hf : c → Tot f P) (hg : ¬ c → Tot g P) : Tot (fun k => if c then f k else g k) P := by
  by_cases h : c
  · exact Tot.pos h (hf h)
  · exact Tot.neg h (hg h)
theorem Tot.bind {α β : Type} {g : Nat → Option α} {f : Nat → α → Option β} {P : α → Prop} {Q : β → Prop} (h : Tot g P) (k : ∀ a, P a → Tot (fun n => f n a) Q) : Tot (fun n => (g n).bind (f n)) Q := by
  obtain ⟨a, ha, hp⟩ := h
  obtain ⟨r, hr, hq⟩ := k a hp
  exact ⟨r, Ev.bind ha hr, hq⟩
theorem Tot.some_bind {α β : Type} {f : Nat → α → Option β} {Q : β → Prop} {a : α} (k : Tot (fun n => f n a) Q) : Tot (fun n => (some a).bind (f n)) Q := k
theorem Tot.step {α : Type} {g f : Nat → Option α} {P : α → Prop} (h : ∀ k, g (k + 1) = f k) (k : Tot f P) : Tot g P := by
  obtain ⟨r, hr, hp⟩ := k
  exact ⟨r, Ev.step h hr, hp⟩
theorem Tot.congr {α : Type} {g f : Nat → Option α} {P : α → Prop} (h : ∀ k, g k = f k) (k : Tot f P) : Tot g P := by
  obtain ⟨r, hr, hp⟩ := k
  exact ⟨r, Ev.congr h hr, hp⟩
theorem Tot.mono {α : Type} {g : Nat → Option α} {P Q : α → Prop} (h : Tot g P) (k : ∀ r, P r → Q r) : Tot g Q := by
  obtain ⟨r, hr, hp⟩ := h
  exact ⟨r, hr, k r hp⟩
theorem Tot.rounds {α : Type} {g : Nat → Option α} {r : α} (h : Tot g (Eq r)) : ∃ k, g k = some r := by
  obtain ⟨_, hr, rfl⟩ := h
  exact hr.rounds
theorem Tot.ev {α : Type} {g : Nat → Option α} {r : α} (h : Tot g (Eq r)) : Ev g r := by
  obtain ⟨_, hr, rfl⟩ := h
  exact hr
theorem Tot.of {α : Type} {g : Nat → Option α} {r : α} (h : Ev g r) : Tot g (Eq r) := ⟨r, h, rfl⟩
theorem wrap_in {x : Int} (h0 : -9223372036854775808 ≤ x) (h1 : x ≤ 9223372036854775807) : wrap64 x = x := by unfold wrap64; omega
theorem wrap_nat (n : Nat) (h : n < 4611686018427387904) : wrap64 ((n : Int) + 1) = ((n + 1 : Nat) : Int) := by rw [wrap_in] <;> omega
theorem rd_mid (pre suf : List Int) (x : Int) : rd (pre ++ x :: suf) (pre.length : Int) = x := by simp [rd]
theorem rd_get (l : List Int) (i : Nat) (h : i < l.length) : rd l (i : Int) = l[i] := by simp [rd, h]
theorem set_mid {α : Type} (pre suf : List α) (x y : α) : (pre ++ x :: suf).set (pre.length : Int).toNat y = pre ++ y :: suf := by simp
/-! ### Two functions side by side -/
def Two {α β : Type} (g : Nat → Option α) (f : Nat → Option β) (R : α → β → Prop) : Prop := ∃ a b, Ev g a ∧ Ev f b ∧ R a b
section
variable {α β α' β' : Type} {g : Nat → Option α} {f : Nat → Option β} {R : α → β → Prop}
theorem Two.ret {a : α} {b : β} (h : R a b) : Two (fun _ => some a) (fun _ => some b) R := ⟨a, b, Ev.now a, Ev.now b, h⟩
theorem Two.lpos {c : Prop} [Decidable c] {g' : Nat → Option α} (h : c) (t : Two g f R) : Two (fun k => if c then g k else g' k) f R := by
  simp only [if_pos h]; exact t
theorem Two.lneg {c : Prop} [Decidable c] {g' : Nat → Option α} (h : ¬ c) (t : Two g f R) : Two (fun k => if c then g' k else g k) f R := by
  simp only [if_neg h]; exact t
theorem Two.rpos {c : Prop} [Decidable c] {f' : Nat → Option β} (h : c) (t : Two g f R) : Two g (fun k => if c then f k else f' k) R := by
  simp only [if_pos h]; exact t
theorem Two.rneg {c : Prop} [Decidable c] {f' : Nat → Option β} (h : ¬ c) (t : Two g f R) : Two g (fun k => if c then f' k else f k) R := by
  simp only [if_neg h]; exact t
theorem Two.lbind {g' : Nat → α → Option α'} {P : α → Prop} {S : α' → β → Prop} (h : Tot g P) (k : ∀ a, P a → Two (fun n => g' n a) f S) : Two (fun n => (g n).bind (g' n)) f S := by
  obtain ⟨a, ha, hp⟩ := h
  obtain ⟨r, q, hr, hq, hs⟩ := k a hp
  exact ⟨r, q, Ev.bind ha hr, hq, hs⟩
theorem Two.rbind {f' : Nat → β → Option β'} {P : β → Prop} {S : α → β' → Prop} (h : Tot f P) (k : ∀ b, P b → Two g (fun n => f' n b) S) : Two g (fun n => (f n).bind (f' n)) S := by
  obtain ⟨a, ha, hp⟩ := h
  obtain ⟨r, q, hr, hq, hs⟩ := k a hp
  exact ⟨r, q, hr, Ev.bind ha hq, hs⟩
theorem Two.lsome {g' : Nat → α → Option α'} {S : α' → β → Prop} {a : α} (k : Two (fun n => g' n a) f S) : Two (fun n => (some a).bind (g' n)) f S := k
theorem Two.rsome {f' : Nat → β → Option β'} {S : α → β' → Prop} {b : β} (k : Two g (fun n => f' n b) S) : Two g (fun n => (some b).bind (f' n)) S := k
theorem Two.bind {g' : Nat → α → Option α'} {f' : Nat → β → Option β'} {S : α' → β' → Prop} (h : Two g f R) (k : ∀ a b, R a b → Two (fun n => g' n a) (fun n => f' n b) S) : Two (fun n => (g n).bind (g' n)) (fun n => (f n).bind (f' n)) S := by
  obtain ⟨a, b, ha, hb, hp⟩ := h
  obtain ⟨r, q, hr, hq, hs⟩ := k a b hp
  exact ⟨r, q, Ev.bind ha hr, Ev.bind hb hq, hs⟩
theorem Two.lstep {g' : Nat → Option α} (h : ∀ k, g (k + 1) = g' k) (t : Two g' f R) : Two g f R := by
  obtain ⟨a, b, ha, hb, hp⟩ := t
  exact ⟨a, b, Ev.step h ha, hb, hp⟩
theorem Two.rstep {f' : Nat → Option β} (h : ∀ k, f (k + 1) = f' k) (t : Two g f' R) : Two g f R := by
  obtain ⟨a, b, ha, hb, hp⟩ := t
  exact ⟨a, b, ha, Ev.step h hb, hp⟩
theorem Two.mono {S : α → β → Prop} (t : Two g f R) (h : ∀ a b, R a b → S a b) : Two g f S := by
  obtain ⟨a, b, ha, hb, hp⟩ := t
  exact ⟨a, b, ha, hb, h a b hp⟩
theorem Two.eqs {f : Nat → Option α} (t : Two g f Eq) : ∃ v, Tot g (Eq v) ∧ Tot f (Eq v) := by
  obtain ⟨a, b, ha, hb, rfl⟩ := t
  exact ⟨a, ⟨a, ha, rfl⟩, ⟨a, hb, rfl⟩⟩
end
theorem Tot.both {α : Type} {g f : Nat → Option α} {P : α → Prop} (h : ∀ k, g k = f k) (t : Tot f P) : ∃ v, Tot g (Eq v) ∧ Tot f (Eq v) := by
  obtain ⟨v, hv, _⟩ := t
  exact ⟨v, ⟨v, Ev.congr h hv, rfl⟩, ⟨v, hv, rfl⟩⟩
theorem Tot.two {α β : Type} {g : Nat → Option α} {f : Nat → Option β} {P : α → Prop} {Q : β → Prop} {R : α → β → Prop} (t : Tot g P) (s : Tot f Q) (h : ∀ a b, P a → Q b → R a b) : Two g f R := by
  obtain ⟨a, ha, hp⟩ := t
  obtain ⟨b, hb, hq⟩ := s
  exact ⟨a, b, ha, hb, h a b hp hq⟩
theorem mn_eq (a b : Int) : mn a b = if a < b then a else b := by unfold mn; split <;> split <;> omega
theorem tdiv_in {a b : Int} (h : 0 ≤ a) : Int.tdiv a b = a / b := Int.tdiv_eq_ediv_of_nonneg h
theorem tmod_in {a b : Int} (h : 0 ≤ a) : Int.tmod a b = a % b := Int.tmod_eq_emod_of_nonneg h
theorem toIntS_loop (l : List Int) (hn : l.length ≤ 1048576) : ∀ (suf pre rest : List Int), l = pre ++ suf → rest.length = suf.length → Tot (fun k => laws_toIntS.l0 k l (pre ++ rest) (pre.length : Int)) (Eq l) := by
  intro suf
  induction suf with
  | nil =>
    intro pre rest h hr
    obtain rfl : rest = [] := List.eq_nil_of_length_eq_zero (by simpa using hr)
    refine Tot.step (fun k => laws_toIntS.l0.eq_2 _ _ _ _) ?_
    exact Tot.neg (by simp [h]) (Tot.ret (by simp [h]))
  | cons x suf ih =>
    intro pre rest h hr
    match rest, hr with
    | r :: rest, hr =>
    have hp : pre.length < l.length := by simp [h]
    have hr' : rest.length = suf.length := by simpa using hr
    have hl : l.length = pre.length + suf.length + 1 := by simp [h]; omega
    refine Tot.step (fun k => laws_toIntS.l0.eq_2 _ _ _ _) ?_
    refine Tot.pos (by omega) (Tot.pos (by omega) (Tot.pos (by simp; omega) ?_))
    rw [set_mid, wrap_nat _ (by omega), show rd l (pre.length : Int) = x by rw [h, rd_mid]]
    have := ih (pre ++ [x]) rest (by simp [h]) hr'
    simpa using this
theorem toIntS_t (l : List Int) (hn : l.length ≤ 1048576) : Tot (fun k => laws_toIntS.f k l) (Eq l) := by
  unfold laws_toIntS.f
  refine Tot.pos (by omega) (Tot.pos (by omega) ?_)
  exact toIntS_loop l hn l [] _ rfl (by simp)
theorem eqIntS_loop (l : List Int) (hn : l.length ≤ 4611686018427387903) : ∀ (suf pre : List Int), l = pre ++ suf → Tot (fun k => laws_eqIntS.l0 k l l (pre.length : Int)) (Eq true) := by
  intro suf
  induction suf with
  | nil =>
    intro pre h
    refine Tot.step (fun k => laws_eqIntS.l0.eq_2 _ _ _ _) ?_
    exact Tot.neg (by simp [h]) (Tot.ret rfl)
  | cons x suf ih =>
    intro pre h
    have hl : l.length = pre.length + suf.length + 1 := by simp [h]; omega
    refine Tot.step (fun k => laws_eqIntS.l0.eq_2 _ _ _ _) ?_
    refine Tot.pos (by omega) (Tot.pos (by omega) (Tot.pos (by omega) (Tot.pos rfl ?_)))
    rw [wrap_nat _ (by omega)]
    have := ih (pre ++ [x]) (by simp [h])
    simpa using this
theorem eqIntS_t (l : List Int) (hn : l.length ≤ 4611686018427387903) : Tot (fun k => laws_eqIntS.f k l l) (Eq true) := by
  unfold laws_eqIntS.f
  exact Tot.pos rfl (eqIntS_loop l hn l [] rfl)
/-- The rest of a list rises, from p on, within 1..20. -/
def asc : Int → List Int → Bool
  | _, [] => true
  | p, x :: xs => decide (1 ≤ x ∧ x ≤ 20 ∧ p < x) && asc x xs
def kindsB (l : List Int) : Bool := decide (1 ≤ l.length ∧ l.length ≤ 5) && asc 0 l
theorem within_eq (a b c : Int) : impl_within.f a b c = some (decide (b ≤ a ∧ a ≤ c)) := by
  unfold impl_within.f; split <;> simp [*]
theorem l1In_eq (a b c : Int) : spec_l1In.f a b c = some (decide (b ≤ a ∧ a ≤ c)) := by
  unfold spec_l1In.f
  split
  · simp [*]
  · have : ¬ (b ≤ a ∧ a ≤ c) := by omega
    simp [this]
theorem rd_last (pre suf : List Int) (h : pre ≠ []) : rd (pre ++ suf) ((pre.length : Int) - 1) = pre.getLastD 0 := by
  have hp : 0 < pre.length := List.length_pos_iff.2 h
  have : ((pre.length : Int) - 1).toNat = pre.length - 1 := by omega
  simp only [rd, this]
  rw [List.getD_eq_getElem?_getD, List.getElem?_append_left (by omega), List.getLastD_eq_getLast?, List.getLast?_eq_getElem?]
theorem getLastD_snoc (pre : List Int) (x : Int) : (pre ++ [x]).getLastD 0 = x := by simp
theorem implKinds_loop (l : List Int) (hn : l.length ≤ 1048576) : ∀ (suf pre : List Int), l = pre ++ suf → 0 ≤ pre.getLastD 0 → Tot (fun k => impl_AreKinds.l0 k l l (l.length : Int) (pre.length : Int)) (Eq (asc (pre.getLastD 0) suf)) := by
  intro suf
  induction suf with
  | nil =>
    intro pre h _
    refine Tot.step (fun k => impl_AreKinds.l0.eq_2 _ _ _ _ _) ?_
    exact Tot.neg (by simp [h]) (Tot.ret rfl)
  | cons x suf ih =>
    intro pre h hg
    have hl : l.length = pre.length + suf.length + 1 := by simp [h]; omega
    refine Tot.step (fun k => impl_AreKinds.l0.eq_2 _ _ _ _ _) ?_
    refine Tot.pos (by omega) (Tot.pos (by omega) (Tot.pos (by omega) ?_))
    rw [show rd l (pre.length : Int) = x by rw [h, rd_mid], within_eq]
    refine Tot.some_bind ?_
    refine Tot.ite (fun hx => ?_) (fun hx => Tot.ret ?_)
    · have hx' : 1 ≤ x ∧ x ≤ 20 := by simpa using hx
      have key : pre.getLastD 0 < x → Tot (fun k => impl_AreKinds.l0 k l l (l.length : Int) (wrap64 ((pre.length : Int) + 1))) (Eq (asc (pre.getLastD 0) (x :: suf))) := by
        intro hlt
        have := ih (pre ++ [x]) (by simp [h]) (by rw [getLastD_snoc]; omega)
        rw [getLastD_snoc, List.length_append, List.length_singleton] at this
        rw [wrap_nat _ (by omega)]
        refine this.mono fun r hr => ?_
        rw [← hr, asc, decide_eq_true (show 1 ≤ x ∧ x ≤ 20 ∧ pre.getLastD 0 < x from ⟨hx'.1, hx'.2, hlt⟩), Bool.true_and]
      refine Tot.ite (fun hp => ?_) (fun hp => key ?_)
      · have hne : pre ≠ [] := by intro e; simp [e] at hp
        have hw : wrap64 ((pre.length : Int) - 1) = (pre.length : Int) - 1 := wrap_in (by omega) (by omega)
        rw [hw]
        refine Tot.pos (by omega) (Tot.pos (by omega) ?_)
        rw [show rd l ((pre.length : Int) - 1) = pre.getLastD 0 by rw [h]; exact rd_last _ _ hne]
        refine Tot.ite (fun hle => Tot.ret ?_) (fun hle => key (by omega))
        rw [asc, decide_eq_false (show ¬ (1 ≤ x ∧ x ≤ 20 ∧ pre.getLastD 0 < x) from fun e => by omega), Bool.false_and]
      · have : pre = [] := List.eq_nil_of_length_eq_zero (by omega)
        subst this
        simp; omega
    · have hx' : ¬ (1 ≤ x ∧ x ≤ 20) := by simpa using hx
      have : ¬ (1 ≤ x ∧ x ≤ 20 ∧ pre.getLastD 0 < x) := fun e => hx' ⟨e.1, e.2.1⟩
      simp only [asc, this, decide_false, Bool.false_and]
theorem implKinds_t (l : List Int) (hn : l.length ≤ 1048576) : Tot (fun k => impl_AreKinds.f k l) (Eq (kindsB l)) := by
  unfold impl_AreKinds.f
  rw [within_eq]
  refine Tot.some_bind (Tot.ite (fun h => ?_) (fun h => Tot.ret ?_))
  · have h' : 1 ≤ l.length ∧ l.length ≤ 5 := by have := of_decide_eq_true h; omega
    refine (implKinds_loop l hn l [] rfl (by simp)).mono fun r hr => ?_
    simpa [kindsB, h'] using hr
  · have h' : ¬ (1 ≤ l.length ∧ l.length ≤ 5) := by intro e; apply h; simp; omega
    simp only [kindsB, h', decide_false, Bool.false_and]
theorem specRising_eq (k : Nat) (l : List Int) : ∀ (m i : Int), spec_l1Rising.l0 k l 1 20 l m i = impl_AreKinds.l0 k l l m i := by
  induction k with
  | zero => intro m i; rfl
  | succ k ih =>
    intro m i
    rw [spec_l1Rising.l0, impl_AreKinds.l0]
    simp only [ih, l1In_eq, within_eq, ge_iff_le]
theorem specKinds_eq (k : Nat) (l : List Int) : spec_goKinds.f k l = impl_AreKinds.f k l := by
  unfold spec_goKinds.f impl_AreKinds.f spec_l1Rising.f
  simp only [specRising_eq, l1In_eq, within_eq]
  congr 1
  funext t
  split
  · cases impl_AreKinds.l0 k l l (l.length : Int) 0 <;> rfl
  · rfl
theorem asc_all (l : List Int) : ∀ p, asc p l = true → ∀ x ∈ l, 1 ≤ x ∧ x ≤ 20 := by
  induction l with
  | nil => intro p _ x hx; cases hx
  | cons y l ih =>
    intro p h x hx
    simp only [asc, Bool.and_eq_true, decide_eq_true_eq] at h
    rcases List.mem_cons.1 hx with rfl | hx
    · exact ⟨h.1.1, h.1.2.1⟩
    · exact ih _ h.2 x hx
theorem kinds_facts {l : List Int} (h : kindsB l = true) : 1 ≤ l.length ∧ l.length ≤ 5 ∧ ∀ x ∈ l, 1 ≤ x ∧ x ≤ 20 := by
  simp only [kindsB, Bool.and_eq_true, decide_eq_true_eq] at h
  exact ⟨h.1.1, h.1.2, asc_all l 0 h.2⟩
theorem rd_set (xs : List Int) (s t v : Int) (h0 : 0 ≤ s) (h1 : s < xs.length) (ht : 0 ≤ t) : rd (xs.set s.toNat v) t = if t = s then v else rd xs t := by
  unfold rd
  rw [List.getD_eq_getElem?_getD, List.getD_eq_getElem?_getD, List.getElem?_set]
  by_cases e : t = s
  · subst e
    rw [if_pos rfl, if_pos (by omega), if_pos rfl]; rfl
  · rw [if_neg (by omega), if_neg e]
/-- What stands for a score s when the kinds of l' have been looked at. -/
def Cur (l' xs : List Int) (s : Int) : Prop :=
  -1 ≤ rd xs s ∧ rd xs s ≤ s ∧ (0 ≤ rd xs s → ∃ x ∈ l', x ≤ s ∧ 0 ≤ rd xs (s - x) ∧ rd xs s = rd xs (s - x) + 1) ∧ (rd xs s < 0 → ∀ x ∈ l', x ≤ s → rd xs (s - x) < 0)
def FewOK (l xs : List Int) (s : Int) : Prop := rd xs 0 = 0 ∧ ∀ t, 1 ≤ t → t < s → Cur l xs t
theorem few_set {l xs : List Int} {s v : Int} (hk : ∀ x ∈ l, 1 ≤ x ∧ x ≤ 20) (s1 : 1 ≤ s) (s2 : s < xs.length) (h : FewOK l xs s) : FewOK l (xs.set s.toNat v) s := by
  have e : ∀ t, 0 ≤ t → t < s → rd (xs.set s.toNat v) t = rd xs t := fun t h0 h1 => by rw [rd_set xs s t v (by omega) s2 h0, if_neg (by omega)]
  refine ⟨by rw [e 0 (by omega) (by omega)]; exact h.1, fun t t1 t2 => ?_⟩
  have hc := h.2 t t1 t2
  have et := e t (by omega) t2
  refine ⟨by rw [et]; exact hc.1, by rw [et]; exact hc.2.1, fun h0 => ?_, fun h0 x hx hxt => ?_⟩
  · rw [et] at h0 ⊢
    obtain ⟨x, hx, h1, h2, h3⟩ := hc.2.2.1 h0
    have := hk x hx
    exact ⟨x, hx, h1, by rw [e _ (by omega) (by omega)]; exact h2, by rw [e _ (by omega) (by omega)]; exact h3⟩
  · rw [et] at h0
    have := hk x hx
    rw [e _ (by omega) (by omega)]
    exact hc.2.2.2 h0 x hx hxt
theorem few_l1 (l : List Int) (a : Int) (h0 : 0 ≤ a) (h1 : a ≤ 1000) (hl : l.length ≤ 5) (hk : ∀ x ∈ l, 1 ≤ x ∧ x ≤ 20) (s : Int) (s1 : 1 ≤ s) (s2 : s ≤ a) (P : List Int → Prop)
    (K : ∀ xs : List Int, xs.length = a.toNat + 1 → FewOK l xs s → Cur l xs s → Tot (fun k => impl_fewGoals.l0 k l a xs (wrap64 (s + 1))) P) :
    ∀ (suf pre xs : List Int), l = pre ++ suf → xs.length = a.toNat + 1 → FewOK l xs s → Cur pre xs s → Tot (fun k => impl_fewGoals.l1 k l a xs s l (l.length : Int) (pre.length : Int)) P := by
  intro suf
  induction suf with
  | nil =>
    intro pre xs h hx hf hc
    refine Tot.step (fun k => impl_fewGoals.l1.eq_2 _ _ _ _ _ _ _ _) ?_
    rw [List.append_nil] at h
    exact Tot.neg (by simp [h]) (K xs hx hf (h ▸ hc))
  | cons x suf ih =>
    intro pre xs h hx hf hc
    have hp := hk x (by simp [h])
    have hlen : l.length = pre.length + suf.length + 1 := by simp [h]; omega
    have nxt : ∀ ys : List Int, ys.length = a.toNat + 1 → FewOK l ys s → Cur (pre ++ [x]) ys s → Tot (fun k => impl_fewGoals.l1 k l a ys s l (l.length : Int) (wrap64 ((pre.length : Int) + 1))) P := by
      intro ys hy hfy hcy
      rw [wrap_nat _ (by omega)]
      have := ih (pre ++ [x]) ys (by simp [h]) hy hfy hcy
      simpa using this
    have c1 := hc.1
    have c2 := hc.2.1
    have same : ¬ (x ≤ s ∧ 0 ≤ rd xs (s - x)) ∨ (0 ≤ rd xs s) → Cur (pre ++ [x]) xs s := by
      intro hor
      refine ⟨c1, c2, fun g0 => ?_, fun g0 y hy hys => ?_⟩
      · obtain ⟨z, hz, hz1⟩ := hc.2.2.1 g0
        exact ⟨z, by simp [hz], hz1⟩
      · rcases List.mem_append.1 hy with hy | hy
        · exact hc.2.2.2 g0 y hy hys
        · obtain rfl : y = x := by simpa using hy
          rcases hor with hor | hor
          · exact Int.not_le.1 fun e => hor ⟨hys, e⟩
          · omega
    have put : x ≤ s → 0 ≤ rd xs (s - x) → Tot (fun k => impl_fewGoals.l1 k l a (xs.set s.toNat (wrap64 (rd xs (s - x) + 1))) s l (l.length : Int) (wrap64 ((pre.length : Int) + 1))) P := by
      intro g1 g2
      have bnd : rd xs (s - x) ≤ s - x := by
        by_cases e : s - x = 0
        · rw [e, hf.1]; omega
        · exact (hf.2 (s - x) (by omega) (by omega)).2.1
      rw [show wrap64 (rd xs (s - x) + 1) = rd xs (s - x) + 1 from wrap_in (by omega) (by omega)]
      have es : rd (xs.set s.toNat (rd xs (s - x) + 1)) s = rd xs (s - x) + 1 := by rw [rd_set _ _ _ _ (by omega) (by omega) (by omega), if_pos rfl]
      have ex : ∀ y, 1 ≤ y → y ≤ s → rd (xs.set s.toNat (rd xs (s - x) + 1)) (s - y) = rd xs (s - y) := fun y y1 y2 => by rw [rd_set _ _ _ _ (by omega) (by omega) (by omega), if_neg (by omega)]
      refine nxt _ (by simpa using hx) (few_set hk s1 (by omega) hf) ⟨by omega, by omega, fun _ => ⟨x, by simp, g1, by rw [ex x hp.1 g1]; exact g2, by rw [es, ex x hp.1 g1]⟩, fun g => by omega⟩
    refine Tot.step (fun k => impl_fewGoals.l1.eq_2 _ _ _ _ _ _ _ _) ?_
    refine Tot.pos (by omega) (Tot.pos (by omega) (Tot.pos (by omega) ?_))
    rw [show rd l (pre.length : Int) = x by rw [h, rd_mid], show wrap64 (s - x) = s - x from wrap_in (by omega) (by omega)]
    refine Tot.ite (fun g1 => ?_) (fun g1 => nxt xs hx hf (same (.inl fun e => g1 e.1)))
    refine Tot.pos (by omega) (Tot.pos (by omega) (Tot.ite (fun g2 => ?_) (fun g2 => nxt xs hx hf (same (.inl fun e => g2 e.2)))))
    refine Tot.pos (by omega) (Tot.pos (by omega) (Tot.ite (fun g3 => put g1 g2) (fun g3 => ?_)))
    refine Tot.ite (fun g4 => put g1 g2) (fun g4 => nxt xs hx hf (same (.inr (by omega))))
theorem few_l0 (l : List Int) (a : Int) (h0 : 0 ≤ a) (h1 : a ≤ 1000) (hl : l.length ≤ 5) (hk : ∀ x ∈ l, 1 ≤ x ∧ x ≤ 20) :
    ∀ (d : Nat) (s : Int) (xs : List Int), 1 ≤ s → s + d = a + 1 → xs.length = a.toNat + 1 → FewOK l xs s → Tot (fun k => impl_fewGoals.l0 k l a xs s) (fun ys => ys.length = a.toNat + 1 ∧ FewOK l ys (a + 1)) := by
  intro d
  induction d with
  | zero =>
    intro s xs hs hd hx hf
    refine Tot.step (fun k => impl_fewGoals.l0.eq_2 _ _ _ _ _) ?_
    exact Tot.neg (by omega) (Tot.ret ⟨hx, by rwa [show a + 1 = s by omega]⟩)
  | succ d ih =>
    intro s xs hs hd hx hf
    refine Tot.step (fun k => impl_fewGoals.l0.eq_2 _ _ _ _ _) ?_
    refine Tot.pos (by omega) (Tot.pos (by omega) (Tot.pos (by omega) ?_))
    have es : rd (xs.set s.toNat (-1)) s = -1 := by rw [rd_set _ _ _ _ (by omega) (by omega) (by omega), if_pos rfl]
    refine few_l1 l a h0 h1 hl hk s hs (by omega) _ (fun ys hy hf hc => ?_) l [] _ rfl (by simpa using hx) (few_set hk hs (by omega) hf) ⟨by omega, by omega, fun g => by omega, fun _ x hx => by cases hx⟩
    rw [show wrap64 (s + 1) = s + 1 from wrap_in (by omega) (by omega)]
    refine ih _ _ (by omega) (by omega) hy ⟨hf.1, fun t t1 t2 => ?_⟩
    by_cases e : t = s
    · exact e ▸ hc
    · exact hf.2 t t1 (by omega)
theorem few_t (l : List Int) (a : Int) (h0 : 0 ≤ a) (h1 : a ≤ 1000) (hl : l.length ≤ 5) (hk : ∀ x ∈ l, 1 ≤ x ∧ x ≤ 20) : Tot (fun k => impl_fewGoals.f k l a) (fun ys => ys.length = a.toNat + 1 ∧ FewOK l ys (a + 1)) := by
  unfold impl_fewGoals.f
  rw [show wrap64 (a + 1) = a + 1 from wrap_in (by omega) (by omega)]
  refine Tot.pos (by omega) (Tot.pos (by omega) ?_)
  refine few_l0 l a h0 h1 hl hk a.toNat 1 _ (by omega) (by omega) (by simp; omega) ⟨?_, fun t t1 t2 => by omega⟩
  rw [show (a + 1).toNat = a.toNat + 1 by omega]
  rfl
theorem few_eqs (k : Nat) : (∀ l a xs s, spec_goFew.l0 k l a xs s = impl_fewGoals.l0 k l a xs s) ∧ (∀ l a xs s l' m i, spec_goFew.l1 k l a xs s l' m i = impl_fewGoals.l1 k l a xs s l' m i) := by
  induction k with
  | zero => exact ⟨fun _ _ _ _ => rfl, fun _ _ _ _ _ _ _ => rfl⟩
  | succ k ih =>
    refine ⟨fun l a xs s => ?_, fun l a xs s l' m i => ?_⟩
    · rw [spec_goFew.l0, impl_fewGoals.l0]; simp only [ih.1, ih.2]
    · rw [spec_goFew.l1, impl_fewGoals.l1]; simp only [ih.1, ih.2]
theorem few_eq (k : Nat) (l : List Int) (a : Int) : spec_goFew.f k l a = impl_fewGoals.f k l a := by
  unfold spec_goFew.f impl_fewGoals.f; simp only [(few_eqs k).1]
/-! ### Sums of kinds: all great enough ones are there where the kinds have no common divisor -/
def Rc (l : List Int) : Nat → Int → Prop
  | 0, t => t = 0
  | n + 1, t => Rc l n t ∨ ∃ x ∈ l, Rc l n (t - x)
def Rch (l : List Int) (t : Int) : Prop := ∃ n, Rc l n t
theorem rch_zero (l : List Int) : Rch l 0 := ⟨0, rfl⟩
theorem rch_add {l : List Int} {t x : Int} (hx : x ∈ l) (h : Rch l t) : Rch l (t + x) := by
  obtain ⟨n, h⟩ := h
  exact ⟨n + 1, .inr ⟨x, hx, by rwa [show t + x - x = t by omega]⟩⟩
theorem rch_mul {l : List Int} {t x : Int} (hx : x ∈ l) (h : Rch l t) : ∀ j : Nat, Rch l (t + j * x) := by
  intro j
  induction j with
  | zero => simpa using h
  | succ j ih =>
    have := rch_add hx ih
    rwa [show t + (j : Int) * x + x = t + ((j + 1 : Nat) : Int) * x by rw [Int.natCast_add, Int.add_mul]; simp; omega] at this
theorem rc_mono {l l' : List Int} (h : ∀ x ∈ l, x ∈ l') : ∀ n t, Rc l n t → Rc l' n t := by
  intro n
  induction n with
  | zero => intro t h; exact h
  | succ n ih =>
    intro t ht
    rcases ht with ht | ⟨x, hx, ht⟩
    · exact .inl (ih t ht)
    · exact .inr ⟨x, h x hx, ih _ ht⟩
theorem rch_mono {l l' : List Int} (h : ∀ x ∈ l, x ∈ l') {t : Int} (ht : Rch l t) : Rch l' t := by
  obtain ⟨n, ht⟩ := ht
  exact ⟨n, rc_mono h n t ht⟩
theorem bezout_small : ∀ d < 21, ∀ c < 21, ∀ r < d, Nat.gcd d c ∣ r → ∃ j < d / Nat.gcd d c, (j * c) % d = r := by decide +kernel
theorem frob_step {pre : List Int} {a d B c : Nat} (d0 : 1 ≤ d) (d1 : d ≤ 20) (c0 : 1 ≤ c) (c1 : c ≤ 20) (hB : d * B + 20 * d ≤ 20 * a) (h : ∀ m : Nat, d ∣ m → B ≤ m → Rch pre m) :
    ∃ B', Nat.gcd d c * B' + 20 * Nat.gcd d c ≤ 20 * a ∧ ∀ m : Nat, Nat.gcd d c ∣ m → B' ≤ m → Rch (pre ++ [(c : Int)]) m := by
  have g0 : 1 ≤ Nat.gcd d c := Nat.gcd_pos_of_pos_left c d0
  obtain ⟨e, he⟩ := Nat.gcd_dvd_left d c
  have e0 : 1 ≤ e := by
    rcases Nat.eq_zero_or_pos e with h0 | h0
    · rw [h0, Nat.mul_zero] at he; omega
    · exact h0
  have hq : d / Nat.gcd d c = e := by
    have h1 : Nat.gcd d c * e / Nat.gcd d c = e := Nat.mul_div_cancel_left e g0
    rwa [← he] at h1
  refine ⟨B + (e - 1) * c, ?_, ?_⟩
  · have h1 : Nat.gcd d c * (B + (e - 1) * c) = Nat.gcd d c * B + (Nat.gcd d c * e - Nat.gcd d c) * c := by
      rw [Nat.mul_add, ← Nat.mul_assoc, Nat.mul_sub, Nat.mul_one]
    rw [← he] at h1
    have h2 : Nat.gcd d c ≤ d := Nat.le_of_dvd d0 (Nat.gcd_dvd_left d c)
    have h3 : Nat.gcd d c * B ≤ d * B := Nat.mul_le_mul_right B h2
    have h4 : (d - Nat.gcd d c) * c ≤ (d - Nat.gcd d c) * 20 := Nat.mul_le_mul_left _ c1
    omega
  · intro m hm hBm
    have hr : Nat.gcd d c ∣ m % d := (Nat.dvd_mod_iff (Nat.gcd_dvd_left d c)).2 hm
    obtain ⟨j, hj, hjr⟩ := bezout_small d (by omega) c (by omega) (m % d) (Nat.mod_lt _ d0) hr
    rw [hq] at hj
    have h1 : j * c ≤ (e - 1) * c := Nat.mul_le_mul_right c (by omega)
    have h2 : d ∣ m - j * c := Nat.dvd_of_mod_eq_zero (Nat.sub_mod_eq_zero_of_mod_eq hjr.symm)
    have h3 := rch_mul (l := pre ++ [(c : Int)]) (x := (c : Int)) (by simp) (rch_mono (fun x hx => by simp [hx]) (h (m - j * c) h2 (by omega))) j
    rwa [show ((m - j * c : Nat) : Int) + (j : Int) * (c : Int) = (m : Int) by rw [← Int.natCast_mul]; omega] at h3
def gcds (d : Nat) : List Int → Nat
  | [] => d
  | x :: l => gcds (Nat.gcd d x.toNat) l
theorem frob_all : ∀ (suf pre : List Int) (a d B : Nat), (∀ x ∈ suf, 1 ≤ x ∧ x ≤ 20) → 1 ≤ d → d ≤ 20 → d * B + 20 * d ≤ 20 * a → (∀ m : Nat, d ∣ m → B ≤ m → Rch pre m) → gcds d suf = 1 → a ≤ 20 → ∀ m : Nat, 380 ≤ m → Rch (pre ++ suf) m := by
  intro suf
  induction suf with
  | nil =>
    intro pre a d B _ d0 d1 hB h hg ha m hm
    rw [gcds] at hg
    subst hg
    rw [List.append_nil]
    exact h m (Nat.one_dvd m) (by omega)
  | cons x suf ih =>
    intro pre a d B hk d0 d1 hB h hg ha m hm
    have hx := hk x (by simp)
    obtain ⟨c, rfl⟩ : ∃ c : Nat, x = (c : Int) := ⟨x.toNat, by omega⟩
    obtain ⟨B', hB', h'⟩ := frob_step (c := c) d0 d1 (by omega) (by omega) hB h
    rw [gcds, Int.toNat_natCast] at hg
    have g1 : Nat.gcd d c ≤ d := Nat.le_of_dvd d0 (Nat.gcd_dvd_left d c)
    have := ih (pre ++ [(c : Int)]) a (Nat.gcd d c) B' (fun y hy => hk y (by simp [hy])) (Nat.gcd_pos_of_pos_left c d0) (by omega) hB' h' hg ha m hm
    simpa using this
theorem frob (l : List Int) (hk : ∀ x ∈ l, 1 ≤ x ∧ x ≤ 20) (hg : gcds 0 l = 1) : ∀ m : Nat, 380 ≤ m → Rch l m := by
  cases l with
  | nil => simp [gcds] at hg
  | cons x l =>
    have hx := hk x (by simp)
    obtain ⟨c, rfl⟩ : ∃ c : Nat, x = (c : Int) := ⟨x.toNat, by omega⟩
    rw [gcds, Int.toNat_natCast, Nat.gcd_zero_left] at hg
    have := frob_all l [(c : Int)] c c 0 (fun y hy => hk y (by simp [hy])) (by omega) (by omega) (by omega) (fun m ⟨q, hq⟩ _ => by
      have := rch_mul (l := [(c : Int)]) (x := (c : Int)) (by simp) (rch_zero _) q
      rwa [show (0 : Int) + (q : Int) * (c : Int) = (m : Int) by rw [← Int.natCast_mul, hq, Nat.mul_comm]; omega] at this) hg (by omega)
    simpa using this
theorem impl_gcd (l m : List Int) (len i : Int) (P : Int × Bool → Prop) : ∀ (n d : Nat), (∀ g : Nat, g = Nat.gcd d n → Tot (fun k => impl_GreatestNotReached.l0 k l (g : Int) m len (wrap64 (i + 1))) P) → Tot (fun k => impl_GreatestNotReached.l1 k l (d : Int) (n : Int) m len i) P := by
  intro n
  induction n using Nat.strongRecOn with
  | ind n ih =>
    intro d K
    refine Tot.step (fun k => impl_GreatestNotReached.l1.eq_2 _ _ _ _ _ _ _) ?_
    by_cases h : n = 0
    · subst h
      exact Tot.pos rfl (K d (Nat.gcd_zero_right d).symm)
    · refine Tot.neg (by omega) ?_
      rw [tmod_in (by omega), ← Int.natCast_emod]
      refine ih (d % n) (Nat.mod_lt _ (by omega)) n (fun g hg => K g ?_)
      rw [hg, Nat.gcd_comm d n, Nat.gcd_rec n d, Nat.gcd_comm]
theorem spec_gcd (l m : List Int) (len i : Int) (P : Int × Bool → Prop) : ∀ (n d : Nat), (∀ g : Nat, g = Nat.gcd d n → Tot (fun k => spec_GreatestNotReached.l0 k l (g : Int) m len (wrap64 (i + 1))) P) → Tot (fun k => spec_GreatestNotReached.l1 k l (d : Int) (n : Int) m len i) P := by
  intro n
  induction n using Nat.strongRecOn with
  | ind n ih =>
    intro d K
    refine Tot.step (fun k => spec_GreatestNotReached.l1.eq_2 _ _ _ _ _ _ _) ?_
    by_cases h : n = 0
    · subst h
      exact Tot.neg (by omega) (K d (Nat.gcd_zero_right d).symm)
    · refine Tot.pos (by omega) (Tot.neg (by omega) ?_)
      rw [tmod_in (by omega), ← Int.natCast_emod]
      refine ih (d % n) (Nat.mod_lt _ (by omega)) n (fun g hg => K g ?_)
      rw [hg, Nat.gcd_comm d n, Nat.gcd_rec n d, Nat.gcd_comm]
theorem impl_gcds (l : List Int) (hn : l.length ≤ 5) (hk : ∀ x ∈ l, 1 ≤ x ∧ x ≤ 20) (P : Int × Bool → Prop)
    (K : Tot (fun k => if ((gcds 0 l : Nat) : Int) > 1 then some ((0 : Int), false) else ((impl_fewGoals.f k l 1000).bind fun t152 => (impl_GreatestNotReached.l2 k t152 1000))) P) :
    ∀ (suf pre : List Int) (d : Nat), l = pre ++ suf → gcds d suf = gcds 0 l → Tot (fun k => impl_GreatestNotReached.l0 k l (d : Int) l (l.length : Int) (pre.length : Int)) P := by
  intro suf
  induction suf with
  | nil =>
    intro pre d h hg
    rw [gcds] at hg
    refine Tot.step (fun k => impl_GreatestNotReached.l0.eq_2 _ _ _ _ _ _) ?_
    refine Tot.neg (by simp [h]) ?_
    rw [hg]
    exact K
  | cons x suf ih =>
    intro pre d h hg
    have hx := hk x (by simp [h])
    have hlen : l.length = pre.length + suf.length + 1 := by simp [h]; omega
    obtain ⟨c, rfl⟩ : ∃ c : Nat, x = (c : Int) := ⟨x.toNat, by omega⟩
    refine Tot.step (fun k => impl_GreatestNotReached.l0.eq_2 _ _ _ _ _ _) ?_
    refine Tot.pos (by omega) (Tot.pos (by omega) (Tot.pos (by omega) ?_))
    rw [show rd l (pre.length : Int) = (c : Int) by rw [h, rd_mid]]
    refine impl_gcd l l _ _ P d c (fun g hgg => ?_)
    rw [wrap_nat _ (by omega)]
    rw [gcds, Int.toNat_natCast] at hg
    have := ih (pre ++ [(c : Int)]) g (by simp [h]) (by rw [hgg, Nat.gcd_comm]; exact hg)
    simpa using this
theorem spec_gcds (l : List Int) (hn : l.length ≤ 5) (hk : ∀ x ∈ l, 1 ≤ x ∧ x ≤ 20) (P : Int × Bool → Prop)
    (K : Tot (fun k => if ((gcds 0 l : Nat) : Int) > 1 then (spec_GreatestNotReached.j2 k l true) else (if 0 < (l.length : Int) then (spec_GreatestNotReached.j2 k l ((rd l 0) == 1)) else none)) P) :
    ∀ (suf pre : List Int) (d : Nat), l = pre ++ suf → gcds d suf = gcds 0 l → Tot (fun k => spec_GreatestNotReached.l0 k l (d : Int) l (l.length : Int) (pre.length : Int)) P := by
  intro suf
  induction suf with
  | nil =>
    intro pre d h hg
    rw [gcds] at hg
    refine Tot.step (fun k => spec_GreatestNotReached.l0.eq_2 _ _ _ _ _ _) ?_
    refine Tot.neg (by simp [h]) ?_
    rw [hg]
    exact K
  | cons x suf ih =>
    intro pre d h hg
    have hx := hk x (by simp [h])
    have hlen : l.length = pre.length + suf.length + 1 := by simp [h]; omega
    obtain ⟨c, rfl⟩ : ∃ c : Nat, x = (c : Int) := ⟨x.toNat, by omega⟩
    refine Tot.step (fun k => spec_GreatestNotReached.l0.eq_2 _ _ _ _ _ _) ?_
    refine Tot.pos (by omega) (Tot.pos (by omega) (Tot.pos (by omega) ?_))
    rw [show rd l (pre.length : Int) = (c : Int) by rw [h, rd_mid]]
    refine spec_gcd l l _ _ P c d (fun g hgg => ?_)
    rw [wrap_nat _ (by omega)]
    rw [gcds, Int.toNat_natCast] at hg
    have := ih (pre ++ [(c : Int)]) g (by simp [h]) (by rw [hgg]; exact hg)
    simpa using this
theorem reach_pos {l xs : List Int} {n : Int} (hk : ∀ x ∈ l, 1 ≤ x ∧ x ≤ 20) (h : FewOK l xs (n + 1)) : ∀ (i : Nat) (t : Int), Rc l i t → 0 ≤ t → t ≤ n → 0 ≤ rd xs t := by
  intro i
  induction i with
  | zero => intro t ht _ _; rw [show t = 0 from ht, h.1]; omega
  | succ i ih =>
    intro t ht t0 t1
    rcases ht with ht | ⟨x, hx, ht⟩
    · exact ih t ht t0 t1
    · by_cases e : t = 0
      · rw [e, h.1]; omega
      · have h1 := hk x hx
        have low : ∀ (i : Nat) (t : Int), Rc l i t → 0 ≤ t := by
          intro i
          induction i with
          | zero => intro t ht; rw [show t = 0 from ht]; omega
          | succ i ih =>
            intro t ht
            rcases ht with ht | ⟨y, hy, ht⟩
            · exact ih t ht
            · have := ih _ ht; have := hk y hy; omega
        have h2 := low i _ ht
        have h3 := ih (t - x) ht h2 (by omega)
        apply Int.not_lt.1
        intro hneg
        have := (h.2 t (by omega) (by omega)).2.2.2 hneg x hx (by omega)
        omega
theorem same_sign {l xs ys : List Int} {n m : Int} (hk : ∀ x ∈ l, 1 ≤ x ∧ x ≤ 20) (h : FewOK l xs (n + 1)) (h' : FewOK l ys (m + 1)) : ∀ (j : Nat), (j : Int) ≤ n → (j : Int) ≤ m → (0 ≤ rd xs j ↔ 0 ≤ rd ys j) := by
  intro j
  induction j using Nat.strongRecOn with
  | ind j ih =>
    intro hn hm
    by_cases e : j = 0
    · subst e
      rw [show ((0 : Nat) : Int) = 0 from rfl, h.1, h'.1]
    · have key : ∀ {us vs : List Int} {p q : Int}, FewOK l us (p + 1) → FewOK l vs (q + 1) → (j : Int) ≤ p → (j : Int) ≤ q → (∀ i : Nat, i < j → (0 ≤ rd us i → 0 ≤ rd vs i)) → 0 ≤ rd us j → 0 ≤ rd vs j := by
        intro us vs p q hu hv hp hq hi h0
        obtain ⟨x, hx, x1, x2, _⟩ := (hu.2 j (by omega) (by omega)).2.2.1 h0
        have hx2 := hk x hx
        apply Int.not_lt.1
        intro hneg
        have h1 := (hv.2 j (by omega) (by omega)).2.2.2 hneg x hx x1
        have h2 := hi ((j : Int) - x).toNat (by omega)
        rw [show ((((j : Int) - x).toNat : Nat) : Int) = (j : Int) - x by omega] at h2
        have := h2 x2
        omega
      exact ⟨key h h' hn hm (fun i hi => (ih i hi (by omega) (by omega)).1), key h' h hm hn (fun i hi => (ih i hi (by omega) (by omega)).2)⟩
theorem asc_low : ∀ (l : List Int) (p : Int), asc p l = true → ∀ x ∈ l, p < x := by
  intro l
  induction l with
  | nil => intro p _ x hx; cases hx
  | cons y l ih =>
    intro p h x hx
    simp only [asc, Bool.and_eq_true, decide_eq_true_eq] at h
    rcases List.mem_cons.1 hx with rfl | hx
    · exact h.1.2.2
    · have := ih y h.2 x hx; omega
theorem impl_down (xs : List Int) (hx : xs.length = 1001) (P : Int × Bool → Prop) (lo : Int) (h0 : 0 ≤ lo) (K : Tot (fun k => impl_GreatestNotReached.l2 k xs lo) P) : ∀ (d : Nat), lo + d ≤ 1000 → (∀ t : Int, lo < t → t ≤ lo + d → 0 ≤ rd xs t) → Tot (fun k => impl_GreatestNotReached.l2 k xs (lo + d)) P := by
  intro d
  induction d with
  | zero => intro _ _; simpa using K
  | succ d ih =>
    intro hd hp
    refine Tot.step (fun k => impl_GreatestNotReached.l2.eq_2 _ _ _) ?_
    have := hp (lo + ((d + 1 : Nat) : Int)) (by omega) (by omega)
    refine Tot.pos (by omega) (Tot.pos (by omega) (Tot.pos (by omega) (Tot.neg (by omega) ?_)))
    rw [show wrap64 (lo + ((d + 1 : Nat) : Int) - 1) = lo + (d : Int) by (rw [wrap_in] <;> omega)]
    exact ih (by omega) (fun t t1 t2 => hp t t1 (by omega))
theorem both_down (xs ys : List Int) (hx : xs.length = 1001) (hy : ys.length = 801) (h1 : rd ys 1 < 0) : ∀ (j : Nat), 1 ≤ j → j ≤ 800 → (∀ i : Nat, i ≤ 800 → (0 ≤ rd ys i ↔ 0 ≤ rd xs i)) → Two (fun k => spec_GreatestNotReached.l2 k ys (j : Int)) (fun k => impl_GreatestNotReached.l2 k xs (j : Int)) Eq := by
  intro j
  induction j with
  | zero => intro h; omega
  | succ j ih =>
    intro _ hj hs
    have hh := hs (j + 1) hj
    refine Two.lstep (fun k => spec_GreatestNotReached.l2.eq_2 _ _ _) (Two.rstep (fun k => impl_GreatestNotReached.l2.eq_2 _ _ _) ?_)
    refine Two.lpos (by omega) (Two.lpos (by omega) (Two.rpos (by omega) (Two.rpos (by omega) (Two.rpos (by omega) ?_))))
    by_cases c : 0 ≤ rd ys ((j + 1 : Nat) : Int)
    · refine Two.lpos c (Two.rneg (by have := hh.1 c; omega) ?_)
      rw [show wrap64 (((j + 1 : Nat) : Int) - 1) = (j : Int) by (rw [wrap_in] <;> omega)]
      have : j ≠ 0 := by
        intro e
        subst e
        simp at c
        omega
      exact ih (by omega) (by omega) hs
    · exact Two.lneg (by omega) (Two.rpos (by have := hh.2; omega) (Two.ret rfl))
theorem both (l : List Int) (hn : l.length ≤ 1048576) : ∃ v, Tot (fun k => spec_GreatestNotReached.f k l) (Eq v) ∧ Tot (fun k => impl_GreatestNotReached.f k l) (Eq v) := by
  by_cases h : kindsB l = true
  case neg =>
    refine ⟨(0, false), ?_, ?_⟩
    · unfold spec_GreatestNotReached.f
      simp only [specKinds_eq]
      refine Tot.bind (implKinds_t l hn) ?_
      rintro _ rfl
      exact Tot.neg h (Tot.ret rfl)
    · unfold impl_GreatestNotReached.f
      refine Tot.bind (implKinds_t l hn) ?_
      rintro _ rfl
      exact Tot.neg h (Tot.ret rfl)
  obtain ⟨k1, k2, k3⟩ := kinds_facts h
  have hasc : asc 0 l = true := by simp only [kindsB, Bool.and_eq_true] at h; exact h.2
  suffices hs : ∃ v, Tot (fun k => if ((gcds 0 l : Nat) : Int) > 1 then (spec_GreatestNotReached.j2 k l true) else (if 0 < (l.length : Int) then (spec_GreatestNotReached.j2 k l ((rd l 0) == 1)) else none)) (Eq v) ∧
      Tot (fun k => if ((gcds 0 l : Nat) : Int) > 1 then some ((0 : Int), false) else ((impl_fewGoals.f k l 1000).bind fun t152 => (impl_GreatestNotReached.l2 k t152 1000))) (Eq v) by
    obtain ⟨v, hs1, hs2⟩ := hs
    refine ⟨v, ?_, ?_⟩
    · unfold spec_GreatestNotReached.f
      simp only [specKinds_eq]
      refine Tot.bind (implKinds_t l hn) ?_
      rintro _ rfl
      exact Tot.pos h (spec_gcds l k2 k3 _ hs1 l [] 0 rfl rfl)
    · unfold impl_GreatestNotReached.f
      refine Tot.bind (implKinds_t l hn) ?_
      rintro _ rfl
      exact Tot.pos h (impl_gcds l k2 k3 _ hs2 l [] 0 rfl rfl)
  by_cases hg : ((gcds 0 l : Nat) : Int) > 1
  · refine ⟨(0, false), Tot.pos hg ?_, Tot.pos hg (Tot.ret rfl)⟩
    refine Tot.step (fun k => spec_GreatestNotReached.j2.eq_2 _ _ _) ?_
    exact Tot.pos rfl (Tot.ret rfl)
  · obtain ⟨xs, hxs, hx, hfx⟩ := few_t l 1000 (by omega) (by omega) k2 k3
    obtain ⟨ys, hys, hy, hfy⟩ := few_t l 800 (by omega) (by omega) k2 k3
    by_cases h1 : rd l 0 = 1
    · refine ⟨(0, false), Tot.neg hg (Tot.pos (by omega) ?_), Tot.neg hg ?_⟩
      · refine Tot.step (fun k => spec_GreatestNotReached.j2.eq_2 _ _ _) ?_
        exact Tot.pos (by simpa using h1) (Tot.ret rfl)
      · refine Tot.bind (Tot.of hxs) ?_
        rintro _ rfl
        have hm : (1 : Int) ∈ l := by
          rw [show rd l 0 = l[0] from rd_get l 0 (by omega)] at h1
          exact h1 ▸ List.getElem_mem _
        have hr : ∀ t : Int, 0 ≤ t → t ≤ 1000 → 0 ≤ rd xs t := by
          intro t t0 t1
          have := rch_mul hm (rch_zero l) t.toNat
          rw [show (0 : Int) + (t.toNat : Int) * 1 = t by omega] at this
          obtain ⟨i, hi⟩ := this
          exact reach_pos k3 hfx i t hi t0 t1
        have := impl_down xs hx (Eq (0, false)) 0 (by omega) (by
          refine Tot.step (fun k => impl_GreatestNotReached.l2.eq_2 _ _ _) ?_
          exact Tot.neg (by omega) (Tot.ret rfl)) 1000 (by omega) (fun t t0 t1 => hr t (by omega) (by omega))
        exact this
    · have hg1 : gcds 0 l = 1 := by
        cases l with
        | nil => simp at k1
        | cons x l =>
          have hx := k3 x (by simp)
          have hpos : ∀ (l : List Int) (d : Nat), 1 ≤ d → 1 ≤ gcds d l := by
            intro l
            induction l with
            | nil => intro d hd; exact hd
            | cons y l ih => intro d hd; exact ih _ (Nat.gcd_pos_of_pos_left _ hd)
          have := hpos l (Nat.gcd 0 x.toNat) (by rw [Nat.gcd_zero_left]; omega)
          rw [gcds] at hg ⊢
          omega
      have low : ∀ x ∈ l, 2 ≤ x := by
        cases l with
        | nil => simp at k1
        | cons y l =>
          have hy1 : rd (y :: l) 0 = y := rfl
          have hy2 := k3 y (by simp)
          intro x hx
          simp only [asc, Bool.and_eq_true] at hasc
          rcases List.mem_cons.1 hx with rfl | hx
          · omega
          · have := asc_low l y hasc.2 x hx; omega
      have hneg : rd ys 1 < 0 := by
        apply Int.not_le.1
        intro h0
        obtain ⟨x, hx, x1, _⟩ := (hfy.2 1 (by omega) (by omega)).2.2.1 h0
        have := low x hx
        omega
      have hfr := frob l k3 hg1
      have hall : ∀ t : Int, 380 ≤ t → t ≤ 1000 → 0 ≤ rd xs t := by
        intro t t0 t1
        obtain ⟨i, hi⟩ := hfr t.toNat (by omega)
        rw [show ((t.toNat : Nat) : Int) = t by omega] at hi
        exact reach_pos k3 hfx i t hi (by omega) t1
      obtain ⟨v, hv1, hv2⟩ := (both_down xs ys hx hy hneg 800 (by omega) (by omega) (fun i hi => same_sign k3 hfy hfx i (by omega) (by omega))).eqs
      refine ⟨v, Tot.neg hg (Tot.pos (by omega) ?_), Tot.neg hg ?_⟩
      · refine Tot.step (fun k => spec_GreatestNotReached.j2.eq_2 _ _ _) ?_
        refine Tot.neg (by simpa using h1) ?_
        simp only [few_eq]
        refine Tot.bind (Tot.of hys) ?_
        rintro _ rfl
        rw [hy, show wrap64 (((Int.toNat 800 + 1 : Nat) : Int) - 1) = ((800 : Nat) : Int) by (rw [wrap_in] <;> omega)]
        exact hv1
      · refine Tot.bind (Tot.of hxs) ?_
        rintro _ rfl
        exact impl_down xs hx (Eq v) 800 (by omega) hv2 200 (by omega) (fun t t0 t1 => hall t (by omega) (by omega))
theorem FnExactGreatestNotReached : laws_FnExactGreatestNotReached.Pure := by
  intro l h1 h2 h3
  refine Tot.rounds ?_
  unfold laws_FnExactGreatestNotReached.f
  refine Tot.ite (fun _ => Tot.ret rfl) (fun hn => ?_)
  have hn' : l.length ≤ 1048576 := by omega
  obtain ⟨v, A, B⟩ := both l hn'
  refine Tot.bind (toIntS_t l hn') ?_
  rintro _ rfl
  refine Tot.bind A ?_
  rintro _ rfl
  refine Tot.bind (toIntS_t l hn') ?_
  rintro _ rfl
  refine Tot.bind B ?_
  rintro _ rfl
  first | refine Tot.pos rfl ?_ | refine Tot.neg (by simp; done) ?_
  refine Tot.step (fun k => laws_FnExactGreatestNotReached.j0.eq_2 _ _ _ _) ?_
  refine Tot.neg (by simp) ?_
  refine Tot.bind (toIntS_t l hn') ?_
  rintro _ rfl
  refine Tot.bind (eqIntS_t l (by omega)) ?_
  rintro _ rfl
  exact Tot.pos rfl (Tot.ret rfl)
end Go.Proofs.Ytmecamlnbjpkjaa.Pure
namespace Go.Proofs.Ytmecamlnbjpkjaa.PrintWords
theorem sized_ints : type_of% @Go.Proofs.YtmecamlnbjpkjaaW.PrintWords.sized_ints := @Go.Proofs.YtmecamlnbjpkjaaW.PrintWords.sized_ints
end Go.Proofs.Ytmecamlnbjpkjaa.PrintWords
