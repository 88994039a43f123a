/- The program's CountNeverBehind answers as the reference's does, for every list of at most 1048576 numbers as kinds and every two numbers; for a longer list nothing is asked. -/
import Derived.Test.YtmecamlnbjpkjaaPFnExactCountNeverBehindx5
import Derived.Test.YtmecamlnbjpkjaaWSized
set_option linter.unusedVariables false
set_option linter.unusedSimpArgs false
namespace Go.Proofs.Ytmecamlnbjpkjaa.Pure
open Go.RowKit Go.Proofs.Ytmecamlnbjpkjaa.PFnExactCountNeverBehind Go.Proofs.YtmecamlnbjpkjaaW.PrintWords Go.Proofs.YtmecamlnbjpkjaaW.PrintLast
/-! ### Rounds: some number of rounds on, a function tells r, and r has a property -/
def Tot {α : Type} (g : Nat → Option α) (P : α → Prop) : Prop := ∃ r, Ev g r ∧ P r
theorem Tot.ret {α : Type} {P : α → Prop} {r : α} (h : P r) : Tot (fun _ => some r) P := ⟨r, Ev.now r, h⟩
theorem Tot.pos {α : Type} {c : Prop} [Decidable c] {f g : Nat → Option α} {P : α → Prop} (h : c) (hf : Tot f P) : Tot (fun k => if c then f k else g k) P := by
  simp only [if_pos h]; exact hf
theorem Tot.neg {α : Type} {c : Prop} [Decidable c] {f g : Nat → Option α} {P : α → Prop} (h : ¬ c) (hg : Tot g P) : Tot (fun k => if c then f k else g k) P := by
  simp only [if_neg h]; exact hg
theorem Tot.ite {α : Type} {c : Prop} [Decidable c] {f g : Nat → Option α} {P : α → Prop} (hf : c → Tot f P) (hg : ¬ c → Tot g P) : Tot (fun k => if c then f k else g k) P := by
  by_cases h : c
  · exact Tot.pos h (hf h)
  · exact Tot.neg h (hg h)
theorem Tot.bind {α β : Type} {g : Nat → Option α} {f : Nat → α → Option β} {P : α → Prop} {Q : β → Prop} (h : Tot g P) (k : ∀ a, P a → Tot (fun n => f n a) Q) : Tot (fun n => (g n).bind (f n)) Q := by
  obtain ⟨a, ha, hp⟩ := h
  obtain ⟨r, hr, hq⟩ := k a hp
  exact ⟨r, Ev.bind ha hr, hq⟩
theorem Tot.some_bind {α β : Type} {f : Nat → α → Option β} {Q : β → Prop} {a : α} (k : Tot (fun n => f n a) Q) : Tot (fun n => (some a).bind (f n)) Q := k
theorem Tot.step {α : Type} {g f : Nat → Option α} {P : α → Prop} (h : ∀ k, g (k + 1) = f k) (k : Tot f P) : Tot g P := by
  obtain ⟨r, hr, hp⟩ := k
  exact ⟨r, Ev.step h hr, hp⟩
theorem Tot.congr {α : Type} {g f : Nat → Option α} {P : α → Prop} (h : ∀ k, g k = f k) (k : Tot f P) : Tot g P := by
  obtain ⟨r, hr, hp⟩ := k
  exact ⟨r, Ev.congr h hr, hp⟩
theorem Tot.mono {α : Type} {g : Nat → Option α} {P Q : α → Prop} (h : Tot g P) (k : ∀ r, P r → Q r) : Tot g Q := by
  obtain ⟨r, hr, hp⟩ := h
  exact ⟨r, hr, k r hp⟩
theorem Tot.rounds {α : Type} {g : Nat → Option α} {r : α} (h : Tot g (Eq r)) : ∃ k, g k = some r := by
  obtain ⟨_, hr, rfl⟩ := h
  exact hr.rounds
theorem Tot.ev {α : Type} {g : Nat → Option α} {r : α} (h : Tot g (Eq r)) : Ev g r := by
  obtain ⟨_, hr, rfl⟩ := h
  exact hr
theorem Tot.of {α : Type} {g : Nat → Option α} {r : α} (h : Ev g r) : Tot g (Eq r) := ⟨r, h, rfl⟩
theorem wrap_in {x : Int} (h0 : -9223372036854775808 ≤ x) (h1 : x ≤ 9223372036854775807) : wrap64 x = x := by unfold wrap64; omega
theorem wrap_nat (n : Nat) (h : n < 4611686018427387904) : wrap64 ((n : Int) + 1) = ((n + 1 : Nat) : Int) := by rw [wrap_in] <;> omega
theorem rd_mid (pre suf : List Int) (x : Int) : rd (pre ++ x :: suf) (pre.length : Int) = x := by simp [rd]
theorem rd_get (l : List Int) (i : Nat) (h : i < l.length) : rd l (i : Int) = l[i] := by simp [rd, h]
theorem set_mid {α : Type} (pre suf : List α) (x y : α) : (pre ++ x :: suf).set (pre.length : Int).toNat y = pre ++ y :: suf := by simp
/-! ### Two functions side by side -/
def Two {α β : Type} (g : Nat → Option α) (f : Nat → Option β) (R : α → β → Prop) : Prop := ∃ a b, Ev g a ∧ Ev f b ∧ R a b
section
variable {α β α' β' : Type} {g : Nat → Option α} {f : Nat → Option β} {R : α → β → Prop}
theorem Two.ret {a : α} {b : β} (h : R a b) : Two (fun _ => some a) (fun _ => some b) R := ⟨a, b, Ev.now a, Ev.now b, h⟩
theorem Two.lpos {c : Prop} [Decidable c] {g' : Nat → Option α} (h : c) (t : Two g f R) : Two (fun k => if c then g k else g' k) f R := by
  simp only [if_pos h]; exact t
theorem Two.lneg {c : Prop} [Decidable c] {g' : Nat → Option α} (h : ¬ c) (t : Two g f R) : Two (fun k => if c then g' k else g k) f R := by
  simp only [if_neg h]; exact t
theorem Two.rpos {c : Prop} [Decidable c] {f' : Nat → Option β} (h : c) (t : Two g f R) : Two g (fun k => if c then f k else f' k) R := by
  simp only [if_pos h]; exact t
theorem Two.rneg {c : Prop} [Decidable c] {f' : Nat → Option β} (h : ¬ c) (t : Two g f R) : Two g (fun k => if c then f' k else f k) R := by
  simp only [if_neg h]; exact t
theorem Two.lbind {g' : Nat → α → Option α'} {P : α → Prop} {S : α' → β → Prop} (h : Tot g P) (k : ∀ a, P a → Two (fun n => g' n a) f S) : Two (fun n => (g n).bind (g' n)) f S := by
  obtain ⟨a, ha, hp⟩ := h
  obtain ⟨r, q, hr, hq, hs⟩ := k a hp
  exact ⟨r, q, Ev.bind ha hr, hq, hs⟩
theorem Two.rbind {f' : Nat → β → Option β'} {P : β → Prop} {S : α → β' → Prop} (h : Tot f P) (k : ∀ b, P b → Two g (fun n => f' n b) S) : Two g (fun n => (f n).bind (f' n)) S := by
  obtain ⟨a, ha, hp⟩ := h
  obtain ⟨r, q, hr, hq, hs⟩ := k a hp
  exact ⟨r, q, hr, Ev.bind ha hq, hs⟩
theorem Two.lsome {g' : Nat → α → Option α'} {S : α' → β → Prop} {a : α} (k : Two (fun n => g' n a) f S) : Two (fun n => (some a).bind (g' n)) f S := k
theorem Two.rsome {f' : Nat → β → Option β'} {S : α → β' → Prop} {b : β} (k : Two g (fun n => f' n b) S) : Two g (fun n => (some b).bind (f' n)) S := k
theorem Two.bind {g' : Nat → α → Option α'} {f' : Nat → β → Option β'} {S : α' → β' → Prop} (h : Two g f R) (k : ∀ a b, R a b → Two (fun n => g' n a) (fun n => f' n b) S) : Two (fun n => (g n).bind (g' n)) (fun n => (f n).bind (f' n)) S := by
  obtain ⟨a, b, ha, hb, hp⟩ := h
  obtain ⟨r, q, hr, hq, hs⟩ := k a b hp
  exact ⟨r, q, Ev.bind ha hr, Ev.bind hb hq, hs⟩
theorem Two.lstep {g' : Nat → Option α} (h : ∀ k, g (k + 1) = g' k) (t : Two g' f R) : Two g f R := by
  obtain ⟨a, b, ha, hb, hp⟩ := t
  exact ⟨a, b, Ev.step h ha, hb, hp⟩
theorem Two.rstep {f' : Nat → Option β} (h : ∀ k, f (k + 1) = f' k) (t : Two g f' R) : Two g f R := by
  obtain ⟨a, b, ha, hb, hp⟩ := t
  exact ⟨a, b, ha, Ev.step h hb, hp⟩
theorem Two.mono {S : α → β → Prop} (t : Two g f R) (h : ∀ a b, R a b → S a b) : Two g f S := by
  obtain ⟨a, b, ha, hb, hp⟩ := t
  exact ⟨a, b, ha, hb, h a b hp⟩
theorem Two.eqs {f : Nat → Option α} (t : Two g f Eq) : ∃ v, Tot g (Eq v) ∧ Tot f (Eq v) := by
  obtain ⟨a, b, ha, hb, rfl⟩ := t
  exact ⟨a, ⟨a, ha, rfl⟩, ⟨a, hb, rfl⟩⟩
end
theorem Tot.both {α : Type} {g f : Nat → Option α} {P : α → Prop} (h : ∀ k, g k = f k) (t : Tot f P) : ∃ v, Tot g (Eq v) ∧ Tot f (Eq v) := by
  obtain ⟨v, hv, _⟩ := t
  exact ⟨v, ⟨v, Ev.congr h hv, rfl⟩, ⟨v, hv, rfl⟩⟩
theorem Tot.two {α β : Type} {g : Nat → Option α} {f : Nat → Option β} {P : α → Prop} {Q : β → Prop} {R : α → β → Prop} (t : Tot g P) (s : Tot f Q) (h : ∀ a b, P a → Q b → R a b) : Two g f R := by
  obtain ⟨a, ha, hp⟩ := t
  obtain ⟨b, hb, hq⟩ := s
  exact ⟨a, b, ha, hb, h a b hp hq⟩
theorem mn_eq (a b : Int) : mn a b = if a < b then a else b := by unfold mn; split <;> split <;> omega
theorem tdiv_in {a b : Int} (h : 0 ≤ a) : Int.tdiv a b = a / b := Int.tdiv_eq_ediv_of_nonneg h
theorem tmod_in {a b : Int} (h : 0 ≤ a) : Int.tmod a b = a % b := Int.tmod_eq_emod_of_nonneg h
theorem toIntS_loop (l : List Int) (hn : l.length ≤ 1048576) : ∀ (suf pre rest : List Int), l = pre ++ suf → rest.length = suf.length → Tot (fun k => laws_toIntS.l0 k l (pre ++ rest) (pre.length : Int)) (Eq l) := by
  intro suf
  induction suf with
  | nil =>
    intro pre rest h hr
    obtain rfl : rest = [] := List.eq_nil_of_length_eq_zero (by simpa using hr)
    refine Tot.step (fun k => laws_toIntS.l0.eq_2 _ _ _ _) ?_
    exact Tot.neg (by simp [h]) (Tot.ret (by simp [h]))
  | cons x suf ih =>
    intro pre rest h hr
    match rest, hr with
    | r :: rest, hr =>
    have hp : pre.length < l.length := by simp [h]
    have hr' : rest.length = suf.length := by simpa using hr
    have hl : l.length = pre.length + suf.length + 1 := by simp [h]; omega
    refine Tot.step (fun k => laws_toIntS.l0.eq_2 _ _ _ _) ?_
    refine Tot.pos (by omega) (Tot.pos (by omega) (Tot.pos (by simp; omega) ?_))
    rw [set_mid, wrap_nat _ (by omega), show rd l (pre.length : Int) = x by rw [h, rd_mid]]
    have := ih (pre ++ [x]) rest (by simp [h]) hr'
    simpa using this
theorem toIntS_t (l : List Int) (hn : l.length ≤ 1048576) : Tot (fun k => laws_toIntS.f k l) (Eq l) := by
  unfold laws_toIntS.f
  refine Tot.pos (by omega) (Tot.pos (by omega) ?_)
  exact toIntS_loop l hn l [] _ rfl (by simp)
theorem eqIntS_loop (l : List Int) (hn : l.length ≤ 4611686018427387903) : ∀ (suf pre : List Int), l = pre ++ suf → Tot (fun k => laws_eqIntS.l0 k l l (pre.length : Int)) (Eq true) := by
  intro suf
  induction suf with
  | nil =>
    intro pre h
    refine Tot.step (fun k => laws_eqIntS.l0.eq_2 _ _ _ _) ?_
    exact Tot.neg (by simp [h]) (Tot.ret rfl)
  | cons x suf ih =>
    intro pre h
    have hl : l.length = pre.length + suf.length + 1 := by simp [h]; omega
    refine Tot.step (fun k => laws_eqIntS.l0.eq_2 _ _ _ _) ?_
    refine Tot.pos (by omega) (Tot.pos (by omega) (Tot.pos (by omega) (Tot.pos rfl ?_)))
    rw [wrap_nat _ (by omega)]
    have := ih (pre ++ [x]) (by simp [h])
    simpa using this
theorem eqIntS_t (l : List Int) (hn : l.length ≤ 4611686018427387903) : Tot (fun k => laws_eqIntS.f k l l) (Eq true) := by
  unfold laws_eqIntS.f
  exact Tot.pos rfl (eqIntS_loop l hn l [] rfl)
/-- The rest of a list rises, from p on, within 1..20. -/
def asc : Int → List Int → Bool
  | _, [] => true
  | p, x :: xs => decide (1 ≤ x ∧ x ≤ 20 ∧ p < x) && asc x xs
def kindsB (l : List Int) : Bool := decide (1 ≤ l.length ∧ l.length ≤ 5) && asc 0 l
theorem within_eq (a b c : Int) : impl_within.f a b c = some (decide (b ≤ a ∧ a ≤ c)) := by
  unfold impl_within.f; split <;> simp [*]
theorem l1In_eq (a b c : Int) : spec_l1In.f a b c = some (decide (b ≤ a ∧ a ≤ c)) := by
  unfold spec_l1In.f
  split
  · simp [*]
  · have : ¬ (b ≤ a ∧ a ≤ c) := by omega
    simp [this]
theorem rd_last (pre suf : List Int) (h : pre ≠ []) : rd (pre ++ suf) ((pre.length : Int) - 1) = pre.getLastD 0 := by
  have hp : 0 < pre.length := List.length_pos_iff.2 h
  have : ((pre.length : Int) - 1).toNat = pre.length - 1 := by omega
  simp only [rd, this]
  rw [List.getD_eq_getElem?_getD, List.getElem?_append_left (by omega), List.getLastD_eq_getLast?, List.getLast?_eq_getElem?]
theorem getLastD_snoc (pre : List Int) (x : Int) : (pre ++ [x]).getLastD 0 = x := by simp
theorem implKinds_loop (l : List Int) (hn : l.length ≤ 1048576) : ∀ (suf pre : List Int), l = pre ++ suf → 0 ≤ pre.getLastD 0 → Tot (fun k => impl_AreKinds.l0 k l l (l.length : Int) (pre.length : Int)) (Eq (asc (pre.getLastD 0) suf)) := by
  intro suf
  induction suf with
  | nil =>
    intro pre h _
    refine Tot.step (fun k => impl_AreKinds.l0.eq_2 _ _ _ _ _) ?_
    exact Tot.neg (by simp [h]) (Tot.ret rfl)
  | cons x suf ih =>
    intro pre h hg
    have hl : l.length = pre.length + suf.length + 1 := by simp [h]; omega
    refine Tot.step (fun k => impl_AreKinds.l0.eq_2 _ _ _ _ _) ?_
    refine Tot.pos (by omega) (Tot.pos (by omega) (Tot.pos (by omega) ?_))
    rw [show rd l (pre.length : Int) = x by rw [h, rd_mid], within_eq]
    refine Tot.some_bind ?_
    refine Tot.ite (fun hx => ?_) (fun hx => Tot.ret ?_)
    · have hx' : 1 ≤ x ∧ x ≤ 20 := by simpa using hx
      have key : pre.getLastD 0 < x → Tot (fun k => impl_AreKinds.l0 k l l (l.length : Int) (wrap64 ((pre.length : Int) + 1))) (Eq (asc (pre.getLastD 0) (x :: suf))) := by
        intro hlt
        have := ih (pre ++ [x]) (by simp [h]) (by rw [getLastD_snoc]; omega)
        rw [getLastD_snoc, List.length_append, List.length_singleton] at this
        rw [wrap_nat _ (by omega)]
        refine this.mono fun r hr => ?_
        rw [← hr, asc, decide_eq_true (show 1 ≤ x ∧ x ≤ 20 ∧ pre.getLastD 0 < x from ⟨hx'.1, hx'.2, hlt⟩), Bool.true_and]
      refine Tot.ite (fun hp => ?_) (fun hp => key ?_)
      · have hne : pre ≠ [] := by intro e; simp [e] at hp
        have hw : wrap64 ((pre.length : Int) - 1) = (pre.length : Int) - 1 := wrap_in (by omega) (by omega)
        rw [hw]
        refine Tot.pos (by omega) (Tot.pos (by omega) ?_)
        rw [show rd l ((pre.length : Int) - 1) = pre.getLastD 0 by rw [h]; exact rd_last _ _ hne]
        refine Tot.ite (fun hle => Tot.ret ?_) (fun hle => key (by omega))
        rw [asc, decide_eq_false (show ¬ (1 ≤ x ∧ x ≤ 20 ∧ pre.getLastD 0 < x) from fun e => by omega), Bool.false_and]
      · have : pre = [] := List.eq_nil_of_length_eq_zero (by omega)
        subst this
        simp; omega
    · have hx' : ¬ (1 ≤ x ∧ x ≤ 20) := by simpa using hx
      have : ¬ (1 ≤ x ∧ x ≤ 20 ∧ pre.getLastD 0 < x) := fun e => hx' ⟨e.1, e.2.1⟩
      simp only [asc, this, decide_false, Bool.false_and]
theorem implKinds_t (l : List Int) (hn : l.length ≤ 1048576) : Tot (fun k => impl_AreKinds.f k l) (Eq (kindsB l)) := by
  unfold impl_AreKinds.f
  rw [within_eq]
  refine Tot.some_bind (Tot.ite (fun h => ?_) (fun h => Tot.ret ?_))
  · have h' : 1 ≤ l.length ∧ l.length ≤ 5 := by have := of_decide_eq_true h; omega
    refine (implKinds_loop l hn l [] rfl (by simp)).mono fun r hr => ?_
    simpa [kindsB, h'] using hr
  · have h' : ¬ (1 ≤ l.length ∧ l.length ≤ 5) := by intro e; apply h; simp; omega
    simp only [kindsB, h', decide_false, Bool.false_and]
theorem specRising_eq (k : Nat) (l : List Int) : ∀ (m i : Int), spec_l1Rising.l0 k l 1 20 l m i = impl_AreKinds.l0 k l l m i := by
  induction k with
  | zero => intro m i; rfl
  | succ k ih =>
    intro m i
    rw [spec_l1Rising.l0, impl_AreKinds.l0]
    simp only [ih, l1In_eq, within_eq, ge_iff_le]
theorem specKinds_eq (k : Nat) (l : List Int) : spec_goKinds.f k l = impl_AreKinds.f k l := by
  unfold spec_goKinds.f impl_AreKinds.f spec_l1Rising.f
  simp only [specRising_eq, l1In_eq, within_eq]
  congr 1
  funext t
  split
  · cases impl_AreKinds.l0 k l l (l.length : Int) 0 <;> rfl
  · rfl
theorem asc_all (l : List Int) : ∀ p, asc p l = true → ∀ x ∈ l, 1 ≤ x ∧ x ≤ 20 := by
  induction l with
  | nil => intro p _ x hx; cases hx
  | cons y l ih =>
    intro p h x hx
    simp only [asc, Bool.and_eq_true, decide_eq_true_eq] at h
    rcases List.mem_cons.1 hx with rfl | hx
    · exact ⟨h.1.1, h.1.2.1⟩
    · exact ih _ h.2 x hx
theorem kinds_facts {l : List Int} (h : kindsB l = true) : 1 ≤ l.length ∧ l.length ≤ 5 ∧ ∀ x ∈ l, 1 ≤ x ∧ x ≤ 20 := by
  simp only [kindsB, Bool.and_eq_true, decide_eq_true_eq] at h
  exact ⟨h.1.1, h.1.2, asc_all l 0 h.2⟩
def askedB (l : List Int) (a : Int) : Bool := kindsB l && decide (0 ≤ a ∧ a ≤ 200)
theorem specAsked_eq (k : Nat) (l : List Int) (a : Int) : spec_goAsked.f k l a = impl_isAsked.f k l a := by
  unfold spec_goAsked.f impl_isAsked.f spec_goScore.f
  simp only [specKinds_eq, l1In_eq, within_eq, Option.bind_some]
theorem asked_t (l : List Int) (a : Int) (hn : l.length ≤ 1048576) : Tot (fun k => impl_isAsked.f k l a) (Eq (askedB l a)) := by
  unfold impl_isAsked.f
  refine Tot.bind (implKinds_t l hn) ?_
  rintro _ rfl
  simp only [within_eq, Option.bind_some]
  refine Tot.ite (fun h => Tot.ret ?_) (fun h => Tot.ret ?_)
  · simp [askedB, h]
  · simp [askedB, h]
theorem asked_facts {l : List Int} {a : Int} (h : askedB l a = true) : (1 ≤ l.length ∧ l.length ≤ 5 ∧ ∀ x ∈ l, 1 ≤ x ∧ x ≤ 20) ∧ 0 ≤ a ∧ a ≤ 200 := by
  simp only [askedB, Bool.and_eq_true, decide_eq_true_eq] at h
  exact ⟨kinds_facts h.1, h.2.1, h.2.2⟩
theorem least_eq (a b : Int) : spec_l1Least.f a b = some (mn a b) := by rw [mn_eq]; unfold spec_l1Least.f; split <;> rfl
def fewR (n : Int) (r : Int × Bool) : Prop := r = if n > 1000000000000000 then (0, false) else (n, true)
theorem games_l2 (l : List Int) (a b : Int) (never : Bool) (a0 : 0 ≤ a) (a1 : a ≤ 200) (b0 : 0 ≤ b) (b1 : b ≤ 200) (hl : l.length ≤ 5) (hk : ∀ x ∈ l, 1 ≤ x ∧ x ≤ 20) (all g n j : Int) (now : List Int) (R : Int → Int × Bool → Prop)
    (x y u : Int) (x0 : 0 ≤ x) (x1 : x ≤ a) (y0 : 0 ≤ y) (y1 : y ≤ b) (hu : u = x * (b + 1)) (hj : j = u + y)
    (K : ∀ xs : List Int, (xs.length : Int) = (a + 1) * (b + 1) → Two (fun k => spec_goCount.l1 k l a b never all g xs now (now.length : Int) (wrap64 (j + 1))) (fun k => impl_countGames.l1 k l a b never (b + 1) all xs g now (now.length : Int) (wrap64 (j + 1))) R) :
    ∀ (suf pre xs : List Int), l = pre ++ suf → (xs.length : Int) = (a + 1) * (b + 1) →
      Two (fun k => spec_goCount.l2 k l a b never all g xs n x y now (now.length : Int) j l (l.length : Int) (pre.length : Int)) (fun k => impl_countGames.l2 k l a b never (b + 1) all xs j n x y g now (now.length : Int) j l (l.length : Int) (pre.length : Int)) R := by
  intro suf
  induction suf with
  | nil =>
    intro pre xs h hx
    refine Two.lstep (fun k => spec_goCount.l2.eq_2 _ _ _ _ _ _ _ _ _ _ _ _ _ _ _ _ _) (Two.rstep (fun k => impl_countGames.l2.eq_2 _ _ _ _ _ _ _ _ _ _ _ _ _ _ _ _ _ _ _) ?_)
    exact Two.lneg (by simp [h]) (Two.rneg (by simp [h]) (K xs hx))
  | cons p suf ih =>
    intro pre xs h hx
    have hp := hk p (by simp [h])
    have hlen : l.length = pre.length + suf.length + 1 := by simp [h]; omega
    have nxt : ∀ ys : List Int, (ys.length : Int) = (a + 1) * (b + 1) → Two (fun k => spec_goCount.l2 k l a b never all g ys n x y now (now.length : Int) j l (l.length : Int) ((pre.length : Int) + 1)) (fun k => impl_countGames.l2 k l a b never (b + 1) all ys j n x y g now (now.length : Int) j l (l.length : Int) ((pre.length : Int) + 1)) R := by
      intro ys hy
      have := ih (pre ++ [p]) ys (by simp [h]) hy
      simpa using this
    have w1 : 0 ≤ u ∧ u ≤ a * (b + 1) := by
      subst hu
      exact ⟨Int.mul_nonneg x0 (by omega), Int.mul_le_mul_of_nonneg_right x1 (by omega)⟩
    have w2 : a * (b + 1) ≤ 200 * 201 := Int.mul_le_mul a1 (by omega) (by omega) (by omega)
    have w3 : (a + 1) * (b + 1) = a * (b + 1) + (b + 1) := by rw [Int.add_mul, Int.one_mul]
    have w4 : 0 ≤ p * (b + 1) ∧ p * (b + 1) ≤ 20 * 201 := ⟨Int.mul_nonneg (by omega) (by omega), Int.mul_le_mul hp.2 (by omega) (by omega) (by omega)⟩
    have w5 : (x + p) * (b + 1) = u + p * (b + 1) := by rw [Int.add_mul, ← hu]
    have w6 : x + p ≤ a → (x + p) * (b + 1) ≤ a * (b + 1) := fun e => Int.mul_le_mul_of_nonneg_right e (by omega)
    refine Two.lstep (fun k => spec_goCount.l2.eq_2 _ _ _ _ _ _ _ _ _ _ _ _ _ _ _ _ _) (Two.rstep (fun k => impl_countGames.l2.eq_2 _ _ _ _ _ _ _ _ _ _ _ _ _ _ _ _ _ _ _) ?_)
    refine Two.lpos (by omega) (Two.lpos (by omega) (Two.lpos (by omega) (Two.rpos (by omega) (Two.rpos (by omega) (Two.rpos (by omega) ?_)))))
    simp only [least_eq]
    rw [show rd l (pre.length : Int) = p by rw [h, rd_mid], show wrap64 ((pre.length : Int) + 1) = (pre.length : Int) + 1 from wrap_in (by omega) (by omega),
      show wrap64 (b + 1) = b + 1 from wrap_in (by omega) (by omega), show wrap64 (x + p) = x + p from wrap_in (by omega) (by omega), show wrap64 (y + p) = y + p from wrap_in (by omega) (by omega),
      w5, show x * (b + 1) = u from hu.symm, show wrap64 u = u from wrap_in (by omega) (by omega), show wrap64 (p * (b + 1)) = p * (b + 1) from wrap_in (by omega) (by omega),
      show wrap64 (u + p * (b + 1)) = u + p * (b + 1) from wrap_in (by omega) (by omega), show wrap64 (u + p * (b + 1) + y) = u + p * (b + 1) + y from wrap_in (by omega) (by omega),
      show wrap64 (u + y) = u + y from wrap_in (by omega) (by omega), show wrap64 (u + y + p) = u + y + p from wrap_in (by omega) (by omega),
      show wrap64 (j + p * (b + 1)) = u + p * (b + 1) + y by (rw [wrap_in] <;> omega), show wrap64 (j + p) = u + y + p by (rw [wrap_in] <;> omega)]
    by_cases c1 : x + p ≤ a
    · have w7 := w6 c1
      refine Two.lpos c1 (Two.lpos (by omega) (Two.lpos (by omega) (Two.lsome (Two.lsome ?_))))
      refine Two.rpos c1 (Two.rpos (by omega) (Two.rpos (by omega) (Two.rsome ?_)))
      by_cases c2 : y + p ≤ b
      · refine Two.lpos c2 (Two.rpos c2 ?_)
        have B1 : u + y + p < (a + 1) * (b + 1) := by omega
        cases never with
        | true =>
          refine Two.lpos rfl (Two.rpos rfl ?_)
          by_cases c3 : y + p ≤ x
          · refine Two.lpos c3 (Two.rpos c3 ?_)
            refine Two.lpos (by omega) (Two.lpos (by omega) (Two.rpos (by omega) (Two.rpos (by omega) (Two.lsome ?_))))
            exact nxt _ (by simp only [List.length_set]; exact hx)
          · exact Two.lneg c3 (Two.rneg c3 (nxt _ (by first | exact hx | (simp only [List.length_set]; exact hx))))
        | false =>
          refine Two.lneg (by simp) (Two.rneg (by simp) ?_)
          refine Two.lpos (by omega) (Two.lpos (by omega) (Two.rpos (by omega) (Two.rpos (by omega) (Two.lsome ?_))))
          exact nxt _ (by simp only [List.length_set]; exact hx)
      · exact Two.lneg c2 (Two.rneg c2 (nxt _ (by first | exact hx | (simp only [List.length_set]; exact hx))))
    · refine Two.lneg c1 (Two.rneg c1 ?_)
      by_cases c2 : y + p ≤ b
      · refine Two.lpos c2 (Two.rpos c2 ?_)
        have B1 : u + y + p < (a + 1) * (b + 1) := by omega
        cases never with
        | true =>
          refine Two.lpos rfl (Two.rpos rfl ?_)
          by_cases c3 : y + p ≤ x
          · refine Two.lpos c3 (Two.rpos c3 ?_)
            refine Two.lpos (by omega) (Two.lpos (by omega) (Two.rpos (by omega) (Two.rpos (by omega) (Two.lsome ?_))))
            exact nxt _ (by simp only [List.length_set]; exact hx)
          · exact Two.lneg c3 (Two.rneg c3 (nxt _ (by first | exact hx | (simp only [List.length_set]; exact hx))))
        | false =>
          refine Two.lneg (by simp) (Two.rneg (by simp) ?_)
          refine Two.lpos (by omega) (Two.lpos (by omega) (Two.rpos (by omega) (Two.rpos (by omega) (Two.lsome ?_))))
          exact nxt _ (by simp only [List.length_set]; exact hx)
      · exact Two.lneg c2 (Two.rneg c2 (nxt _ (by first | exact hx | (simp only [List.length_set]; exact hx))))
theorem games_l1 (l : List Int) (a b : Int) (never : Bool) (a0 : 0 ≤ a) (a1 : a ≤ 200) (b0 : 0 ≤ b) (b1 : b ≤ 200) (hl : l.length ≤ 5) (hk : ∀ x ∈ l, 1 ≤ x ∧ x ≤ 20) (all g : Int) (now : List Int) (hnow : (now.length : Int) = (a + 1) * (b + 1)) (R : Int → Int × Bool → Prop)
    (K : ∀ xs : List Int, (xs.length : Int) = (a + 1) * (b + 1) → Two (fun k => spec_goCount.l0 k l a b never xs all (wrap64 (g + 1))) (fun k => impl_countGames.l0 k l a b never (b + 1) xs all (wrap64 (g + 1))) R) :
    ∀ (d : Nat) (j : Int) (xs : List Int), 0 ≤ j → j + d = now.length → (xs.length : Int) = (a + 1) * (b + 1) →
      Two (fun k => spec_goCount.l1 k l a b never all g xs now (now.length : Int) j) (fun k => impl_countGames.l1 k l a b never (b + 1) all xs g now (now.length : Int) j) R := by
  intro d
  have w2 : a * (b + 1) ≤ 200 * 201 := Int.mul_le_mul a1 (by omega) (by omega) (by omega)
  have w3 : (a + 1) * (b + 1) = a * (b + 1) + (b + 1) := by rw [Int.add_mul, Int.one_mul]
  induction d with
  | zero =>
    intro j xs h0 hj hx
    refine Two.lstep (fun k => spec_goCount.l1.eq_2 _ _ _ _ _ _ _ _ _ _ _) (Two.rstep (fun k => impl_countGames.l1.eq_2 _ _ _ _ _ _ _ _ _ _ _ _) ?_)
    exact Two.lneg (by omega) (Two.rneg (by omega) (K xs hx))
  | succ d ih =>
    intro j xs h0 hj hx
    have nxt : ∀ ys : List Int, (ys.length : Int) = (a + 1) * (b + 1) → Two (fun k => spec_goCount.l1 k l a b never all g ys now (now.length : Int) (wrap64 (j + 1))) (fun k => impl_countGames.l1 k l a b never (b + 1) all ys g now (now.length : Int) (wrap64 (j + 1))) R := by
      intro ys hy
      rw [show wrap64 (j + 1) = j + 1 from wrap_in (by omega) (by omega)]
      exact ih (j + 1) ys (by omega) (by omega) hy
    refine Two.lstep (fun k => spec_goCount.l1.eq_2 _ _ _ _ _ _ _ _ _ _ _) (Two.rstep (fun k => impl_countGames.l1.eq_2 _ _ _ _ _ _ _ _ _ _ _ _) ?_)
    refine Two.lpos (by omega) (Two.lpos (by omega) (Two.lpos (by omega) (Two.rpos (by omega) (Two.rpos (by omega) (Two.rpos (by omega) (Two.rneg (by omega) ?_))))))
    by_cases c : rd now j = 0
    · exact Two.lpos c (Two.rpos c (nxt xs hx))
    · refine Two.lneg c (Two.rneg c ?_)
      have q0 : 0 ≤ j / (b + 1) := Int.ediv_nonneg h0 (by omega)
      have q1 : j / (b + 1) < a + 1 := Int.ediv_lt_of_lt_mul (by omega) (by omega)
      have q2 : 0 ≤ j % (b + 1) := Int.emod_nonneg _ (by omega)
      have q3 : j % (b + 1) < b + 1 := Int.emod_lt_of_pos _ (by omega)
      have q4 : j = j / (b + 1) * (b + 1) + j % (b + 1) := by rw [Int.mul_comm]; exact (Int.mul_ediv_add_emod j (b + 1)).symm
      have q5 : j / (b + 1) ≤ 200 := by omega
      rw [show wrap64 (b + 1) = b + 1 from wrap_in (by omega) (by omega), tdiv_in h0, tmod_in h0, show wrap64 (j / (b + 1)) = j / (b + 1) from wrap_in (by omega) (by omega)]
      refine Two.lneg (by omega) ?_
      exact games_l2 l a b never a0 a1 b0 b1 hl hk all g (rd now j) j now R (j / (b + 1)) (j % (b + 1)) _ q0 (by omega) q2 (by omega) rfl q4 nxt l [] xs rfl hx
theorem games_l0 (l : List Int) (a b : Int) (never : Bool) (a0 : 0 ≤ a) (a1 : a ≤ 200) (b0 : 0 ≤ b) (b1 : b ≤ 200) (hl : l.length ≤ 5) (hk : ∀ x ∈ l, 1 ≤ x ∧ x ≤ 20) :
    ∀ (d : Nat) (g all : Int) (xs : List Int), 0 ≤ g → g + d = 61 → (xs.length : Int) = (a + 1) * (b + 1) →
      Two (fun k => spec_goCount.l0 k l a b never xs all g) (fun k => impl_countGames.l0 k l a b never (b + 1) xs all g) fewR := by
  intro d
  have w1 : 0 ≤ a * (b + 1) := Int.mul_nonneg a0 (by omega)
  have w2 : a * (b + 1) ≤ 200 * 201 := Int.mul_le_mul a1 (by omega) (by omega) (by omega)
  have w3 : (a + 1) * (b + 1) = a * (b + 1) + (b + 1) := by rw [Int.add_mul, Int.one_mul]
  induction d with
  | zero =>
    intro g all xs h0 hd hx
    refine Two.lstep (fun k => spec_goCount.l0.eq_2 _ _ _ _ _ _ _ _) (Two.rstep (fun k => impl_countGames.l0.eq_2 _ _ _ _ _ _ _ _ _) ?_)
    refine Two.lneg (by omega) (Two.rneg (by omega) ?_)
    unfold impl_few.f
    by_cases c : all > 1000000000000000
    · simp only [if_pos c]
      exact Two.rsome (Two.ret (by rw [fewR, if_pos c]))
    · simp only [if_neg c]
      exact Two.rsome (Two.ret (by rw [fewR, if_neg c]))
  | succ d ih =>
    intro g all xs h0 hd hx
    refine Two.lstep (fun k => spec_goCount.l0.eq_2 _ _ _ _ _ _ _ _) (Two.rstep (fun k => impl_countGames.l0.eq_2 _ _ _ _ _ _ _ _ _) ?_)
    simp only [least_eq]
    rw [show wrap64 ((xs.length : Int) - 1) = (xs.length : Int) - 1 from wrap_in (by omega) (by omega), show wrap64 (a * (b + 1)) = a * (b + 1) from wrap_in (by omega) (by omega), show wrap64 (a * (b + 1) + b) = (xs.length : Int) - 1 by (rw [wrap_in] <;> omega)]
    refine Two.lpos (by omega) (Two.lpos (by omega) (Two.lpos (by omega) (Two.lsome (Two.lpos (by omega) (Two.lpos (by omega) ?_)))))
    refine Two.rpos (by omega) (Two.rpos (by omega) (Two.rpos (by omega) (Two.rpos (by omega) (Two.rpos (by omega) ?_))))
    refine games_l1 l a b never a0 a1 b0 b1 hl hk _ g xs hx fewR (fun ys hy => ?_) xs.length 0 _ (by omega) (by omega) (by simpa using hx)
    rw [show wrap64 (g + 1) = g + 1 from wrap_in (by omega) (by omega)]
    exact ih _ _ _ (by omega) (by omega) hy
theorem count_two (l : List Int) (a b : Int) (never : Bool) (h : askedB l a = true) (b0 : 0 ≤ b) (b1 : b ≤ 200) :
    Two (fun k => spec_goCount.f k l a b never) (fun k => impl_countGames.j0 k l a b never false) fewR := by
  obtain ⟨⟨k1, k2, k3⟩, a0, a1⟩ := asked_facts h
  have w1 : 0 ≤ a * (b + 1) := Int.mul_nonneg a0 (by omega)
  have w2 : a * (b + 1) ≤ 200 * 201 := Int.mul_le_mul a1 (by omega) (by omega) (by omega)
  have w3 : (a + 1) * (b + 1) = a * (b + 1) + (b + 1) := by rw [Int.add_mul, Int.one_mul]
  refine Two.rstep (fun k => impl_countGames.j0.eq_2 _ _ _ _ _ _) ?_
  unfold spec_goCount.f
  rw [show wrap64 (a + 1) = a + 1 from wrap_in (by omega) (by omega), show wrap64 (b + 1) = b + 1 from wrap_in (by omega) (by omega), show wrap64 ((a + 1) * (b + 1)) = (a + 1) * (b + 1) from wrap_in (by omega) (by omega)]
  refine Two.lpos (by omega) (Two.lpos (by omega) (Two.lsome (Two.lpos (by rw [List.length_replicate]; omega) ?_)))
  refine Two.rneg (by simp) (Two.rpos (by omega) (Two.rpos (by omega) (Two.rsome (Two.rpos (by rw [List.length_replicate]; omega) ?_))))
  refine games_l0 l a b never a0 a1 b0 b1 k2 k3 61 0 0 _ (by omega) (by omega) ?_
  rw [List.length_set, List.length_replicate]; omega
theorem score_eq (a : Int) : spec_goScore.f a = some (decide (0 ≤ a ∧ a ≤ 200)) := by unfold spec_goScore.f; rw [l1In_eq]; rfl
theorem both (l : List Int) (a b : Int) (hn : l.length ≤ 1048576) : ∃ v, Tot (fun k => spec_CountNeverBehind.f k l a b) (Eq v) ∧ Tot (fun k => impl_CountNeverBehind.f k l a b) (Eq v) := by
  by_cases h : askedB l a = true ∧ 0 ≤ b ∧ b ≤ 200
  · obtain ⟨n, r, hn1, hr, hR⟩ := count_two l a b true h.1 h.2.1 h.2.2
    refine ⟨r, ?_, ?_⟩
    · unfold spec_CountNeverBehind.f
      simp only [specAsked_eq, score_eq]
      refine Tot.bind (asked_t l a hn) ?_
      rintro _ rfl
      refine Tot.pos h.1 (Tot.some_bind ?_)
      refine Tot.step (fun k => spec_CountNeverBehind.j0.eq_2 _ _ _ _ _) ?_
      refine Tot.neg (by simp; omega) ?_
      refine Tot.bind (P := Eq n) (Tot.of hn1) ?_
      rintro _ rfl
      rw [hR]
      exact Tot.ite (fun c => Tot.ret (by rw [if_pos c])) (fun c => Tot.ret (by rw [if_neg c]))
    · unfold impl_CountNeverBehind.f impl_countGames.f
      simp only [within_eq]
      refine Tot.bind (P := Eq r) ?_ ?_
      · refine Tot.bind (asked_t l a hn) ?_
        rintro _ rfl
        refine Tot.pos h.1 (Tot.some_bind ?_)
        rw [decide_eq_true (show 0 ≤ b ∧ b ≤ 200 from h.2)]
        exact Tot.of hr
      · rintro _ rfl
        exact Tot.ret rfl
  · refine ⟨(0, false), ?_, ?_⟩
    · unfold spec_CountNeverBehind.f
      simp only [specAsked_eq, score_eq]
      refine Tot.bind (asked_t l a hn) ?_
      rintro _ rfl
      refine Tot.ite (fun c => Tot.some_bind ?_) (fun c => ?_)
      · refine Tot.step (fun k => spec_CountNeverBehind.j0.eq_2 _ _ _ _ _) ?_
        have : ¬ (0 ≤ b ∧ b ≤ 200) := fun e => h ⟨c, e⟩
        exact Tot.pos (by simp only [this, decide_false]; rfl) (Tot.ret rfl)
      · refine Tot.step (fun k => spec_CountNeverBehind.j0.eq_2 _ _ _ _ _) ?_
        exact Tot.pos rfl (Tot.ret rfl)
    · unfold impl_CountNeverBehind.f impl_countGames.f
      simp only [within_eq]
      refine Tot.bind (P := Eq (0, false)) ?_ ?_
      · refine Tot.bind (asked_t l a hn) ?_
        rintro _ rfl
        refine Tot.ite (fun c => Tot.some_bind ?_) (fun c => ?_)
        · refine Tot.step (fun k => impl_countGames.j0.eq_2 _ _ _ _ _ _) ?_
          have : ¬ (0 ≤ b ∧ b ≤ 200) := fun e => h ⟨c, e⟩
          exact Tot.pos (by simp only [this, decide_false]; rfl) (Tot.ret rfl)
        · refine Tot.step (fun k => impl_countGames.j0.eq_2 _ _ _ _ _ _) ?_
          exact Tot.pos rfl (Tot.ret rfl)
      · rintro _ rfl
        exact Tot.ret rfl
theorem FnExactCountNeverBehind : laws_FnExactCountNeverBehind.Pure := by
  intro l a b h1 h2 h3 h4 h5
  refine Tot.rounds ?_
  unfold laws_FnExactCountNeverBehind.f
  refine Tot.ite (fun _ => Tot.ret rfl) (fun hn => ?_)
  have hn' : l.length ≤ 1048576 := by omega
  obtain ⟨v, A, B⟩ := both l a b hn'
  refine Tot.bind (toIntS_t l hn') ?_
  rintro _ rfl
  refine Tot.bind A ?_
  rintro _ rfl
  refine Tot.bind (toIntS_t l hn') ?_
  rintro _ rfl
  refine Tot.bind B ?_
  rintro _ rfl
  first | refine Tot.pos rfl ?_ | refine Tot.neg (by simp; done) ?_
  refine Tot.step (fun k => laws_FnExactCountNeverBehind.j0.eq_2 _ _ _ _) ?_
  refine Tot.neg (by simp) ?_
  refine Tot.bind (toIntS_t l hn') ?_
  rintro _ rfl
  refine Tot.bind (eqIntS_t l (by omega)) ?_
  rintro _ rfl
  exact Tot.pos rfl (Tot.ret rfl)
end Go.Proofs.Ytmecamlnbjpkjaa.Pure
namespace Go.Proofs.Ytmecamlnbjpkjaa.PrintWords
theorem sized_ints : type_of% @Go.Proofs.YtmecamlnbjpkjaaW.PrintWords.sized_ints := @Go.Proofs.YtmecamlnbjpkjaaW.PrintWords.sized_ints
end Go.Proofs.Ytmecamlnbjpkjaa.PrintWords
