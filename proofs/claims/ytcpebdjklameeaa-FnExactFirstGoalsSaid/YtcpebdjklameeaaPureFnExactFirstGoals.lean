/- The program's FirstGoals answers as the reference's does, for every list of at most 1048576 numbers as kinds and every number; for a longer list nothing is asked. -/
import Derived.Test.YtcpebdjklameeaaMFnExactFirstGoalsx4
import Derived.Test.YtcpebdjklameeaaWSized
set_option linter.unusedVariables false
set_option linter.unusedSimpArgs false
namespace Go.Proofs.Ytcpebdjklameeaa.Pure
open Go.RowKit Go.Proofs.Ytcpebdjklameeaa.MFnExactFirstGoals Go.Proofs.YtcpebdjklameeaaW.PrintWords Go.Proofs.YtcpebdjklameeaaW.PrintLast
/-! ### Rounds: some number of rounds on, a function tells r, and r has a property -/
def Tot {α : Type} (g : Nat → Option α) (P : α → Prop) : Prop := ∃ r, Ev g r ∧ P r
theorem Tot.ret {α : Type} {P : α → Prop} {r : α} (h : P r) : Tot (fun _ => some r) P := ⟨r, Ev.now r, h⟩
theorem Tot.pos {α : Type} {c : Prop} [Decidable c] {f g : Nat → Option α} {P : α → Prop} (h : c) (hf : Tot f P) : Tot (fun k => if c then f k else g k) P := by
  simp only [if_pos h]; exact hf
theorem Tot.neg {α : Type} {c : Prop} [Decidable c] {f g : Nat → Option α} {P : α → Prop} (h : ¬ c) (hg : Tot g P) : Tot (fun k => if c then f k else g k) P := by
  simp only [if_neg h]; exact hg
theorem Tot.ite {α : Type} {c : Prop} [Decidable c] {f g : Nat → Option α} {P : α → Prop} (hf : c → Tot f P) (hg : ¬ c → Tot g P) : Tot (fun k => if c then f k else g k) P := by
  by_cases h : c
  · exact Tot.pos h (hf h)
  · exact Tot.neg h (hg h)
theorem Tot.bind {α β : Type} {g : Nat → Option α} {f : Nat → α → Option β} {P : α → Prop} {Q : β → Prop} (h : Tot g P) (k : ∀ a, P a → Tot (fun n => f n a) Q) : Tot (fun n => (g n).bind (f n)) Q := by
  obtain ⟨a, ha, hp⟩ := h
  obtain ⟨r, hr, hq⟩ := k a hp
  exact ⟨r, Ev.bind ha hr, hq⟩
theorem Tot.some_bind {α β : Type} {f : Nat → α → Option β} {Q : β → Prop} {a : α} (k : Tot (fun n => f n a) Q) : Tot (fun n => (some a).bind (f n)) Q := k
theorem Tot.step {α : Type} {g f : Nat → Option α} {P : α → Prop} (h : ∀ k, g (k + 1) = f k) (k : Tot f P) : Tot g P := by
  obtain ⟨r, hr, hp⟩ := k
  exact ⟨r, Ev.step h hr, hp⟩
theorem Tot.congr {α : Type} {g f : Nat → Option α} {P : α → Prop} (h : ∀ k, g k = f k) (k : Tot f P) : Tot g P := by
  obtain ⟨r, hr, hp⟩ := k
  exact ⟨r, Ev.congr h hr, hp⟩
theorem Tot.mono {α : Type} {g : Nat → Option α} {P Q : α → Prop} (h : Tot g P) (k : ∀ r, P r → Q r) : Tot g Q := by
  obtain ⟨r, hr, hp⟩ := h
  exact ⟨r, hr, k r hp⟩
theorem Tot.rounds {α : Type} {g : Nat → Option α} {r : α} (h : Tot g (Eq r)) : ∃ k, g k = some r := by
  obtain ⟨_, hr, rfl⟩ := h
  exact hr.rounds
theorem Tot.ev {α : Type} {g : Nat → Option α} {r : α} (h : Tot g (Eq r)) : Ev g r := by
  obtain ⟨_, hr, rfl⟩ := h
  exact hr
theorem Tot.of {α : Type} {g : Nat → Option α} {r : α} (h : Ev g r) : Tot g (Eq r) := ⟨r, h, rfl⟩
theorem wrap_in {x : Int} (h0 : -9223372036854775808 ≤ x) (h1 : x ≤ 9223372036854775807) : wrap64 x = x := by unfold wrap64; omega
theorem wrap_nat (n : Nat) (h : n < 4611686018427387904) : wrap64 ((n : Int) + 1) = ((n + 1 : Nat) : Int) := by rw [wrap_in] <;> omega
theorem rd_mid (pre suf : List Int) (x : Int) : rd (pre ++ x :: suf) (pre.length : Int) = x := by simp [rd]
theorem rd_get (l : List Int) (i : Nat) (h : i < l.length) : rd l (i : Int) = l[i] := by simp [rd, h]
theorem set_mid {α : Type} (pre suf : List α) (x y : α) : (pre ++ x :: suf).set (pre.length : Int).toNat y = pre ++ y :: suf := by simp
/-! ### Two functions side by side -/
def Two {α β : Type} (g : Nat → Option α) (f : Nat → Option β) (R : α → β → Prop) : Prop := ∃ a b, Ev g a ∧ Ev f b ∧ R a b
section
variable {α β α' β' : Type} {g : Nat → Option α} {f : Nat → Option β} {R : α → β → Prop}
theorem Two.ret {a : α} {b : β} (h : R a b) : Two (fun _ => some a) (fun _ => some b) R := ⟨a, b, Ev.now a, Ev.now b, h⟩
theorem Two.lpos {c : Prop} [Decidable c] {g' : Nat → Option α} (h : c) (t : Two g f R) : Two (fun k => if c then g k else g' k) f R := by
  simp only [if_pos h]; exact t
theorem Two.lneg {c : Prop} [Decidable c] {g' : Nat → Option α} (h : ¬ c) (t : Two g f R) : Two (fun k => if c then g' k else g k) f R := by
  simp only [if_neg h]; exact t
theorem Two.rpos {c : Prop} [Decidable c] {f' : Nat → Option β} (h : c) (t : Two g f R) : Two g (fun k => if c then f k else f' k) R := by
  simp only [if_pos h]; exact t
theorem Two.rneg {c : Prop} [Decidable c] {f' : Nat → Option β} (h : ¬ c) (t : Two g f R) : Two g (fun k => if c then f' k else f k) R := by
  simp only [if_neg h]; exact t
theorem Two.lbind {g' : Nat → α → Option α'} {P : α → Prop} {S : α' → β → Prop} (h : Tot g P) (k : ∀ a, P a → Two (fun n => g' n a) f S) : Two (fun n => (g n).bind (g' n)) f S := by
  obtain ⟨a, ha, hp⟩ := h
  obtain ⟨r, q, hr, hq, hs⟩ := k a hp
  exact ⟨r, q, Ev.bind ha hr, hq, hs⟩
theorem Two.rbind {f' : Nat → β → Option β'} {P : β → Prop} {S : α → β' → Prop} (h : Tot f P) (k : ∀ b, P b → Two g (fun n => f' n b) S) : Two g (fun n => (f n).bind (f' n)) S := by
  obtain ⟨a, ha, hp⟩ := h
  obtain ⟨r, q, hr, hq, hs⟩ := k a hp
  exact ⟨r, q, hr, Ev.bind ha hq, hs⟩
theorem Two.lsome {g' : Nat → α → Option α'} {S : α' → β → Prop} {a : α} (k : Two (fun n => g' n a) f S) : Two (fun n => (some a).bind (g' n)) f S := k
theorem Two.rsome {f' : Nat → β → Option β'} {S : α → β' → Prop} {b : β} (k : Two g (fun n => f' n b) S) : Two g (fun n => (some b).bind (f' n)) S := k
theorem Two.bind {g' : Nat → α → Option α'} {f' : Nat → β → Option β'} {S : α' → β' → Prop} (h : Two g f R) (k : ∀ a b, R a b → Two (fun n => g' n a) (fun n => f' n b) S) : Two (fun n => (g n).bind (g' n)) (fun n => (f n).bind (f' n)) S := by
  obtain ⟨a, b, ha, hb, hp⟩ := h
  obtain ⟨r, q, hr, hq, hs⟩ := k a b hp
  exact ⟨r, q, Ev.bind ha hr, Ev.bind hb hq, hs⟩
theorem Two.lstep {g' : Nat → Option α} (h : ∀ k, g (k + 1) = g' k) (t : Two g' f R) : Two g f R := by
  obtain ⟨a, b, ha, hb, hp⟩ := t
  exact ⟨a, b, Ev.step h ha, hb, hp⟩
theorem Two.rstep {f' : Nat → Option β} (h : ∀ k, f (k + 1) = f' k) (t : Two g f' R) : Two g f R := by
  obtain ⟨a, b, ha, hb, hp⟩ := t
  exact ⟨a, b, ha, Ev.step h hb, hp⟩
theorem Two.mono {S : α → β → Prop} (t : Two g f R) (h : ∀ a b, R a b → S a b) : Two g f S := by
  obtain ⟨a, b, ha, hb, hp⟩ := t
  exact ⟨a, b, ha, hb, h a b hp⟩
theorem Two.eqs {f : Nat → Option α} (t : Two g f Eq) : ∃ v, Tot g (Eq v) ∧ Tot f (Eq v) := by
  obtain ⟨a, b, ha, hb, rfl⟩ := t
  exact ⟨a, ⟨a, ha, rfl⟩, ⟨a, hb, rfl⟩⟩
end
theorem Tot.both {α : Type} {g f : Nat → Option α} {P : α → Prop} (h : ∀ k, g k = f k) (t : Tot f P) : ∃ v, Tot g (Eq v) ∧ Tot f (Eq v) := by
  obtain ⟨v, hv, _⟩ := t
  exact ⟨v, ⟨v, Ev.congr h hv, rfl⟩, ⟨v, hv, rfl⟩⟩
theorem Tot.two {α β : Type} {g : Nat → Option α} {f : Nat → Option β} {P : α → Prop} {Q : β → Prop} {R : α → β → Prop} (t : Tot g P) (s : Tot f Q) (h : ∀ a b, P a → Q b → R a b) : Two g f R := by
  obtain ⟨a, ha, hp⟩ := t
  obtain ⟨b, hb, hq⟩ := s
  exact ⟨a, b, ha, hb, h a b hp hq⟩
theorem mn_eq (a b : Int) : mn a b = if a < b then a else b := by unfold mn; split <;> split <;> omega
theorem tdiv_in {a b : Int} (h : 0 ≤ a) : Int.tdiv a b = a / b := Int.tdiv_eq_ediv_of_nonneg h
theorem tmod_in {a b : Int} (h : 0 ≤ a) : Int.tmod a b = a % b := Int.tmod_eq_emod_of_nonneg h
theorem toIntS_loop (l : List Int) (hn : l.length ≤ 1048576) : ∀ (suf pre rest : List Int), l = pre ++ suf → rest.length = suf.length → Tot (fun k => laws_toIntS.l0 k l (pre ++ rest) (pre.length : Int)) (Eq l) := by
  intro suf
  induction suf with
  | nil =>
    intro pre rest h hr
    obtain rfl : rest = [] := List.eq_nil_of_length_eq_zero (by simpa using hr)
    refine Tot.step (fun k => laws_toIntS.l0.eq_2 _ _ _ _) ?_
    exact Tot.neg (by simp [h]) (Tot.ret (by simp [h]))
  | cons x suf ih =>
    intro pre rest h hr
    match rest, hr with
    | r :: rest, hr =>
    have hp : pre.length < l.length := by simp [h]
    have hr' : rest.length = suf.length := by simpa using hr
    have hl : l.length = pre.length + suf.length + 1 := by simp [h]; omega
    refine Tot.step (fun k => laws_toIntS.l0.eq_2 _ _ _ _) ?_
    refine Tot.pos (by omega) (Tot.pos (by omega) (Tot.pos (by simp; omega) ?_))
    rw [set_mid, wrap_nat _ (by omega), show rd l (pre.length : Int) = x by rw [h, rd_mid]]
    have := ih (pre ++ [x]) rest (by simp [h]) hr'
    simpa using this
theorem toIntS_t (l : List Int) (hn : l.length ≤ 1048576) : Tot (fun k => laws_toIntS.f k l) (Eq l) := by
  unfold laws_toIntS.f
  refine Tot.pos (by omega) (Tot.pos (by omega) ?_)
  exact toIntS_loop l hn l [] _ rfl (by simp)
theorem eqIntS_loop (l : List Int) (hn : l.length ≤ 4611686018427387903) : ∀ (suf pre : List Int), l = pre ++ suf → Tot (fun k => laws_eqIntS.l0 k l l (pre.length : Int)) (Eq true) := by
  intro suf
  induction suf with
  | nil =>
    intro pre h
    refine Tot.step (fun k => laws_eqIntS.l0.eq_2 _ _ _ _) ?_
    exact Tot.neg (by simp [h]) (Tot.ret rfl)
  | cons x suf ih =>
    intro pre h
    have hl : l.length = pre.length + suf.length + 1 := by simp [h]; omega
    refine Tot.step (fun k => laws_eqIntS.l0.eq_2 _ _ _ _) ?_
    refine Tot.pos (by omega) (Tot.pos (by omega) (Tot.pos (by omega) (Tot.pos rfl ?_)))
    rw [wrap_nat _ (by omega)]
    have := ih (pre ++ [x]) (by simp [h])
    simpa using this
theorem eqIntS_t (l : List Int) (hn : l.length ≤ 4611686018427387903) : Tot (fun k => laws_eqIntS.f k l l) (Eq true) := by
  unfold laws_eqIntS.f
  exact Tot.pos rfl (eqIntS_loop l hn l [] rfl)
/-- The numbers from k on. -/
def upN (k : Int) : Nat → List Int
  | 0 => []
  | d + 1 => k :: upN (k + 1) d
theorem upN_length (d : Nat) : ∀ k, (upN k d).length = d := by
  induction d with
  | zero => intro k; rfl
  | succ d ih => intro k; simp [upN, ih]
theorem mark_loop : ∀ (suf pre : List Int) (k : Int), (pre ++ suf).length ≤ 4611686018427387903 → 0 ≤ k → k + suf.length ≤ 4611686018427387904 →
    Tot (fun n => laws_markIntS.l0 n (pre ++ suf) k (pre.length : Int)) (Eq (k + suf.length, pre ++ upN k suf.length)) := by
  intro suf
  induction suf with
  | nil =>
    intro pre k hn h0 h1
    refine Tot.step (fun n => laws_markIntS.l0.eq_2 _ _ _ _) ?_
    exact Tot.neg (by simp) (Tot.ret (by simp [upN]))
  | cons x suf ih =>
    intro pre k hn h0 h1
    have hlen : (pre ++ x :: suf).length = pre.length + suf.length + 1 := by simp; omega
    have hx : (x :: suf).length = suf.length + 1 := rfl
    refine Tot.step (fun n => laws_markIntS.l0.eq_2 _ _ _ _) ?_
    refine Tot.pos (by omega) (Tot.pos (by omega) ?_)
    rw [set_mid, wrap_nat _ (by omega), show wrap64 (k + 1) = k + 1 from wrap_in (by omega) (by omega)]
    have := ih (pre ++ [k]) (k + 1) (by simp; omega) (by omega) (by omega)
    rw [List.append_assoc, List.length_append, List.length_singleton] at this
    refine this.mono fun r hr => ?_
    rw [← hr, hx, upN, List.append_assoc]
    simp; omega
theorem mark_t (l : List Int) (hn : l.length ≤ 1048576) : Tot (fun n => laws_markIntS.f n l 1) (Eq (1 + (l.length : Int), upN 1 l.length)) := by
  unfold laws_markIntS.f
  exact mark_loop l [] 1 (by simp; omega) (by omega) (by omega)
theorem held_loop : ∀ (d : Nat) (pre : List Int) (k : Int), pre.length + d ≤ 4611686018427387903 → 0 ≤ k → k + d ≤ 4611686018427387904 →
    Tot (fun n => laws_heldIntS.l0 n (pre ++ upN k d) k (pre.length : Int)) (Eq (k + d)) := by
  intro d
  induction d with
  | zero =>
    intro pre k hn h0 h1
    refine Tot.step (fun n => laws_heldIntS.l0.eq_2 _ _ _ _) ?_
    exact Tot.neg (by simp [upN]) (Tot.ret (by simp))
  | succ d ih =>
    intro pre k hn h0 h1
    refine Tot.step (fun n => laws_heldIntS.l0.eq_2 _ _ _ _) ?_
    rw [upN]
    refine Tot.pos (by simp; omega) (Tot.pos (by omega) (Tot.pos (by rw [rd_mid]) ?_))
    rw [wrap_nat _ (by omega), show wrap64 (k + 1) = k + 1 from wrap_in (by omega) (by omega)]
    have := ih (pre ++ [k]) (k + 1) (by simp; omega) (by omega) (by omega)
    rw [List.append_assoc, List.length_append, List.length_singleton] at this
    refine this.mono fun r hr => ?_
    rw [← hr]; omega
theorem held_t (d : Nat) (hn : d ≤ 1048576) : Tot (fun n => laws_heldIntS.f n (upN 1 d) 1) (Eq (1 + (d : Int))) := by
  unfold laws_heldIntS.f
  exact held_loop d [] 1 (by simp; omega) (by omega) (by omega)
/-- The rest of a list rises, from p on, within 1..20. -/
def asc : Int → List Int → Bool
  | _, [] => true
  | p, x :: xs => decide (1 ≤ x ∧ x ≤ 20 ∧ p < x) && asc x xs
def kindsB (l : List Int) : Bool := decide (1 ≤ l.length ∧ l.length ≤ 5) && asc 0 l
theorem within_eq (a b c : Int) : impl_within.f a b c = some (decide (b ≤ a ∧ a ≤ c)) := by
  unfold impl_within.f; split <;> simp [*]
theorem l1In_eq (a b c : Int) : spec_l1In.f a b c = some (decide (b ≤ a ∧ a ≤ c)) := by
  unfold spec_l1In.f
  split
  · simp [*]
  · have : ¬ (b ≤ a ∧ a ≤ c) := by omega
    simp [this]
theorem rd_last (pre suf : List Int) (h : pre ≠ []) : rd (pre ++ suf) ((pre.length : Int) - 1) = pre.getLastD 0 := by
  have hp : 0 < pre.length := List.length_pos_iff.2 h
  have : ((pre.length : Int) - 1).toNat = pre.length - 1 := by omega
  simp only [rd, this]
  rw [List.getD_eq_getElem?_getD, List.getElem?_append_left (by omega), List.getLastD_eq_getLast?, List.getLast?_eq_getElem?]
theorem getLastD_snoc (pre : List Int) (x : Int) : (pre ++ [x]).getLastD 0 = x := by simp
theorem implKinds_loop (l : List Int) (hn : l.length ≤ 1048576) : ∀ (suf pre : List Int), l = pre ++ suf → 0 ≤ pre.getLastD 0 → Tot (fun k => impl_AreKinds.l0 k l l (l.length : Int) (pre.length : Int)) (Eq (asc (pre.getLastD 0) suf)) := by
  intro suf
  induction suf with
  | nil =>
    intro pre h _
    refine Tot.step (fun k => impl_AreKinds.l0.eq_2 _ _ _ _ _) ?_
    exact Tot.neg (by simp [h]) (Tot.ret rfl)
  | cons x suf ih =>
    intro pre h hg
    have hl : l.length = pre.length + suf.length + 1 := by simp [h]; omega
    refine Tot.step (fun k => impl_AreKinds.l0.eq_2 _ _ _ _ _) ?_
    refine Tot.pos (by omega) (Tot.pos (by omega) (Tot.pos (by omega) ?_))
    rw [show rd l (pre.length : Int) = x by rw [h, rd_mid], within_eq]
    refine Tot.some_bind ?_
    refine Tot.ite (fun hx => ?_) (fun hx => Tot.ret ?_)
    · have hx' : 1 ≤ x ∧ x ≤ 20 := by simpa using hx
      have key : pre.getLastD 0 < x → Tot (fun k => impl_AreKinds.l0 k l l (l.length : Int) (wrap64 ((pre.length : Int) + 1))) (Eq (asc (pre.getLastD 0) (x :: suf))) := by
        intro hlt
        have := ih (pre ++ [x]) (by simp [h]) (by rw [getLastD_snoc]; omega)
        rw [getLastD_snoc, List.length_append, List.length_singleton] at this
        rw [wrap_nat _ (by omega)]
        refine this.mono fun r hr => ?_
        rw [← hr, asc, decide_eq_true (show 1 ≤ x ∧ x ≤ 20 ∧ pre.getLastD 0 < x from ⟨hx'.1, hx'.2, hlt⟩), Bool.true_and]
      refine Tot.ite (fun hp => ?_) (fun hp => key ?_)
      · have hne : pre ≠ [] := by intro e; simp [e] at hp
        have hw : wrap64 ((pre.length : Int) - 1) = (pre.length : Int) - 1 := wrap_in (by omega) (by omega)
        rw [hw]
        refine Tot.pos (by omega) (Tot.pos (by omega) ?_)
        rw [show rd l ((pre.length : Int) - 1) = pre.getLastD 0 by rw [h]; exact rd_last _ _ hne]
        refine Tot.ite (fun hle => Tot.ret ?_) (fun hle => key (by omega))
        rw [asc, decide_eq_false (show ¬ (1 ≤ x ∧ x ≤ 20 ∧ pre.getLastD 0 < x) from fun e => by omega), Bool.false_and]
      · have : pre = [] := List.eq_nil_of_length_eq_zero (by omega)
        subst this
        simp; omega
    · have hx' : ¬ (1 ≤ x ∧ x ≤ 20) := by simpa using hx
      have : ¬ (1 ≤ x ∧ x ≤ 20 ∧ pre.getLastD 0 < x) := fun e => hx' ⟨e.1, e.2.1⟩
      simp only [asc, this, decide_false, Bool.false_and]
theorem implKinds_t (l : List Int) (hn : l.length ≤ 1048576) : Tot (fun k => impl_AreKinds.f k l) (Eq (kindsB l)) := by
  unfold impl_AreKinds.f
  rw [within_eq]
  refine Tot.some_bind (Tot.ite (fun h => ?_) (fun h => Tot.ret ?_))
  · have h' : 1 ≤ l.length ∧ l.length ≤ 5 := by have := of_decide_eq_true h; omega
    refine (implKinds_loop l hn l [] rfl (by simp)).mono fun r hr => ?_
    simpa [kindsB, h'] using hr
  · have h' : ¬ (1 ≤ l.length ∧ l.length ≤ 5) := by intro e; apply h; simp; omega
    simp only [kindsB, h', decide_false, Bool.false_and]
theorem specRising_eq (k : Nat) (l : List Int) : ∀ (m i : Int), spec_l1Rising.l0 k l 1 20 l m i = impl_AreKinds.l0 k l l m i := by
  induction k with
  | zero => intro m i; rfl
  | succ k ih =>
    intro m i
    rw [spec_l1Rising.l0, impl_AreKinds.l0]
    simp only [ih, l1In_eq, within_eq, ge_iff_le]
theorem specKinds_eq (k : Nat) (l : List Int) : spec_goKinds.f k l = impl_AreKinds.f k l := by
  unfold spec_goKinds.f impl_AreKinds.f spec_l1Rising.f
  simp only [specRising_eq, l1In_eq, within_eq]
  congr 1
  funext t
  split
  · cases impl_AreKinds.l0 k l l (l.length : Int) 0 <;> rfl
  · rfl
theorem asc_all (l : List Int) : ∀ p, asc p l = true → ∀ x ∈ l, 1 ≤ x ∧ x ≤ 20 := by
  induction l with
  | nil => intro p _ x hx; cases hx
  | cons y l ih =>
    intro p h x hx
    simp only [asc, Bool.and_eq_true, decide_eq_true_eq] at h
    rcases List.mem_cons.1 hx with rfl | hx
    · exact ⟨h.1.1, h.1.2.1⟩
    · exact ih _ h.2 x hx
theorem kinds_facts {l : List Int} (h : kindsB l = true) : 1 ≤ l.length ∧ l.length ≤ 5 ∧ ∀ x ∈ l, 1 ≤ x ∧ x ≤ 20 := by
  simp only [kindsB, Bool.and_eq_true, decide_eq_true_eq] at h
  exact ⟨h.1.1, h.1.2, asc_all l 0 h.2⟩
def askedB (l : List Int) (a : Int) : Bool := kindsB l && decide (0 ≤ a ∧ a ≤ 200)
theorem specAsked_eq (k : Nat) (l : List Int) (a : Int) : spec_goAsked.f k l a = impl_isAsked.f k l a := by
  unfold spec_goAsked.f impl_isAsked.f spec_goScore.f
  simp only [specKinds_eq, l1In_eq, within_eq, Option.bind_some]
theorem asked_t (l : List Int) (a : Int) (hn : l.length ≤ 1048576) : Tot (fun k => impl_isAsked.f k l a) (Eq (askedB l a)) := by
  unfold impl_isAsked.f
  refine Tot.bind (implKinds_t l hn) ?_
  rintro _ rfl
  simp only [within_eq, Option.bind_some]
  refine Tot.ite (fun h => Tot.ret ?_) (fun h => Tot.ret ?_)
  · simp [askedB, h]
  · simp [askedB, h]
theorem asked_facts {l : List Int} {a : Int} (h : askedB l a = true) : (1 ≤ l.length ∧ l.length ≤ 5 ∧ ∀ x ∈ l, 1 ≤ x ∧ x ≤ 20) ∧ 0 ≤ a ∧ a ≤ 200 := by
  simp only [askedB, Bool.and_eq_true, decide_eq_true_eq] at h
  exact ⟨kinds_facts h.1, h.2.1, h.2.2⟩
theorem rd_set (xs : List Int) (s t v : Int) (h0 : 0 ≤ s) (h1 : s < xs.length) (ht : 0 ≤ t) : rd (xs.set s.toNat v) t = if t = s then v else rd xs t := by
  unfold rd
  rw [List.getD_eq_getElem?_getD, List.getD_eq_getElem?_getD, List.getElem?_set]
  by_cases e : t = s
  · subst e
    rw [if_pos rfl, if_pos (by omega), if_pos rfl]; rfl
  · rw [if_neg (by omega), if_neg e]
/-- What stands for a score s when the kinds of l' have been looked at. -/
def Cur (l' xs : List Int) (s : Int) : Prop :=
  -1 ≤ rd xs s ∧ rd xs s ≤ s ∧ (0 ≤ rd xs s → ∃ x ∈ l', x ≤ s ∧ 0 ≤ rd xs (s - x) ∧ rd xs s = rd xs (s - x) + 1) ∧ (rd xs s < 0 → ∀ x ∈ l', x ≤ s → rd xs (s - x) < 0)
def FewOK (l xs : List Int) (s : Int) : Prop := rd xs 0 = 0 ∧ ∀ t, 1 ≤ t → t < s → Cur l xs t
theorem few_set {l xs : List Int} {s v : Int} (hk : ∀ x ∈ l, 1 ≤ x ∧ x ≤ 20) (s1 : 1 ≤ s) (s2 : s < xs.length) (h : FewOK l xs s) : FewOK l (xs.set s.toNat v) s := by
  have e : ∀ t, 0 ≤ t → t < s → rd (xs.set s.toNat v) t = rd xs t := fun t h0 h1 => by rw [rd_set xs s t v (by omega) s2 h0, if_neg (by omega)]
  refine ⟨by rw [e 0 (by omega) (by omega)]; exact h.1, fun t t1 t2 => ?_⟩
  have hc := h.2 t t1 t2
  have et := e t (by omega) t2
  refine ⟨by rw [et]; exact hc.1, by rw [et]; exact hc.2.1, fun h0 => ?_, fun h0 x hx hxt => ?_⟩
  · rw [et] at h0 ⊢
    obtain ⟨x, hx, h1, h2, h3⟩ := hc.2.2.1 h0
    have := hk x hx
    exact ⟨x, hx, h1, by rw [e _ (by omega) (by omega)]; exact h2, by rw [e _ (by omega) (by omega)]; exact h3⟩
  · rw [et] at h0
    have := hk x hx
    rw [e _ (by omega) (by omega)]
    exact hc.2.2.2 h0 x hx hxt
theorem few_l1 (l : List Int) (a : Int) (h0 : 0 ≤ a) (h1 : a ≤ 1000) (hl : l.length ≤ 5) (hk : ∀ x ∈ l, 1 ≤ x ∧ x ≤ 20) (s : Int) (s1 : 1 ≤ s) (s2 : s ≤ a) (P : List Int → Prop)
    (K : ∀ xs : List Int, xs.length = a.toNat + 1 → FewOK l xs s → Cur l xs s → Tot (fun k => impl_fewGoals.l0 k l a xs (wrap64 (s + 1))) P) :
    ∀ (suf pre xs : List Int), l = pre ++ suf → xs.length = a.toNat + 1 → FewOK l xs s → Cur pre xs s → Tot (fun k => impl_fewGoals.l1 k l a xs s l (l.length : Int) (pre.length : Int)) P := by
  intro suf
  induction suf with
  | nil =>
    intro pre xs h hx hf hc
    refine Tot.step (fun k => impl_fewGoals.l1.eq_2 _ _ _ _ _ _ _ _) ?_
    rw [List.append_nil] at h
    exact Tot.neg (by simp [h]) (K xs hx hf (h ▸ hc))
  | cons x suf ih =>
    intro pre xs h hx hf hc
    have hp := hk x (by simp [h])
    have hlen : l.length = pre.length + suf.length + 1 := by simp [h]; omega
    have nxt : ∀ ys : List Int, ys.length = a.toNat + 1 → FewOK l ys s → Cur (pre ++ [x]) ys s → Tot (fun k => impl_fewGoals.l1 k l a ys s l (l.length : Int) (wrap64 ((pre.length : Int) + 1))) P := by
      intro ys hy hfy hcy
      rw [wrap_nat _ (by omega)]
      have := ih (pre ++ [x]) ys (by simp [h]) hy hfy hcy
      simpa using this
    have c1 := hc.1
    have c2 := hc.2.1
    have same : ¬ (x ≤ s ∧ 0 ≤ rd xs (s - x)) ∨ (0 ≤ rd xs s) → Cur (pre ++ [x]) xs s := by
      intro hor
      refine ⟨c1, c2, fun g0 => ?_, fun g0 y hy hys => ?_⟩
      · obtain ⟨z, hz, hz1⟩ := hc.2.2.1 g0
        exact ⟨z, by simp [hz], hz1⟩
      · rcases List.mem_append.1 hy with hy | hy
        · exact hc.2.2.2 g0 y hy hys
        · obtain rfl : y = x := by simpa using hy
          rcases hor with hor | hor
          · exact Int.not_le.1 fun e => hor ⟨hys, e⟩
          · omega
    have put : x ≤ s → 0 ≤ rd xs (s - x) → Tot (fun k => impl_fewGoals.l1 k l a (xs.set s.toNat (wrap64 (rd xs (s - x) + 1))) s l (l.length : Int) (wrap64 ((pre.length : Int) + 1))) P := by
      intro g1 g2
      have bnd : rd xs (s - x) ≤ s - x := by
        by_cases e : s - x = 0
        · rw [e, hf.1]; omega
        · exact (hf.2 (s - x) (by omega) (by omega)).2.1
      rw [show wrap64 (rd xs (s - x) + 1) = rd xs (s - x) + 1 from wrap_in (by omega) (by omega)]
      have es : rd (xs.set s.toNat (rd xs (s - x) + 1)) s = rd xs (s - x) + 1 := by rw [rd_set _ _ _ _ (by omega) (by omega) (by omega), if_pos rfl]
      have ex : ∀ y, 1 ≤ y → y ≤ s → rd (xs.set s.toNat (rd xs (s - x) + 1)) (s - y) = rd xs (s - y) := fun y y1 y2 => by rw [rd_set _ _ _ _ (by omega) (by omega) (by omega), if_neg (by omega)]
      refine nxt _ (by simpa using hx) (few_set hk s1 (by omega) hf) ⟨by omega, by omega, fun _ => ⟨x, by simp, g1, by rw [ex x hp.1 g1]; exact g2, by rw [es, ex x hp.1 g1]⟩, fun g => by omega⟩
    refine Tot.step (fun k => impl_fewGoals.l1.eq_2 _ _ _ _ _ _ _ _) ?_
    refine Tot.pos (by omega) (Tot.pos (by omega) (Tot.pos (by omega) ?_))
    rw [show rd l (pre.length : Int) = x by rw [h, rd_mid], show wrap64 (s - x) = s - x from wrap_in (by omega) (by omega)]
    refine Tot.ite (fun g1 => ?_) (fun g1 => nxt xs hx hf (same (.inl fun e => g1 e.1)))
    refine Tot.pos (by omega) (Tot.pos (by omega) (Tot.ite (fun g2 => ?_) (fun g2 => nxt xs hx hf (same (.inl fun e => g2 e.2)))))
    refine Tot.pos (by omega) (Tot.pos (by omega) (Tot.ite (fun g3 => put g1 g2) (fun g3 => ?_)))
    refine Tot.ite (fun g4 => put g1 g2) (fun g4 => nxt xs hx hf (same (.inr (by omega))))
theorem few_l0 (l : List Int) (a : Int) (h0 : 0 ≤ a) (h1 : a ≤ 1000) (hl : l.length ≤ 5) (hk : ∀ x ∈ l, 1 ≤ x ∧ x ≤ 20) :
    ∀ (d : Nat) (s : Int) (xs : List Int), 1 ≤ s → s + d = a + 1 → xs.length = a.toNat + 1 → FewOK l xs s → Tot (fun k => impl_fewGoals.l0 k l a xs s) (fun ys => ys.length = a.toNat + 1 ∧ FewOK l ys (a + 1)) := by
  intro d
  induction d with
  | zero =>
    intro s xs hs hd hx hf
    refine Tot.step (fun k => impl_fewGoals.l0.eq_2 _ _ _ _ _) ?_
    exact Tot.neg (by omega) (Tot.ret ⟨hx, by rwa [show a + 1 = s by omega]⟩)
  | succ d ih =>
    intro s xs hs hd hx hf
    refine Tot.step (fun k => impl_fewGoals.l0.eq_2 _ _ _ _ _) ?_
    refine Tot.pos (by omega) (Tot.pos (by omega) (Tot.pos (by omega) ?_))
    have es : rd (xs.set s.toNat (-1)) s = -1 := by rw [rd_set _ _ _ _ (by omega) (by omega) (by omega), if_pos rfl]
    refine few_l1 l a h0 h1 hl hk s hs (by omega) _ (fun ys hy hf hc => ?_) l [] _ rfl (by simpa using hx) (few_set hk hs (by omega) hf) ⟨by omega, by omega, fun g => by omega, fun _ x hx => by cases hx⟩
    rw [show wrap64 (s + 1) = s + 1 from wrap_in (by omega) (by omega)]
    refine ih _ _ (by omega) (by omega) hy ⟨hf.1, fun t t1 t2 => ?_⟩
    by_cases e : t = s
    · exact e ▸ hc
    · exact hf.2 t t1 (by omega)
theorem few_t (l : List Int) (a : Int) (h0 : 0 ≤ a) (h1 : a ≤ 1000) (hl : l.length ≤ 5) (hk : ∀ x ∈ l, 1 ≤ x ∧ x ≤ 20) : Tot (fun k => impl_fewGoals.f k l a) (fun ys => ys.length = a.toNat + 1 ∧ FewOK l ys (a + 1)) := by
  unfold impl_fewGoals.f
  rw [show wrap64 (a + 1) = a + 1 from wrap_in (by omega) (by omega)]
  refine Tot.pos (by omega) (Tot.pos (by omega) ?_)
  refine few_l0 l a h0 h1 hl hk a.toNat 1 _ (by omega) (by omega) (by simp; omega) ⟨?_, fun t t1 t2 => by omega⟩
  rw [show (a + 1).toNat = a.toNat + 1 by omega]
  rfl
theorem few_eqs (k : Nat) : (∀ l a xs s, spec_goFew.l0 k l a xs s = impl_fewGoals.l0 k l a xs s) ∧ (∀ l a xs s l' m i, spec_goFew.l1 k l a xs s l' m i = impl_fewGoals.l1 k l a xs s l' m i) := by
  induction k with
  | zero => exact ⟨fun _ _ _ _ => rfl, fun _ _ _ _ _ _ _ => rfl⟩
  | succ k ih =>
    refine ⟨fun l a xs s => ?_, fun l a xs s l' m i => ?_⟩
    · rw [spec_goFew.l0, impl_fewGoals.l0]; simp only [ih.1, ih.2]
    · rw [spec_goFew.l1, impl_fewGoals.l1]; simp only [ih.1, ih.2]
theorem few_eq (k : Nat) (l : List Int) (a : Int) : spec_goFew.f k l a = impl_fewGoals.f k l a := by
  unfold spec_goFew.f impl_fewGoals.f; simp only [(few_eqs k).1]
/-- Goals of the first m kinds can make just s points, with just q goals. -/
def RepM (l : List Int) : Nat → Int → Int → Prop
  | 0, s, q => s = 0 ∧ q = 0
  | m + 1, s, q => ∃ n : Int, 0 ≤ n ∧ RepM l m (s - n * l.getD m 0) (q - n)
theorem rep_zero (l : List Int) : ∀ m, RepM l m 0 0
  | 0 => ⟨rfl, rfl⟩
  | m + 1 => ⟨0, Int.le_refl 0, by rw [Int.zero_mul, Int.sub_zero]; exact rep_zero l m⟩
theorem rep_more (l : List Int) (i : Nat) : ∀ (m : Nat) (s q : Int), i < m → RepM l m s q → RepM l m (s + l.getD i 0) (q + 1)
  | 0, s, q, h, _ => absurd h (Nat.not_lt_zero _)
  | m + 1, s, q, h, ⟨n, hn, hr⟩ => by
    by_cases e : i = m
    · subst e
      refine ⟨n + 1, by omega, ?_⟩
      have e1 : s + l.getD i 0 - (n + 1) * l.getD i 0 = s - n * l.getD i 0 := by rw [Int.add_mul, Int.one_mul]; omega
      have e2 : q + 1 - (n + 1) = q - n := by omega
      rw [e1, e2]
      exact hr
    · refine ⟨n, hn, ?_⟩
      have e1 : s + l.getD i 0 - n * l.getD m 0 = s - n * l.getD m 0 + l.getD i 0 := by omega
      have e2 : q + 1 - n = q - n + 1 := by omega
      rw [e1, e2]
      exact rep_more l i m _ _ (by omega) hr
theorem getD_pos {l : List Int} (hk : ∀ x ∈ l, 1 ≤ x ∧ x ≤ 20) {m : Nat} (h : m < l.length) : 1 ≤ l.getD m 0 ∧ l.getD m 0 ≤ 20 := by
  rw [List.getD_eq_getElem?_getD, List.getElem?_eq_getElem h]
  exact hk _ (List.getElem_mem h)
theorem rep_pos {l : List Int} (hk : ∀ x ∈ l, 1 ≤ x ∧ x ≤ 20) : ∀ (m : Nat) (s q : Int), m ≤ l.length → RepM l m s q → 0 ≤ s ∧ 0 ≤ q
  | 0, s, q, _, ⟨h1, h2⟩ => by omega
  | m + 1, s, q, h, ⟨n, hn, hr⟩ => by
    have h1 := rep_pos hk m _ _ (by omega) hr
    have h2 := getD_pos hk (m := m) (by omega)
    have h3 : 0 ≤ n * l.getD m 0 := Int.mul_nonneg hn (by omega)
    omega
/-- What a table of fewest goals tells, goals make. -/
theorem few_rep {l ys : List Int} {a : Int} (hf : FewOK l ys (a + 1)) (hk : ∀ x ∈ l, 1 ≤ x ∧ x ≤ 20) : ∀ (d : Nat) (s : Int), s.toNat ≤ d → 0 ≤ s → s ≤ a → 0 ≤ rd ys s → RepM l l.length s (rd ys s)
  | d, s, hd, h0, h1, h2 => by
    by_cases e : s = 0
    · subst e
      rw [hf.1]
      exact rep_zero l _
    · obtain ⟨_, _, hc, _⟩ := hf.2 s (by omega) (by omega)
      obtain ⟨x, hx, x1, x2, x3⟩ := hc h2
      have hx1 := hk x hx
      cases d with
      | zero => omega
      | succ d =>
        have ih := few_rep hf hk d (s - x) (by omega) (by omega) (by omega) x2
        obtain ⟨i, hi, hix⟩ := List.getElem_of_mem hx
        have := rep_more l i l.length _ _ hi ih
        rw [show l.getD i 0 = x by rw [List.getD_eq_getElem?_getD, List.getElem?_eq_getElem hi, hix]; rfl, ← x3, show s - x + x = s by omega] at this
        exact this
theorem loop_finds (f : Int → Int → Option (List Int)) (s q x : Int) (n : Nat) (ns : List Int) (h : f (s - (n : Int) * x) (q - n) = some ns) : ∀ d : Nat, n < d → ∃ ms, Goal.loopL f s q x d = some ms
  | 0, hd => absurd hd (Nat.not_lt_zero _)
  | d + 1, hd => by
    unfold Goal.loopL
    cases hq : f (s - (d : Int) * x) (q - d) with
    | some ms => exact ⟨_, rfl⟩
    | none =>
      refine loop_finds f s q x n ns h d ?_
      by_cases e : n = d
      · subst e
        rw [h] at hq
        cases hq
      · omega
theorem first_finds {l : List Int} (hk : ∀ x ∈ l, 1 ≤ x ∧ x ≤ 20) : ∀ (m : Nat) (s q : Int), m ≤ l.length → RepM l m s q → ∃ ns, Goal.firstL l m s q = some ns
  | 0, s, q, _, ⟨h1, h2⟩ => ⟨[], by unfold Goal.firstL; rw [if_pos ⟨h1, h2⟩]⟩
  | m + 1, s, q, h, ⟨n, hn, hr⟩ => by
    obtain ⟨ns, hns⟩ := first_finds hk m _ _ (by omega) hr
    obtain ⟨h1, h2⟩ := rep_pos hk m _ _ (by omega) hr
    have hx := getD_pos hk (m := m) (by omega)
    obtain ⟨k, rfl⟩ : ∃ k : Nat, n = (k : Int) := ⟨n.toNat, by omega⟩
    have hle : (k : Int) ≤ s / l.getD m 0 := (Int.le_ediv_iff_mul_le (by omega)).mpr (by omega)
    unfold Goal.firstL
    exact loop_finds _ s q _ k ns hns _ (by omega)
theorem least_f (a b : Int) : spec_l1Least.f a b = some (min a b) := by
  unfold spec_l1Least.f
  split
  · rw [Int.min_eq_left (by omega)]
  · rw [Int.min_eq_right (by omega)]
theorem first_len (l : List Int) : ∀ (m : Nat) (s q : Int) (ns : List Int), Goal.firstL l m s q = some ns → ns.length = m
  | 0, s, q, ns, h => by
    unfold Goal.firstL at h
    split at h
    · injection h with h
      subst h
      rfl
    · cases h
  | m + 1, s, q, ns, h => by
    unfold Goal.firstL at h
    generalize (min q (s / l.getD m 0)).toNat + 1 = d at h
    induction d with
    | zero => cases h
    | succ d ih =>
      unfold Goal.loopL at h
      cases hq : Goal.firstL l m (s - (d : Int) * l.getD m 0) (q - d) with
      | some ms =>
        rw [hq] at h
        simp only [Option.some.injEq] at h
        rw [← h, List.length_append, first_len l m _ _ ms hq, List.length_singleton]
      | none =>
        rw [hq] at h
        exact ih h
def goV (r : Option (List Int)) : List Int × Bool := match r with
  | some ns => (ns, true)
  | none => ([], false)
theorem goFirst_t {l : List Int} (hl : l.length ≤ 5) (hk : ∀ x ∈ l, 1 ≤ x ∧ x ≤ 20) : ∀ (m : Nat) (s q : Int), m ≤ l.length → 0 ≤ s → s ≤ 200 → 0 ≤ q → q ≤ 200 → Tot (fun k => spec_goFirst.f k l ((m : Int) - 1) s q) (Eq (goV (Goal.firstL l m s q)))
  | 0, s, q, _, _, _, _, _ => by
    refine Tot.step (fun k => spec_goFirst.f.eq_2 _ _ _ _ _) ?_
    refine Tot.pos (by omega) ?_
    by_cases h1 : s = 0
    · refine Tot.pos h1 (Tot.ret ?_)
      by_cases h2 : q = 0
      · unfold Goal.firstL goV
        rw [if_pos ⟨h1, h2⟩, h2]
        rfl
      · unfold Goal.firstL goV
        rw [if_neg (fun h => h2 h.2), show (q == 0) = false by simpa using h2]
    · refine Tot.neg h1 (Tot.ret ?_)
      unfold Goal.firstL goV
      rw [if_neg (fun h => h1 h.1)]
  | m + 1, s, q, hm, s0, s1, q0, q1 => by
    have hx := getD_pos hk (m := m) (by omega)
    have hrd : rd l (m : Int) = l.getD m 0 := rfl
    have hd1 : 0 ≤ s / l.getD m 0 := Int.ediv_nonneg s0 (by omega)
    have hd2 : s / l.getD m 0 ≤ s := Int.ediv_le_self _ s0
    refine Tot.step (fun k => spec_goFirst.f.eq_2 _ _ _ _ _) ?_
    rw [show (((m + 1 : Nat) : Int) - 1) = (m : Int) by omega]
    refine Tot.neg (by omega) (Tot.pos (by omega) (Tot.pos (by omega) (Tot.neg (by rw [hrd]; omega) ?_)))
    rw [hrd, Int.tdiv_eq_ediv_of_nonneg s0, wrap_in (x := s / l.getD m 0) (by omega) (by omega), least_f]
    refine Tot.some_bind ?_
    unfold Goal.firstL
    have key : ∀ d : Nat, (d : Int) - 1 ≤ min q (s / l.getD m 0) → Tot (fun k => spec_goFirst.l0 k l (m : Int) s q ((d : Int) - 1)) (Eq (goV (Goal.loopL (Goal.firstL l m) s q (l.getD m 0) d))) := by
      intro d
      induction d with
      | zero =>
        intro _
        refine Tot.step (fun k => spec_goFirst.l0.eq_2 _ _ _ _ _ _) ?_
        exact Tot.neg (by omega) (Tot.ret rfl)
      | succ d ih =>
        intro hd
        rw [show (((d + 1 : Nat) : Int) - 1) = (d : Int) by omega] at hd ⊢
        obtain ⟨m1, m2⟩ := Goal.f_mul (d := (d : Int)) (x := l.getD m 0) (s := s) (by omega) hx.1 (by omega)
        refine Tot.step (fun k => spec_goFirst.l0.eq_2 _ _ _ _ _ _) ?_
        refine Tot.pos (by omega) (Tot.pos (by omega) (Tot.pos (by omega) ?_))
        rw [hrd, wrap_in (x := (d : Int) * l.getD m 0) (by omega) (by omega), wrap_in (x := s - (d : Int) * l.getD m 0) (by omega) (by omega), wrap_in (x := q - (d : Int)) (by omega) (by omega), wrap_in (x := (m : Int) - 1) (by omega) (by omega)]
        refine Tot.bind (goFirst_t hl hk m _ _ (by omega) (by omega) (by omega) (by omega) (by omega)) ?_
        rintro _ rfl
        unfold Goal.loopL
        cases hq : Goal.firstL l m (s - (d : Int) * l.getD m 0) (q - d) with
        | some ns =>
          have := first_len l m _ _ ns hq
          refine Tot.pos rfl (Tot.pos ?_ (Tot.ret rfl))
          show ns.length < 17592186044416
          omega
        | none =>
          refine Tot.neg (by decide) ?_
          rw [wrap_in (x := (d : Int) - 1) (by omega) (by omega)]
          exact ih (by omega)
    have := key ((min q (s / l.getD m 0)).toNat + 1) (by omega)
    rw [show ((((min q (s / l.getD m 0)).toNat + 1 : Nat) : Int) - 1) = min q (s / l.getD m 0) by omega] at this
    exact this
theorem both (l : List Int) (a : Int) (hn : l.length ≤ 1048576) : ∃ v : List Int × Bool, v.1.length ≤ 1048576 ∧ Tot (fun k => spec_FirstGoals.f k l a) (Eq v) ∧ Tot (fun k => impl_FirstGoals.f k l a) (Eq v) := by
  by_cases h : askedB l a = true
  case neg =>
    refine ⟨([], false), Nat.zero_le _, ?_, ?_⟩
    · unfold spec_FirstGoals.f
      simp only [specAsked_eq]
      refine Tot.bind (asked_t l a hn) ?_
      rintro _ rfl
      exact Tot.neg h (Tot.ret rfl)
    · unfold impl_FirstGoals.f impl_FewestGoals.f
      refine Tot.bind (P := Eq (0, false)) ?_ (by rintro _ rfl; exact Tot.ret rfl)
      refine Tot.bind (asked_t l a hn) ?_
      rintro _ rfl
      exact Tot.neg h (Tot.ret rfl)
  obtain ⟨⟨k1, k2, k3⟩, a1, a2⟩ := asked_facts h
  obtain ⟨ys, hev, hy, hf⟩ := few_t l a a1 (by omega) k2 k3
  have T : Tot (fun k => impl_fewGoals.f k l a) (Eq ys) := Tot.of hev
  have hbnd : rd ys a ≤ a := by
    by_cases e : a = 0
    · subst e
      rw [hf.1]
      omega
    · exact (hf.2 a (by omega) (by omega)).2.1
  have I : Tot (fun k => impl_FewestGoals.f k l a) (Eq (mx (rd ys a) 0, decide (rd ys a ≥ 0))) := by
    unfold impl_FewestGoals.f
    refine Tot.bind (asked_t l a hn) ?_
    rintro _ rfl
    refine Tot.pos h ?_
    refine Tot.bind T ?_
    rintro _ rfl
    exact Tot.pos (by omega) (Tot.pos (by omega) (Tot.ret rfl))
  by_cases hq : rd ys a < 0
  · refine ⟨([], false), Nat.zero_le _, ?_, ?_⟩
    · unfold spec_FirstGoals.f
      simp only [specAsked_eq, few_eq]
      refine Tot.bind (asked_t l a hn) ?_
      rintro _ rfl
      refine Tot.pos h ?_
      refine Tot.bind T ?_
      rintro _ rfl
      exact Tot.pos (by omega) (Tot.pos (by omega) (Tot.pos hq (Tot.ret rfl)))
    · unfold impl_FirstGoals.f
      refine Tot.bind I ?_
      rintro _ rfl
      refine Tot.ret (P := Eq ([], false)) (r := ([], false)) rfl |> Tot.congr (fun k => ?_)
      unfold Goal.firstOf
      rw [if_neg (by simp; omega)]
  · obtain ⟨ns, hns⟩ := first_finds k3 l.length a (rd ys a) (Nat.le_refl _) (few_rep hf k3 a.toNat a (Nat.le_refl _) a1 (by omega) (by omega))
    have hlen := first_len l _ _ _ ns hns
    refine ⟨(ns, true), by simp only; omega, ?_, ?_⟩
    · unfold spec_FirstGoals.f
      simp only [specAsked_eq, few_eq]
      refine Tot.bind (asked_t l a hn) ?_
      rintro _ rfl
      refine Tot.pos h ?_
      refine Tot.bind T ?_
      rintro _ rfl
      refine Tot.pos (by omega) (Tot.pos (by omega) (Tot.neg hq ?_))
      rw [wrap_in (x := (l.length : Int) - 1) (by omega) (by omega)]
      refine Tot.bind (goFirst_t k2 k3 l.length a (rd ys a) (Nat.le_refl _) a1 a2 (by omega) (by omega)) ?_
      rintro _ rfl
      rw [hns]
      exact Tot.ret rfl
    · unfold impl_FirstGoals.f
      refine Tot.bind I ?_
      rintro _ rfl
      refine Tot.ret (P := Eq (ns, true)) (r := (ns, true)) rfl |> Tot.congr (fun k => ?_)
      have hm : mx (rd ys a) 0 = rd ys a := by unfold mx; omega
      unfold Goal.firstOf
      rw [if_pos (by simp; omega), hm, if_pos (Goal.okF_iff.mpr ⟨⟨⟨k1, k2⟩, ⟨a1, a2⟩, by omega, by omega⟩, k3⟩), hns]
      rfl
theorem FnExactFirstGoals : laws_FnExactFirstGoals.Pure := by
  intro l a h1 h2 h3 h4
  refine Tot.rounds ?_
  unfold laws_FnExactFirstGoals.f
  refine Tot.ite (fun _ => Tot.ret rfl) (fun hn => ?_)
  have hn' : l.length ≤ 1048576 := by omega
  obtain ⟨v, hv, A, B⟩ := both l a hn'
  have hx := toIntS_t l hn'
  have he := eqIntS_t v.1 (by omega)
  refine Tot.bind hx ?_
  rintro _ rfl
  refine Tot.bind A ?_
  rintro _ rfl
  refine Tot.bind hx ?_
  rintro _ rfl
  refine Tot.bind B ?_
  rintro _ rfl
  refine Tot.bind he ?_
  rintro _ rfl
  refine Tot.pos rfl ?_
  refine Tot.step (fun k => laws_FnExactFirstGoals.j0.eq_2 _ _ _ _ _ _ _ _ _) ?_
  refine Tot.neg (by simp) ?_
  refine Tot.bind hx ?_
  rintro _ rfl
  refine Tot.bind (eqIntS_t l (by omega)) ?_
  rintro _ rfl
  refine Tot.pos rfl ?_
  refine Tot.bind (mark_t l hn') ?_
  rintro _ rfl
  refine Tot.neg (by simp; omega) ?_
  refine Tot.bind he ?_
  rintro _ rfl
  refine Tot.pos rfl ?_
  refine Tot.step (fun k => laws_FnExactFirstGoals.j1.eq_2 _ _ _ _ _ _ _) ?_
  refine Tot.neg (by simp) ?_
  refine Tot.bind (mark_t v.1 hv) ?_
  rintro _ rfl
  refine Tot.bind (held_t v.1.length hv) ?_
  rintro _ rfl
  refine Tot.neg (by omega) (Tot.pos rfl ?_)
  refine Tot.bind hx ?_
  rintro _ rfl
  refine Tot.bind B ?_
  rintro _ rfl
  refine Tot.bind he ?_
  rintro _ rfl
  refine Tot.pos rfl ?_
  refine Tot.step (fun k => laws_FnExactFirstGoals.j2.eq_2 _ _ _ _) ?_
  refine Tot.neg (by simp) ?_
  refine Tot.bind (held_t v.1.length hv) ?_
  rintro _ rfl
  exact Tot.neg (by omega) (Tot.pos rfl (Tot.ret rfl))
end Go.Proofs.Ytcpebdjklameeaa.Pure
namespace Go.Proofs.Ytcpebdjklameeaa.PrintWords
theorem sized_ints : type_of% @Go.Proofs.YtcpebdjklameeaaW.PrintWords.sized_ints := @Go.Proofs.YtcpebdjklameeaaW.PrintWords.sized_ints
end Go.Proofs.Ytcpebdjklameeaa.PrintWords
