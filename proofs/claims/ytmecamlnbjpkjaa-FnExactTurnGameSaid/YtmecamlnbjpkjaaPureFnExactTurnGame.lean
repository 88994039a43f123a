/- The program's TurnGame answers as the reference's does, for every list of at most 1048576 numbers as kinds and every text; for a longer list or text nothing is asked. -/
import Derived.Test.YtmecamlnbjpkjaaMFnExactTurnGamex3
import Derived.Test.YtmecamlnbjpkjaaWSized
set_option linter.unusedVariables false
set_option linter.unusedSimpArgs false
namespace Go.Proofs.Ytmecamlnbjpkjaa.Pure
open Go.RowKit Go.Proofs.Ytmecamlnbjpkjaa.MFnExactTurnGame Go.Proofs.YtmecamlnbjpkjaaW.PrintWords Go.Proofs.YtmecamlnbjpkjaaW.PrintLast
/-! ### Rounds: some number of rounds on, a function tells r, and r has a property -/
def Tot {α : Type} (g : Nat → Option α) (P : α → Prop) : Prop := ∃ r, Ev g r ∧ P r
theorem Tot.ret {α : Type} {P : α → Prop} {r : α} (h : P r) : Tot (fun _ => some r) P := ⟨r, Ev.now r, h⟩
theorem Tot.pos {α : Type} {c : Prop} [Decidable c] {f g : Nat → Option α} {P : α → Prop} (h : c) (hf : Tot f P) : Tot (fun k => if c then f k else g k) P := by
  simp only [if_pos h]; exact hf
theorem Tot.neg {α : Type} {c : Prop} [Decidable c] {f g : Nat → Option α} {P : α → Prop} (h : ¬ c) (hg : Tot g P) : Tot (fun k => if c then f k else g k) P := by
  simp only [if_neg h]; exact hg
theorem Tot.ite {α : Type} {c : Prop} [Decidable c] {f g : Nat → Option α} {P : α → Prop} (hf : c → Tot f P) (hg : ¬ c → Tot g P) : Tot (fun k => if c then f k else g k) P := by
  by_cases h : c
  · exact Tot.pos h (hf h)
  · exact Tot.neg h (hg h)
theorem Tot.bind {α β : Type} {g : Nat → Option α} {f : Nat → α → Option β} {P : α → Prop} {Q : β → Prop} (h : Tot g P) (k : ∀ a, P a → Tot (fun n => f n a) Q) : Tot (fun n => (g n).bind (f n)) Q := by
  obtain ⟨a, ha, hp⟩ := h
  obtain ⟨r, hr, hq⟩ := k a hp
  exact ⟨r, Ev.bind ha hr, hq⟩
theorem Tot.some_bind {α β : Type} {f : Nat → α → Option β} {Q : β → Prop} {a : α} (k : Tot (fun n => f n a) Q) : Tot (fun n => (some a).bind (f n)) Q := k
theorem Tot.step {α : Type} {g f : Nat → Option α} {P : α → Prop} (h : ∀ k, g (k + 1) = f k) (k : Tot f P) : Tot g P := by
  obtain ⟨r, hr, hp⟩ := k
  exact ⟨r, Ev.step h hr, hp⟩
theorem Tot.congr {α : Type} {g f : Nat → Option α} {P : α → Prop} (h : ∀ k, g k = f k) (k : Tot f P) : Tot g P := by
  obtain ⟨r, hr, hp⟩ := k
  exact ⟨r, Ev.congr h hr, hp⟩
theorem Tot.mono {α : Type} {g : Nat → Option α} {P Q : α → Prop} (h : Tot g P) (k : ∀ r, P r → Q r) : Tot g Q := by
  obtain ⟨r, hr, hp⟩ := h
  exact ⟨r, hr, k r hp⟩
theorem Tot.rounds {α : Type} {g : Nat → Option α} {r : α} (h : Tot g (Eq r)) : ∃ k, g k = some r := by
  obtain ⟨_, hr, rfl⟩ := h
  exact hr.rounds
theorem Tot.ev {α : Type} {g : Nat → Option α} {r : α} (h : Tot g (Eq r)) : Ev g r := by
  obtain ⟨_, hr, rfl⟩ := h
  exact hr
theorem Tot.of {α : Type} {g : Nat → Option α} {r : α} (h : Ev g r) : Tot g (Eq r) := ⟨r, h, rfl⟩
theorem wrap_in {x : Int} (h0 : -9223372036854775808 ≤ x) (h1 : x ≤ 9223372036854775807) : wrap64 x = x := by unfold wrap64; omega
theorem wrap_nat (n : Nat) (h : n < 4611686018427387904) : wrap64 ((n : Int) + 1) = ((n + 1 : Nat) : Int) := by rw [wrap_in] <;> omega
theorem rd_mid (pre suf : List Int) (x : Int) : rd (pre ++ x :: suf) (pre.length : Int) = x := by simp [rd]
theorem rd_get (l : List Int) (i : Nat) (h : i < l.length) : rd l (i : Int) = l[i] := by simp [rd, h]
theorem set_mid {α : Type} (pre suf : List α) (x y : α) : (pre ++ x :: suf).set (pre.length : Int).toNat y = pre ++ y :: suf := by simp
/-! ### Two functions side by side -/
def Two {α β : Type} (g : Nat → Option α) (f : Nat → Option β) (R : α → β → Prop) : Prop := ∃ a b, Ev g a ∧ Ev f b ∧ R a b
section
variable {α β α' β' : Type} {g : Nat → Option α} {f : Nat → Option β} {R : α → β → Prop}
theorem Two.ret {a : α} {b : β} (h : R a b) : Two (fun _ => some a) (fun _ => some b) R := ⟨a, b, Ev.now a, Ev.now b, h⟩
theorem Two.lpos {c : Prop} [Decidable c] {g' : Nat → Option α} (h : c) (t : Two g f R) : Two (fun k => if c then g k else g' k) f R := by
  simp only [if_pos h]; exact t
theorem Two.lneg {c : Prop} [Decidable c] {g' : Nat → Option α} (h : ¬ c) (t : Two g f R) : Two (fun k => if c then g' k else g k) f R := by
  simp only [if_neg h]; exact t
theorem Two.rpos {c : Prop} [Decidable c] {f' : Nat → Option β} (h : c) (t : Two g f R) : Two g (fun k => if c then f k else f' k) R := by
  simp only [if_pos h]; exact t
theorem Two.rneg {c : Prop} [Decidable c] {f' : Nat → Option β} (h : ¬ c) (t : Two g f R) : Two g (fun k => if c then f' k else f k) R := by
  simp only [if_neg h]; exact t
theorem Two.lbind {g' : Nat → α → Option α'} {P : α → Prop} {S : α' → β → Prop} (h : Tot g P) (k : ∀ a, P a → Two (fun n => g' n a) f S) : Two (fun n => (g n).bind (g' n)) f S := by
  obtain ⟨a, ha, hp⟩ := h
  obtain ⟨r, q, hr, hq, hs⟩ := k a hp
  exact ⟨r, q, Ev.bind ha hr, hq, hs⟩
theorem Two.rbind {f' : Nat → β → Option β'} {P : β → Prop} {S : α → β' → Prop} (h : Tot f P) (k : ∀ b, P b → Two g (fun n => f' n b) S) : Two g (fun n => (f n).bind (f' n)) S := by
  obtain ⟨a, ha, hp⟩ := h
  obtain ⟨r, q, hr, hq, hs⟩ := k a hp
  exact ⟨r, q, hr, Ev.bind ha hq, hs⟩
theorem Two.lsome {g' : Nat → α → Option α'} {S : α' → β → Prop} {a : α} (k : Two (fun n => g' n a) f S) : Two (fun n => (some a).bind (g' n)) f S := k
theorem Two.rsome {f' : Nat → β → Option β'} {S : α → β' → Prop} {b : β} (k : Two g (fun n => f' n b) S) : Two g (fun n => (some b).bind (f' n)) S := k
theorem Two.bind {g' : Nat → α → Option α'} {f' : Nat → β → Option β'} {S : α' → β' → Prop} (h : Two g f R) (k : ∀ a b, R a b → Two (fun n => g' n a) (fun n => f' n b) S) : Two (fun n => (g n).bind (g' n)) (fun n => (f n).bind (f' n)) S := by
  obtain ⟨a, b, ha, hb, hp⟩ := h
  obtain ⟨r, q, hr, hq, hs⟩ := k a b hp
  exact ⟨r, q, Ev.bind ha hr, Ev.bind hb hq, hs⟩
theorem Two.lstep {g' : Nat → Option α} (h : ∀ k, g (k + 1) = g' k) (t : Two g' f R) : Two g f R := by
  obtain ⟨a, b, ha, hb, hp⟩ := t
  exact ⟨a, b, Ev.step h ha, hb, hp⟩
theorem Two.rstep {f' : Nat → Option β} (h : ∀ k, f (k + 1) = f' k) (t : Two g f' R) : Two g f R := by
  obtain ⟨a, b, ha, hb, hp⟩ := t
  exact ⟨a, b, ha, Ev.step h hb, hp⟩
theorem Two.mono {S : α → β → Prop} (t : Two g f R) (h : ∀ a b, R a b → S a b) : Two g f S := by
  obtain ⟨a, b, ha, hb, hp⟩ := t
  exact ⟨a, b, ha, hb, h a b hp⟩
theorem Two.eqs {f : Nat → Option α} (t : Two g f Eq) : ∃ v, Tot g (Eq v) ∧ Tot f (Eq v) := by
  obtain ⟨a, b, ha, hb, rfl⟩ := t
  exact ⟨a, ⟨a, ha, rfl⟩, ⟨a, hb, rfl⟩⟩
end
theorem Tot.both {α : Type} {g f : Nat → Option α} {P : α → Prop} (h : ∀ k, g k = f k) (t : Tot f P) : ∃ v, Tot g (Eq v) ∧ Tot f (Eq v) := by
  obtain ⟨v, hv, _⟩ := t
  exact ⟨v, ⟨v, Ev.congr h hv, rfl⟩, ⟨v, hv, rfl⟩⟩
theorem Tot.two {α β : Type} {g : Nat → Option α} {f : Nat → Option β} {P : α → Prop} {Q : β → Prop} {R : α → β → Prop} (t : Tot g P) (s : Tot f Q) (h : ∀ a b, P a → Q b → R a b) : Two g f R := by
  obtain ⟨a, ha, hp⟩ := t
  obtain ⟨b, hb, hq⟩ := s
  exact ⟨a, b, ha, hb, h a b hp hq⟩
theorem mn_eq (a b : Int) : mn a b = if a < b then a else b := by unfold mn; split <;> split <;> omega
theorem tdiv_in {a b : Int} (h : 0 ≤ a) : Int.tdiv a b = a / b := Int.tdiv_eq_ediv_of_nonneg h
theorem tmod_in {a b : Int} (h : 0 ≤ a) : Int.tmod a b = a % b := Int.tmod_eq_emod_of_nonneg h
theorem toIntS_loop (l : List Int) (hn : l.length ≤ 1048576) : ∀ (suf pre rest : List Int), l = pre ++ suf → rest.length = suf.length → Tot (fun k => laws_toIntS.l0 k l (pre ++ rest) (pre.length : Int)) (Eq l) := by
  intro suf
  induction suf with
  | nil =>
    intro pre rest h hr
    obtain rfl : rest = [] := List.eq_nil_of_length_eq_zero (by simpa using hr)
    refine Tot.step (fun k => laws_toIntS.l0.eq_2 _ _ _ _) ?_
    exact Tot.neg (by simp [h]) (Tot.ret (by simp [h]))
  | cons x suf ih =>
    intro pre rest h hr
    match rest, hr with
    | r :: rest, hr =>
    have hp : pre.length < l.length := by simp [h]
    have hr' : rest.length = suf.length := by simpa using hr
    have hl : l.length = pre.length + suf.length + 1 := by simp [h]; omega
    refine Tot.step (fun k => laws_toIntS.l0.eq_2 _ _ _ _) ?_
    refine Tot.pos (by omega) (Tot.pos (by omega) (Tot.pos (by simp; omega) ?_))
    rw [set_mid, wrap_nat _ (by omega), show rd l (pre.length : Int) = x by rw [h, rd_mid]]
    have := ih (pre ++ [x]) rest (by simp [h]) hr'
    simpa using this
theorem toIntS_t (l : List Int) (hn : l.length ≤ 1048576) : Tot (fun k => laws_toIntS.f k l) (Eq l) := by
  unfold laws_toIntS.f
  refine Tot.pos (by omega) (Tot.pos (by omega) ?_)
  exact toIntS_loop l hn l [] _ rfl (by simp)
theorem eqIntS_loop (l : List Int) (hn : l.length ≤ 4611686018427387903) : ∀ (suf pre : List Int), l = pre ++ suf → Tot (fun k => laws_eqIntS.l0 k l l (pre.length : Int)) (Eq true) := by
  intro suf
  induction suf with
  | nil =>
    intro pre h
    refine Tot.step (fun k => laws_eqIntS.l0.eq_2 _ _ _ _) ?_
    exact Tot.neg (by simp [h]) (Tot.ret rfl)
  | cons x suf ih =>
    intro pre h
    have hl : l.length = pre.length + suf.length + 1 := by simp [h]; omega
    refine Tot.step (fun k => laws_eqIntS.l0.eq_2 _ _ _ _) ?_
    refine Tot.pos (by omega) (Tot.pos (by omega) (Tot.pos (by omega) (Tot.pos rfl ?_)))
    rw [wrap_nat _ (by omega)]
    have := ih (pre ++ [x]) (by simp [h])
    simpa using this
theorem eqIntS_t (l : List Int) (hn : l.length ≤ 4611686018427387903) : Tot (fun k => laws_eqIntS.f k l l) (Eq true) := by
  unfold laws_eqIntS.f
  exact Tot.pos rfl (eqIntS_loop l hn l [] rfl)
/-- The rest of a list rises, from p on, within 1..20. -/
def asc : Int → List Int → Bool
  | _, [] => true
  | p, x :: xs => decide (1 ≤ x ∧ x ≤ 20 ∧ p < x) && asc x xs
def kindsB (l : List Int) : Bool := decide (1 ≤ l.length ∧ l.length ≤ 5) && asc 0 l
theorem within_eq (a b c : Int) : impl_within.f a b c = some (decide (b ≤ a ∧ a ≤ c)) := by
  unfold impl_within.f; split <;> simp [*]
theorem l1In_eq (a b c : Int) : spec_l1In.f a b c = some (decide (b ≤ a ∧ a ≤ c)) := by
  unfold spec_l1In.f
  split
  · simp [*]
  · have : ¬ (b ≤ a ∧ a ≤ c) := by omega
    simp [this]
theorem rd_last (pre suf : List Int) (h : pre ≠ []) : rd (pre ++ suf) ((pre.length : Int) - 1) = pre.getLastD 0 := by
  have hp : 0 < pre.length := List.length_pos_iff.2 h
  have : ((pre.length : Int) - 1).toNat = pre.length - 1 := by omega
  simp only [rd, this]
  rw [List.getD_eq_getElem?_getD, List.getElem?_append_left (by omega), List.getLastD_eq_getLast?, List.getLast?_eq_getElem?]
theorem getLastD_snoc (pre : List Int) (x : Int) : (pre ++ [x]).getLastD 0 = x := by simp
theorem implKinds_loop (l : List Int) (hn : l.length ≤ 1048576) : ∀ (suf pre : List Int), l = pre ++ suf → 0 ≤ pre.getLastD 0 → Tot (fun k => impl_AreKinds.l0 k l l (l.length : Int) (pre.length : Int)) (Eq (asc (pre.getLastD 0) suf)) := by
  intro suf
  induction suf with
  | nil =>
    intro pre h _
    refine Tot.step (fun k => impl_AreKinds.l0.eq_2 _ _ _ _ _) ?_
    exact Tot.neg (by simp [h]) (Tot.ret rfl)
  | cons x suf ih =>
    intro pre h hg
    have hl : l.length = pre.length + suf.length + 1 := by simp [h]; omega
    refine Tot.step (fun k => impl_AreKinds.l0.eq_2 _ _ _ _ _) ?_
    refine Tot.pos (by omega) (Tot.pos (by omega) (Tot.pos (by omega) ?_))
    rw [show rd l (pre.length : Int) = x by rw [h, rd_mid], within_eq]
    refine Tot.some_bind ?_
    refine Tot.ite (fun hx => ?_) (fun hx => Tot.ret ?_)
    · have hx' : 1 ≤ x ∧ x ≤ 20 := by simpa using hx
      have key : pre.getLastD 0 < x → Tot (fun k => impl_AreKinds.l0 k l l (l.length : Int) (wrap64 ((pre.length : Int) + 1))) (Eq (asc (pre.getLastD 0) (x :: suf))) := by
        intro hlt
        have := ih (pre ++ [x]) (by simp [h]) (by rw [getLastD_snoc]; omega)
        rw [getLastD_snoc, List.length_append, List.length_singleton] at this
        rw [wrap_nat _ (by omega)]
        refine this.mono fun r hr => ?_
        rw [← hr, asc, decide_eq_true (show 1 ≤ x ∧ x ≤ 20 ∧ pre.getLastD 0 < x from ⟨hx'.1, hx'.2, hlt⟩), Bool.true_and]
      refine Tot.ite (fun hp => ?_) (fun hp => key ?_)
      · have hne : pre ≠ [] := by intro e; simp [e] at hp
        have hw : wrap64 ((pre.length : Int) - 1) = (pre.length : Int) - 1 := wrap_in (by omega) (by omega)
        rw [hw]
        refine Tot.pos (by omega) (Tot.pos (by omega) ?_)
        rw [show rd l ((pre.length : Int) - 1) = pre.getLastD 0 by rw [h]; exact rd_last _ _ hne]
        refine Tot.ite (fun hle => Tot.ret ?_) (fun hle => key (by omega))
        rw [asc, decide_eq_false (show ¬ (1 ≤ x ∧ x ≤ 20 ∧ pre.getLastD 0 < x) from fun e => by omega), Bool.false_and]
      · have : pre = [] := List.eq_nil_of_length_eq_zero (by omega)
        subst this
        simp; omega
    · have hx' : ¬ (1 ≤ x ∧ x ≤ 20) := by simpa using hx
      have : ¬ (1 ≤ x ∧ x ≤ 20 ∧ pre.getLastD 0 < x) := fun e => hx' ⟨e.1, e.2.1⟩
      simp only [asc, this, decide_false, Bool.false_and]
theorem implKinds_t (l : List Int) (hn : l.length ≤ 1048576) : Tot (fun k => impl_AreKinds.f k l) (Eq (kindsB l)) := by
  unfold impl_AreKinds.f
  rw [within_eq]
  refine Tot.some_bind (Tot.ite (fun h => ?_) (fun h => Tot.ret ?_))
  · have h' : 1 ≤ l.length ∧ l.length ≤ 5 := by have := of_decide_eq_true h; omega
    refine (implKinds_loop l hn l [] rfl (by simp)).mono fun r hr => ?_
    simpa [kindsB, h'] using hr
  · have h' : ¬ (1 ≤ l.length ∧ l.length ≤ 5) := by intro e; apply h; simp; omega
    simp only [kindsB, h', decide_false, Bool.false_and]
theorem specRising_eq (k : Nat) (l : List Int) : ∀ (m i : Int), spec_l1Rising.l0 k l 1 20 l m i = impl_AreKinds.l0 k l l m i := by
  induction k with
  | zero => intro m i; rfl
  | succ k ih =>
    intro m i
    rw [spec_l1Rising.l0, impl_AreKinds.l0]
    simp only [ih, l1In_eq, within_eq, ge_iff_le]
theorem specKinds_eq (k : Nat) (l : List Int) : spec_goKinds.f k l = impl_AreKinds.f k l := by
  unfold spec_goKinds.f impl_AreKinds.f spec_l1Rising.f
  simp only [specRising_eq, l1In_eq, within_eq]
  congr 1
  funext t
  split
  · cases impl_AreKinds.l0 k l l (l.length : Int) 0 <;> rfl
  · rfl
theorem asc_all (l : List Int) : ∀ p, asc p l = true → ∀ x ∈ l, 1 ≤ x ∧ x ≤ 20 := by
  induction l with
  | nil => intro p _ x hx; cases hx
  | cons y l ih =>
    intro p h x hx
    simp only [asc, Bool.and_eq_true, decide_eq_true_eq] at h
    rcases List.mem_cons.1 hx with rfl | hx
    · exact ⟨h.1.1, h.1.2.1⟩
    · exact ih _ h.2 x hx
theorem kinds_facts {l : List Int} (h : kindsB l = true) : 1 ≤ l.length ∧ l.length ≤ 5 ∧ ∀ x ∈ l, 1 ≤ x ∧ x ≤ 20 := by
  simp only [kindsB, Bool.and_eq_true, decide_eq_true_eq] at h
  exact ⟨h.1.1, h.1.2, asc_all l 0 h.2⟩
def okL (n c : Int) : Bool := decide ((0 ≤ c - 97 ∧ c - 97 ≤ n - 1) ∨ (0 ≤ c - 65 ∧ c - 65 ≤ n - 1))
/-- The last d bytes of a text are letters of a game. -/
def letters (n : Int) (s : ByteArray) : Nat → Bool
  | 0 => true
  | d + 1 => okL n (bt s ((s.size : Int) - ((d + 1 : Nat) : Int))) && letters n s d
def gameB (l : List Int) (s : ByteArray) : Bool := letters l.length s s.size && decide (s.size ≤ 60)
def goalV (l : List Int) (c : Int) : Int × Int × Bool := if okL l.length c then (if c < 97 then (1, rd l (c - 65), true) else (0, rd l (c - 97), true)) else (0, 0, false)
theorem goalOf_eq (l : List Int) (c : Int) (h0 : 0 ≤ c) (h1 : c ≤ 255) (hl : 1 ≤ l.length) (hl2 : l.length ≤ 5) : impl_goalOf.f l c = some (goalV l c) := by
  unfold impl_goalOf.f goalV
  rw [show wrap64 c = c from wrap_in (by omega) (by omega), show wrap64 (c - 65) = c - 65 from wrap_in (by omega) (by omega), show wrap64 (c - 97) = c - 97 from wrap_in (by omega) (by omega), show wrap64 ((l.length : Int) - 1) = (l.length : Int) - 1 from wrap_in (by omega) (by omega), within_eq, within_eq]
  simp only [Option.bind_some]
  by_cases hc : c < 97
  · by_cases hk : 0 ≤ c - 65 ∧ c - 65 ≤ (l.length : Int) - 1
    · have hok : okL l.length c = true := by unfold okL; rw [decide_eq_true_eq]; right; omega
      rw [if_pos hc, if_pos (by simpa using hk), if_pos (by omega), if_pos (by omega), if_pos hok, if_pos hc]
    · have hok : ¬ okL l.length c = true := by unfold okL; rw [decide_eq_true_eq]; omega
      rw [if_pos hc, if_neg (by simpa using hk), if_neg hok]
  · by_cases hk : 0 ≤ c - 97 ∧ c - 97 ≤ (l.length : Int) - 1
    · have hok : okL l.length c = true := by unfold okL; rw [decide_eq_true_eq]; left; omega
      rw [if_neg hc, if_pos (by simpa using hk), if_pos (by omega), if_pos (by omega), if_pos hok, if_neg hc]
    · have hok : ¬ okL l.length c = true := by unfold okL; rw [decide_eq_true_eq]; omega
      rw [if_neg hc, if_neg (by simpa using hk), if_neg hok]
theorem implGame_loop (l : List Int) (s : ByteArray) (hs : s.size ≤ 140737488351232) (hl : 1 ≤ l.length) (hl2 : l.length ≤ 5) : ∀ (d : Nat) (i : Int), 0 ≤ i → i + d = s.size → Tot (fun k => impl_isGame.l0 k l s (s.size : Int) i) (Eq (letters l.length s d && decide (s.size ≤ 60))) := by
  intro d
  induction d with
  | zero =>
    intro i h0 hd
    refine Tot.step (fun k => impl_isGame.l0.eq_2 _ _ _ _ _) ?_
    refine Tot.neg (by omega) (Tot.ret ?_)
    rw [letters, Bool.true_and, Bool.eq_iff_iff, decide_eq_true_eq, decide_eq_true_eq]; omega
  | succ d ih =>
    intro i h0 hd
    have hb := bt_range s i
    refine Tot.step (fun k => impl_isGame.l0.eq_2 _ _ _ _ _) ?_
    refine Tot.pos (by omega) (Tot.pos (by omega) (Tot.pos (by omega) ?_))
    rw [goalOf_eq l _ hb.1 hb.2 hl hl2]
    refine Tot.some_bind ?_
    have e : (s.size : Int) - ((d + 1 : Nat) : Int) = i := by omega
    by_cases hk : okL l.length (bt s i) = true
    · refine Tot.pos (by unfold goalV; rw [if_pos hk]; split <;> rfl) ?_
      rw [show wrap64 (i + 1) = i + 1 from wrap_in (by omega) (by omega), letters, e, hk, Bool.true_and]
      exact ih _ (by omega) (by omega)
    · refine Tot.neg (by unfold goalV; rw [if_neg hk]; simp) (Tot.ret ?_)
      rw [letters, e, Bool.eq_false_iff.2 hk, Bool.false_and, Bool.false_and]
theorem implGame_t (l : List Int) (s : ByteArray) (hs : s.size ≤ 140737488351232) (hl : 1 ≤ l.length) (hl2 : l.length ≤ 5) : Tot (fun k => impl_isGame.f k l s) (Eq (gameB l s)) := by
  unfold impl_isGame.f
  exact implGame_loop l s hs hl hl2 s.size 0 (by omega) (by omega)
theorem specGame_loop (l : List Int) (s : ByteArray) (hs : s.size ≤ 140737488351232) (hl : 1 ≤ l.length) (hl2 : l.length ≤ 5) : ∀ (d : Nat) (i : Int), 0 ≤ i → i + d = s.size → Tot (fun k => spec_goGame.l0 k l s i) (Eq (letters l.length s d)) := by
  intro d
  induction d with
  | zero =>
    intro i h0 hd
    refine Tot.step (fun k => spec_goGame.l0.eq_2 _ _ _ _) ?_
    exact Tot.neg (by omega) (Tot.ret rfl)
  | succ d ih =>
    intro i h0 hd
    have hb := bt_range s i
    refine Tot.step (fun k => spec_goGame.l0.eq_2 _ _ _ _) ?_
    refine Tot.pos (by omega) (Tot.pos (by omega) ?_)
    have e : (s.size : Int) - ((d + 1 : Nat) : Int) = i := by omega
    rw [show wrap64 (bt s i) = bt s i from wrap_in (by omega) (by omega), show wrap64 (bt s i - 65) = bt s i - 65 from wrap_in (by omega) (by omega), show wrap64 (bt s i - 97) = bt s i - 97 from wrap_in (by omega) (by omega), show wrap64 ((l.length : Int) - 1) = (l.length : Int) - 1 from wrap_in (by omega) (by omega), l1In_eq, l1In_eq, show wrap64 (i + 1) = i + 1 from wrap_in (by omega) (by omega), letters, e]
    have go := ih (i + 1) (by omega) (by omega)
    refine Tot.some_bind (Tot.ite (fun h1 => ?_) (fun h1 => Tot.some_bind (Tot.ite (fun h2 => ?_) (fun h2 => Tot.ret ?_))))
    · have hk : okL l.length (bt s i) = true := by unfold okL; rw [decide_eq_true_eq]; left; simpa using h1
      rw [hk, Bool.true_and]; exact go
    · have hk : okL l.length (bt s i) = true := by unfold okL; rw [decide_eq_true_eq]; right; simpa using h2
      rw [hk, Bool.true_and]; exact go
    · have hk : okL l.length (bt s i) = false := by
        unfold okL; rw [decide_eq_false_iff_not]
        simp only [decide_eq_true_eq] at h1 h2
        omega
      rw [hk, Bool.false_and]
theorem specGame_t (l : List Int) (s : ByteArray) (hs : s.size ≤ 140737488351232) (hl : 1 ≤ l.length) (hl2 : l.length ≤ 5) : Tot (fun k => spec_goGame.f k l s) (Eq (gameB l s)) := by
  unfold spec_goGame.f
  refine Tot.ite (fun h => Tot.ret ?_) (fun h => ?_)
  · unfold gameB; rw [decide_eq_false (by omega), Bool.and_false]
  · unfold gameB; rw [decide_eq_true (by omega), Bool.and_true]
    exact specGame_loop l s hs hl hl2 s.size 0 (by omega) (by omega)
theorem letters_all {n : Int} {s : ByteArray} : ∀ d : Nat, letters n s d = true → ∀ i : Int, (s.size : Int) - d ≤ i → i < s.size → okL n (bt s i) = true := by
  intro d
  induction d with
  | zero => intro _ i h1 h2; omega
  | succ d ih =>
    intro h i h1 h2
    rw [letters, Bool.and_eq_true] at h
    by_cases e : i = (s.size : Int) - ((d + 1 : Nat) : Int)
    · rw [e]; exact h.1
    · exact ih h.2 i (by omega) h2
theorem game_facts {l : List Int} {s : ByteArray} (h : gameB l s = true) : s.size ≤ 60 ∧ ∀ i : Int, 0 ≤ i → i < s.size → okL l.length (bt s i) = true := by
  rw [gameB, Bool.and_eq_true, decide_eq_true_eq] at h
  exact ⟨h.2, fun i h0 h1 => letters_all s.size h.1 i (by omega) h1⟩
theorem enc_byte (b : UInt8) (n : Int) (hn : n ≤ 5) (h : okL n (b.toNat : Int) = true) :
    (97 ≤ (b.toNat : Int) → Utf8.encode ((((b.toNat : Int) - 97) % 256 + 65) % 256) = ⟨#[turnB b]⟩) ∧ (¬ 97 ≤ (b.toNat : Int) → Utf8.encode ((((b.toNat : Int) - 65) % 256 + 97) % 256) = ⟨#[turnB b]⟩) := by
  unfold okL at h
  rw [decide_eq_true_eq] at h
  have hb : b.toNat = 97 ∨ b.toNat = 98 ∨ b.toNat = 99 ∨ b.toNat = 100 ∨ b.toNat = 101 ∨ b.toNat = 65 ∨ b.toNat = 66 ∨ b.toNat = 67 ∨ b.toNat = 68 ∨ b.toNat = 69 := by omega
  have key : ∀ m : UInt8, b.toNat = m.toNat → b = m := fun m e => UInt8.toNat_inj.1 e
  rcases hb with e | e | e | e | e | e | e | e | e | e
  · obtain rfl := key 97 e; exact ⟨fun _ => by decide +kernel, fun h => absurd (by decide) h⟩
  · obtain rfl := key 98 e; exact ⟨fun _ => by decide +kernel, fun h => absurd (by decide) h⟩
  · obtain rfl := key 99 e; exact ⟨fun _ => by decide +kernel, fun h => absurd (by decide) h⟩
  · obtain rfl := key 100 e; exact ⟨fun _ => by decide +kernel, fun h => absurd (by decide) h⟩
  · obtain rfl := key 101 e; exact ⟨fun _ => by decide +kernel, fun h => absurd (by decide) h⟩
  · obtain rfl := key 65 e; exact ⟨fun h => absurd h (by decide), fun _ => by decide +kernel⟩
  · obtain rfl := key 66 e; exact ⟨fun h => absurd h (by decide), fun _ => by decide +kernel⟩
  · obtain rfl := key 67 e; exact ⟨fun h => absurd h (by decide), fun _ => by decide +kernel⟩
  · obtain rfl := key 68 e; exact ⟨fun h => absurd h (by decide), fun _ => by decide +kernel⟩
  · obtain rfl := key 69 e; exact ⟨fun h => absurd h (by decide), fun _ => by decide +kernel⟩
theorem bt_byte (s : ByteArray) (i : Nat) (h : i < s.data.toList.length) : bt s (i : Int) = ((s.data.toList[i]).toNat : Int) := by
  have h' : i < s.size := by simpa using h
  unfold bt
  rw [dif_pos (by simpa using h')]
  simp
  rfl
theorem turn_loop (l : List Int) (s : ByteArray) (hl : l.length ≤ 5) (hs : s.size ≤ 60) (hok : ∀ i : Int, 0 ≤ i → i < s.size → okL l.length (bt s i) = true) :
    ∀ (d i : Nat) (out : ByteArray), i + d = s.size → out.size = i → Tot (fun k => spec_TurnGame.l0 k s out (i : Int)) (Eq (out ++ ⟨((s.data.toList.drop i).map turnB).toArray⟩, true)) := by
  intro d
  induction d with
  | zero =>
    intro i out hd ho
    refine Tot.step (fun k => spec_TurnGame.l0.eq_2 _ _ _ _) ?_
    refine Tot.neg (by omega) (Tot.ret ?_)
    rw [List.drop_eq_nil_of_le (by simp; omega)]
    refine Prod.ext ?_ rfl
    apply ByteArray.ext
    simp [ByteArray.data_append]
  | succ d ih =>
    intro i out hd ho
    have hi : i < s.data.toList.length := by simp; omega
    have hb := bt_byte s i hi
    have hk := hok i (by omega) (by omega)
    rw [hb] at hk
    obtain ⟨e1, e2⟩ := enc_byte _ _ (by omega) hk
    have hw : wrap64 ((i : Int) + 1) = ((i + 1 : Nat) : Int) := by rw [wrap_in] <;> omega
    have fin : ∀ (x : UInt8), x = turnB (s.data.toList[i]) → Tot (fun k => spec_TurnGame.l0 k s (out ++ ⟨#[x]⟩) ((i + 1 : Nat) : Int)) (Eq (out ++ ⟨((s.data.toList.drop i).map turnB).toArray⟩, true)) := by
      rintro _ rfl
      have hh := ih (i + 1) (out ++ ⟨#[turnB (s.data.toList[i])]⟩) (by omega) (by rw [ByteArray.size_append, ho]; rfl)
      have e : out ++ ⟨#[turnB (s.data.toList[i])]⟩ ++ (⟨((s.data.toList.drop (i + 1)).map turnB).toArray⟩ : ByteArray) = out ++ ⟨((s.data.toList.drop i).map turnB).toArray⟩ := by
        rw [List.drop_eq_getElem_cons hi]
        apply ByteArray.ext
        simp [ByteArray.data_append]
      rw [e] at hh
      exact hh
    refine Tot.step (fun k => spec_TurnGame.l0.eq_2 _ _ _ _) ?_
    refine Tot.pos (by omega) (Tot.pos (by omega) ?_)
    rw [hb, hw]
    refine Tot.ite (fun h => ?_) (fun h => ?_)
    · rw [e1 h]
      refine Tot.pos ?_ (fin _ rfl)
      rw [ho, show ByteArray.size ⟨#[turnB (s.data.toList[i])]⟩ = 1 from rfl]
      omega
    · rw [e2 h]
      refine Tot.pos ?_ (fin _ rfl)
      rw [ho, show ByteArray.size ⟨#[turnB (s.data.toList[i])]⟩ = 1 from rfl]
      omega
theorem both (l : List Int) (s : ByteArray) (hn : l.length ≤ 1048576) (hs : s.size ≤ 140737488351232) : ∃ v, Tot (fun k => spec_TurnGame.f k l s) (Eq v) ∧ Tot (fun k => impl_TurnGame.f k l s) (Eq v) := by
  refine ⟨if kindsB l then (if gameB l s then (turnV s, true) else (⟨#[]⟩, false)) else (⟨#[]⟩, false), ?_, ?_⟩
  · unfold spec_TurnGame.f spec_goBoth.f
    simp only [specKinds_eq]
    have hB : Tot (fun k => (impl_AreKinds.f k l).bind fun t115 => (if t115 = true then ((spec_goGame.f k l s).bind fun t116 => (some t116)) else (some false))) (Eq (if kindsB l then gameB l s else false)) := by
      refine Tot.bind (implKinds_t l hn) ?_
      rintro _ rfl
      refine Tot.ite (fun h => ?_) (fun h => Tot.ret (by rw [if_neg h]))
      obtain ⟨k1, k2, k3⟩ := kinds_facts h
      refine Tot.bind (specGame_t l s hs k1 k2) ?_
      rintro _ rfl
      exact Tot.ret (by rw [if_pos h])
    refine Tot.bind hB ?_
    rintro _ rfl
    by_cases h : kindsB l = true
    · rw [if_pos h, if_pos h]
      obtain ⟨k1, k2, k3⟩ := kinds_facts h
      refine Tot.ite (fun hg => ?_) (fun hg => Tot.ret (by rw [if_neg hg]))
      rw [if_pos hg]
      obtain ⟨g1, g2⟩ := game_facts hg
      have ht := turn_loop l s k2 g1 g2 s.size 0 ⟨#[]⟩ (by omega) rfl
      have e : (⟨#[]⟩ : ByteArray) ++ (⟨((s.data.toList.drop 0).map turnB).toArray⟩ : ByteArray) = turnV s := by
        apply ByteArray.ext
        simp [ByteArray.data_append, turnV]
      rw [e] at ht
      exact ht
    · rw [if_neg h, if_neg h]
      exact Tot.neg (by simp) (Tot.ret rfl)
  · unfold impl_TurnGame.f
    refine Tot.bind (implKinds_t l hn) ?_
    rintro _ rfl
    refine Tot.ite (fun h => ?_) (fun h => Tot.ret (by rw [if_neg h]))
    obtain ⟨k1, k2, k3⟩ := kinds_facts h
    rw [if_pos h]
    refine Tot.bind (implGame_t l s hs k1 k2) ?_
    rintro _ rfl
    refine Tot.ite (fun hg => ?_) (fun hg => Tot.ret (by rw [if_neg hg]))
    rw [if_pos hg]
    exact Tot.pos hs (Tot.ret rfl)
theorem FnExactTurnGame : laws_FnExactTurnGame.Pure := by
  intro l a h1 h2 h3 h4
  refine Tot.rounds ?_
  unfold laws_FnExactTurnGame.f
  refine Tot.ite (fun _ => Tot.ret rfl) (fun hn => ?_)
  have hn' : l.length ≤ 1048576 := by omega
  refine Tot.ite (fun _ => Tot.ret rfl) (fun _ => ?_)
  obtain ⟨v, A, B⟩ := both l a hn' h4
  refine Tot.bind (toIntS_t l hn') ?_
  rintro _ rfl
  refine Tot.bind A ?_
  rintro _ rfl
  refine Tot.bind (toIntS_t l hn') ?_
  rintro _ rfl
  refine Tot.bind B ?_
  rintro _ rfl
  refine Tot.pos rfl ?_
  refine Tot.step (fun k => laws_FnExactTurnGame.j0.eq_2 _ _ _ _) ?_
  refine Tot.neg (by simp) ?_
  refine Tot.bind (toIntS_t l hn') ?_
  rintro _ rfl
  refine Tot.bind (eqIntS_t l (by omega)) ?_
  rintro _ rfl
  exact Tot.pos rfl (Tot.ret rfl)
end Go.Proofs.Ytmecamlnbjpkjaa.Pure
namespace Go.Proofs.Ytmecamlnbjpkjaa.PrintWords
theorem sized_ints : type_of% @Go.Proofs.YtmecamlnbjpkjaaW.PrintWords.sized_ints := @Go.Proofs.YtmecamlnbjpkjaaW.PrintWords.sized_ints
end Go.Proofs.Ytmecamlnbjpkjaa.PrintWords
