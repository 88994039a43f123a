/- The program's PlayFrame answers as the reference's does, for every frame, whatever numbers it holds, and every list of at most 1048576 texts; for a longer list nothing is asked. -/
import Derived.Test.YtogcikjkfobjiaaDoorMFnExactPlayFramex7
import Derived.Test.YtogcikjkfobjiaaDoorWSized
set_option linter.unusedVariables false
set_option linter.unusedSimpArgs false
namespace Go.Proofs.YtogcikjkfobjiaaDoor.Pure
open Go.RowKit Go.Proofs.YtogcikjkfobjiaaDoor.MFnExactPlayFrame Go.Proofs.YtogcikjkfobjiaaDoorW.PrintWords Go.Proofs.YtogcikjkfobjiaaDoorW.PrintLast
/-! ### Rounds: some number of rounds on, a function tells r, and r has a property -/
def Tot {α : Type} (g : Nat → Option α) (P : α → Prop) : Prop := ∃ r, Ev g r ∧ P r
theorem Tot.ret {α : Type} {P : α → Prop} {r : α} (h : P r) : Tot (fun _ => some r) P := ⟨r, Ev.now r, h⟩
theorem Tot.pos {α : Type} {c : Prop} [Decidable c] {f g : Nat → Option α} {P : α → Prop} (h : c) (hf : Tot f P) : Tot (fun k => if c then f k else g k) P := by
  simp only [if_pos h]; exact hf
theorem Tot.neg {α : Type} {c : Prop} [Decidable c] {f g : Nat → Option α} {P : α → Prop} (h : ¬ c) (hg : Tot g P) : Tot (fun k => if c then f k else g k) P := by
  simp only [if_neg h]; exact hg
theorem Tot.ite {α : Type} {c : Prop} [Decidable c] {f g : Nat → Option α} {P : α → Prop} (hf : c → Tot f P) (hg : ¬ c → Tot g P) : Tot (fun k => if c then f k else g k) P := by
  by_cases h : c
  · exact Tot.pos h (hf h)
  · exact Tot.neg h (hg h)
theorem Tot.bind {α β : Type} {g : Nat → Option α} {f : Nat → α → Option β} {P : α → Prop} {Q : β → Prop} (h : Tot g P) (k : ∀ a, P a → Tot (fun n => f n a) Q) : Tot (fun n => (g n).bind (f n)) Q := by
  obtain ⟨a, ha, hp⟩ := h
  obtain ⟨r, hr, hq⟩ := k a hp
  exact ⟨r, Ev.bind ha hr, hq⟩
theorem Tot.some_bind {α β : Type} {f : Nat → α → Option β} {Q : β → Prop} {a : α} (k : Tot (fun n => f n a) Q) : Tot (fun n => (some a).bind (f n)) Q := k
theorem Tot.step {α : Type} {g f : Nat → Option α} {P : α → Prop} (h : ∀ k, g (k + 1) = f k) (k : Tot f P) : Tot g P := by
  obtain ⟨r, hr, hp⟩ := k
  exact ⟨r, Ev.step h hr, hp⟩
theorem Tot.congr {α : Type} {g f : Nat → Option α} {P : α → Prop} (h : ∀ k, g k = f k) (k : Tot f P) : Tot g P := by
  obtain ⟨r, hr, hp⟩ := k
  exact ⟨r, Ev.congr h hr, hp⟩
theorem Tot.mono {α : Type} {g : Nat → Option α} {P Q : α → Prop} (h : Tot g P) (k : ∀ r, P r → Q r) : Tot g Q := by
  obtain ⟨r, hr, hp⟩ := h
  exact ⟨r, hr, k r hp⟩
theorem Tot.rounds {α : Type} {g : Nat → Option α} {r : α} (h : Tot g (Eq r)) : ∃ k, g k = some r := by
  obtain ⟨_, hr, rfl⟩ := h
  exact hr.rounds
theorem Tot.ev {α : Type} {g : Nat → Option α} {r : α} (h : Tot g (Eq r)) : Ev g r := by
  obtain ⟨_, hr, rfl⟩ := h
  exact hr
theorem Tot.of {α : Type} {g : Nat → Option α} {r : α} (h : Ev g r) : Tot g (Eq r) := ⟨r, h, rfl⟩
theorem wrap_in {x : Int} (h0 : -9223372036854775808 ≤ x) (h1 : x ≤ 9223372036854775807) : wrap64 x = x := by unfold wrap64; omega
theorem wrap_nat (n : Nat) (h : n < 4611686018427387904) : wrap64 ((n : Int) + 1) = ((n + 1 : Nat) : Int) := by rw [wrap_in] <;> omega
theorem rd_mid (pre suf : List Int) (x : Int) : rd (pre ++ x :: suf) (pre.length : Int) = x := by simp [rd]
theorem rd_get (l : List Int) (i : Nat) (h : i < l.length) : rd l (i : Int) = l[i] := by simp [rd, h]
theorem set_mid {α : Type} (pre suf : List α) (x y : α) : (pre ++ x :: suf).set (pre.length : Int).toNat y = pre ++ y :: suf := by simp
/-! ### Two functions side by side -/
def Two {α β : Type} (g : Nat → Option α) (f : Nat → Option β) (R : α → β → Prop) : Prop := ∃ a b, Ev g a ∧ Ev f b ∧ R a b
section
variable {α β α' β' : Type} {g : Nat → Option α} {f : Nat → Option β} {R : α → β → Prop}
theorem Two.ret {a : α} {b : β} (h : R a b) : Two (fun _ => some a) (fun _ => some b) R := ⟨a, b, Ev.now a, Ev.now b, h⟩
theorem Two.lpos {c : Prop} [Decidable c] {g' : Nat → Option α} (h : c) (t : Two g f R) : Two (fun k => if c then g k else g' k) f R := by
  simp only [if_pos h]; exact t
theorem Two.lneg {c : Prop} [Decidable c] {g' : Nat → Option α} (h : ¬ c) (t : Two g f R) : Two (fun k => if c then g' k else g k) f R := by
  simp only [if_neg h]; exact t
theorem Two.rpos {c : Prop} [Decidable c] {f' : Nat → Option β} (h : c) (t : Two g f R) : Two g (fun k => if c then f k else f' k) R := by
  simp only [if_pos h]; exact t
theorem Two.rneg {c : Prop} [Decidable c] {f' : Nat → Option β} (h : ¬ c) (t : Two g f R) : Two g (fun k => if c then f' k else f k) R := by
  simp only [if_neg h]; exact t
theorem Two.lbind {g' : Nat → α → Option α'} {P : α → Prop} {S : α' → β → Prop} (h : Tot g P) (k : ∀ a, P a → Two (fun n => g' n a) f S) : Two (fun n => (g n).bind (g' n)) f S := by
  obtain ⟨a, ha, hp⟩ := h
  obtain ⟨r, q, hr, hq, hs⟩ := k a hp
  exact ⟨r, q, Ev.bind ha hr, hq, hs⟩
theorem Two.rbind {f' : Nat → β → Option β'} {P : β → Prop} {S : α → β' → Prop} (h : Tot f P) (k : ∀ b, P b → Two g (fun n => f' n b) S) : Two g (fun n => (f n).bind (f' n)) S := by
  obtain ⟨a, ha, hp⟩ := h
  obtain ⟨r, q, hr, hq, hs⟩ := k a hp
  exact ⟨r, q, hr, Ev.bind ha hq, hs⟩
theorem Two.lsome {g' : Nat → α → Option α'} {S : α' → β → Prop} {a : α} (k : Two (fun n => g' n a) f S) : Two (fun n => (some a).bind (g' n)) f S := k
theorem Two.rsome {f' : Nat → β → Option β'} {S : α → β' → Prop} {b : β} (k : Two g (fun n => f' n b) S) : Two g (fun n => (some b).bind (f' n)) S := k
theorem Two.bind {g' : Nat → α → Option α'} {f' : Nat → β → Option β'} {S : α' → β' → Prop} (h : Two g f R) (k : ∀ a b, R a b → Two (fun n => g' n a) (fun n => f' n b) S) : Two (fun n => (g n).bind (g' n)) (fun n => (f n).bind (f' n)) S := by
  obtain ⟨a, b, ha, hb, hp⟩ := h
  obtain ⟨r, q, hr, hq, hs⟩ := k a b hp
  exact ⟨r, q, Ev.bind ha hr, Ev.bind hb hq, hs⟩
theorem Two.lstep {g' : Nat → Option α} (h : ∀ k, g (k + 1) = g' k) (t : Two g' f R) : Two g f R := by
  obtain ⟨a, b, ha, hb, hp⟩ := t
  exact ⟨a, b, Ev.step h ha, hb, hp⟩
theorem Two.rstep {f' : Nat → Option β} (h : ∀ k, f (k + 1) = f' k) (t : Two g f' R) : Two g f R := by
  obtain ⟨a, b, ha, hb, hp⟩ := t
  exact ⟨a, b, ha, Ev.step h hb, hp⟩
theorem Two.mono {S : α → β → Prop} (t : Two g f R) (h : ∀ a b, R a b → S a b) : Two g f S := by
  obtain ⟨a, b, ha, hb, hp⟩ := t
  exact ⟨a, b, ha, hb, h a b hp⟩
theorem Two.eqs {f : Nat → Option α} (t : Two g f Eq) : ∃ v, Tot g (Eq v) ∧ Tot f (Eq v) := by
  obtain ⟨a, b, ha, hb, rfl⟩ := t
  exact ⟨a, ⟨a, ha, rfl⟩, ⟨a, hb, rfl⟩⟩
end
theorem Tot.both {α : Type} {g f : Nat → Option α} {P : α → Prop} (h : ∀ k, g k = f k) (t : Tot f P) : ∃ v, Tot g (Eq v) ∧ Tot f (Eq v) := by
  obtain ⟨v, hv, _⟩ := t
  exact ⟨v, ⟨v, Ev.congr h hv, rfl⟩, ⟨v, hv, rfl⟩⟩
theorem Tot.two {α β : Type} {g : Nat → Option α} {f : Nat → Option β} {P : α → Prop} {Q : β → Prop} {R : α → β → Prop} (t : Tot g P) (s : Tot f Q) (h : ∀ a b, P a → Q b → R a b) : Two g f R := by
  obtain ⟨a, ha, hp⟩ := t
  obtain ⟨b, hb, hq⟩ := s
  exact ⟨a, b, ha, hb, h a b hp hq⟩
theorem mn_eq (a b : Int) : mn a b = if a < b then a else b := by unfold mn; split <;> split <;> omega
theorem tdiv_in {a b : Int} (h : 0 ≤ a) : Int.tdiv a b = a / b := Int.tdiv_eq_ediv_of_nonneg h
theorem tmod_in {a b : Int} (h : 0 ≤ a) : Int.tmod a b = a % b := Int.tmod_eq_emod_of_nonneg h
def goodB (r : Int) (c : Bool) (l : Int) : Bool := decide (0 ≤ r ∧ r ≤ 15 ∧ 2 ≤ l ∧ l ≤ 8 ∧ (c = true → r ≠ 15) ∧ (l = 2 ∨ (r = 0 ∧ c = false)))
theorem within_eq (a b c : Int) : impl_within.f a b c = some (decide (b ≤ a ∧ a ≤ c)) := by
  unfold impl_within.f; split <;> simp [*]
theorem l1In_eq (a b c : Int) : spec_l1In.f a b c = some (decide (b ≤ a ∧ a ≤ c)) := by
  unfold spec_l1In.f
  split
  · simp [*]
  · have : ¬ (b ≤ a ∧ a ≤ c) := by omega
    simp [this]
theorem frGood_eq (r : Int) (c : Bool) (l : Int) : spec_frGood.f r c l = some (goodB r c l) := by
  unfold spec_frGood.f goodB
  simp only [l1In_eq, Option.bind_some, decide_eq_true_eq]
  by_cases h1 : 0 ≤ r ∧ r ≤ 15
  · by_cases h2 : 2 ≤ l ∧ l ≤ 8
    · rw [if_pos h1, if_pos h2]
      cases c with
      | true =>
        by_cases h3 : r = 15
        · rw [if_pos rfl, if_pos h3]; simp [h3]
        · by_cases h4 : l = 2
          · rw [if_pos rfl, if_neg h3, if_pos h4]; simp [h3, h4]; omega
          · rw [if_pos rfl, if_neg h3, if_neg h4]
            simp [h4]
      | false =>
        by_cases h4 : l = 2
        · rw [if_neg (by simp), if_pos h4]; simp [h4]; omega
        · by_cases h5 : r = 0
          · rw [if_neg (by simp), if_neg h4, if_pos h5]; simp [h5]; omega
          · rw [if_neg (by simp), if_neg h4, if_neg h5]; simp [h4, h5]
    · rw [if_pos h1, if_neg h2]
      rw [decide_eq_false (fun e => h2 ⟨e.2.2.1, e.2.2.2.1⟩)]
  · rw [if_neg h1, decide_eq_false (fun e => h1 ⟨e.1, e.2.1⟩)]
theorem isFrame_t (r : Int) (c : Bool) (l : Int) : Tot (fun k => impl_IsFrame.f k r c l) (Eq (goodB r c l)) := by
  unfold impl_IsFrame.f
  simp only [within_eq]
  refine Tot.some_bind ?_
  have tail : (0 ≤ r ∧ r ≤ 15) → ¬ (c = true ∧ r = 15) → Tot (fun k => impl_IsFrame.j0 k false r c l) (Eq (goodB r c l)) := by
    intro h1 h3
    refine Tot.step (fun k => impl_IsFrame.j0.eq_2 _ _ _ _ _) ?_
    simp only [within_eq]
    refine Tot.neg (by simp) ?_
    refine Tot.ite (fun h => Tot.ret ?_) (fun h => Tot.ite (fun hc => Tot.ret ?_) (fun hc => Tot.some_bind (Tot.ret ?_)))
    · rw [Bool.eq_iff_iff, beq_iff_eq, goodB, decide_eq_true_eq]
      constructor
      · rintro ⟨_, _, _, _, _, e | e⟩ <;> omega
      · intro e; exact ⟨by omega, by omega, by omega, by omega, fun hc e => h3 ⟨hc, e⟩, .inl e⟩
    · subst hc
      rw [Bool.eq_iff_iff, beq_iff_eq, goodB, decide_eq_true_eq]
      constructor
      · rintro ⟨_, _, _, _, _, e | ⟨_, e⟩⟩
        · exact e
        · cases e
      · intro e; exact ⟨by omega, by omega, by omega, by omega, fun hc e => h3 ⟨hc, e⟩, .inl e⟩
    · have hc' : c = false := by simpa using hc
      subst hc'
      rw [Bool.eq_iff_iff, decide_eq_true_eq, goodB, decide_eq_true_eq]
      constructor
      · rintro ⟨_, _, e1, e2, _⟩; exact ⟨e1, e2⟩
      · intro e; exact ⟨by omega, by omega, e.1, e.2, fun hc => (by cases hc), .inr ⟨by omega, rfl⟩⟩
  have gone : ¬ ((0 ≤ r ∧ r ≤ 15) ∧ ¬ (c = true ∧ r = 15)) → Tot (fun k => impl_IsFrame.j0 k true r c l) (Eq (goodB r c l)) := by
    intro h
    refine Tot.step (fun k => impl_IsFrame.j0.eq_2 _ _ _ _ _) ?_
    refine Tot.pos rfl (Tot.ret ?_)
    rw [goodB, decide_eq_false]
    rintro ⟨e1, e2, _, _, e3, _⟩
    exact h ⟨⟨e1, e2⟩, fun e => e3 e.1 e.2⟩
  refine Tot.ite (fun h1 => ?_) (fun h1 => ?_)
  · have h1' : 0 ≤ r ∧ r ≤ 15 := by simpa using h1
    refine Tot.ite (fun hc => ?_) (fun hc => tail h1' (fun e => hc e.1))
    by_cases h3 : r = 15
    · rw [show (r == 15) = true by simpa using h3]
      exact gone (fun e => e.2 ⟨hc, h3⟩)
    · rw [show (r == 15) = false by simpa using h3]
      exact tail h1' (fun e => h3 e.2)
  · have h1' : ¬ (0 ≤ r ∧ r ≤ 15) := by simpa using h1
    exact gone (fun e => h1' e.1)
theorem good_range {r : Int} {c : Bool} {l : Int} (h : goodB r c l = true) : 0 ≤ r ∧ r ≤ 15 ∧ 2 ≤ l ∧ l ≤ 8 ∧ (c = true → r ≠ 15) ∧ (l = 2 ∨ (r = 0 ∧ c = false)) := by
  rwa [goodB, decide_eq_true_eq] at h
/-- Is a byte among the last bytes. -/
def among (b : Int) (L : List UInt8) : Bool := L.any fun x => decide ((x.toNat : Int) = b)
theorem size_list (s : ByteArray) : s.size = s.data.toList.length := by
  obtain ⟨⟨l⟩⟩ := s
  rfl
theorem bt_mid {s : ByteArray} {pre suf : List UInt8} {x : UInt8} (h : s.data.toList = pre ++ x :: suf) : bt s (pre.length : Int) = x.toNat := by
  have hs : pre.length < s.size := by
    rw [size_list, h, List.length_append, List.length_cons]; omega
  obtain ⟨⟨l⟩⟩ := s
  have hl : l = pre ++ x :: suf := h
  subst hl
  unfold bt
  simp only [Int.toNat_natCast]
  rw [dif_pos hs]
  show (((pre ++ x :: suf)[pre.length]'(by rw [List.length_append, List.length_cons]; omega)).toNat : Int) = x.toNat
  rw [List.getElem_append_right (by omega)]
  simp
def potS (r : Int) (c : Bool) (l : Int) : Int × Bool × Int := if c = true then (r, false, l) else (if r > 0 then (wrap64 (r - 1), true, l) else (r, c, wrap64 (l + 1)))
theorem pot_eq (r : Int) (c : Bool) (l : Int) : impl_Frame_pot.f r c l = some (potS r c l) := by
  unfold impl_Frame_pot.f potS
  split
  · rfl
  · split <;> rfl
theorem frPot_loop (b r : Int) (c : Bool) (l : Int) (s : ByteArray) (hs : s.size ≤ 1000) : ∀ (suf pre : List UInt8) (may : Bool), s.data.toList = pre ++ suf →
    Tot (fun k => spec_frPot.l0 k b may s (pre.length : Int) r c l) (Eq (if may || among b suf then ((potS r c l).1, (potS r c l).2.1, (potS r c l).2.2, true) else (r, c, l, false))) := by
  intro suf
  induction suf with
  | nil =>
    intro pre may h
    have hl := size_list s
    rw [h] at hl
    simp at hl
    refine Tot.step (fun k => spec_frPot.l0.eq_2 _ _ _ _ _ _ _ _) ?_
    refine Tot.neg (by omega) ?_
    cases may with
    | true =>
      rw [Bool.true_or]
      refine Tot.pos rfl ?_
      unfold potS
      refine Tot.ite (fun h1 => Tot.ret ?_) (fun h1 => Tot.ite (fun h2 => Tot.ret ?_) (fun h2 => Tot.ret ?_))
      · simp [h1]
      · simp [h1, h2]
      · simp [h1, h2]
    | false => exact Tot.neg (by simp) (Tot.ret (by simp [among]))
  | cons x suf ih =>
    intro pre may h
    have hl := size_list s
    rw [h] at hl
    simp at hl
    refine Tot.step (fun k => spec_frPot.l0.eq_2 _ _ _ _ _ _ _ _) ?_
    refine Tot.pos (by omega) ?_
    rw [wrap_nat _ (by omega), bt_mid h]
    have nxt := fun m => ih (pre ++ [x]) m (by simp [h])
    cases may with
    | true =>
      refine Tot.pos rfl ?_
      have := nxt true
      simpa using this
    | false =>
      refine Tot.neg (by simp) (Tot.pos (by omega) ?_)
      have := nxt ((x.toNat : Int) == b)
      rw [show (((x.toNat : Int) == b) || among b suf) = (false || among b (x :: suf)) by simp [among]; rfl] at this
      simpa using this
theorem contains_among (b : Int) (h0 : 0 ≤ b) (h1 : b ≤ 255) : ∀ L : List UInt8, decide (0 ≤ Lib.indexByte L b.toNat.toUInt8) = among b L := by
  have key : ∀ x : UInt8, (x == b.toNat.toUInt8) = decide ((x.toNat : Int) = b) := by
    intro x
    have hb : (b.toNat.toUInt8).toNat = b.toNat := by
      rw [Nat.toUInt8, UInt8.toNat_ofNat']; omega
    rw [Bool.eq_iff_iff, beq_iff_eq, decide_eq_true_eq]
    constructor
    · intro e; rw [e, hb]; omega
    · intro e; apply UInt8.toNat_inj.1; rw [hb]; omega
  intro L
  induction L with
  | nil => simp [Lib.indexByte, among]
  | cons x L ih =>
    have ha : among b (x :: L) = (decide ((x.toNat : Int) = b) || among b L) := by simp [among]
    have lo : -1 ≤ Lib.indexByte L b.toNat.toUInt8 := by
      clear ih ha
      induction L with
      | nil => simp [Lib.indexByte]
      | cons y L ih2 =>
        unfold Lib.indexByte
        split
        · omega
        · split
          · omega
          · omega
    rw [ha, ← ih, ← key, Lib.indexByte]
    cases hx : (x == b.toNat.toUInt8) with
    | true => simp
    | false =>
      rw [if_neg (by simp), Bool.false_or]
      by_cases hm : Lib.indexByte L b.toNat.toUInt8 = -1
      · rw [if_pos (by simpa using hm), hm]
      · rw [if_neg (by simpa using hm)]
        rw [Bool.eq_iff_iff, decide_eq_true_eq, decide_eq_true_eq]
        omega
/-- What may be potted now: both tell it alike. -/
def nextB (r : Int) (c : Bool) (l : Int) : Bool :=
  match spec_frNext.f 100 r c l, impl_Frame_next.f r c l with
  | some s, some t => decide (s.data.toList = t.data.toList ∧ s.size ≤ 6)
  | _, _ => false
/-- Whatever may be potted leads to a frame again. -/
def goesB (r : Int) (c : Bool) (l : Int) : Bool :=
  match impl_Frame_next.f r c l with
  | some t => t.data.toList.isEmpty || goodB (potS r c l).1 (potS r c l).2.1 (potS r c l).2.2
  | none => false
set_option maxRecDepth 100000 in
theorem next_all : ∀ r < 16, ∀ c : Bool, ∀ l < 9, goodB (r : Nat) c (l : Nat) = true → nextB (r : Nat) c (l : Nat) = true ∧ goesB (r : Nat) c (l : Nat) = true := by decide +kernel
theorem next {r : Int} {c : Bool} {l : Int} (h : goodB r c l = true) : ∃ s, s.size ≤ 6 ∧ Tot (fun k => spec_frNext.f k r c l) (Eq s) ∧ impl_Frame_next.f r c l = some s ∧ (∀ b, among b s.data.toList = true → goodB (potS r c l).1 (potS r c l).2.1 (potS r c l).2.2 = true) := by
  obtain ⟨h1, h2, h3, h4, _⟩ := good_range h
  obtain ⟨n, rfl⟩ : ∃ n : Nat, r = (n : Int) := ⟨r.toNat, by omega⟩
  obtain ⟨m, rfl⟩ : ∃ m : Nat, l = (m : Int) := ⟨l.toNat, by omega⟩
  obtain ⟨hb, hg⟩ := next_all n (by omega) c m (by omega) h
  unfold nextB at hb
  unfold goesB at hg
  split at hb
  · rename_i s t hs ht
    rw [decide_eq_true_eq] at hb
    have hst : s = t := by
      obtain ⟨⟨s⟩⟩ := s
      obtain ⟨⟨t⟩⟩ := t
      have := hb.1
      simp at this
      rw [this]
    subst hst
    rw [ht] at hg
    refine ⟨s, hb.2, Tot.of (Ev.of (fun k => spec_frNext.mono _ _ _ k) hs), ht, fun b ha => ?_⟩
    have hne : s.data.toList.isEmpty = false := by
      cases hL : s.data.toList with
      | nil => rw [hL] at ha; simp [among] at ha
      | cons x L => rfl
    simp only [hne, Bool.false_or] at hg
    exact hg
  · cases hb
theorem frPot_t {r : Int} {c : Bool} {l b : Int} {s : ByteArray} (hs : s.size ≤ 6) (hn : Tot (fun k => spec_frNext.f k r c l) (Eq s)) : Tot (fun k => spec_frPot.f k r c l b) (Eq (if among b s.data.toList then ((potS r c l).1, (potS r c l).2.1, (potS r c l).2.2, true) else (r, c, l, false))) := by
  unfold spec_frPot.f
  refine Tot.bind hn ?_
  rintro _ rfl
  have := frPot_loop b r c l s (by omega) s.data.toList [] false rfl
  simpa using this
/-- What the reference tells behind balls, and what the program does. -/
def aftR (x y : Int × Bool × Int × Bool) : Prop := x.2.2.2 = y.2.2.2 ∧ (x.2.2.2 = true → x = y) ∧ (x.2.2.2 = false → y = (0, false, 0, false))
theorem extract_one (a : ByteArray) (i : Nat) (h : i < a.size) : (a.extract i (i + 1)).size = 1 ∧ bt (a.extract i (i + 1)) 0 = bt a (i : Int) := by
  have hs : (a.extract i (i + 1)).size = 1 := by rw [ByteArray.size_extract]; omega
  refine ⟨hs, ?_⟩
  unfold bt
  simp only [Int.toNat_zero, Int.toNat_natCast]
  rw [dif_pos (by omega), dif_pos h]
  congr 2
  simp [ByteArray.getElem_extract]
theorem after_two (a : ByteArray) (ha : a.size ≤ 36) : ∀ (d i : Nat) (r : Int) (c : Bool) (l : Int), i + d = a.size → goodB r c l = true → Two (fun k => spec_frAfter.l0 k a (i : Int) r c l) (fun k => impl_Frame_behind.l0 k a (a.size : Int) (i : Int) r c l) aftR := by
  intro d
  induction d with
  | zero =>
    intro i r c l hd h
    refine Two.lstep (fun k => spec_frAfter.l0.eq_2 _ _ _ _ _ _) (Two.rstep (fun k => impl_Frame_behind.l0.eq_2 _ _ _ _ _ _ _) ?_)
    exact Two.lneg (by omega) (Two.rneg (by omega) (Two.ret ⟨rfl, fun _ => rfl, fun e => by cases e⟩))
  | succ d ih =>
    intro i r c l hd h
    obtain ⟨s, hs, hn, hi, hg⟩ := next h
    have hb := bt_range a (i : Int)
    obtain ⟨e1, e2⟩ := extract_one a i (by omega)
    refine Two.lstep (fun k => spec_frAfter.l0.eq_2 _ _ _ _ _ _) (Two.rstep (fun k => impl_Frame_behind.l0.eq_2 _ _ _ _ _ _ _) ?_)
    refine Two.lpos (by omega) (Two.lpos (by omega) (Two.lbind (frPot_t hs hn) ?_))
    rintro _ rfl
    rw [wrap_nat i (by omega)]
    refine Two.rpos (by omega) ?_
    have hcont : strings_Contains.f s (a.extract i (i + 1)) = some (among (bt a (i : Int)) s.data.toList) := by
      unfold strings_Contains.f
      rw [if_pos e1, contains_among _ (by rw [e2]; exact hb.1) (by rw [e2]; exact hb.2), e2]
    simp only [hi, pot_eq, Int.toNat_natCast]
    refine Two.rsome (Two.rpos (by omega) (Two.rpos (by omega) (Two.rpos (by omega) ?_)))
    rw [hcont]
    refine Two.rsome ?_
    by_cases g : among (bt a (i : Int)) s.data.toList = true
    · rw [if_pos g]
      exact Two.lpos rfl (Two.rpos g (Two.rsome (ih (i + 1) _ _ _ (by omega) (hg _ g))))
    · rw [if_neg g]
      exact Two.lneg (by simp) (Two.rneg g (Two.ret ⟨rfl, fun e => (by cases e), fun _ => rfl⟩))
theorem after_t {r : Int} {c : Bool} {l : Int} (a : ByteArray) (h : goodB r c l = true) : Two (fun k => spec_frAfter.f k r c l a) (fun k => impl_Frame_behind.f k r c l a) aftR := by
  unfold spec_frAfter.f impl_Frame_behind.f
  by_cases g : (a.size : Int) > 36
  · exact Two.lpos g (Two.rpos g (Two.ret ⟨rfl, fun e => (by cases e), fun _ => rfl⟩))
  · exact Two.lneg g (Two.rneg g (after_two a (by omega) a.size 0 r c l (by omega) h))
theorem eqIntS_loop (l : List Int) (hn : l.length ≤ 4611686018427387903) : ∀ (suf pre : List Int), l = pre ++ suf → Tot (fun k => laws_eqIntS.l0 k l l (pre.length : Int)) (Eq true) := by
  intro suf
  induction suf with
  | nil =>
    intro pre h
    refine Tot.step (fun k => laws_eqIntS.l0.eq_2 _ _ _ _) ?_
    exact Tot.neg (by simp [h]) (Tot.ret rfl)
  | cons x suf ih =>
    intro pre h
    have hl : l.length = pre.length + suf.length + 1 := by simp [h]; omega
    refine Tot.step (fun k => laws_eqIntS.l0.eq_2 _ _ _ _) ?_
    refine Tot.pos (by omega) (Tot.pos (by omega) (Tot.pos (by omega) (Tot.pos rfl ?_)))
    rw [wrap_nat _ (by omega)]
    have := ih (pre ++ [x]) (by simp [h])
    simpa using this
theorem eqIntS_t (l : List Int) (hn : l.length ≤ 4611686018427387903) : Tot (fun k => laws_eqIntS.f k l l) (Eq true) := by
  unfold laws_eqIntS.f
  exact Tot.pos rfl (eqIntS_loop l hn l [] rfl)
/-- The numbers from k on. -/
def upN (k : Int) : Nat → List Int
  | 0 => []
  | d + 1 => k :: upN (k + 1) d
theorem upN_length (d : Nat) : ∀ k, (upN k d).length = d := by
  induction d with
  | zero => intro k; rfl
  | succ d ih => intro k; simp [upN, ih]
theorem mark_loop : ∀ (suf pre : List Int) (k : Int), (pre ++ suf).length ≤ 4611686018427387903 → 0 ≤ k → k + suf.length ≤ 4611686018427387904 →
    Tot (fun n => laws_markIntS.l0 n (pre ++ suf) k (pre.length : Int)) (Eq (k + suf.length, pre ++ upN k suf.length)) := by
  intro suf
  induction suf with
  | nil =>
    intro pre k hn h0 h1
    refine Tot.step (fun n => laws_markIntS.l0.eq_2 _ _ _ _) ?_
    exact Tot.neg (by simp) (Tot.ret (by simp [upN]))
  | cons x suf ih =>
    intro pre k hn h0 h1
    have hlen : (pre ++ x :: suf).length = pre.length + suf.length + 1 := by simp; omega
    have hx : (x :: suf).length = suf.length + 1 := rfl
    refine Tot.step (fun n => laws_markIntS.l0.eq_2 _ _ _ _) ?_
    refine Tot.pos (by omega) (Tot.pos (by omega) ?_)
    rw [set_mid, wrap_nat _ (by omega), show wrap64 (k + 1) = k + 1 from wrap_in (by omega) (by omega)]
    have := ih (pre ++ [k]) (k + 1) (by simp; omega) (by omega) (by omega)
    rw [List.append_assoc, List.length_append, List.length_singleton] at this
    refine this.mono fun r hr => ?_
    rw [← hr, hx, upN, List.append_assoc]
    simp; omega
theorem mark_t (l : List Int) (hn : l.length ≤ 1048576) : Tot (fun n => laws_markIntS.f n l 1) (Eq (1 + (l.length : Int), upN 1 l.length)) := by
  unfold laws_markIntS.f
  exact mark_loop l [] 1 (by simp; omega) (by omega) (by omega)
theorem held_loop : ∀ (d : Nat) (pre : List Int) (k : Int), pre.length + d ≤ 4611686018427387903 → 0 ≤ k → k + d ≤ 4611686018427387904 →
    Tot (fun n => laws_heldIntS.l0 n (pre ++ upN k d) k (pre.length : Int)) (Eq (k + d)) := by
  intro d
  induction d with
  | zero =>
    intro pre k hn h0 h1
    refine Tot.step (fun n => laws_heldIntS.l0.eq_2 _ _ _ _) ?_
    exact Tot.neg (by simp [upN]) (Tot.ret (by simp))
  | succ d ih =>
    intro pre k hn h0 h1
    refine Tot.step (fun n => laws_heldIntS.l0.eq_2 _ _ _ _) ?_
    rw [upN]
    refine Tot.pos (by simp; omega) (Tot.pos (by omega) (Tot.pos (by rw [rd_mid]) ?_))
    rw [wrap_nat _ (by omega), show wrap64 (k + 1) = k + 1 from wrap_in (by omega) (by omega)]
    have := ih (pre ++ [k]) (k + 1) (by simp; omega) (by omega) (by omega)
    rw [List.append_assoc, List.length_append, List.length_singleton] at this
    refine this.mono fun r hr => ?_
    rw [← hr]; omega
theorem held_t (d : Nat) (hn : d ≤ 1048576) : Tot (fun n => laws_heldIntS.f n (upN 1 d) 1) (Eq (1 + (d : Int))) := by
  unfold laws_heldIntS.f
  exact held_loop d [] 1 (by simp; omega) (by omega) (by omega)
theorem rdOf_mid {α : Type} (d : α) (pre suf : List α) (x : α) : rdOf d (pre ++ x :: suf) (pre.length : Int) = x := by simp [rdOf]
theorem szS_loop (l : List ByteArray) (hl : l.length ≤ 1048576) : ∀ (d i : Nat) (a : Int), i + d = l.length → Tot (fun k => laws_szStringS.l0 k l a (i : Int)) (fun _ => True) := by
  intro d
  induction d with
  | zero =>
    intro i a h
    refine Tot.step (fun k => laws_szStringS.l0.eq_2 _ _ _ _) ?_
    exact Tot.neg (by omega) (Tot.ret trivial)
  | succ d ih =>
    intro i a h
    refine Tot.step (fun k => laws_szStringS.l0.eq_2 _ _ _ _) ?_
    refine Tot.pos (by omega) (Tot.pos (by omega) (Tot.ite (fun _ => Tot.ret trivial) (fun _ => ?_)))
    rw [wrap_nat i (by omega)]
    exact ih (i + 1) _ (by omega)
/-- The size of the strings: below nought, or the list is not too long. -/
theorem szS_t (l : List ByteArray) (hl : l.length ≤ 140737488351232) : Tot (fun k => laws_szStringS.f k l 1048576) (fun r => r < 0 ∨ l.length ≤ 1048576) := by
  unfold laws_szStringS.f
  rw [show wrap64 (1048576 - (l.length : Int)) = 1048576 - (l.length : Int) from wrap_in (by omega) (by omega)]
  refine Tot.ite (fun _ => Tot.ret (Or.inl (by omega))) (fun h => ?_)
  exact (szS_loop l (by omega) l.length 0 _ (by omega)).mono (fun _ _ => Or.inr (by omega))
theorem toStringS_loop (l : List ByteArray) (hn : l.length ≤ 1048576) : ∀ (suf pre rest : List ByteArray), l = pre ++ suf → rest.length = suf.length → Tot (fun k => laws_toStringS.l0 k l (pre ++ rest) (pre.length : Int)) (Eq l) := by
  intro suf
  induction suf with
  | nil =>
    intro pre rest h hr
    obtain rfl : rest = [] := List.eq_nil_of_length_eq_zero (by simpa using hr)
    refine Tot.step (fun k => laws_toStringS.l0.eq_2 _ _ _ _) ?_
    exact Tot.neg (by simp [h]) (Tot.ret (by simp [h]))
  | cons x suf ih =>
    intro pre rest h hr
    match rest, hr with
    | r :: rest, hr =>
    have hp : pre.length < l.length := by simp [h]
    have hr' : rest.length = suf.length := by simpa using hr
    have hl : l.length = pre.length + suf.length + 1 := by simp [h]; omega
    refine Tot.step (fun k => laws_toStringS.l0.eq_2 _ _ _ _) ?_
    refine Tot.pos (by omega) (Tot.pos (by omega) (Tot.pos (by simp; omega) ?_))
    rw [set_mid, wrap_nat _ (by omega), show rdOf ByteArray.empty l (pre.length : Int) = x by rw [h, rdOf_mid]]
    have := ih (pre ++ [x]) rest (by simp [h]) hr'
    simpa using this
theorem toStringS_t (l : List ByteArray) (hn : l.length ≤ 1048576) : Tot (fun k => laws_toStringS.f k l) (Eq l) := by
  unfold laws_toStringS.f
  refine Tot.pos (by omega) (Tot.pos (by omega) ?_)
  exact toStringS_loop l hn l [] _ rfl (by simp)
theorem eqStringS_loop (l : List ByteArray) (hn : l.length ≤ 4611686018427387903) : ∀ (d i : Nat), i + d = l.length → Tot (fun k => laws_eqStringS.l0 k l l (i : Int)) (Eq true) := by
  intro d
  induction d with
  | zero =>
    intro i h
    refine Tot.step (fun k => laws_eqStringS.l0.eq_2 _ _ _ _) ?_
    exact Tot.neg (by omega) (Tot.ret rfl)
  | succ d ih =>
    intro i h
    refine Tot.step (fun k => laws_eqStringS.l0.eq_2 _ _ _ _) ?_
    refine Tot.pos (by omega) (Tot.pos (by omega) (Tot.pos (by omega) (Tot.pos rfl ?_)))
    rw [wrap_nat i (by omega)]
    exact ih (i + 1) (by omega)
theorem eqStringS_t (l : List ByteArray) (hn : l.length ≤ 4611686018427387903) : Tot (fun k => laws_eqStringS.f k l l) (Eq true) := by
  unfold laws_eqStringS.f
  exact Tot.pos rfl (eqStringS_loop l hn l.length 0 (by omega))
theorem markText_loop : ∀ (n : Nat) (x : Int) (s : ByteArray), x.toNat ≤ n → x ≤ 4611686018427387903 → s.size + n ≤ 4611686018427387903 → Tot (fun k => laws_markText.l0 k x s) (fun _ => True) := by
  intro n
  induction n with
  | zero =>
    intro x s h h1 h2
    refine Tot.step (fun k => laws_markText.l0.eq_2 _ _ _) ?_
    exact Tot.neg (by omega) (Tot.pos (by omega) (Tot.ret trivial))
  | succ n ih =>
    intro x s h h1 h2
    refine Tot.step (fun k => laws_markText.l0.eq_2 _ _ _) ?_
    refine Tot.ite (fun hx => Tot.some_bind ?_) (fun hx => Tot.pos (by omega) (Tot.ret trivial))
    have hz : (strOfNums [(wrap64 (48 + (Int.tmod x 10))) % 256]).size = 1 := by rw [strOfNums_size]; rfl
    refine Tot.pos (by omega) ?_
    rw [tdiv_in (by omega), wrap_in (by omega) (by omega)]
    refine ih (x / 10) _ (by omega) (by omega) ?_
    rw [ByteArray.size_append]
    omega
theorem markText_t (x : Int) (h : x ≤ 2147483647) : Tot (fun k => laws_markText.f k x) (fun _ => True) := by
  unfold laws_markText.f
  refine Tot.ite (fun _ => Tot.ret trivial) (fun _ => ?_)
  exact markText_loop x.toNat x _ (Nat.le_refl _) (by omega) (by have : (⟨#[]⟩ : ByteArray).size = 0 := rfl; omega)
theorem markStringS_loop : ∀ (d i : Nat) (l : List ByteArray) (x : Int), i + d = l.length → l.length ≤ 1048576 → 0 ≤ x → x + d ≤ 2147483647 → Tot (fun k => laws_markStringS.l0 k l x (i : Int)) (fun r => 0 ≤ r.1) := by
  intro d
  induction d with
  | zero =>
    intro i l x h hl h0 h1
    refine Tot.step (fun k => laws_markStringS.l0.eq_2 _ _ _ _) ?_
    exact Tot.neg (by omega) (Tot.ret h0)
  | succ d ih =>
    intro i l x h hl h0 h1
    refine Tot.step (fun k => laws_markStringS.l0.eq_2 _ _ _ _) ?_
    refine Tot.pos (by omega) (Tot.bind (markText_t x (by omega)) (fun s _ => Tot.pos (by omega) ?_))
    rw [wrap_nat i (by omega), wrap_in (by omega) (by omega)]
    exact ih (i + 1) _ (x + 1) (by rw [List.length_set]; omega) (by rw [List.length_set]; omega) (by omega) (by omega)
theorem markStringS_t (l : List ByteArray) (hl : l.length ≤ 1048576) : Tot (fun k => laws_markStringS.f k l 1) (fun r => 0 ≤ r.1) := by
  unfold laws_markStringS.f
  exact markStringS_loop l.length 0 l 1 (by omega) hl (by omega) (by omega)
/-- The balls that may be potted are among 1 to 7. -/
def inB (r : Int) (c : Bool) (l : Int) : Bool :=
  match impl_Frame_next.f r c l with
  | some t => t.data.toList.all fun b => decide (49 ≤ b.toNat ∧ b.toNat ≤ 55)
  | none => false
set_option maxRecDepth 100000 in
theorem in_all : ∀ r < 16, ∀ c : Bool, ∀ l < 9, goodB (r : Nat) c (l : Nat) = true → inB (r : Nat) c (l : Nat) = true := by decide +kernel
theorem in_balls {r : Int} {c : Bool} {l b : Int} {s : ByteArray} (h : goodB r c l = true) (hs : impl_Frame_next.f r c l = some s) (hb : among b s.data.toList = true) : 49 ≤ b ∧ b ≤ 55 := by
  obtain ⟨h1, h2, h3, h4, _⟩ := good_range h
  obtain ⟨n, rfl⟩ : ∃ n : Nat, r = (n : Int) := ⟨r.toNat, by omega⟩
  obtain ⟨m, rfl⟩ : ∃ m : Nat, l = (m : Int) := ⟨l.toNat, by omega⟩
  have hi := in_all n (by omega) c m (by omega) h
  unfold inB at hi
  rw [hs] at hi
  unfold among at hb
  obtain ⟨x, hx, he⟩ := List.any_eq_true.1 hb
  have := List.all_eq_true.1 hi x hx
  simp only [decide_eq_true_eq] at he this
  omega
/-- What is known behind a break: both tell it alike; where it is one, it leads to a frame, and its balls are among 1 to 7. -/
def aftR2 (a : ByteArray) (i : Nat) (x y : Int × Bool × Int × Bool) : Prop := x.2.2.2 = y.2.2.2 ∧ (x.2.2.2 = true → x = y ∧ goodB x.1 x.2.1 x.2.2.1 = true ∧ ∀ j : Nat, i ≤ j → j < a.size → 49 ≤ bt a (j : Int) ∧ bt a (j : Int) ≤ 55)
theorem after2_loop (a : ByteArray) (ha : a.size ≤ 36) : ∀ (d i : Nat) (r : Int) (c : Bool) (l : Int), i + d = a.size → goodB r c l = true → Two (fun k => spec_frAfter.l0 k a (i : Int) r c l) (fun k => impl_Frame_behind.l0 k a (a.size : Int) (i : Int) r c l) (aftR2 a i) := by
  intro d
  induction d with
  | zero =>
    intro i r c l hd h
    refine Two.lstep (fun k => spec_frAfter.l0.eq_2 _ _ _ _ _ _) (Two.rstep (fun k => impl_Frame_behind.l0.eq_2 _ _ _ _ _ _ _) ?_)
    exact Two.lneg (by omega) (Two.rneg (by omega) (Two.ret ⟨rfl, fun _ => ⟨rfl, h, fun j h1 h2 => absurd h2 (by omega)⟩⟩))
  | succ d ih =>
    intro i r c l hd h
    obtain ⟨s, hs, hn, hi, hg⟩ := next h
    have hb := bt_range a (i : Int)
    obtain ⟨e1, e2⟩ := extract_one a i (by omega)
    refine Two.lstep (fun k => spec_frAfter.l0.eq_2 _ _ _ _ _ _) (Two.rstep (fun k => impl_Frame_behind.l0.eq_2 _ _ _ _ _ _ _) ?_)
    refine Two.lpos (by omega) (Two.lpos (by omega) (Two.lbind (frPot_t hs hn) ?_))
    rintro _ rfl
    rw [wrap_nat i (by omega)]
    refine Two.rpos (by omega) ?_
    have hcont : strings_Contains.f s (a.extract i (i + 1)) = some (among (bt a (i : Int)) s.data.toList) := by
      unfold strings_Contains.f
      rw [if_pos e1, contains_among _ (by rw [e2]; exact hb.1) (by rw [e2]; exact hb.2), e2]
    simp only [hi, pot_eq, Int.toNat_natCast]
    refine Two.rsome (Two.rpos (by omega) (Two.rpos (by omega) (Two.rpos (by omega) ?_)))
    rw [hcont]
    refine Two.rsome ?_
    by_cases g : among (bt a (i : Int)) s.data.toList = true
    · rw [if_pos g]
      refine Two.lpos rfl (Two.rpos g (Two.rsome ((ih (i + 1) _ _ _ (by omega) (hg _ g)).mono ?_)))
      rintro x y ⟨q1, q2⟩
      refine ⟨q1, fun e => ?_⟩
      obtain ⟨q3, q4, q5⟩ := q2 e
      refine ⟨q3, q4, fun j h1 h2 => ?_⟩
      by_cases hj : j = i
      · subst hj; exact in_balls h hi g
      · exact q5 j (by omega) h2
    · rw [if_neg g]
      exact Two.lneg (by simp) (Two.rneg g (Two.ret ⟨rfl, fun e => by cases e⟩))
theorem after2_t {r : Int} {c : Bool} {l : Int} (a : ByteArray) (h : goodB r c l = true) : Two (fun k => spec_frAfter.f k r c l a) (fun k => impl_Frame_behind.f k r c l a) (fun x y => aftR2 a 0 x y ∧ (x.2.2.2 = true → a.size ≤ 36)) := by
  unfold spec_frAfter.f impl_Frame_behind.f
  by_cases g : (a.size : Int) > 36
  · exact Two.lpos g (Two.rpos g (Two.ret ⟨⟨rfl, fun e => by cases e⟩, fun e => by cases e⟩))
  · exact Two.lneg g (Two.rneg g ((after2_loop a (by omega) a.size 0 r c l (by omega) h).mono (fun x y q => ⟨q, fun _ => by omega⟩)))
theorem points_two (a : ByteArray) (ha : a.size ≤ 36) : ∀ (d i : Nat) (x : Int), i + d = a.size → Two (fun k => spec_frPoints.l0 k a x (i : Int)) (fun k => impl_PointsOf.l0 k a x (a.size : Int) (i : Int)) (fun u v => v = (u, true)) := by
  intro d
  induction d with
  | zero =>
    intro i x h
    refine Two.lstep (fun k => spec_frPoints.l0.eq_2 _ _ _ _) (Two.rstep (fun k => impl_PointsOf.l0.eq_2 _ _ _ _ _) ?_)
    exact Two.lneg (by omega) (Two.rneg (by omega) (Two.ret rfl))
  | succ d ih =>
    intro i x h
    refine Two.lstep (fun k => spec_frPoints.l0.eq_2 _ _ _ _) (Two.rstep (fun k => impl_PointsOf.l0.eq_2 _ _ _ _ _) ?_)
    refine Two.lpos (by omega) (Two.lpos (by omega) (Two.rpos (by omega) (Two.rpos (by omega) (Two.rpos (by omega) ?_))))
    rw [wrap_nat i (by omega)]
    exact ih (i + 1) _ (by omega)
theorem dropWhile_nil {p : UInt8 → Bool} : ∀ (l : List UInt8), (∀ b ∈ l, p b = true) → l.dropWhile p = []
  | [], _ => rfl
  | x :: l, h => by
    rw [List.dropWhile_cons, if_pos (h x (List.mem_cons_self ..))]
    exact dropWhile_nil l (fun b hb => h b (List.mem_cons_of_mem _ hb))
theorem trim_none {l cs : List UInt8} (h : ∀ b ∈ l, cs.contains b = true) : Lib.trimS l cs = [] := by
  unfold Lib.trimS Lib.trimRightS Lib.trimLeftS
  have e : l.reverse.dropWhile (cs.contains ·) = [] := by
    refine dropWhile_nil _ (fun b hb => ?_)
    exact h b (by simpa using hb)
  rw [e]
  rfl
theorem bytes_of {a : ByteArray} (h : ∀ j : Nat, j < a.size → 49 ≤ bt a (j : Int) ∧ bt a (j : Int) ≤ 55) : ∀ b ∈ a.data.toList, ([49, 50, 51, 52, 53, 54, 55] : List UInt8).contains b = true := by
  intro b hb
  obtain ⟨j, hj, rfl⟩ := List.getElem_of_mem hb
  have hj' : j < a.size := by rw [size_list]; exact hj
  have hh := h j hj'
  have e : bt a (j : Int) = ((a.data.toList[j]).toNat : Int) := by
    unfold bt
    simp only [Int.toNat_natCast]
    rw [dif_pos hj']
    rfl
  rw [e] at hh
  generalize a.data.toList[j] = b at *
  have h1 : 49 ≤ b.toNat ∧ b.toNat ≤ 55 := by omega
  have : b = 49 ∨ b = 50 ∨ b = 51 ∨ b = 52 ∨ b = 53 ∨ b = 54 ∨ b = 55 := by
    have e2 : ∀ n : Nat, n < 256 → b.toNat = n → b = UInt8.ofNat n := fun n hn e => by
      apply UInt8.toNat_inj.1
      rw [UInt8.toNat_ofNat', e]
      omega
    have h3 : b.toNat = 49 ∨ b.toNat = 50 ∨ b.toNat = 51 ∨ b.toNat = 52 ∨ b.toNat = 53 ∨ b.toNat = 54 ∨ b.toNat = 55 := by omega
    rcases h3 with h | h | h | h | h | h | h <;> have := e2 _ (by omega) h <;> simp [this]
  rcases this with rfl | rfl | rfl | rfl | rfl | rfl | rfl <;> decide
theorem points_t (a : ByteArray) (ha : a.size ≤ 36) (h : ∀ j : Nat, j < a.size → 49 ≤ bt a (j : Int) ∧ bt a (j : Int) ≤ 55) : Two (fun k => spec_frPoints.f k a) (fun k => impl_PointsOf.f k a) (fun u v => v = (u, true)) := by
  unfold spec_frPoints.f impl_PointsOf.f
  refine Two.rneg (by omega) ?_
  have e : strings_Trim.f a (⟨#[49, 50, 51, 52, 53, 54, 55]⟩ : ByteArray) = some ⟨#[]⟩ := by
    unfold strings_Trim.f
    rw [if_pos ⟨by omega, by decide, by decide⟩]
    rw [show (⟨#[49, 50, 51, 52, 53, 54, 55]⟩ : ByteArray).data.toList = [49, 50, 51, 52, 53, 54, 55] from rfl, trim_none (bytes_of h)]
  rw [e]
  refine Two.rsome (Two.rstep (fun k => impl_PointsOf.j0.eq_2 _ _ _) ?_)
  refine Two.rneg (by decide +kernel) ?_
  exact points_two a ha a.size 0 0 (by omega)
theorem good_miss {r : Int} {c : Bool} {l : Int} (h : goodB r c l = true) : goodB r false l = true := by
  rw [goodB, decide_eq_true_eq] at h ⊢
  obtain ⟨h1, h2, h3, h4, h5, h6⟩ := h
  refine ⟨h1, h2, h3, h4, (fun e => by cases e), ?_⟩
  rcases h6 with h6 | ⟨h6, _⟩
  · exact .inl h6
  · exact .inr ⟨h6, rfl⟩
theorem play_two (l : List ByteArray) (hl : l.length ≤ 100) : ∀ (d i : Nat) (o : List Int) (r : Int) (c : Bool) (m : Int), i + d = l.length → o.length = 2 → goodB r c m = true →
    Two (fun k => spec_PlayFrame.l0 k o l (l.length : Int) (i : Int) r c m) (fun k => impl_PlayFrame.l0 k o l (l.length : Int) (i : Int) r c m) (fun x y => x = y ∧ x.1.length ≤ 2) := by
  intro d
  induction d with
  | zero =>
    intro i o r c m h ho hg
    refine Two.lstep (fun k => spec_PlayFrame.l0.eq_2 _ _ _ _ _ _ _ _) (Two.rstep (fun k => impl_PlayFrame.l0.eq_2 _ _ _ _ _ _ _ _) ?_)
    exact Two.lneg (by omega) (Two.rneg (by omega) (Two.ret ⟨rfl, by simp only; omega⟩))
  | succ d ih =>
    intro i o r c m h ho hg
    refine Two.lstep (fun k => spec_PlayFrame.l0.eq_2 _ _ _ _ _ _ _ _) (Two.rstep (fun k => impl_PlayFrame.l0.eq_2 _ _ _ _ _ _ _ _) ?_)
    refine Two.lpos (by omega) (Two.lpos (by omega) (Two.lpos (by omega) (Two.rpos (by omega) (Two.rpos (by omega) (Two.rpos (by omega) ?_)))))
    generalize rdOf ByteArray.empty l (i : Int) = a
    have ht : Int.tmod (i : Int) 2 = (i : Int) % 2 := tmod_in (by omega)
    rw [ht, wrap_nat i (by omega)]
    have hfa : ∀ k, impl_FrameAfter.f k r c m a = (impl_IsFrame.f k r c m).bind fun t => if t = true then (impl_Frame_behind.f k r c m a) else some (0, false, 0, false) := by
      intro k
      unfold impl_FrameAfter.f
      cases impl_IsFrame.f k r c m with
      | none => rfl
      | some t =>
        simp only [Option.bind_some]
        split
        · cases impl_Frame_behind.f k r c m a <;> rfl
        · rfl
    simp only [hfa]
    have hT : Two (fun k => spec_frAfter.f k r c m a) (fun k => (impl_IsFrame.f k r c m).bind fun t => if t = true then (impl_Frame_behind.f k r c m a) else some (0, false, 0, false)) (fun x y => aftR2 a 0 x y ∧ (x.2.2.2 = true → a.size ≤ 36)) := by
      refine Two.rbind (isFrame_t r c m) ?_
      rintro _ rfl
      exact Two.rpos hg (after2_t a hg)
    refine Two.bind hT ?_
    rintro ⟨x1, x2, x3, x4⟩ ⟨y1, y2, y3, y4⟩ ⟨⟨q1, q2⟩, q3⟩
    simp only at q1 q2 q3 ⊢
    subst q1
    cases x4 with
    | false => exact Two.lneg (by simp) (Two.rneg (by simp) (Two.ret ⟨rfl, by simp⟩))
    | true =>
      obtain ⟨q4, q5, q6⟩ := q2 rfl
      simp only [Prod.mk.injEq, and_true] at q4
      obtain ⟨rfl, rfl, rfl⟩ := q4
      refine Two.lpos rfl (Two.rpos rfl (Two.lpos (by omega) (Two.lpos (by omega) ?_)))
      refine Two.bind (points_t a (q3 rfl) (fun j hj => q6 j (by omega) hj)) ?_
      rintro u _ rfl
      refine Two.rpos (by omega) (Two.rpos (by omega) ?_)
      have hm : Tot (fun k => impl_MissBall.f k x1 x2 x3) (Eq (x1, false, x3, true)) := by
        unfold impl_MissBall.f
        refine Tot.bind (isFrame_t x1 x2 x3) ?_
        rintro _ rfl
        exact Tot.pos q5 (Tot.ret rfl)
      refine Two.rbind hm ?_
      rintro _ rfl
      exact ih (i + 1) _ _ _ _ (by omega) (by rw [List.length_set]; exact ho) (good_miss q5)
theorem both (r : Int) (c : Bool) (m : Int) (l : List ByteArray) : ∃ v, v.1.length ≤ 2 ∧ Tot (fun k => spec_PlayFrame.f k r c m l) (Eq v) ∧ Tot (fun k => impl_PlayFrame.f k r c m l) (Eq v) := by
  have key : Two (fun k => spec_PlayFrame.f k r c m l) (fun k => impl_PlayFrame.f k r c m l) (fun x y => x = y ∧ x.1.length ≤ 2) := by
    unfold spec_PlayFrame.f impl_PlayFrame.f
    rw [frGood_eq]
    refine Two.lsome (Two.rbind (isFrame_t r c m) ?_)
    rintro _ rfl
    by_cases h : goodB r c m = true
    · refine Two.lpos h (Two.rpos h (Two.lstep (fun k => spec_PlayFrame.j0.eq_2 _ _ _ _ _ _) (Two.rstep (fun k => impl_PlayFrame.j0.eq_2 _ _ _ _ _ _) ?_)))
      by_cases g : (l.length : Int) > 100
      · exact Two.lpos (by simpa using g) (Two.rpos (by simpa using g) (Two.ret ⟨rfl, by simp⟩))
      · refine Two.lneg (by simpa using g) (Two.rneg (by simpa using g) ?_)
        exact play_two l (by omega) l.length 0 _ r c m (by omega) rfl h
    · refine Two.lneg h (Two.rneg h (Two.lstep (fun k => spec_PlayFrame.j0.eq_2 _ _ _ _ _ _) (Two.rstep (fun k => impl_PlayFrame.j0.eq_2 _ _ _ _ _ _) ?_)))
      exact Two.lpos rfl (Two.rpos rfl (Two.ret ⟨rfl, by simp⟩))
  obtain ⟨x, y, hx, hy, rfl, hl⟩ := key
  exact ⟨x, hl, Tot.of hx, Tot.of hy⟩
theorem FnExactPlayFrame : ∀ (r : Int) (c : Bool) (m : Int) (l : List ByteArray), (Lit.int .i64 r).wf = true → (Lit.int .i64 m).wf = true → l.length * 16 ≤ 140737488351232 → ∃ k, laws_FnExactPlayFrame.f k r c m l = some true := by
  intro r c m l _ _ hl0
  refine Tot.rounds ?_
  obtain ⟨v, hv, A, B⟩ := both r c m l
  unfold laws_FnExactPlayFrame.f laws_toFrame.f
  refine Tot.bind (szS_t l (by omega)) (fun z hz => Tot.ite (fun _ => Tot.ret rfl) (fun hn => ?_))
  have hl : l.length ≤ 1048576 := by rcases hz with h | h <;> omega
  have E := eqIntS_t v.1 (by omega)
  refine Tot.some_bind (Tot.bind (toStringS_t l hl) ?_)
  rintro _ rfl
  refine Tot.bind A ?_
  rintro _ rfl
  refine Tot.bind (toStringS_t l hl) ?_
  rintro _ rfl
  refine Tot.some_bind (Tot.bind B ?_)
  rintro _ rfl
  refine Tot.bind E ?_
  rintro _ rfl
  refine Tot.pos rfl (Tot.step (fun k => laws_FnExactPlayFrame.j0.eq_2 _ _ _ _ _ _ _ _ _ _ _) ?_)
  refine Tot.neg (by simp) (Tot.bind (toStringS_t l hl) ?_)
  rintro _ rfl
  refine Tot.bind (eqStringS_t l (by omega)) ?_
  rintro _ rfl
  refine Tot.pos rfl (Tot.bind (markStringS_t l hl) (fun q hq => Tot.neg (by omega) (Tot.bind E ?_)))
  rintro _ rfl
  refine Tot.pos rfl (Tot.step (fun k => laws_FnExactPlayFrame.j1.eq_2 _ _ _ _ _ _ _ _ _) ?_)
  refine Tot.neg (by simp) (Tot.bind (mark_t v.1 (by omega)) ?_)
  rintro _ rfl
  refine Tot.bind (held_t v.1.length (by omega)) ?_
  rintro _ rfl
  refine Tot.neg (by omega) (Tot.pos rfl ?_)
  unfold laws_toFrame.f
  refine Tot.some_bind (Tot.bind (toStringS_t l hl) ?_)
  rintro _ rfl
  refine Tot.bind B ?_
  rintro _ rfl
  refine Tot.bind E ?_
  rintro _ rfl
  refine Tot.pos rfl (Tot.step (fun k => laws_FnExactPlayFrame.j2.eq_2 _ _ _ _) ?_)
  refine Tot.neg (by simp) (Tot.bind (held_t v.1.length (by omega)) ?_)
  rintro _ rfl
  exact Tot.neg (by omega) (Tot.pos rfl (Tot.ret rfl))
end Go.Proofs.YtogcikjkfobjiaaDoor.Pure
namespace Go.Proofs.YtogcikjkfobjiaaDoor.PrintWords
theorem sized_ints : type_of% @Go.Proofs.YtogcikjkfobjiaaDoorW.PrintWords.sized_ints := @Go.Proofs.YtogcikjkfobjiaaDoorW.PrintWords.sized_ints
end Go.Proofs.YtogcikjkfobjiaaDoor.PrintWords
