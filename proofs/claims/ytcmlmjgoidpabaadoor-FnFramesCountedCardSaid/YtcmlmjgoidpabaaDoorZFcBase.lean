/- Frames and their breaks: the plain facts that the laws on frames share. -/
import Derived.Test.YtcmlmjgoidpabaaDoorZMFnFramesCountedx14a
import Derived.Test.YtcmlmjgoidpabaaDoorZU
set_option linter.unusedVariables false
set_option linter.unusedSimpArgs false
namespace Go.Proofs.YtcmlmjgoidpabaaDoor.Pure
open Go.RowKit Go.Proofs.YtcmlmjgoidpabaaDoor.MFnFramesCounted Go.Proofs.YtcmlmjgoidpabaaDoorW.PrintWords Go.Proofs.YtcmlmjgoidpabaaDoorW.PrintLast
def Tot {α : Type} (g : Nat → Option α) (P : α → Prop) : Prop := ∃ r, Ev g r ∧ P r
theorem Tot.ret {α : Type} {P : α → Prop} {r : α} (h : P r) : Tot (fun _ => some r) P := ⟨r, Ev.now r, h⟩
theorem Tot.pos {α : Type} {c : Prop} [Decidable c] {f g : Nat → Option α} {P : α → Prop} (h : c) (hf : Tot f P) : Tot (fun k => if c then f k else g k) P := by
  simp only [if_pos h]; exact hf
theorem Tot.neg {α : Type} {c : Prop} [Decidable c] {f g : Nat → Option α} {P : α → Prop} (h : ¬ c) (hg : Tot g P) : Tot (fun k => if c then f k else g k) P := by
  simp only [if_neg h]; exact hg
theorem Tot.ite {α : Type} {c : Prop} [Decidable c] {f g : Nat → Option α} {P : α → Prop} (hf : c → Tot f P) (hg : ¬ c → Tot g P) : Tot (fun k => if c then f k else g k) P := by
  by_cases h : c
  · exact Tot.pos h (hf h)
  · exact Tot.neg h (hg h)
theorem Tot.bind {α β : Type} {g : Nat → Option α} {f : Nat → α → Option β} {P : α → Prop} {Q : β → Prop} (h : Tot g P) (k : ∀ a, P a → Tot (fun n => f n a) Q) : Tot (fun n => (g n).bind (f n)) Q := by
  obtain ⟨a, ha, hp⟩ := h
  obtain ⟨r, hr, hq⟩ := k a hp
  exact ⟨r, Ev.bind ha hr, hq⟩
theorem Tot.some_bind {α β : Type} {f : Nat → α → Option β} {Q : β → Prop} {a : α} (k : Tot (fun n => f n a) Q) : Tot (fun n => (some a).bind (f n)) Q := k
theorem Tot.step {α : Type} {g f : Nat → Option α} {P : α → Prop} (h : ∀ k, g (k + 1) = f k) (k : Tot f P) : Tot g P := by
  obtain ⟨r, hr, hp⟩ := k
  exact ⟨r, Ev.step h hr, hp⟩
theorem Tot.mono {α : Type} {g : Nat → Option α} {P Q : α → Prop} (h : Tot g P) (k : ∀ r, P r → Q r) : Tot g Q := by
  obtain ⟨r, hr, hp⟩ := h
  exact ⟨r, hr, k r hp⟩
theorem Tot.rounds {α : Type} {g : Nat → Option α} {r : α} (h : Tot g (Eq r)) : ∃ k, g k = some r := by
  obtain ⟨_, hr, rfl⟩ := h
  exact hr.rounds
theorem Tot.ev {α : Type} {g : Nat → Option α} {r : α} (h : Tot g (Eq r)) : Ev g r := by
  obtain ⟨_, hr, rfl⟩ := h
  exact hr
theorem Tot.of {α : Type} {g : Nat → Option α} {r : α} (h : Ev g r) : Tot g (Eq r) := ⟨r, h, rfl⟩
theorem wrap_in {x : Int} (h0 : -9223372036854775808 ≤ x) (h1 : x ≤ 9223372036854775807) : wrap64 x = x := by unfold wrap64; omega
theorem wrap_nat (n : Nat) (h : n < 4611686018427387904) : wrap64 ((n : Int) + 1) = ((n + 1 : Nat) : Int) := by rw [wrap_in] <;> omega
theorem rd_get (l : List Int) (i : Nat) (h : i < l.length) : rd l (i : Int) = l[i] := by simp [rd, h]
def Two {α β : Type} (g : Nat → Option α) (f : Nat → Option β) (R : α → β → Prop) : Prop := ∃ a b, Ev g a ∧ Ev f b ∧ R a b
section
variable {α β α' β' : Type} {g : Nat → Option α} {f : Nat → Option β} {R : α → β → Prop}
theorem Two.ret {a : α} {b : β} (h : R a b) : Two (fun _ => some a) (fun _ => some b) R := ⟨a, b, Ev.now a, Ev.now b, h⟩
theorem Two.lpos {c : Prop} [Decidable c] {g' : Nat → Option α} (h : c) (t : Two g f R) : Two (fun k => if c then g k else g' k) f R := by
  simp only [if_pos h]; exact t
theorem Two.lneg {c : Prop} [Decidable c] {g' : Nat → Option α} (h : ¬ c) (t : Two g f R) : Two (fun k => if c then g' k else g k) f R := by
  simp only [if_neg h]; exact t
theorem Two.rpos {c : Prop} [Decidable c] {f' : Nat → Option β} (h : c) (t : Two g f R) : Two g (fun k => if c then f k else f' k) R := by
  simp only [if_pos h]; exact t
theorem Two.rneg {c : Prop} [Decidable c] {f' : Nat → Option β} (h : ¬ c) (t : Two g f R) : Two g (fun k => if c then f' k else f k) R := by
  simp only [if_neg h]; exact t
theorem Two.lbind {g' : Nat → α → Option α'} {P : α → Prop} {S : α' → β → Prop} (h : Tot g P) (k : ∀ a, P a → Two (fun n => g' n a) f S) : Two (fun n => (g n).bind (g' n)) f S := by
  obtain ⟨a, ha, hp⟩ := h
  obtain ⟨r, q, hr, hq, hs⟩ := k a hp
  exact ⟨r, q, Ev.bind ha hr, hq, hs⟩
theorem Two.rbind {f' : Nat → β → Option β'} {P : β → Prop} {S : α → β' → Prop} (h : Tot f P) (k : ∀ b, P b → Two g (fun n => f' n b) S) : Two g (fun n => (f n).bind (f' n)) S := by
  obtain ⟨a, ha, hp⟩ := h
  obtain ⟨r, q, hr, hq, hs⟩ := k a hp
  exact ⟨r, q, hr, Ev.bind ha hq, hs⟩
theorem Two.lsome {g' : Nat → α → Option α'} {S : α' → β → Prop} {a : α} (k : Two (fun n => g' n a) f S) : Two (fun n => (some a).bind (g' n)) f S := k
theorem Two.rsome {f' : Nat → β → Option β'} {S : α → β' → Prop} {b : β} (k : Two g (fun n => f' n b) S) : Two g (fun n => (some b).bind (f' n)) S := k
theorem Two.bind {g' : Nat → α → Option α'} {f' : Nat → β → Option β'} {S : α' → β' → Prop} (h : Two g f R) (k : ∀ a b, R a b → Two (fun n => g' n a) (fun n => f' n b) S) : Two (fun n => (g n).bind (g' n)) (fun n => (f n).bind (f' n)) S := by
  obtain ⟨a, b, ha, hb, hp⟩ := h
  obtain ⟨r, q, hr, hq, hs⟩ := k a b hp
  exact ⟨r, q, Ev.bind ha hr, Ev.bind hb hq, hs⟩
theorem Two.lstep {g' : Nat → Option α} (h : ∀ k, g (k + 1) = g' k) (t : Two g' f R) : Two g f R := by
  obtain ⟨a, b, ha, hb, hp⟩ := t
  exact ⟨a, b, Ev.step h ha, hb, hp⟩
theorem Two.rstep {f' : Nat → Option β} (h : ∀ k, f (k + 1) = f' k) (t : Two g f' R) : Two g f R := by
  obtain ⟨a, b, ha, hb, hp⟩ := t
  exact ⟨a, b, ha, Ev.step h hb, hp⟩
theorem Two.mono {S : α → β → Prop} (t : Two g f R) (h : ∀ a b, R a b → S a b) : Two g f S := by
  obtain ⟨a, b, ha, hb, hp⟩ := t
  exact ⟨a, b, ha, hb, h a b hp⟩
theorem Two.eqs {f : Nat → Option α} (t : Two g f Eq) : ∃ v, Tot g (Eq v) ∧ Tot f (Eq v) := by
  obtain ⟨a, b, ha, hb, rfl⟩ := t
  exact ⟨a, ⟨a, ha, rfl⟩, ⟨a, hb, rfl⟩⟩
end
theorem mn_eq (a b : Int) : mn a b = if a < b then a else b := by unfold mn; split <;> split <;> omega
theorem tmod_in {a b : Int} (h : 0 ≤ a) : Int.tmod a b = a % b := Int.tmod_eq_emod_of_nonneg h
def goodB (r : Int) (c : Bool) (l : Int) : Bool := decide (0 ≤ r ∧ r ≤ 15 ∧ 2 ≤ l ∧ l ≤ 8 ∧ (c = true → r ≠ 15) ∧ (l = 2 ∨ (r = 0 ∧ c = false)))
theorem within_eq (a b c : Int) : impl_within.f a b c = some (decide (b ≤ a ∧ a ≤ c)) := by
  unfold impl_within.f; split <;> simp [*]
theorem l1In_eq (a b c : Int) : spec_l1In.f a b c = some (decide (b ≤ a ∧ a ≤ c)) := by
  unfold spec_l1In.f
  split
  · simp [*]
  · have : ¬ (b ≤ a ∧ a ≤ c) := by omega
    simp [this]
theorem frGood_eq (r : Int) (c : Bool) (l : Int) : spec_frGood.f r c l = some (goodB r c l) := by
  unfold spec_frGood.f goodB
  simp only [l1In_eq, Option.bind_some, decide_eq_true_eq]
  by_cases h1 : 0 ≤ r ∧ r ≤ 15
  · by_cases h2 : 2 ≤ l ∧ l ≤ 8
    · rw [if_pos h1, if_pos h2]
      cases c with
      | true =>
        by_cases h3 : r = 15
        · rw [if_pos rfl, if_pos h3]; simp [h3]
        · by_cases h4 : l = 2
          · rw [if_pos rfl, if_neg h3, if_pos h4]; simp [h3, h4]; omega
          · rw [if_pos rfl, if_neg h3, if_neg h4]
            simp [h4]
      | false =>
        by_cases h4 : l = 2
        · rw [if_neg (by simp), if_pos h4]; simp [h4]; omega
        · by_cases h5 : r = 0
          · rw [if_neg (by simp), if_neg h4, if_pos h5]; simp [h5]; omega
          · rw [if_neg (by simp), if_neg h4, if_neg h5]; simp [h4, h5]
    · rw [if_pos h1, if_neg h2]
      rw [decide_eq_false (fun e => h2 ⟨e.2.2.1, e.2.2.2.1⟩)]
  · rw [if_neg h1, decide_eq_false (fun e => h1 ⟨e.1, e.2.1⟩)]
theorem isFrame_t (r : Int) (c : Bool) (l : Int) : Tot (fun k => impl_IsFrame.f k r c l) (Eq (goodB r c l)) := by
  unfold impl_IsFrame.f
  simp only [within_eq]
  refine Tot.some_bind ?_
  have tail : (0 ≤ r ∧ r ≤ 15) → ¬ (c = true ∧ r = 15) → Tot (fun k => impl_IsFrame.j0 k false r c l) (Eq (goodB r c l)) := by
    intro h1 h3
    refine Tot.step (fun k => impl_IsFrame.j0.eq_2 _ _ _ _ _) ?_
    simp only [within_eq]
    refine Tot.neg (by simp) ?_
    refine Tot.ite (fun h => Tot.ret ?_) (fun h => Tot.ite (fun hc => Tot.ret ?_) (fun hc => Tot.some_bind (Tot.ret ?_)))
    · rw [Bool.eq_iff_iff, beq_iff_eq, goodB, decide_eq_true_eq]
      constructor
      · rintro ⟨_, _, _, _, _, e | e⟩ <;> omega
      · intro e; exact ⟨by omega, by omega, by omega, by omega, fun hc e => h3 ⟨hc, e⟩, .inl e⟩
    · subst hc
      rw [Bool.eq_iff_iff, beq_iff_eq, goodB, decide_eq_true_eq]
      constructor
      · rintro ⟨_, _, _, _, _, e | ⟨_, e⟩⟩
        · exact e
        · cases e
      · intro e; exact ⟨by omega, by omega, by omega, by omega, fun hc e => h3 ⟨hc, e⟩, .inl e⟩
    · have hc' : c = false := by simpa using hc
      subst hc'
      rw [Bool.eq_iff_iff, decide_eq_true_eq, goodB, decide_eq_true_eq]
      constructor
      · rintro ⟨_, _, e1, e2, _⟩; exact ⟨e1, e2⟩
      · intro e; exact ⟨by omega, by omega, e.1, e.2, fun hc => (by cases hc), .inr ⟨by omega, rfl⟩⟩
  have gone : ¬ ((0 ≤ r ∧ r ≤ 15) ∧ ¬ (c = true ∧ r = 15)) → Tot (fun k => impl_IsFrame.j0 k true r c l) (Eq (goodB r c l)) := by
    intro h
    refine Tot.step (fun k => impl_IsFrame.j0.eq_2 _ _ _ _ _) ?_
    refine Tot.pos rfl (Tot.ret ?_)
    rw [goodB, decide_eq_false]
    rintro ⟨e1, e2, _, _, e3, _⟩
    exact h ⟨⟨e1, e2⟩, fun e => e3 e.1 e.2⟩
  refine Tot.ite (fun h1 => ?_) (fun h1 => ?_)
  · have h1' : 0 ≤ r ∧ r ≤ 15 := by simpa using h1
    refine Tot.ite (fun hc => ?_) (fun hc => tail h1' (fun e => hc e.1))
    by_cases h3 : r = 15
    · rw [show (r == 15) = true by simpa using h3]
      exact gone (fun e => e.2 ⟨hc, h3⟩)
    · rw [show (r == 15) = false by simpa using h3]
      exact tail h1' (fun e => h3 e.2)
  · have h1' : ¬ (0 ≤ r ∧ r ≤ 15) := by simpa using h1
    exact gone (fun e => h1' e.1)
theorem good_range {r : Int} {c : Bool} {l : Int} (h : goodB r c l = true) : 0 ≤ r ∧ r ≤ 15 ∧ 2 ≤ l ∧ l ≤ 8 ∧ (c = true → r ≠ 15) ∧ (l = 2 ∨ (r = 0 ∧ c = false)) := by
  rwa [goodB, decide_eq_true_eq] at h
def among (b : Int) (L : List UInt8) : Bool := L.any fun x => decide ((x.toNat : Int) = b)
theorem size_list (s : ByteArray) : s.size = s.data.toList.length := by
  obtain ⟨⟨l⟩⟩ := s
  rfl
theorem bt_mid {s : ByteArray} {pre suf : List UInt8} {x : UInt8} (h : s.data.toList = pre ++ x :: suf) : bt s (pre.length : Int) = x.toNat := by
  have hs : pre.length < s.size := by
    rw [size_list, h, List.length_append, List.length_cons]; omega
  obtain ⟨⟨l⟩⟩ := s
  have hl : l = pre ++ x :: suf := h
  subst hl
  unfold bt
  simp only [Int.toNat_natCast]
  rw [dif_pos hs]
  show (((pre ++ x :: suf)[pre.length]'(by rw [List.length_append, List.length_cons]; omega)).toNat : Int) = x.toNat
  rw [List.getElem_append_right (by omega)]
  simp
def potS (r : Int) (c : Bool) (l : Int) : Int × Bool × Int := if c = true then (r, false, l) else (if r > 0 then (wrap64 (r - 1), true, l) else (r, c, wrap64 (l + 1)))
theorem pot_eq (r : Int) (c : Bool) (l : Int) : impl_Frame_pot.f r c l = some (potS r c l) := by
  unfold impl_Frame_pot.f potS
  split
  · rfl
  · split <;> rfl
theorem frPot_loop (b r : Int) (c : Bool) (l : Int) (s : ByteArray) (hs : s.size ≤ 1000) : ∀ (suf pre : List UInt8) (may : Bool), s.data.toList = pre ++ suf →
    Tot (fun k => spec_frPot.l0 k b may s (pre.length : Int) r c l) (Eq (if may || among b suf then ((potS r c l).1, (potS r c l).2.1, (potS r c l).2.2, true) else (r, c, l, false))) := by
  intro suf
  induction suf with
  | nil =>
    intro pre may h
    have hl := size_list s
    rw [h] at hl
    simp at hl
    refine Tot.step (fun k => spec_frPot.l0.eq_2 _ _ _ _ _ _ _ _) ?_
    refine Tot.neg (by omega) ?_
    cases may with
    | true =>
      rw [Bool.true_or]
      refine Tot.pos rfl ?_
      unfold potS
      refine Tot.ite (fun h1 => Tot.ret ?_) (fun h1 => Tot.ite (fun h2 => Tot.ret ?_) (fun h2 => Tot.ret ?_))
      · simp [h1]
      · simp [h1, h2]
      · simp [h1, h2]
    | false => exact Tot.neg (by simp) (Tot.ret (by simp [among]))
  | cons x suf ih =>
    intro pre may h
    have hl := size_list s
    rw [h] at hl
    simp at hl
    refine Tot.step (fun k => spec_frPot.l0.eq_2 _ _ _ _ _ _ _ _) ?_
    refine Tot.pos (by omega) ?_
    rw [wrap_nat _ (by omega), bt_mid h]
    have nxt := fun m => ih (pre ++ [x]) m (by simp [h])
    cases may with
    | true =>
      refine Tot.pos rfl ?_
      have := nxt true
      simpa using this
    | false =>
      refine Tot.neg (by simp) (Tot.pos (by omega) ?_)
      have := nxt ((x.toNat : Int) == b)
      rw [show (((x.toNat : Int) == b) || among b suf) = (false || among b (x :: suf)) by simp [among]; rfl] at this
      simpa using this
theorem contains_among (b : Int) (h0 : 0 ≤ b) (h1 : b ≤ 255) : ∀ L : List UInt8, decide (0 ≤ Lib.indexByte L b.toNat.toUInt8) = among b L := by
  have key : ∀ x : UInt8, (x == b.toNat.toUInt8) = decide ((x.toNat : Int) = b) := by
    intro x
    have hb : (b.toNat.toUInt8).toNat = b.toNat := by
      rw [Nat.toUInt8, UInt8.toNat_ofNat']; omega
    rw [Bool.eq_iff_iff, beq_iff_eq, decide_eq_true_eq]
    constructor
    · intro e; rw [e, hb]; omega
    · intro e; apply UInt8.toNat_inj.1; rw [hb]; omega
  intro L
  induction L with
  | nil => simp [Lib.indexByte, among]
  | cons x L ih =>
    have ha : among b (x :: L) = (decide ((x.toNat : Int) = b) || among b L) := by simp [among]
    have lo : -1 ≤ Lib.indexByte L b.toNat.toUInt8 := by
      clear ih ha
      induction L with
      | nil => simp [Lib.indexByte]
      | cons y L ih2 =>
        unfold Lib.indexByte
        split
        · omega
        · split
          · omega
          · omega
    rw [ha, ← ih, ← key, Lib.indexByte]
    cases hx : (x == b.toNat.toUInt8) with
    | true => simp
    | false =>
      rw [if_neg (by simp), Bool.false_or]
      by_cases hm : Lib.indexByte L b.toNat.toUInt8 = -1
      · rw [if_pos (by simpa using hm), hm]
      · rw [if_neg (by simpa using hm)]
        rw [Bool.eq_iff_iff, decide_eq_true_eq, decide_eq_true_eq]
        omega
def nextB (r : Int) (c : Bool) (l : Int) : Bool :=
  match spec_frNext.f 100 r c l, impl_Frame_next.f r c l with
  | some s, some t => decide (s.data.toList = t.data.toList ∧ s.size ≤ 6)
  | _, _ => false
def goesB (r : Int) (c : Bool) (l : Int) : Bool :=
  match impl_Frame_next.f r c l with
  | some t => t.data.toList.isEmpty || goodB (potS r c l).1 (potS r c l).2.1 (potS r c l).2.2
  | none => false
set_option maxRecDepth 100000 in
theorem next_all : ∀ r < 16, ∀ c : Bool, ∀ l < 9, goodB (r : Nat) c (l : Nat) = true → nextB (r : Nat) c (l : Nat) = true ∧ goesB (r : Nat) c (l : Nat) = true := by decide +kernel
theorem next {r : Int} {c : Bool} {l : Int} (h : goodB r c l = true) : ∃ s, s.size ≤ 6 ∧ Tot (fun k => spec_frNext.f k r c l) (Eq s) ∧ impl_Frame_next.f r c l = some s ∧ (∀ b, among b s.data.toList = true → goodB (potS r c l).1 (potS r c l).2.1 (potS r c l).2.2 = true) := by
  obtain ⟨h1, h2, h3, h4, _⟩ := good_range h
  obtain ⟨n, rfl⟩ : ∃ n : Nat, r = (n : Int) := ⟨r.toNat, by omega⟩
  obtain ⟨m, rfl⟩ : ∃ m : Nat, l = (m : Int) := ⟨l.toNat, by omega⟩
  obtain ⟨hb, hg⟩ := next_all n (by omega) c m (by omega) h
  unfold nextB at hb
  unfold goesB at hg
  split at hb
  · rename_i s t hs ht
    rw [decide_eq_true_eq] at hb
    have hst : s = t := by
      obtain ⟨⟨s⟩⟩ := s
      obtain ⟨⟨t⟩⟩ := t
      have := hb.1
      simp at this
      rw [this]
    subst hst
    rw [ht] at hg
    refine ⟨s, hb.2, Tot.of (Ev.of (fun k => spec_frNext.mono _ _ _ k) hs), ht, fun b ha => ?_⟩
    have hne : s.data.toList.isEmpty = false := by
      cases hL : s.data.toList with
      | nil => rw [hL] at ha; simp [among] at ha
      | cons x L => rfl
    simp only [hne, Bool.false_or] at hg
    exact hg
  · cases hb
theorem frPot_t {r : Int} {c : Bool} {l b : Int} {s : ByteArray} (hs : s.size ≤ 6) (hn : Tot (fun k => spec_frNext.f k r c l) (Eq s)) : Tot (fun k => spec_frPot.f k r c l b) (Eq (if among b s.data.toList then ((potS r c l).1, (potS r c l).2.1, (potS r c l).2.2, true) else (r, c, l, false))) := by
  unfold spec_frPot.f
  refine Tot.bind hn ?_
  rintro _ rfl
  have := frPot_loop b r c l s (by omega) s.data.toList [] false rfl
  simpa using this
def aftR (x y : Int × Bool × Int × Bool) : Prop := x.2.2.2 = y.2.2.2 ∧ (x.2.2.2 = true → x = y) ∧ (x.2.2.2 = false → y = (0, false, 0, false))
theorem extract_one (a : ByteArray) (i : Nat) (h : i < a.size) : (a.extract i (i + 1)).size = 1 ∧ bt (a.extract i (i + 1)) 0 = bt a (i : Int) := by
  have hs : (a.extract i (i + 1)).size = 1 := by rw [ByteArray.size_extract]; omega
  refine ⟨hs, ?_⟩
  unfold bt
  simp only [Int.toNat_zero, Int.toNat_natCast]
  rw [dif_pos (by omega), dif_pos h]
  congr 2
  simp [ByteArray.getElem_extract]
theorem after_two (a : ByteArray) (ha : a.size ≤ 36) : ∀ (d i : Nat) (r : Int) (c : Bool) (l : Int), i + d = a.size → goodB r c l = true → Two (fun k => spec_frAfter.l0 k a (i : Int) r c l) (fun k => impl_Frame_behind.l0 k a (a.size : Int) (i : Int) r c l) aftR := by
  intro d
  induction d with
  | zero =>
    intro i r c l hd h
    refine Two.lstep (fun k => spec_frAfter.l0.eq_2 _ _ _ _ _ _) (Two.rstep (fun k => impl_Frame_behind.l0.eq_2 _ _ _ _ _ _ _) ?_)
    exact Two.lneg (by omega) (Two.rneg (by omega) (Two.ret ⟨rfl, fun _ => rfl, fun e => by cases e⟩))
  | succ d ih =>
    intro i r c l hd h
    obtain ⟨s, hs, hn, hi, hg⟩ := next h
    have hb := bt_range a (i : Int)
    obtain ⟨e1, e2⟩ := extract_one a i (by omega)
    refine Two.lstep (fun k => spec_frAfter.l0.eq_2 _ _ _ _ _ _) (Two.rstep (fun k => impl_Frame_behind.l0.eq_2 _ _ _ _ _ _ _) ?_)
    refine Two.lpos (by omega) (Two.lpos (by omega) (Two.lbind (frPot_t hs hn) ?_))
    rintro _ rfl
    rw [wrap_nat i (by omega)]
    refine Two.rpos (by omega) ?_
    have hcont : strings_Contains.f s (a.extract i (i + 1)) = some (among (bt a (i : Int)) s.data.toList) := by
      unfold strings_Contains.f
      rw [if_pos e1, contains_among _ (by rw [e2]; exact hb.1) (by rw [e2]; exact hb.2), e2]
    simp only [hi, pot_eq, Int.toNat_natCast]
    refine Two.rsome (Two.rpos (by omega) (Two.rpos (by omega) (Two.rpos (by omega) ?_)))
    rw [hcont]
    refine Two.rsome ?_
    by_cases g : among (bt a (i : Int)) s.data.toList = true
    · rw [if_pos g]
      exact Two.lpos rfl (Two.rpos g (Two.rsome (ih (i + 1) _ _ _ (by omega) (hg _ g))))
    · rw [if_neg g]
      exact Two.lneg (by simp) (Two.rneg g (Two.ret ⟨rfl, fun e => (by cases e), fun _ => rfl⟩))
theorem after_t {r : Int} {c : Bool} {l : Int} (a : ByteArray) (h : goodB r c l = true) : Two (fun k => spec_frAfter.f k r c l a) (fun k => impl_Frame_behind.f k r c l a) aftR := by
  unfold spec_frAfter.f impl_Frame_behind.f
  by_cases g : (a.size : Int) > 36
  · exact Two.lpos g (Two.rpos g (Two.ret ⟨rfl, fun e => (by cases e), fun _ => rfl⟩))
  · exact Two.lneg g (Two.rneg g (after_two a (by omega) a.size 0 r c l (by omega) h))
def ptsB (r : Int) (c : Bool) (l : Int) : Bool :=
  match spec_frAll.f 100 r c l 55 with
  | some s => match spec_frPoints.f 100 s, impl_HighestBreak.f 100 r c l with
    | some p, some (_, q, true) => decide (p = q ∧ 0 ≤ p ∧ p ≤ 147)
    | _, _ => false
  | none => false
set_option maxRecDepth 100000 in
theorem pts_all : ∀ r < 16, ∀ c : Bool, ∀ l < 9, goodB (r : Nat) c (l : Nat) = true → ptsB (r : Nat) c (l : Nat) = true := by decide +kernel
theorem pts {r : Int} {c : Bool} {l : Int} (h : goodB r c l = true) : ∃ s s' p, 0 ≤ p ∧ p ≤ 147 ∧ Tot (fun k => spec_frAll.f k r c l 55) (Eq s) ∧ Tot (fun k => spec_frPoints.f k s) (Eq p) ∧ Tot (fun k => impl_HighestBreak.f k r c l) (Eq (s', p, true)) := by
  obtain ⟨h1, h2, h3, h4, _⟩ := good_range h
  obtain ⟨n, rfl⟩ : ∃ n : Nat, r = (n : Int) := ⟨r.toNat, by omega⟩
  obtain ⟨m, rfl⟩ : ∃ m : Nat, l = (m : Int) := ⟨l.toNat, by omega⟩
  have hb := pts_all n (by omega) c m (by omega) h
  unfold ptsB at hb
  split at hb
  · rename_i s hs
    split at hb
    · rename_i p s' q hp hq
      rw [decide_eq_true_eq] at hb
      obtain ⟨rfl, p0, p1⟩ := hb
      exact ⟨s, s', p, p0, p1, Tot.of (Ev.of (fun k => spec_frAll.mono _ _ _ _ k) hs), Tot.of (Ev.of (fun k => spec_frPoints.mono _ k) hp), Tot.of (Ev.of (fun k => impl_HighestBreak.mono _ _ _ k) hq)⟩
    · cases hb
  · cases hb
theorem frBehind_eq (r : Int) (c : Bool) (l a : Int) : spec_frBehind.f r c l a = some (goodB r c l && decide (0 ≤ a ∧ a ≤ 400)) := by
  unfold spec_frBehind.f
  simp only [frGood_eq, l1In_eq, Option.bind_some]
  cases goodB r c l <;> simp
theorem pointsLeft_t {r : Int} {c : Bool} {l : Int} {s' : ByteArray} {p : Int} (hH : Tot (fun k => impl_HighestBreak.f k r c l) (Eq (s', p, true))) : Tot (fun k => impl_PointsLeft.f k r c l) (Eq (p, true)) := by
  unfold impl_PointsLeft.f
  refine Tot.bind hH ?_
  rintro _ rfl
  exact Tot.ret rfl
theorem pointsLeft_no {r : Int} {c : Bool} {l : Int} (h : ¬ goodB r c l = true) : Tot (fun k => impl_PointsLeft.f k r c l) (Eq (0, false)) := by
  unfold impl_PointsLeft.f
  refine Tot.bind (P := Eq ((⟨#[]⟩ : ByteArray), 0, false)) ?_ ?_
  · unfold impl_HighestBreak.f
    refine Tot.bind (isFrame_t r c l) ?_
    rintro _ rfl
    exact Tot.neg h (Tot.ret rfl)
  · rintro _ rfl
    exact Tot.ret rfl
def nxB (r : Int) (c : Bool) (l : Int) : Bool :=
  match impl_Frame_next.f r c l with
  | some t => decide (t.data.toList = (Brk.ballsF (r, c, l)).map fun b => (b + 48).toNat.toUInt8) && (t.toList.isEmpty == (Brk.ballsF (r, c, l)).isEmpty) && decide (potS r c l = Brk.potF (r, c, l)) && ((Brk.ballsF (r, c, l)).isEmpty || goodB (Brk.potF (r, c, l)).1 (Brk.potF (r, c, l)).2.1 (Brk.potF (r, c, l)).2.2)
  | none => false
set_option maxRecDepth 100000 in
theorem nx_all : ∀ r < 16, ∀ c : Bool, ∀ l < 9, goodB (r : Nat) c (l : Nat) = true → nxB (r : Nat) c (l : Nat) = true := by decide +kernel
theorem nx {r : Int} {c : Bool} {l : Int} (h : goodB r c l = true) : ∃ s : ByteArray, s = Brk.nextS (r, c, l) ∧ Tot (fun k => spec_frNext.f k r c l) (Eq s) ∧ impl_Frame_next.f r c l = some s ∧ s.size ≤ 6 ∧
    (s.toList = [] ↔ Brk.ballsF (r, c, l) = []) ∧ potS r c l = Brk.potF (r, c, l) ∧ (Brk.ballsF (r, c, l) ≠ [] → goodB (Brk.potF (r, c, l)).1 (Brk.potF (r, c, l)).2.1 (Brk.potF (r, c, l)).2.2 = true) := by
  obtain ⟨s, hs, hn, hi, _⟩ := next h
  obtain ⟨h1, h2, h3, h4, _⟩ := good_range h
  obtain ⟨n, rfl⟩ : ∃ n : Nat, r = (n : Int) := ⟨r.toNat, by omega⟩
  obtain ⟨m, rfl⟩ : ∃ m : Nat, l = (m : Int) := ⟨l.toNat, by omega⟩
  have hb := nx_all n (by omega) c m (by omega) h
  unfold nxB at hb
  rw [hi] at hb
  simp only [Bool.and_eq_true, decide_eq_true_eq, beq_iff_eq, Bool.or_eq_true] at hb
  obtain ⟨⟨⟨b1, b2⟩, b3⟩, b4⟩ := hb
  refine ⟨s, ?_, hn, hi, hs, ?_, b3, fun hne => ?_⟩
  · obtain ⟨⟨q⟩⟩ := s
    simp only at b1
    unfold Brk.nextS
    rw [← b1]
  · rw [← List.isEmpty_iff, ← List.isEmpty_iff, b2]
  · rcases b4 with b4 | b4
    · exact absurd (List.isEmpty_iff.1 b4) hne
    · exact b4
theorem good_ok {r : Int} {c : Bool} {l : Int} (h : goodB r c l = true) : Brk.okFr (r, c, l) := by
  obtain ⟨h1, h2, h3, h4, _⟩ := good_range h
  exact ⟨⟨h1, h2⟩, h3, h4⟩
theorem frPot_at {r : Int} {c : Bool} {l : Int} (h : goodB r c l = true) (b : Int) (hb : b ∈ Brk.ballsF (r, c, l)) :
    Tot (fun k => spec_frPot.f k r c l (b + 48)) (Eq ((Brk.potF (r, c, l)).1, (Brk.potF (r, c, l)).2.1, (Brk.potF (r, c, l)).2.2, true)) := by
  obtain ⟨s, e, hn, hi, hs, _, hp, _⟩ := nx h
  have hok := Brk.balls_in (good_ok h) b hb
  have ha : among (b + 48) s.data.toList = true := by
    rw [e]
    unfold among Brk.nextS
    rw [List.any_eq_true]
    refine ⟨(b + 48).toNat.toUInt8, List.mem_map.2 ⟨b, hb, rfl⟩, ?_⟩
    rw [decide_eq_true_eq, Nat.toUInt8, UInt8.toNat_ofNat']
    omega
  have := frPot_t (b := b + 48) hs hn
  rw [if_pos ha, hp] at this
  exact this
theorem bt_next {f : Brk.Fr} (h : Brk.okFr f) (i : Nat) (hi : i < (Brk.ballsF f).length) : bt (Brk.nextS f) (i : Int) = (Brk.ballsF f)[i] + 48 := by
  have hb := Brk.balls_in h _ (List.getElem_mem hi)
  unfold bt
  simp only [Int.toNat_natCast]
  rw [dif_pos (by rw [Brk.nextS_size]; exact hi), Brk.nextS_at h i hi]
  omega
def capM : Nat := 1000000000000001
def shiftS (L : List Int) (h : Int → Nat) (q : Int) : Nat := (L.map fun b => h (q - b)).sum
def dlt (q : Int) : Nat := if q = 0 then 1 else 0
def moreR : Nat → Brk.Fr → (Int → Nat) → Int → Nat
  | 0, _, _, _ => 0
  | n + 1, f, h, q => shiftS (Brk.ballsF f) h q + moreR n (Brk.potF f) (shiftS (Brk.ballsF f) h) q
def cntU : Nat → Brk.Fr → Int → Nat
  | 0, _, p => dlt p
  | n + 1, f, p => if p ≤ 0 then dlt p else shiftS (Brk.ballsF f) (cntU n (Brk.potF f)) p
theorem sum_add (L : List Int) (g h : Int → Nat) : (L.map fun b => g b + h b).sum = (L.map g).sum + (L.map h).sum := by
  induction L with
  | nil => rfl
  | cons x L ih => simp only [List.map_cons, List.sum_cons, ih]; omega
theorem sum_zero (L : List Int) : (L.map fun _ => (0 : Nat)).sum = 0 := by
  induction L with
  | nil => rfl
  | cons x L ih => simp only [List.map_cons, List.sum_cons, ih]
theorem shift_swap (L M : List Int) (h : Int → Nat) : shiftS L (shiftS M h) = shiftS M (shiftS L h) := by
  funext q
  unfold shiftS
  induction L with
  | nil => simp [sum_zero]
  | cons x L ih =>
    simp only [List.map_cons, List.sum_cons, ih]
    rw [sum_add]
    congr 1
    congr 1
    refine List.map_congr_left fun b _ => ?_
    congr 1
    omega
theorem shift_add (L : List Int) (g h : Int → Nat) : shiftS L (fun q => g q + h q) = fun q => shiftS L g q + shiftS L h q := by
  funext q
  exact sum_add L _ _
theorem more_shift (L : List Int) : ∀ (n : Nat) (f : Brk.Fr) (h : Int → Nat), moreR n f (shiftS L h) = shiftS L (moreR n f h) := by
  intro n
  induction n with
  | zero => intro f h; funext q; simp [moreR, shiftS, sum_zero]
  | succ n ih =>
    intro f h
    funext q
    show shiftS (Brk.ballsF f) (shiftS L h) q + moreR n (Brk.potF f) (shiftS (Brk.ballsF f) (shiftS L h)) q = shiftS L (fun q => shiftS (Brk.ballsF f) h q + moreR n (Brk.potF f) (shiftS (Brk.ballsF f) h) q) q
    rw [shift_swap (Brk.ballsF f) L h, ih, shift_add]
theorem shift_low {L : List Int} (hL : ∀ b ∈ L, 1 ≤ b) {h : Int → Nat} (hh : ∀ q, q < 0 → h q = 0) {q : Int} (hq : q ≤ 0) : shiftS L h q = 0 := by
  unfold shiftS
  have e : (L.map fun b => h (q - b)) = L.map fun _ => (0 : Nat) := List.map_congr_left fun b hb => hh _ (by have := hL b hb; omega)
  rw [e, sum_zero]
theorem cntU_low (n : Nat) (f : Brk.Fr) {q : Int} (hq : q < 0) : cntU n f q = 0 := by
  cases n with
  | zero => unfold cntU dlt; rw [if_neg (by omega)]
  | succ n => unfold cntU dlt; rw [if_pos (by omega), if_neg (by omega)]
theorem cntU_succ {n : Nat} {f : Brk.Fr} (hf : Brk.okFr f) (p : Int) : cntU (n + 1) f p = dlt p + shiftS (Brk.ballsF f) (cntU n (Brk.potF f)) p := by
  unfold cntU
  split
  · rw [shift_low (fun b hb => (Brk.balls_in hf b hb).1) (fun q hq => cntU_low n _ hq) (by omega)]
    rfl
  · unfold dlt
    rw [if_neg (by omega), Nat.zero_add]
theorem shift_nil (h : Int → Nat) : shiftS [] h = fun _ => 0 := rfl
theorem more_zero : ∀ (n : Nat) (f : Brk.Fr), moreR n f (fun _ => 0) = fun _ => 0 := by
  intro n
  induction n with
  | zero => intro f; rfl
  | succ n ih =>
    intro f
    funext q
    show shiftS (Brk.ballsF f) (fun _ => 0) q + moreR n (Brk.potF f) (shiftS (Brk.ballsF f) (fun _ => 0)) q = 0
    have e : shiftS (Brk.ballsF f) (fun _ => 0) = fun _ => 0 := by funext q; exact sum_zero _
    rw [e, ih]
    rfl
theorem cntU_more : ∀ (n : Nat) (f : Brk.Fr), Brk.okFr f → ∀ p, cntU n f p = dlt p + moreR n f dlt p := by
  intro n
  induction n with
  | zero => intro f _ p; rfl
  | succ n ih =>
    intro f hf p
    rw [cntU_succ hf]
    congr 1
    by_cases hb : Brk.ballsF f = []
    · show _ = shiftS (Brk.ballsF f) dlt p + moreR n (Brk.potF f) (shiftS (Brk.ballsF f) dlt) p
      rw [hb, shift_nil, shift_nil, more_zero]
      rfl
    · have hg := Brk.pot_ok hf hb
      have e : cntU n (Brk.potF f) = fun q => dlt q + moreR n (Brk.potF f) dlt q := funext (ih _ hg)
      rw [e, shift_add]
      show _ = shiftS (Brk.ballsF f) dlt p + moreR n (Brk.potF f) (shiftS (Brk.ballsF f) dlt) p
      rw [more_shift]
def endsIn : Nat → Brk.Fr → Bool
  | 0, f => (Brk.ballsF f).isEmpty
  | n + 1, f => (Brk.ballsF f).isEmpty || endsIn n (Brk.potF f)
theorem more_nil {f : Brk.Fr} (hb : Brk.ballsF f = []) (n : Nat) (h : Int → Nat) : moreR n f h = fun _ => 0 := by
  cases n with
  | zero => rfl
  | succ n =>
    funext q
    show shiftS (Brk.ballsF f) h q + moreR n (Brk.potF f) (shiftS (Brk.ballsF f) h) q = 0
    rw [hb, shift_nil, more_zero]
    rfl
theorem more_ends : ∀ (n : Nat) (f : Brk.Fr), endsIn n f = true → ∀ (m : Nat) (h : Int → Nat), n ≤ m → moreR m f h = moreR n f h := by
  intro n
  induction n with
  | zero => intro f he m h _; have he := List.isEmpty_iff.1 he; rw [more_nil he, more_nil he]
  | succ n ih =>
    intro f he m h hm
    rcases (Bool.or_eq_true _ _).mp he with he | he
    · have he := List.isEmpty_iff.1 he
      rw [more_nil he, more_nil he]
    · cases m with
      | zero => omega
      | succ m =>
        funext q
        show shiftS (Brk.ballsF f) h q + moreR m (Brk.potF f) (shiftS (Brk.ballsF f) h) q = shiftS (Brk.ballsF f) h q + moreR n (Brk.potF f) (shiftS (Brk.ballsF f) h) q
        rw [ih _ he m _ (by omega)]
theorem cntU_fuel : ∀ (n : Nat) (f : Brk.Fr) (p : Int), Brk.okFr f → p.toNat ≤ n → cntU n f p = cntU p.toNat f p := by
  intro n
  induction n using Nat.strongRecOn with
  | _ n ih =>
    intro f p hf h
    by_cases hp : p ≤ 0
    · have e : ∀ m, cntU m f p = dlt p := fun m => by
        cases m with
        | zero => rfl
        | succ m => unfold cntU; rw [if_pos hp]
      rw [e, e]
    · obtain ⟨m, hm⟩ : ∃ m, p.toNat = m + 1 := ⟨p.toNat - 1, by omega⟩
      obtain ⟨n', rfl⟩ : ∃ n', n = n' + 1 := ⟨n - 1, by omega⟩
      rw [hm]
      unfold cntU
      rw [if_neg hp, if_neg hp]
      unfold shiftS
      congr 1
      refine List.map_congr_left fun b hb => ?_
      have hbb := Brk.balls_in hf b hb
      have hg := Brk.pot_ok hf (List.ne_nil_of_mem hb)
      rw [ih n' (by omega) _ _ hg (by omega)]
      by_cases hmn : m = n'
      · subst hmn; rw [ih m (by omega) _ _ hg (by omega)]
      · rw [ih m (by omega) _ _ hg (by omega)]
theorem cnt_cap : ∀ (n : Nat) (f : Brk.Fr) (p : Int), Brk.cnt n f p = ((min (cntU n f p) capM : Nat) : Int) := by
  intro n
  induction n with
  | zero => intro f p; unfold Brk.cnt cntU dlt capM; split <;> rfl
  | succ n ih =>
    intro f p
    unfold Brk.cnt cntU
    split
    · unfold dlt capM; split <;> rfl
    · unfold shiftS
      have key : ∀ (L : List Int) (a : Nat), L.foldl (fun a b => Brk.stepN a (Brk.cnt n (Brk.potF f) (p - b))) ((min a capM : Nat) : Int) = ((min (a + (L.map fun b => cntU n (Brk.potF f) (p - b)).sum) capM : Nat) : Int) := by
        intro L
        induction L with
        | nil => intro a; simp
        | cons x L ih2 =>
          intro a
          have e : Brk.stepN ((min a capM : Nat) : Int) ((min (cntU n (Brk.potF f) (p - x)) capM : Nat) : Int) = ((min (a + cntU n (Brk.potF f) (p - x)) capM : Nat) : Int) := by
            unfold Brk.stepN Brk.capN capM
            split <;> omega
          rw [List.foldl_cons, ih, List.map_cons, List.sum_cons, ← Nat.add_assoc, ← ih2, e]
      exact key (Brk.ballsF f) 0 |>.trans (by rw [Nat.zero_add])
set_option maxRecDepth 100000 in
theorem ends_all : ∀ r < 16, ∀ c : Bool, ∀ l < 9, goodB (r : Nat) c (l : Nat) = true → endsIn 40 ((r : Nat), c, (l : Nat)) = true := by decide +kernel
theorem ends_good {r : Int} {c : Bool} {l : Int} (h : goodB r c l = true) : endsIn 40 (r, c, l) = true := by
  obtain ⟨h1, h2, h3, h4, _⟩ := good_range h
  obtain ⟨n, rfl⟩ : ∃ n : Nat, r = (n : Int) := ⟨r.toNat, by omega⟩
  obtain ⟨m, rfl⟩ : ∃ m : Nat, l = (m : Int) := ⟨l.toNat, by omega⟩
  exact ends_all n (by omega) c m (by omega) h
def arr (h : Int → Nat) (p : Nat) : List Int := (List.range (p + 1)).map fun (k : Nat) => ((min (h (k : Int)) capM : Nat) : Int)
theorem arr_len (h : Int → Nat) (p : Nat) : (arr h p).length = p + 1 := by simp [arr]
theorem arr_rd (h : Int → Nat) (p k : Nat) (hk : k ≤ p) : rd (arr h p) (k : Int) = ((min (h k) capM : Nat) : Int) := by
  rw [rd_get _ _ (by rw [arr_len]; omega)]
  simp [arr]
theorem arr_congr {h g : Int → Nat} {p : Nat} (e : ∀ k : Nat, k ≤ p → h k = g k) : arr h p = arr g p := by
  unfold arr
  refine List.map_congr_left fun k hk => ?_
  rw [e k (by have := List.mem_range.1 hk; omega)]
theorem arr_set (h : Int → Nat) (p k v : Nat) (hk : k ≤ p) : (arr h p).set k ((min v capM : Nat) : Int) = arr (fun q => if q = (k : Int) then v else h q) p := by
  apply List.ext_getElem
  · simp [arr]
  · intro i h1 h2
    rw [List.getElem_set]
    simp only [arr, List.getElem_map, List.getElem_range]
    by_cases e : k = i
    · subst e; simp
    · rw [if_neg e, if_neg (by omega)]
theorem least_eq (a b : Int) : spec_l1Least.f a b = some (mn a b) := by rw [mn_eq]; unfold spec_l1Least.f; split <;> rfl
theorem cap_sum (a b : Nat) : mn (wrap64 (((min a capM : Nat) : Int) + ((min b capM : Nat) : Int))) 1000000000000001 = ((min (a + b) capM : Nat) : Int) := by
  rw [wrap_in (by omega) (by unfold capM; omega), mn_eq]
  unfold capM
  split <;> omega
def midS (g h : Int → Nat) (b : Int) (n : Nat) (q : Int) : Nat := if q < n then g q + h (q - b) else g q
theorem l2_t {P : List Int → Prop} (g h : Int → Nat) (p : Nat) (hp : p ≤ 1000) (all : List Int) (s : ByteArray) (i : Nat) (hi : i ≤ 1000) (b : Int) (hb : 1 ≤ b) (r : Int) (c : Bool) (l : Int)
    (H : Tot (fun k => spec_frWays.l1 k (p : Int) all (arr h p) s (arr (fun q => g q + h (q - b)) p) ((i + 1 : Nat) : Int) r c l) P) :
    ∀ (d n : Nat), n + d = p + 1 → b ≤ n → Tot (fun k => spec_frWays.l2 k (p : Int) all (arr h p) s (arr (midS g h b n) p) (i : Int) b (n : Int) r c l) P := by
  intro d
  induction d with
  | zero =>
    intro n hn hbn
    refine Tot.step (fun k => spec_frWays.l2.eq_2 _ _ _ _ _ _ _ _ _ _ _ _) ?_
    refine Tot.neg (by omega) ?_
    rw [wrap_nat i (by omega)]
    rw [show arr (midS g h b n) p = arr (fun q => g q + h (q - b)) p from arr_congr (fun k hk => by unfold midS; rw [if_pos (by omega)])]
    exact H
  | succ d ih =>
    intro n hn hbn
    refine Tot.step (fun k => spec_frWays.l2.eq_2 _ _ _ _ _ _ _ _ _ _ _ _) ?_
    have e : wrap64 ((n : Int) - b) = ((n - b.toNat : Nat) : Int) := by rw [wrap_in (by omega) (by omega)]; omega
    rw [e]
    refine Tot.pos (by omega) (Tot.pos (by omega) (Tot.pos (by rw [arr_len]; omega) (Tot.pos (by omega) (Tot.pos (by rw [arr_len]; omega) ?_))))
    rw [arr_rd _ _ _ (by omega), arr_rd _ _ _ (by omega), least_eq, cap_sum]
    refine Tot.some_bind ?_
    rw [wrap_nat n (by omega), Int.toNat_natCast, arr_set _ _ _ _ (by omega)]
    rw [show arr (fun q => if q = (n : Int) then midS g h b n (n : Int) + h ((n - b.toNat : Nat) : Int) else midS g h b n q) p = arr (midS g h b (n + 1)) p from arr_congr (fun k hk => by
      unfold midS
      by_cases hkn : k = n
      · subst hkn
        rw [if_pos rfl, if_neg (by omega), if_pos (by omega)]
        congr 2
        omega
      · rw [if_neg (by omega)]
        by_cases hlt : k < n
        · rw [if_pos (by omega), if_pos (by omega)]
        · rw [if_neg (by omega), if_neg (by omega)])]
    exact ih (n + 1) (by omega) (by omega)
def partS (L : List Int) (h : Int → Nat) (i : Nat) (q : Int) : Nat := ((L.take i).map fun b => h (q - b)).sum
theorem l1_t {P : List Int → Prop} (h : Int → Nat) (hh : ∀ q, q < 0 → h q = 0) (p : Nat) (hp : p ≤ 1000) (all : List Int) (r : Int) (c : Bool) (l : Int) (hok : Brk.okFr (r, c, l))
    (H : Tot (fun k => spec_frWays.l3 k (p : Int) all (arr (shiftS (Brk.ballsF (r, c, l)) h) p) (Brk.nextS (r, c, l)) (arr (shiftS (Brk.ballsF (r, c, l)) h) p) ((p : Int) + 1) 0 r c l) P) :
    ∀ (d i : Nat), i + d = (Brk.ballsF (r, c, l)).length → Tot (fun k => spec_frWays.l1 k (p : Int) all (arr h p) (Brk.nextS (r, c, l)) (arr (partS (Brk.ballsF (r, c, l)) h i) p) (i : Int) r c l) P := by
  have hz := Brk.nextS_size (r, c, l)
  have hl6 := Brk.balls_len (r, c, l)
  intro d
  induction d with
  | zero =>
    intro i hi
    refine Tot.step (fun k => spec_frWays.l1.eq_2 _ _ _ _ _ _ _ _ _ _) ?_
    refine Tot.neg (by omega) ?_
    have e : partS (Brk.ballsF (r, c, l)) h i = shiftS (Brk.ballsF (r, c, l)) h := by
      funext q
      unfold partS shiftS
      rw [List.take_of_length_le (by omega)]
    rw [e, arr_len, show (((p + 1 : Nat) : Nat) : Int) = (p : Int) + 1 by omega]
    exact H
  | succ d ih =>
    intro i hi
    refine Tot.step (fun k => spec_frWays.l1.eq_2 _ _ _ _ _ _ _ _ _ _) ?_
    have hil : i < (Brk.ballsF (r, c, l)).length := by omega
    have hbb := Brk.balls_in hok _ (List.getElem_mem hil)
    rw [bt_next hok i hil]
    rw [show ((Brk.ballsF (r, c, l))[i] + 48 - 48) % 256 = (Brk.ballsF (r, c, l))[i] by omega]
    refine Tot.pos (by omega) (Tot.pos (by omega) ?_)
    have nxt := ih (i + 1) (by omega)
    have e1 : partS (Brk.ballsF (r, c, l)) h (i + 1) = fun q => partS (Brk.ballsF (r, c, l)) h i q + h (q - (Brk.ballsF (r, c, l))[i]) := by
      funext q
      unfold partS
      rw [List.take_succ_eq_append_getElem hil, List.map_append, List.sum_append]
      simp
    rw [e1] at nxt
    obtain ⟨n, hn⟩ : ∃ n : Nat, (Brk.ballsF (r, c, l))[i] = (n : Int) := ⟨(Brk.ballsF (r, c, l))[i].toNat, by omega⟩
    rw [hn] at nxt hbb ⊢
    have e2 : arr (partS (Brk.ballsF (r, c, l)) h i) p = arr (midS (partS (Brk.ballsF (r, c, l)) h i) h (n : Int) n) p := arr_congr (fun k hk => by
      unfold midS
      split
      · rw [hh _ (by omega)]; rfl
      · rfl)
    rw [e2]
    by_cases hnp : n ≤ p + 1
    · exact l2_t _ h p hp all _ i (by omega) (n : Int) (by omega) r c l nxt (p + 1 - n) n (by omega) (by omega)
    · refine Tot.step (fun k => spec_frWays.l2.eq_2 _ _ _ _ _ _ _ _ _ _ _ _) ?_
      refine Tot.neg (by omega) ?_
      rw [wrap_nat i (by omega)]
      rw [show arr (midS (partS (Brk.ballsF (r, c, l)) h i) h (n : Int) n) p = arr (fun q => partS (Brk.ballsF (r, c, l)) h i q + h (q - (n : Int))) p from arr_congr (fun k hk => by
        unfold midS
        rw [if_pos (by omega)])]
      exact nxt
def addS (a t : Int → Nat) (n : Nat) (q : Int) : Nat := if q < n then a q + t q else a q
theorem l3_t {P : List Int → Prop} (a t : Int → Nat) (p : Nat) (hp : p ≤ 1000) (r : Int) (c : Bool) (l : Int) (hg : goodB r c l = true) (hne : Brk.ballsF (r, c, l) ≠ [])
    (H : Tot (fun k => spec_frWays.l0 k (p : Int) (arr (fun q => a q + t q) p) (arr t p) (Brk.nextS (Brk.potF (r, c, l))) (Brk.potF (r, c, l)).1 (Brk.potF (r, c, l)).2.1 (Brk.potF (r, c, l)).2.2) P) :
    ∀ (d n : Nat), n + d = p + 1 → Tot (fun k => spec_frWays.l3 k (p : Int) (arr (addS a t n) p) (arr t p) (Brk.nextS (r, c, l)) (arr t p) ((p : Int) + 1) (n : Int) r c l) P := by
  obtain ⟨s, es, hn, _, _, _, _, hgp⟩ := nx hg
  have hg' := hgp hne
  obtain ⟨s', es', hn', _⟩ := nx hg'
  have hz := Brk.nextS_size (r, c, l)
  have hl0 : 0 < (Brk.ballsF (r, c, l)).length := List.length_pos_iff.2 hne
  intro d
  induction d with
  | zero =>
    intro n hn1
    refine Tot.step (fun k => spec_frWays.l3.eq_2 _ _ _ _ _ _ _ _ _ _ _) ?_
    refine Tot.neg (by omega) (Tot.pos (by omega) ?_)
    have hb := bt_next (good_ok hg) 0 hl0
    rw [show (0 : Int) = ((0 : Nat) : Int) from rfl, hb]
    refine Tot.bind (frPot_at hg _ (List.getElem_mem hl0)) ?_
    rintro _ rfl
    refine Tot.bind hn' ?_
    rintro _ rfl
    rw [es']
    rw [show arr (addS a t n) p = arr (fun q => a q + t q) p from arr_congr (fun k hk => by unfold addS; rw [if_pos (by omega)])]
    exact H
  | succ d ih =>
    intro n hn1
    refine Tot.step (fun k => spec_frWays.l3.eq_2 _ _ _ _ _ _ _ _ _ _ _) ?_
    refine Tot.pos (by omega) (Tot.pos (by omega) (Tot.pos (by rw [arr_len]; omega) (Tot.pos (by rw [arr_len]; omega) ?_)))
    rw [arr_rd _ _ _ (by omega), arr_rd _ _ _ (by omega), least_eq, cap_sum]
    refine Tot.some_bind ?_
    rw [wrap_nat n (by omega), Int.toNat_natCast, arr_set _ _ _ _ (by omega)]
    rw [show arr (fun q => if q = (n : Int) then addS a t n (n : Int) + t (n : Int) else addS a t n q) p = arr (addS a t (n + 1)) p from arr_congr (fun k hk => by
      unfold addS
      by_cases hkn : k = n
      · subst hkn
        rw [if_pos rfl, if_neg (by omega), if_pos (by omega)]
      · rw [if_neg (by omega)]
        by_cases hlt : k < n
        · rw [if_pos (by omega), if_pos (by omega)]
        · rw [if_neg (by omega), if_neg (by omega)])]
    exact ih (n + 1) (by omega)
theorem l0_t (p : Nat) (hp : p ≤ 1000) : ∀ (m : Nat) (a h : Int → Nat) (r : Int) (c : Bool) (l : Int), goodB r c l = true → endsIn m (r, c, l) = true → (∀ q, q < 0 → h q = 0) →
    Tot (fun k => spec_frWays.l0 k (p : Int) (arr a p) (arr h p) (Brk.nextS (r, c, l)) r c l) (Eq (arr (fun q => a q + moreR m (r, c, l) h q) p)) := by
  intro m
  induction m with
  | zero =>
    intro a h r c l hg he hh
    obtain ⟨s, es, _, _, _, hiff, _⟩ := nx hg
    have hb := List.isEmpty_iff.1 he
    refine Tot.step (fun k => spec_frWays.l0.eq_2 _ _ _ _ _ _ _ _) ?_
    refine Tot.pos (by rw [← es]; exact hiff.2 hb) (Tot.ret ?_)
    rfl
  | succ m ih =>
    intro a h r c l hg he hh
    obtain ⟨s, es, _, _, _, hiff, _, hgp⟩ := nx hg
    refine Tot.step (fun k => spec_frWays.l0.eq_2 _ _ _ _ _ _ _ _) ?_
    by_cases hb : Brk.ballsF (r, c, l) = []
    · refine Tot.pos (by rw [← es]; exact hiff.2 hb) (Tot.ret ?_)
      rw [more_nil hb]
      rfl
    · have he' : endsIn m (Brk.potF (r, c, l)) = true := by
        rcases (Bool.or_eq_true _ _).mp he with h1 | h1
        · exact absurd (List.isEmpty_iff.1 h1) hb
        · exact h1
      refine Tot.neg (by rw [← es]; exact fun h1 => hb (hiff.1 h1)) ?_
      have hw : wrap64 ((p : Int) + 1) = ((p + 1 : Nat) : Int) := wrap_nat p (by omega)
      rw [hw]
      refine Tot.pos (by omega) (Tot.pos (by omega) ?_)
      rw [Int.toNat_natCast]
      have e0 : List.replicate (p + 1) (0 : Int) = arr (partS (Brk.ballsF (r, c, l)) h 0) p := by
        apply List.ext_getElem
        · simp [arr]
        · intro i h1 h2
          simp [arr, partS]
      rw [e0]
      have hbal : ∀ b ∈ Brk.ballsF (r, c, l), 1 ≤ b := fun b hb1 => (Brk.balls_in (good_ok hg) b hb1).1
      have key := ih (fun q => a q + shiftS (Brk.ballsF (r, c, l)) h q) (shiftS (Brk.ballsF (r, c, l)) h) _ _ _ (hgp hb) he' (fun q hq => shift_low hbal hh (by omega))
      have e3 : arr a p = arr (addS a (shiftS (Brk.ballsF (r, c, l)) h) 0) p := arr_congr (fun k hk => by unfold addS; rw [if_neg (by omega)])
      have k3 := l3_t (P := Eq (arr (fun q => a q + moreR (m + 1) (r, c, l) h q) p)) a (shiftS (Brk.ballsF (r, c, l)) h) p hp r c l hg hb (key.mono (fun v hv => by
        rw [← hv]
        refine arr_congr (fun k hk => ?_)
        show a k + (shiftS (Brk.ballsF (r, c, l)) h k + moreR m (Brk.potF (r, c, l)) (shiftS (Brk.ballsF (r, c, l)) h) k) = a k + shiftS (Brk.ballsF (r, c, l)) h k + moreR m (Brk.potF (r, c, l)) (shiftS (Brk.ballsF (r, c, l)) h) k
        omega)) (p + 1) 0 (by omega)
      rw [← e3] at k3
      exact l1_t h hh p hp (arr a p) r c l (good_ok hg) k3 (Brk.ballsF (r, c, l)).length 0 (by omega)
theorem dlt_low : ∀ q, q < 0 → dlt q = 0 := fun q hq => by unfold dlt; rw [if_neg (by omega)]
theorem ways_t (p : Nat) (hp : p ≤ 1000) (r : Int) (c : Bool) (l : Int) (hg : goodB r c l = true) : Tot (fun k => spec_frWays.f k r c l (p : Int)) (Eq (arr (fun q => dlt q + moreR 40 (r, c, l) dlt q) p)) := by
  obtain ⟨s, es, hn, _⟩ := nx hg
  unfold spec_frWays.f
  have hw : wrap64 ((p : Int) + 1) = ((p + 1 : Nat) : Int) := wrap_nat p (by omega)
  rw [hw]
  refine Tot.pos (by omega) (Tot.pos (by omega) (Tot.some_bind ?_))
  have e0 : (List.replicate (((p + 1 : Nat) : Int)).toNat (0 : Int)).set (0 : Int).toNat 1 = arr dlt p := by
    apply List.ext_getElem
    · simp [arr]
    · intro i h1 h2
      rw [List.getElem_set]
      simp only [arr, List.getElem_map, List.getElem_range, dlt, capM]
      by_cases hi : i = 0
      · subst hi; rfl
      · have h3 : ¬ (0 : Int).toNat = i := fun e => hi e.symm
        have h4 : ¬ (i : Int) = 0 := by omega
        rw [if_neg h3, if_neg h4, List.getElem_replicate]
        rfl
  refine Tot.pos (by simp) (Tot.some_bind (Tot.pos (by simp) (Tot.bind hn ?_)))
  rintro _ rfl
  rw [e0, es]
  exact l0_t p hp 40 dlt dlt r c l hg (ends_good hg) dlt_low
theorem ways_cnt {r : Int} {c : Bool} {l : Int} (hg : goodB r c l = true) (q : Nat) : ((min (dlt q + moreR 40 (r, c, l) dlt q) capM : Nat) : Int) = Brk.cnt q (r, c, l) q := by
  have hok := good_ok hg
  rw [cnt_cap]
  have h1 : cntU (q + 40) (r, c, l) (q : Int) = cntU q (r, c, l) (q : Int) := by
    have := cntU_fuel (q + 40) (r, c, l) (q : Int) hok (by omega)
    rwa [Int.toNat_natCast] at this
  rw [← h1, cntU_more _ _ hok, more_ends 40 _ (ends_good hg) (q + 40) dlt (by omega)]
theorem ways_at (p : Nat) (hp : p ≤ 1000) (r : Int) (c : Bool) (l : Int) (hg : goodB r c l = true) : Tot (fun k => spec_frWays.f k r c l (p : Int)) (fun t => t.length = p + 1 ∧ rd t (p : Int) = Brk.cnt p (r, c, l) (p : Int)) :=
  (ways_t p hp r c l hg).mono (fun t ht => by
    rw [← ht]
    exact ⟨arr_len _ _, by rw [arr_rd _ _ _ (Nat.le_refl _), ways_cnt hg]⟩)
end Go.Proofs.YtcmlmjgoidpabaaDoor.Pure

