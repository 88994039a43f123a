/- Frames: the plain facts that the law shares. -/
import Derived.Test.YtcmlmjgoidpabaaGreatDoorZMFnFramesPottedx16a
import Derived.Test.YtcmlmjgoidpabaaGreatDoorZU
set_option linter.unusedVariables false
set_option linter.unusedSimpArgs false
namespace Go.Proofs.YtcmlmjgoidpabaaGreatDoor.Pure
open Go.RowKit Go.Proofs.YtcmlmjgoidpabaaGreatDoor.MFnFramesPotted Go.Proofs.YtcmlmjgoidpabaaGreatDoorW.PrintWords Go.Proofs.YtcmlmjgoidpabaaGreatDoorW.PrintLast
def Tot {α : Type} (g : Nat → Option α) (P : α → Prop) : Prop := ∃ r, Ev g r ∧ P r
theorem Tot.ret {α : Type} {P : α → Prop} {r : α} (h : P r) : Tot (fun _ => some r) P := ⟨r, Ev.now r, h⟩
theorem Tot.pos {α : Type} {c : Prop} [Decidable c] {f g : Nat → Option α} {P : α → Prop} (h : c) (hf : Tot f P) : Tot (fun k => if c then f k else g k) P := by
  simp only [if_pos h]; exact hf
theorem Tot.neg {α : Type} {c : Prop} [Decidable c] {f g : Nat → Option α} {P : α → Prop} (h : ¬ c) (hg : Tot g P) : Tot (fun k => if c then f k else g k) P := by
  simp only [if_neg h]; exact hg
theorem Tot.ite {α : Type} {c : Prop} [Decidable c] {f g : Nat → Option α} {P : α → Prop} (hf : c → Tot f P) (hg : ¬ c → Tot g P) : Tot (fun k => if c then f k else g k) P := by
  by_cases h : c
  · exact Tot.pos h (hf h)
  · exact Tot.neg h (hg h)
theorem Tot.bind {α β : Type} {g : Nat → Option α} {f : Nat → α → Option β} {P : α → Prop} {Q : β → Prop} (h : Tot g P) (k : ∀ a, P a → Tot (fun n => f n a) Q) : Tot (fun n => (g n).bind (f n)) Q := by
  obtain ⟨a, ha, hp⟩ := h
  obtain ⟨r, hr, hq⟩ := k a hp
  exact ⟨r, Ev.bind ha hr, hq⟩
theorem Tot.some_bind {α β : Type} {f : Nat → α → Option β} {Q : β → Prop} {a : α} (k : Tot (fun n => f n a) Q) : Tot (fun n => (some a).bind (f n)) Q := k
theorem Tot.step {α : Type} {g f : Nat → Option α} {P : α → Prop} (h : ∀ k, g (k + 1) = f k) (k : Tot f P) : Tot g P := by
  obtain ⟨r, hr, hp⟩ := k
  exact ⟨r, Ev.step h hr, hp⟩
theorem Tot.congr {α : Type} {g f : Nat → Option α} {P : α → Prop} (h : ∀ k, g k = f k) (k : Tot f P) : Tot g P := by
  obtain ⟨r, hr, hp⟩ := k
  exact ⟨r, Ev.congr h hr, hp⟩
theorem Tot.mono {α : Type} {g : Nat → Option α} {P Q : α → Prop} (h : Tot g P) (k : ∀ r, P r → Q r) : Tot g Q := by
  obtain ⟨r, hr, hp⟩ := h
  exact ⟨r, hr, k r hp⟩
theorem Tot.rounds {α : Type} {g : Nat → Option α} {r : α} (h : Tot g (Eq r)) : ∃ k, g k = some r := by
  obtain ⟨_, hr, rfl⟩ := h
  exact hr.rounds
theorem Tot.of {α : Type} {g : Nat → Option α} {r : α} (h : Ev g r) : Tot g (Eq r) := ⟨r, h, rfl⟩
theorem wrap_in {x : Int} (h0 : -9223372036854775808 ≤ x) (h1 : x ≤ 9223372036854775807) : wrap64 x = x := by unfold wrap64; omega
theorem wrap_nat (n : Nat) (h : n < 4611686018427387904) : wrap64 ((n : Int) + 1) = ((n + 1 : Nat) : Int) := by rw [wrap_in] <;> omega
theorem rd_get (l : List Int) (i : Nat) (h : i < l.length) : rd l (i : Int) = l[i] := by simp [rd, h]
def Two {α β : Type} (g : Nat → Option α) (f : Nat → Option β) (R : α → β → Prop) : Prop := ∃ a b, Ev g a ∧ Ev f b ∧ R a b
section
variable {α β α' β' : Type} {g : Nat → Option α} {f : Nat → Option β} {R : α → β → Prop}
theorem Two.ret {a : α} {b : β} (h : R a b) : Two (fun _ => some a) (fun _ => some b) R := ⟨a, b, Ev.now a, Ev.now b, h⟩
theorem Two.lpos {c : Prop} [Decidable c] {g' : Nat → Option α} (h : c) (t : Two g f R) : Two (fun k => if c then g k else g' k) f R := by
  simp only [if_pos h]; exact t
theorem Two.lneg {c : Prop} [Decidable c] {g' : Nat → Option α} (h : ¬ c) (t : Two g f R) : Two (fun k => if c then g' k else g k) f R := by
  simp only [if_neg h]; exact t
theorem Two.rpos {c : Prop} [Decidable c] {f' : Nat → Option β} (h : c) (t : Two g f R) : Two g (fun k => if c then f k else f' k) R := by
  simp only [if_pos h]; exact t
theorem Two.rneg {c : Prop} [Decidable c] {f' : Nat → Option β} (h : ¬ c) (t : Two g f R) : Two g (fun k => if c then f' k else f k) R := by
  simp only [if_neg h]; exact t
theorem Two.lbind {g' : Nat → α → Option α'} {P : α → Prop} {S : α' → β → Prop} (h : Tot g P) (k : ∀ a, P a → Two (fun n => g' n a) f S) : Two (fun n => (g n).bind (g' n)) f S := by
  obtain ⟨a, ha, hp⟩ := h
  obtain ⟨r, q, hr, hq, hs⟩ := k a hp
  exact ⟨r, q, Ev.bind ha hr, hq, hs⟩
theorem Two.rsome {f' : Nat → β → Option β'} {S : α → β' → Prop} {b : β} (k : Two g (fun n => f' n b) S) : Two g (fun n => (some b).bind (f' n)) S := k
theorem Two.bind {g' : Nat → α → Option α'} {f' : Nat → β → Option β'} {S : α' → β' → Prop} (h : Two g f R) (k : ∀ a b, R a b → Two (fun n => g' n a) (fun n => f' n b) S) : Two (fun n => (g n).bind (g' n)) (fun n => (f n).bind (f' n)) S := by
  obtain ⟨a, b, ha, hb, hp⟩ := h
  obtain ⟨r, q, hr, hq, hs⟩ := k a b hp
  exact ⟨r, q, Ev.bind ha hr, Ev.bind hb hq, hs⟩
theorem Two.lstep {g' : Nat → Option α} (h : ∀ k, g (k + 1) = g' k) (t : Two g' f R) : Two g f R := by
  obtain ⟨a, b, ha, hb, hp⟩ := t
  exact ⟨a, b, Ev.step h ha, hb, hp⟩
theorem Two.rstep {f' : Nat → Option β} (h : ∀ k, f (k + 1) = f' k) (t : Two g f' R) : Two g f R := by
  obtain ⟨a, b, ha, hb, hp⟩ := t
  exact ⟨a, b, ha, Ev.step h hb, hp⟩
theorem Two.mono {S : α → β → Prop} (t : Two g f R) (h : ∀ a b, R a b → S a b) : Two g f S := by
  obtain ⟨a, b, ha, hb, hp⟩ := t
  exact ⟨a, b, ha, hb, h a b hp⟩
end
theorem tdiv_in {a b : Int} (h : 0 ≤ a) : Int.tdiv a b = a / b := Int.tdiv_eq_ediv_of_nonneg h
theorem tmod_in {a b : Int} (h : 0 ≤ a) : Int.tmod a b = a % b := Int.tmod_eq_emod_of_nonneg h
def goodB (r : Int) (c : Bool) (l : Int) : Bool := decide (0 ≤ r ∧ r ≤ 15 ∧ 2 ≤ l ∧ l ≤ 8 ∧ (c = true → r ≠ 15) ∧ (l = 2 ∨ (r = 0 ∧ c = false)))
theorem within_eq (a b c : Int) : impl_within.f a b c = some (decide (b ≤ a ∧ a ≤ c)) := by
  unfold impl_within.f; split <;> simp [*]
theorem l1In_eq (a b c : Int) : spec_l1In.f a b c = some (decide (b ≤ a ∧ a ≤ c)) := by
  unfold spec_l1In.f
  split
  · simp [*]
  · have : ¬ (b ≤ a ∧ a ≤ c) := by omega
    simp [this]
theorem frGood_eq (r : Int) (c : Bool) (l : Int) : spec_frGood.f r c l = some (goodB r c l) := by
  unfold spec_frGood.f goodB
  simp only [l1In_eq, Option.bind_some, decide_eq_true_eq]
  by_cases h1 : 0 ≤ r ∧ r ≤ 15
  · by_cases h2 : 2 ≤ l ∧ l ≤ 8
    · rw [if_pos h1, if_pos h2]
      cases c with
      | true =>
        by_cases h3 : r = 15
        · rw [if_pos rfl, if_pos h3]; simp [h3]
        · by_cases h4 : l = 2
          · rw [if_pos rfl, if_neg h3, if_pos h4]; simp [h3, h4]; omega
          · rw [if_pos rfl, if_neg h3, if_neg h4]
            simp [h4]
      | false =>
        by_cases h4 : l = 2
        · rw [if_neg (by simp), if_pos h4]; simp [h4]; omega
        · by_cases h5 : r = 0
          · rw [if_neg (by simp), if_neg h4, if_pos h5]; simp [h5]; omega
          · rw [if_neg (by simp), if_neg h4, if_neg h5]; simp [h4, h5]
    · rw [if_pos h1, if_neg h2]
      rw [decide_eq_false (fun e => h2 ⟨e.2.2.1, e.2.2.2.1⟩)]
  · rw [if_neg h1, decide_eq_false (fun e => h1 ⟨e.1, e.2.1⟩)]
theorem isFrame_t (r : Int) (c : Bool) (l : Int) : Tot (fun k => impl_IsFrame.f k r c l) (Eq (goodB r c l)) := by
  unfold impl_IsFrame.f
  simp only [within_eq]
  refine Tot.some_bind ?_
  have tail : (0 ≤ r ∧ r ≤ 15) → ¬ (c = true ∧ r = 15) → Tot (fun k => impl_IsFrame.j0 k false r c l) (Eq (goodB r c l)) := by
    intro h1 h3
    refine Tot.step (fun k => impl_IsFrame.j0.eq_2 _ _ _ _ _) ?_
    simp only [within_eq]
    refine Tot.neg (by simp) ?_
    refine Tot.ite (fun h => Tot.ret ?_) (fun h => Tot.ite (fun hc => Tot.ret ?_) (fun hc => Tot.some_bind (Tot.ret ?_)))
    · rw [Bool.eq_iff_iff, beq_iff_eq, goodB, decide_eq_true_eq]
      constructor
      · rintro ⟨_, _, _, _, _, e | e⟩ <;> omega
      · intro e; exact ⟨by omega, by omega, by omega, by omega, fun hc e => h3 ⟨hc, e⟩, .inl e⟩
    · subst hc
      rw [Bool.eq_iff_iff, beq_iff_eq, goodB, decide_eq_true_eq]
      constructor
      · rintro ⟨_, _, _, _, _, e | ⟨_, e⟩⟩
        · exact e
        · cases e
      · intro e; exact ⟨by omega, by omega, by omega, by omega, fun hc e => h3 ⟨hc, e⟩, .inl e⟩
    · have hc' : c = false := by simpa using hc
      subst hc'
      rw [Bool.eq_iff_iff, decide_eq_true_eq, goodB, decide_eq_true_eq]
      constructor
      · rintro ⟨_, _, e1, e2, _⟩; exact ⟨e1, e2⟩
      · intro e; exact ⟨by omega, by omega, e.1, e.2, fun hc => (by cases hc), .inr ⟨by omega, rfl⟩⟩
  have gone : ¬ ((0 ≤ r ∧ r ≤ 15) ∧ ¬ (c = true ∧ r = 15)) → Tot (fun k => impl_IsFrame.j0 k true r c l) (Eq (goodB r c l)) := by
    intro h
    refine Tot.step (fun k => impl_IsFrame.j0.eq_2 _ _ _ _ _) ?_
    refine Tot.pos rfl (Tot.ret ?_)
    rw [goodB, decide_eq_false]
    rintro ⟨e1, e2, _, _, e3, _⟩
    exact h ⟨⟨e1, e2⟩, fun e => e3 e.1 e.2⟩
  refine Tot.ite (fun h1 => ?_) (fun h1 => ?_)
  · have h1' : 0 ≤ r ∧ r ≤ 15 := by simpa using h1
    refine Tot.ite (fun hc => ?_) (fun hc => tail h1' (fun e => hc e.1))
    by_cases h3 : r = 15
    · rw [show (r == 15) = true by simpa using h3]
      exact gone (fun e => e.2 ⟨hc, h3⟩)
    · rw [show (r == 15) = false by simpa using h3]
      exact tail h1' (fun e => h3 e.2)
  · have h1' : ¬ (0 ≤ r ∧ r ≤ 15) := by simpa using h1
    exact gone (fun e => h1' e.1)
theorem good_range {r : Int} {c : Bool} {l : Int} (h : goodB r c l = true) : 0 ≤ r ∧ r ≤ 15 ∧ 2 ≤ l ∧ l ≤ 8 ∧ (c = true → r ≠ 15) ∧ (l = 2 ∨ (r = 0 ∧ c = false)) := by
  rwa [goodB, decide_eq_true_eq] at h
def among (b : Int) (L : List UInt8) : Bool := L.any fun x => decide ((x.toNat : Int) = b)
theorem size_list (s : ByteArray) : s.size = s.data.toList.length := by
  obtain ⟨⟨l⟩⟩ := s
  rfl
theorem bt_mid {s : ByteArray} {pre suf : List UInt8} {x : UInt8} (h : s.data.toList = pre ++ x :: suf) : bt s (pre.length : Int) = x.toNat := by
  have hs : pre.length < s.size := by
    rw [size_list, h, List.length_append, List.length_cons]; omega
  obtain ⟨⟨l⟩⟩ := s
  have hl : l = pre ++ x :: suf := h
  subst hl
  unfold bt
  simp only [Int.toNat_natCast]
  rw [dif_pos hs]
  show (((pre ++ x :: suf)[pre.length]'(by rw [List.length_append, List.length_cons]; omega)).toNat : Int) = x.toNat
  rw [List.getElem_append_right (by omega)]
  simp
def potS (r : Int) (c : Bool) (l : Int) : Int × Bool × Int := if c = true then (r, false, l) else (if r > 0 then (wrap64 (r - 1), true, l) else (r, c, wrap64 (l + 1)))
theorem pot_eq (r : Int) (c : Bool) (l : Int) : impl_Frame_pot.f r c l = some (potS r c l) := by
  unfold impl_Frame_pot.f potS
  split
  · rfl
  · split <;> rfl
theorem frPot_loop (b r : Int) (c : Bool) (l : Int) (s : ByteArray) (hs : s.size ≤ 1000) : ∀ (suf pre : List UInt8) (may : Bool), s.data.toList = pre ++ suf →
    Tot (fun k => spec_frPot.l0 k b may s (pre.length : Int) r c l) (Eq (if may || among b suf then ((potS r c l).1, (potS r c l).2.1, (potS r c l).2.2, true) else (r, c, l, false))) := by
  intro suf
  induction suf with
  | nil =>
    intro pre may h
    have hl := size_list s
    rw [h] at hl
    simp at hl
    refine Tot.step (fun k => spec_frPot.l0.eq_2 _ _ _ _ _ _ _ _) ?_
    refine Tot.neg (by omega) ?_
    cases may with
    | true =>
      rw [Bool.true_or]
      refine Tot.pos rfl ?_
      unfold potS
      refine Tot.ite (fun h1 => Tot.ret ?_) (fun h1 => Tot.ite (fun h2 => Tot.ret ?_) (fun h2 => Tot.ret ?_))
      · simp [h1]
      · simp [h1, h2]
      · simp [h1, h2]
    | false => exact Tot.neg (by simp) (Tot.ret (by simp [among]))
  | cons x suf ih =>
    intro pre may h
    have hl := size_list s
    rw [h] at hl
    simp at hl
    refine Tot.step (fun k => spec_frPot.l0.eq_2 _ _ _ _ _ _ _ _) ?_
    refine Tot.pos (by omega) ?_
    rw [wrap_nat _ (by omega), bt_mid h]
    have nxt := fun m => ih (pre ++ [x]) m (by simp [h])
    cases may with
    | true =>
      refine Tot.pos rfl ?_
      have := nxt true
      simpa using this
    | false =>
      refine Tot.neg (by simp) (Tot.pos (by omega) ?_)
      have := nxt ((x.toNat : Int) == b)
      rw [show (((x.toNat : Int) == b) || among b suf) = (false || among b (x :: suf)) by simp [among]; rfl] at this
      simpa using this
theorem contains_among (b : Int) (h0 : 0 ≤ b) (h1 : b ≤ 255) : ∀ L : List UInt8, decide (0 ≤ Lib.indexByte L b.toNat.toUInt8) = among b L := by
  have key : ∀ x : UInt8, (x == b.toNat.toUInt8) = decide ((x.toNat : Int) = b) := by
    intro x
    have hb : (b.toNat.toUInt8).toNat = b.toNat := by
      rw [Nat.toUInt8, UInt8.toNat_ofNat']; omega
    rw [Bool.eq_iff_iff, beq_iff_eq, decide_eq_true_eq]
    constructor
    · intro e; rw [e, hb]; omega
    · intro e; apply UInt8.toNat_inj.1; rw [hb]; omega
  intro L
  induction L with
  | nil => simp [Lib.indexByte, among]
  | cons x L ih =>
    have ha : among b (x :: L) = (decide ((x.toNat : Int) = b) || among b L) := by simp [among]
    have lo : -1 ≤ Lib.indexByte L b.toNat.toUInt8 := by
      clear ih ha
      induction L with
      | nil => simp [Lib.indexByte]
      | cons y L ih2 =>
        unfold Lib.indexByte
        split
        · omega
        · split
          · omega
          · omega
    rw [ha, ← ih, ← key, Lib.indexByte]
    cases hx : (x == b.toNat.toUInt8) with
    | true => simp
    | false =>
      rw [if_neg (by simp), Bool.false_or]
      by_cases hm : Lib.indexByte L b.toNat.toUInt8 = -1
      · rw [if_pos (by simpa using hm), hm]
      · rw [if_neg (by simpa using hm)]
        rw [Bool.eq_iff_iff, decide_eq_true_eq, decide_eq_true_eq]
        omega
def nextB (r : Int) (c : Bool) (l : Int) : Bool :=
  match spec_frNext.f 100 r c l, impl_Frame_next.f r c l with
  | some s, some t => decide (s.data.toList = t.data.toList ∧ s.size ≤ 6)
  | _, _ => false
def goesB (r : Int) (c : Bool) (l : Int) : Bool :=
  match impl_Frame_next.f r c l with
  | some t => t.data.toList.isEmpty || goodB (potS r c l).1 (potS r c l).2.1 (potS r c l).2.2
  | none => false
set_option maxRecDepth 100000 in
theorem next_all : ∀ r < 16, ∀ c : Bool, ∀ l < 9, goodB (r : Nat) c (l : Nat) = true → nextB (r : Nat) c (l : Nat) = true ∧ goesB (r : Nat) c (l : Nat) = true := by decide +kernel
theorem next {r : Int} {c : Bool} {l : Int} (h : goodB r c l = true) : ∃ s, s.size ≤ 6 ∧ Tot (fun k => spec_frNext.f k r c l) (Eq s) ∧ impl_Frame_next.f r c l = some s ∧ (∀ b, among b s.data.toList = true → goodB (potS r c l).1 (potS r c l).2.1 (potS r c l).2.2 = true) := by
  obtain ⟨h1, h2, h3, h4, _⟩ := good_range h
  obtain ⟨n, rfl⟩ : ∃ n : Nat, r = (n : Int) := ⟨r.toNat, by omega⟩
  obtain ⟨m, rfl⟩ : ∃ m : Nat, l = (m : Int) := ⟨l.toNat, by omega⟩
  obtain ⟨hb, hg⟩ := next_all n (by omega) c m (by omega) h
  unfold nextB at hb
  unfold goesB at hg
  split at hb
  · rename_i s t hs ht
    rw [decide_eq_true_eq] at hb
    have hst : s = t := by
      obtain ⟨⟨s⟩⟩ := s
      obtain ⟨⟨t⟩⟩ := t
      have := hb.1
      simp at this
      rw [this]
    subst hst
    rw [ht] at hg
    refine ⟨s, hb.2, Tot.of (Ev.of (fun k => spec_frNext.mono _ _ _ k) hs), ht, fun b ha => ?_⟩
    have hne : s.data.toList.isEmpty = false := by
      cases hL : s.data.toList with
      | nil => rw [hL] at ha; simp [among] at ha
      | cons x L => rfl
    simp only [hne, Bool.false_or] at hg
    exact hg
  · cases hb
theorem frPot_t {r : Int} {c : Bool} {l b : Int} {s : ByteArray} (hs : s.size ≤ 6) (hn : Tot (fun k => spec_frNext.f k r c l) (Eq s)) : Tot (fun k => spec_frPot.f k r c l b) (Eq (if among b s.data.toList then ((potS r c l).1, (potS r c l).2.1, (potS r c l).2.2, true) else (r, c, l, false))) := by
  unfold spec_frPot.f
  refine Tot.bind hn ?_
  rintro _ rfl
  have := frPot_loop b r c l s (by omega) s.data.toList [] false rfl
  simpa using this
def aftR (x y : Int × Bool × Int × Bool) : Prop := x.2.2.2 = y.2.2.2 ∧ (x.2.2.2 = true → x = y) ∧ (x.2.2.2 = false → y = (0, false, 0, false))
theorem extract_one (a : ByteArray) (i : Nat) (h : i < a.size) : (a.extract i (i + 1)).size = 1 ∧ bt (a.extract i (i + 1)) 0 = bt a (i : Int) := by
  have hs : (a.extract i (i + 1)).size = 1 := by rw [ByteArray.size_extract]; omega
  refine ⟨hs, ?_⟩
  unfold bt
  simp only [Int.toNat_zero, Int.toNat_natCast]
  rw [dif_pos (by omega), dif_pos h]
  congr 2
  simp [ByteArray.getElem_extract]
theorem after_two (a : ByteArray) (ha : a.size ≤ 36) : ∀ (d i : Nat) (r : Int) (c : Bool) (l : Int), i + d = a.size → goodB r c l = true → Two (fun k => spec_frAfter.l0 k a (i : Int) r c l) (fun k => impl_Frame_behind.l0 k a (a.size : Int) (i : Int) r c l) aftR := by
  intro d
  induction d with
  | zero =>
    intro i r c l hd h
    refine Two.lstep (fun k => spec_frAfter.l0.eq_2 _ _ _ _ _ _) (Two.rstep (fun k => impl_Frame_behind.l0.eq_2 _ _ _ _ _ _ _) ?_)
    exact Two.lneg (by omega) (Two.rneg (by omega) (Two.ret ⟨rfl, fun _ => rfl, fun e => by cases e⟩))
  | succ d ih =>
    intro i r c l hd h
    obtain ⟨s, hs, hn, hi, hg⟩ := next h
    have hb := bt_range a (i : Int)
    obtain ⟨e1, e2⟩ := extract_one a i (by omega)
    refine Two.lstep (fun k => spec_frAfter.l0.eq_2 _ _ _ _ _ _) (Two.rstep (fun k => impl_Frame_behind.l0.eq_2 _ _ _ _ _ _ _) ?_)
    refine Two.lpos (by omega) (Two.lpos (by omega) (Two.lbind (frPot_t hs hn) ?_))
    rintro _ rfl
    rw [wrap_nat i (by omega)]
    refine Two.rpos (by omega) ?_
    have hcont : strings_Contains.f s (a.extract i (i + 1)) = some (among (bt a (i : Int)) s.data.toList) := by
      unfold strings_Contains.f
      rw [if_pos e1, contains_among _ (by rw [e2]; exact hb.1) (by rw [e2]; exact hb.2), e2]
    simp only [hi, pot_eq, Int.toNat_natCast]
    refine Two.rsome (Two.rpos (by omega) (Two.rpos (by omega) (Two.rpos (by omega) ?_)))
    rw [hcont]
    refine Two.rsome ?_
    by_cases g : among (bt a (i : Int)) s.data.toList = true
    · rw [if_pos g]
      exact Two.lpos rfl (Two.rpos g (Two.rsome (ih (i + 1) _ _ _ (by omega) (hg _ g))))
    · rw [if_neg g]
      exact Two.lneg (by simp) (Two.rneg g (Two.ret ⟨rfl, fun e => (by cases e), fun _ => rfl⟩))
theorem after_t {r : Int} {c : Bool} {l : Int} (a : ByteArray) (h : goodB r c l = true) : Two (fun k => spec_frAfter.f k r c l a) (fun k => impl_Frame_behind.f k r c l a) aftR := by
  unfold spec_frAfter.f impl_Frame_behind.f
  by_cases g : (a.size : Int) > 36
  · exact Two.lpos g (Two.rpos g (Two.ret ⟨rfl, fun e => (by cases e), fun _ => rfl⟩))
  · exact Two.lneg g (Two.rneg g (after_two a (by omega) a.size 0 r c l (by omega) h))
end Go.Proofs.YtcmlmjgoidpabaaGreatDoor.Pure

