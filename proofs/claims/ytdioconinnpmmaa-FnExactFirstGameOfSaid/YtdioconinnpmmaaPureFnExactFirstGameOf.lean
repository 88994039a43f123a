/- The program's FirstGameOf answers as the reference's does, for every number of frames and every total, whatever they are; nothing else is asked. -/
import Derived.Test.YtdioconinnpmmaaMFnExactFirstGameOfx7
import Derived.Test.YtdioconinnpmmaaWSized
set_option linter.unusedVariables false
set_option linter.unusedSimpArgs false
namespace Go.Proofs.Ytdioconinnpmmaa.Pure
open Go.RowKit Go.Proofs.Ytdioconinnpmmaa.MFnExactFirstGameOf Go.Proofs.YtdioconinnpmmaaW.PrintWords Go.Proofs.YtdioconinnpmmaaW.PrintLast
/-! ### Rounds: some number of rounds on, a function tells r, and r has a property -/
def Tot {α : Type} (g : Nat → Option α) (P : α → Prop) : Prop := ∃ r, Ev g r ∧ P r
theorem Tot.ret {α : Type} {P : α → Prop} {r : α} (h : P r) : Tot (fun _ => some r) P := ⟨r, Ev.now r, h⟩
theorem Tot.pos {α : Type} {c : Prop} [Decidable c] {f g : Nat → Option α} {P : α → Prop} (h : c) (hf : Tot f P) : Tot (fun k => if c then f k else g k) P := by
  simp only [if_pos h]; exact hf
theorem Tot.neg {α : Type} {c : Prop} [Decidable c] {f g : Nat → Option α} {P : α → Prop} (h : ¬ c) (hg : Tot g P) : Tot (fun k => if c then f k else g k) P := by
  simp only [if_neg h]; exact hg
theorem Tot.ite {α : Type} {c : Prop} [Decidable c] {f g : Nat → Option α} {P : α → Prop} (hf : c → Tot f P) (hg : ¬ c → Tot g P) : Tot (fun k => if c then f k else g k) P := by
  by_cases h : c
  · exact Tot.pos h (hf h)
  · exact Tot.neg h (hg h)
theorem Tot.bind {α β : Type} {g : Nat → Option α} {f : Nat → α → Option β} {P : α → Prop} {Q : β → Prop} (h : Tot g P) (k : ∀ a, P a → Tot (fun n => f n a) Q) : Tot (fun n => (g n).bind (f n)) Q := by
  obtain ⟨a, ha, hp⟩ := h
  obtain ⟨r, hr, hq⟩ := k a hp
  exact ⟨r, Ev.bind ha hr, hq⟩
theorem Tot.some_bind {α β : Type} {f : Nat → α → Option β} {Q : β → Prop} {a : α} (k : Tot (fun n => f n a) Q) : Tot (fun n => (some a).bind (f n)) Q := k
theorem Tot.step {α : Type} {g f : Nat → Option α} {P : α → Prop} (h : ∀ k, g (k + 1) = f k) (k : Tot f P) : Tot g P := by
  obtain ⟨r, hr, hp⟩ := k
  exact ⟨r, Ev.step h hr, hp⟩
theorem Tot.congr {α : Type} {g f : Nat → Option α} {P : α → Prop} (h : ∀ k, g k = f k) (k : Tot f P) : Tot g P := by
  obtain ⟨r, hr, hp⟩ := k
  exact ⟨r, Ev.congr h hr, hp⟩
theorem Tot.mono {α : Type} {g : Nat → Option α} {P Q : α → Prop} (h : Tot g P) (k : ∀ r, P r → Q r) : Tot g Q := by
  obtain ⟨r, hr, hp⟩ := h
  exact ⟨r, hr, k r hp⟩
theorem Tot.rounds {α : Type} {g : Nat → Option α} {r : α} (h : Tot g (Eq r)) : ∃ k, g k = some r := by
  obtain ⟨_, hr, rfl⟩ := h
  exact hr.rounds
theorem Tot.ev {α : Type} {g : Nat → Option α} {r : α} (h : Tot g (Eq r)) : Ev g r := by
  obtain ⟨_, hr, rfl⟩ := h
  exact hr
theorem Tot.of {α : Type} {g : Nat → Option α} {r : α} (h : Ev g r) : Tot g (Eq r) := ⟨r, h, rfl⟩
theorem wrap_in {x : Int} (h0 : -9223372036854775808 ≤ x) (h1 : x ≤ 9223372036854775807) : wrap64 x = x := by unfold wrap64; omega
theorem wrap_nat (n : Nat) (h : n < 4611686018427387904) : wrap64 ((n : Int) + 1) = ((n + 1 : Nat) : Int) := by rw [wrap_in] <;> omega
theorem rd_mid (pre suf : List Int) (x : Int) : rd (pre ++ x :: suf) (pre.length : Int) = x := by simp [rd]
theorem rd_get (l : List Int) (i : Nat) (h : i < l.length) : rd l (i : Int) = l[i] := by simp [rd, h]
theorem set_mid {α : Type} (pre suf : List α) (x y : α) : (pre ++ x :: suf).set (pre.length : Int).toNat y = pre ++ y :: suf := by simp
theorem eqIntS_loop (l : List Int) (hn : l.length ≤ 4611686018427387903) : ∀ (suf pre : List Int), l = pre ++ suf → Tot (fun k => laws_eqIntS.l0 k l l (pre.length : Int)) (Eq true) := by
  intro suf
  induction suf with
  | nil =>
    intro pre h
    refine Tot.step (fun k => laws_eqIntS.l0.eq_2 _ _ _ _) ?_
    exact Tot.neg (by simp [h]) (Tot.ret rfl)
  | cons x suf ih =>
    intro pre h
    have hl : l.length = pre.length + suf.length + 1 := by simp [h]; omega
    refine Tot.step (fun k => laws_eqIntS.l0.eq_2 _ _ _ _) ?_
    refine Tot.pos (by omega) (Tot.pos (by omega) (Tot.pos (by omega) (Tot.pos rfl ?_)))
    rw [wrap_nat _ (by omega)]
    have := ih (pre ++ [x]) (by simp [h])
    simpa using this
theorem eqIntS_t (l : List Int) (hn : l.length ≤ 4611686018427387903) : Tot (fun k => laws_eqIntS.f k l l) (Eq true) := by
  unfold laws_eqIntS.f
  exact Tot.pos rfl (eqIntS_loop l hn l [] rfl)
/-- The numbers from k on. -/
def upN (k : Int) : Nat → List Int
  | 0 => []
  | d + 1 => k :: upN (k + 1) d
theorem upN_length (d : Nat) : ∀ k, (upN k d).length = d := by
  induction d with
  | zero => intro k; rfl
  | succ d ih => intro k; simp [upN, ih]
theorem mark_loop : ∀ (suf pre : List Int) (k : Int), (pre ++ suf).length ≤ 4611686018427387903 → 0 ≤ k → k + suf.length ≤ 4611686018427387904 →
    Tot (fun n => laws_markIntS.l0 n (pre ++ suf) k (pre.length : Int)) (Eq (k + suf.length, pre ++ upN k suf.length)) := by
  intro suf
  induction suf with
  | nil =>
    intro pre k hn h0 h1
    refine Tot.step (fun n => laws_markIntS.l0.eq_2 _ _ _ _) ?_
    exact Tot.neg (by simp) (Tot.ret (by simp [upN]))
  | cons x suf ih =>
    intro pre k hn h0 h1
    have hlen : (pre ++ x :: suf).length = pre.length + suf.length + 1 := by simp; omega
    have hx : (x :: suf).length = suf.length + 1 := rfl
    refine Tot.step (fun n => laws_markIntS.l0.eq_2 _ _ _ _) ?_
    refine Tot.pos (by omega) (Tot.pos (by omega) ?_)
    rw [set_mid, wrap_nat _ (by omega), show wrap64 (k + 1) = k + 1 from wrap_in (by omega) (by omega)]
    have := ih (pre ++ [k]) (k + 1) (by simp; omega) (by omega) (by omega)
    rw [List.append_assoc, List.length_append, List.length_singleton] at this
    refine this.mono fun r hr => ?_
    rw [← hr, hx, upN, List.append_assoc]
    simp; omega
theorem mark_t (l : List Int) (hn : l.length ≤ 1048576) : Tot (fun n => laws_markIntS.f n l 1) (Eq (1 + (l.length : Int), upN 1 l.length)) := by
  unfold laws_markIntS.f
  exact mark_loop l [] 1 (by simp; omega) (by omega) (by omega)
theorem held_loop : ∀ (d : Nat) (pre : List Int) (k : Int), pre.length + d ≤ 4611686018427387903 → 0 ≤ k → k + d ≤ 4611686018427387904 →
    Tot (fun n => laws_heldIntS.l0 n (pre ++ upN k d) k (pre.length : Int)) (Eq (k + d)) := by
  intro d
  induction d with
  | zero =>
    intro pre k hn h0 h1
    refine Tot.step (fun n => laws_heldIntS.l0.eq_2 _ _ _ _) ?_
    exact Tot.neg (by simp [upN]) (Tot.ret (by simp))
  | succ d ih =>
    intro pre k hn h0 h1
    refine Tot.step (fun n => laws_heldIntS.l0.eq_2 _ _ _ _) ?_
    rw [upN]
    refine Tot.pos (by simp; omega) (Tot.pos (by omega) (Tot.pos (by rw [rd_mid]) ?_))
    rw [wrap_nat _ (by omega), show wrap64 (k + 1) = k + 1 from wrap_in (by omega) (by omega)]
    have := ih (pre ++ [k]) (k + 1) (by simp; omega) (by omega) (by omega)
    rw [List.append_assoc, List.length_append, List.length_singleton] at this
    refine this.mono fun r hr => ?_
    rw [← hr]; omega
theorem held_t (d : Nat) (hn : d ≤ 1048576) : Tot (fun n => laws_heldIntS.f n (upN 1 d) 1) (Eq (1 + (d : Int))) := by
  unfold laws_heldIntS.f
  exact held_loop d [] 1 (by simp; omega) (by omega) (by omega)
theorem FnExactFirstGameOf : laws_FnExactFirstGameOf.Pure := by
  intro a b _ _
  refine Tot.rounds ?_
  unfold laws_FnExactFirstGameOf.f
  obtain ⟨v, hv⟩ : ∃ v, v = Pin.firstV a b := ⟨_, rfl⟩
  have A : Tot (fun k => spec_FirstGameOf.f k a b) (Eq v) := by
    rw [hv]
    show Tot (fun _ => some (Pin.firstV a b)) _
    exact Tot.ret rfl
  have B : Tot (fun k => impl_FirstGameOf.f k a b) (Eq v) := by
    rw [hv]
    show Tot (fun _ => some (Pin.firstV a b)) _
    exact Tot.ret rfl
  have hl : v.1.length ≤ 1048576 := by
    rw [hv]
    unfold Pin.firstV
    split
    · rename_i h
      have := Pin.firstL_len a.toNat 1 1 b
      have := h.1.1
      simp only
      omega
    · simp
  have he := eqIntS_t v.1 (by omega)
  refine Tot.bind A ?_
  rintro _ rfl
  refine Tot.bind B ?_
  rintro _ rfl
  refine Tot.bind he ?_
  rintro _ rfl
  refine Tot.pos rfl ?_
  refine Tot.step (fun k => laws_FnExactFirstGameOf.j0.eq_2 _ _ _ _ _ _ _) ?_
  refine Tot.neg (by simp) ?_
  refine Tot.bind (mark_t v.1 hl) ?_
  rintro _ rfl
  refine Tot.bind (held_t v.1.length hl) ?_
  rintro _ rfl
  refine Tot.neg (by omega) (Tot.pos rfl ?_)
  refine Tot.bind B ?_
  rintro _ rfl
  refine Tot.bind he ?_
  rintro _ rfl
  refine Tot.pos rfl ?_
  refine Tot.step (fun k => laws_FnExactFirstGameOf.j1.eq_2 _ _ _ _) ?_
  refine Tot.neg (by simp) ?_
  refine Tot.bind (held_t v.1.length hl) ?_
  rintro _ rfl
  exact Tot.neg (by omega) (Tot.pos rfl (Tot.ret rfl))
end Go.Proofs.Ytdioconinnpmmaa.Pure
namespace Go.Proofs.Ytdioconinnpmmaa.PrintWords
theorem sized_ints : type_of% @Go.Proofs.YtdioconinnpmmaaW.PrintWords.sized_ints := @Go.Proofs.YtdioconinnpmmaaW.PrintWords.sized_ints
end Go.Proofs.Ytdioconinnpmmaa.PrintWords
