/- The program's ScoresOn answers as the reference's does, for every list of at most 1048576 numbers as kinds and every text of at most 1048576 bytes; beyond that nothing is asked. -/
import Derived.Test.YtcpebdjklameeaaMFnExactScoresOnx3
import Derived.Test.YtcpebdjklameeaaWSized
set_option linter.unusedVariables false
set_option linter.unusedSimpArgs false
namespace Go.Proofs.Ytcpebdjklameeaa.Pure
open Go.RowKit Go.Proofs.Ytcpebdjklameeaa.MFnExactScoresOn Go.Proofs.YtcpebdjklameeaaW.PrintWords Go.Proofs.YtcpebdjklameeaaW.PrintLast
/-! ### Rounds: some number of rounds on, a function tells r, and r has a property -/
def Tot {α : Type} (g : Nat → Option α) (P : α → Prop) : Prop := ∃ r, Ev g r ∧ P r
theorem Tot.ret {α : Type} {P : α → Prop} {r : α} (h : P r) : Tot (fun _ => some r) P := ⟨r, Ev.now r, h⟩
theorem Tot.pos {α : Type} {c : Prop} [Decidable c] {f g : Nat → Option α} {P : α → Prop} (h : c) (hf : Tot f P) : Tot (fun k => if c then f k else g k) P := by
  simp only [if_pos h]; exact hf
theorem Tot.neg {α : Type} {c : Prop} [Decidable c] {f g : Nat → Option α} {P : α → Prop} (h : ¬ c) (hg : Tot g P) : Tot (fun k => if c then f k else g k) P := by
  simp only [if_neg h]; exact hg
theorem Tot.ite {α : Type} {c : Prop} [Decidable c] {f g : Nat → Option α} {P : α → Prop} (hf : c → Tot f P) (hg : ¬ c → Tot g P) : Tot (fun k => if c then f k else g k) P := by
  by_cases h : c
  · exact Tot.pos h (hf h)
  · exact Tot.neg h (hg h)
theorem Tot.bind {α β : Type} {g : Nat → Option α} {f : Nat → α → Option β} {P : α → Prop} {Q : β → Prop} (h : Tot g P) (k : ∀ a, P a → Tot (fun n => f n a) Q) : Tot (fun n => (g n).bind (f n)) Q := by
  obtain ⟨a, ha, hp⟩ := h
  obtain ⟨r, hr, hq⟩ := k a hp
  exact ⟨r, Ev.bind ha hr, hq⟩
theorem Tot.some_bind {α β : Type} {f : Nat → α → Option β} {Q : β → Prop} {a : α} (k : Tot (fun n => f n a) Q) : Tot (fun n => (some a).bind (f n)) Q := k
theorem Tot.step {α : Type} {g f : Nat → Option α} {P : α → Prop} (h : ∀ k, g (k + 1) = f k) (k : Tot f P) : Tot g P := by
  obtain ⟨r, hr, hp⟩ := k
  exact ⟨r, Ev.step h hr, hp⟩
theorem Tot.congr {α : Type} {g f : Nat → Option α} {P : α → Prop} (h : ∀ k, g k = f k) (k : Tot f P) : Tot g P := by
  obtain ⟨r, hr, hp⟩ := k
  exact ⟨r, Ev.congr h hr, hp⟩
theorem Tot.mono {α : Type} {g : Nat → Option α} {P Q : α → Prop} (h : Tot g P) (k : ∀ r, P r → Q r) : Tot g Q := by
  obtain ⟨r, hr, hp⟩ := h
  exact ⟨r, hr, k r hp⟩
theorem Tot.rounds {α : Type} {g : Nat → Option α} {r : α} (h : Tot g (Eq r)) : ∃ k, g k = some r := by
  obtain ⟨_, hr, rfl⟩ := h
  exact hr.rounds
theorem Tot.ev {α : Type} {g : Nat → Option α} {r : α} (h : Tot g (Eq r)) : Ev g r := by
  obtain ⟨_, hr, rfl⟩ := h
  exact hr
theorem Tot.of {α : Type} {g : Nat → Option α} {r : α} (h : Ev g r) : Tot g (Eq r) := ⟨r, h, rfl⟩
theorem wrap_in {x : Int} (h0 : -9223372036854775808 ≤ x) (h1 : x ≤ 9223372036854775807) : wrap64 x = x := by unfold wrap64; omega
theorem wrap_nat (n : Nat) (h : n < 4611686018427387904) : wrap64 ((n : Int) + 1) = ((n + 1 : Nat) : Int) := by rw [wrap_in] <;> omega
theorem rd_mid (pre suf : List Int) (x : Int) : rd (pre ++ x :: suf) (pre.length : Int) = x := by simp [rd]
theorem rd_get (l : List Int) (i : Nat) (h : i < l.length) : rd l (i : Int) = l[i] := by simp [rd, h]
theorem set_mid {α : Type} (pre suf : List α) (x y : α) : (pre ++ x :: suf).set (pre.length : Int).toNat y = pre ++ y :: suf := by simp
/-! ### Two functions side by side -/
def Two {α β : Type} (g : Nat → Option α) (f : Nat → Option β) (R : α → β → Prop) : Prop := ∃ a b, Ev g a ∧ Ev f b ∧ R a b
section
variable {α β α' β' : Type} {g : Nat → Option α} {f : Nat → Option β} {R : α → β → Prop}
theorem Two.ret {a : α} {b : β} (h : R a b) : Two (fun _ => some a) (fun _ => some b) R := ⟨a, b, Ev.now a, Ev.now b, h⟩
theorem Two.lpos {c : Prop} [Decidable c] {g' : Nat → Option α} (h : c) (t : Two g f R) : Two (fun k => if c then g k else g' k) f R := by
  simp only [if_pos h]; exact t
theorem Two.lneg {c : Prop} [Decidable c] {g' : Nat → Option α} (h : ¬ c) (t : Two g f R) : Two (fun k => if c then g' k else g k) f R := by
  simp only [if_neg h]; exact t
theorem Two.rpos {c : Prop} [Decidable c] {f' : Nat → Option β} (h : c) (t : Two g f R) : Two g (fun k => if c then f k else f' k) R := by
  simp only [if_pos h]; exact t
theorem Two.rneg {c : Prop} [Decidable c] {f' : Nat → Option β} (h : ¬ c) (t : Two g f R) : Two g (fun k => if c then f' k else f k) R := by
  simp only [if_neg h]; exact t
theorem Two.lbind {g' : Nat → α → Option α'} {P : α → Prop} {S : α' → β → Prop} (h : Tot g P) (k : ∀ a, P a → Two (fun n => g' n a) f S) : Two (fun n => (g n).bind (g' n)) f S := by
  obtain ⟨a, ha, hp⟩ := h
  obtain ⟨r, q, hr, hq, hs⟩ := k a hp
  exact ⟨r, q, Ev.bind ha hr, hq, hs⟩
theorem Two.rbind {f' : Nat → β → Option β'} {P : β → Prop} {S : α → β' → Prop} (h : Tot f P) (k : ∀ b, P b → Two g (fun n => f' n b) S) : Two g (fun n => (f n).bind (f' n)) S := by
  obtain ⟨a, ha, hp⟩ := h
  obtain ⟨r, q, hr, hq, hs⟩ := k a hp
  exact ⟨r, q, hr, Ev.bind ha hq, hs⟩
theorem Two.lsome {g' : Nat → α → Option α'} {S : α' → β → Prop} {a : α} (k : Two (fun n => g' n a) f S) : Two (fun n => (some a).bind (g' n)) f S := k
theorem Two.rsome {f' : Nat → β → Option β'} {S : α → β' → Prop} {b : β} (k : Two g (fun n => f' n b) S) : Two g (fun n => (some b).bind (f' n)) S := k
theorem Two.bind {g' : Nat → α → Option α'} {f' : Nat → β → Option β'} {S : α' → β' → Prop} (h : Two g f R) (k : ∀ a b, R a b → Two (fun n => g' n a) (fun n => f' n b) S) : Two (fun n => (g n).bind (g' n)) (fun n => (f n).bind (f' n)) S := by
  obtain ⟨a, b, ha, hb, hp⟩ := h
  obtain ⟨r, q, hr, hq, hs⟩ := k a b hp
  exact ⟨r, q, Ev.bind ha hr, Ev.bind hb hq, hs⟩
theorem Two.lstep {g' : Nat → Option α} (h : ∀ k, g (k + 1) = g' k) (t : Two g' f R) : Two g f R := by
  obtain ⟨a, b, ha, hb, hp⟩ := t
  exact ⟨a, b, Ev.step h ha, hb, hp⟩
theorem Two.rstep {f' : Nat → Option β} (h : ∀ k, f (k + 1) = f' k) (t : Two g f' R) : Two g f R := by
  obtain ⟨a, b, ha, hb, hp⟩ := t
  exact ⟨a, b, ha, Ev.step h hb, hp⟩
theorem Two.mono {S : α → β → Prop} (t : Two g f R) (h : ∀ a b, R a b → S a b) : Two g f S := by
  obtain ⟨a, b, ha, hb, hp⟩ := t
  exact ⟨a, b, ha, hb, h a b hp⟩
theorem Two.eqs {f : Nat → Option α} (t : Two g f Eq) : ∃ v, Tot g (Eq v) ∧ Tot f (Eq v) := by
  obtain ⟨a, b, ha, hb, rfl⟩ := t
  exact ⟨a, ⟨a, ha, rfl⟩, ⟨a, hb, rfl⟩⟩
end
theorem Tot.both {α : Type} {g f : Nat → Option α} {P : α → Prop} (h : ∀ k, g k = f k) (t : Tot f P) : ∃ v, Tot g (Eq v) ∧ Tot f (Eq v) := by
  obtain ⟨v, hv, _⟩ := t
  exact ⟨v, ⟨v, Ev.congr h hv, rfl⟩, ⟨v, hv, rfl⟩⟩
theorem Tot.two {α β : Type} {g : Nat → Option α} {f : Nat → Option β} {P : α → Prop} {Q : β → Prop} {R : α → β → Prop} (t : Tot g P) (s : Tot f Q) (h : ∀ a b, P a → Q b → R a b) : Two g f R := by
  obtain ⟨a, ha, hp⟩ := t
  obtain ⟨b, hb, hq⟩ := s
  exact ⟨a, b, ha, hb, h a b hp hq⟩
theorem mn_eq (a b : Int) : mn a b = if a < b then a else b := by unfold mn; split <;> split <;> omega
theorem tdiv_in {a b : Int} (h : 0 ≤ a) : Int.tdiv a b = a / b := Int.tdiv_eq_ediv_of_nonneg h
theorem tmod_in {a b : Int} (h : 0 ≤ a) : Int.tmod a b = a % b := Int.tmod_eq_emod_of_nonneg h
theorem toIntS_loop (l : List Int) (hn : l.length ≤ 1048576) : ∀ (suf pre rest : List Int), l = pre ++ suf → rest.length = suf.length → Tot (fun k => laws_toIntS.l0 k l (pre ++ rest) (pre.length : Int)) (Eq l) := by
  intro suf
  induction suf with
  | nil =>
    intro pre rest h hr
    obtain rfl : rest = [] := List.eq_nil_of_length_eq_zero (by simpa using hr)
    refine Tot.step (fun k => laws_toIntS.l0.eq_2 _ _ _ _) ?_
    exact Tot.neg (by simp [h]) (Tot.ret (by simp [h]))
  | cons x suf ih =>
    intro pre rest h hr
    match rest, hr with
    | r :: rest, hr =>
    have hp : pre.length < l.length := by simp [h]
    have hr' : rest.length = suf.length := by simpa using hr
    have hl : l.length = pre.length + suf.length + 1 := by simp [h]; omega
    refine Tot.step (fun k => laws_toIntS.l0.eq_2 _ _ _ _) ?_
    refine Tot.pos (by omega) (Tot.pos (by omega) (Tot.pos (by simp; omega) ?_))
    rw [set_mid, wrap_nat _ (by omega), show rd l (pre.length : Int) = x by rw [h, rd_mid]]
    have := ih (pre ++ [x]) rest (by simp [h]) hr'
    simpa using this
theorem toIntS_t (l : List Int) (hn : l.length ≤ 1048576) : Tot (fun k => laws_toIntS.f k l) (Eq l) := by
  unfold laws_toIntS.f
  refine Tot.pos (by omega) (Tot.pos (by omega) ?_)
  exact toIntS_loop l hn l [] _ rfl (by simp)
theorem eqIntS_loop (l : List Int) (hn : l.length ≤ 4611686018427387903) : ∀ (suf pre : List Int), l = pre ++ suf → Tot (fun k => laws_eqIntS.l0 k l l (pre.length : Int)) (Eq true) := by
  intro suf
  induction suf with
  | nil =>
    intro pre h
    refine Tot.step (fun k => laws_eqIntS.l0.eq_2 _ _ _ _) ?_
    exact Tot.neg (by simp [h]) (Tot.ret rfl)
  | cons x suf ih =>
    intro pre h
    have hl : l.length = pre.length + suf.length + 1 := by simp [h]; omega
    refine Tot.step (fun k => laws_eqIntS.l0.eq_2 _ _ _ _) ?_
    refine Tot.pos (by omega) (Tot.pos (by omega) (Tot.pos (by omega) (Tot.pos rfl ?_)))
    rw [wrap_nat _ (by omega)]
    have := ih (pre ++ [x]) (by simp [h])
    simpa using this
theorem eqIntS_t (l : List Int) (hn : l.length ≤ 4611686018427387903) : Tot (fun k => laws_eqIntS.f k l l) (Eq true) := by
  unfold laws_eqIntS.f
  exact Tot.pos rfl (eqIntS_loop l hn l [] rfl)
/-- The numbers from k on. -/
def upN (k : Int) : Nat → List Int
  | 0 => []
  | d + 1 => k :: upN (k + 1) d
theorem upN_length (d : Nat) : ∀ k, (upN k d).length = d := by
  induction d with
  | zero => intro k; rfl
  | succ d ih => intro k; simp [upN, ih]
theorem mark_loop : ∀ (suf pre : List Int) (k : Int), (pre ++ suf).length ≤ 4611686018427387903 → 0 ≤ k → k + suf.length ≤ 4611686018427387904 →
    Tot (fun n => laws_markIntS.l0 n (pre ++ suf) k (pre.length : Int)) (Eq (k + suf.length, pre ++ upN k suf.length)) := by
  intro suf
  induction suf with
  | nil =>
    intro pre k hn h0 h1
    refine Tot.step (fun n => laws_markIntS.l0.eq_2 _ _ _ _) ?_
    exact Tot.neg (by simp) (Tot.ret (by simp [upN]))
  | cons x suf ih =>
    intro pre k hn h0 h1
    have hlen : (pre ++ x :: suf).length = pre.length + suf.length + 1 := by simp; omega
    have hx : (x :: suf).length = suf.length + 1 := rfl
    refine Tot.step (fun n => laws_markIntS.l0.eq_2 _ _ _ _) ?_
    refine Tot.pos (by omega) (Tot.pos (by omega) ?_)
    rw [set_mid, wrap_nat _ (by omega), show wrap64 (k + 1) = k + 1 from wrap_in (by omega) (by omega)]
    have := ih (pre ++ [k]) (k + 1) (by simp; omega) (by omega) (by omega)
    rw [List.append_assoc, List.length_append, List.length_singleton] at this
    refine this.mono fun r hr => ?_
    rw [← hr, hx, upN, List.append_assoc]
    simp; omega
theorem mark_t (l : List Int) (hn : l.length ≤ 1048576) : Tot (fun n => laws_markIntS.f n l 1) (Eq (1 + (l.length : Int), upN 1 l.length)) := by
  unfold laws_markIntS.f
  exact mark_loop l [] 1 (by simp; omega) (by omega) (by omega)
theorem held_loop : ∀ (d : Nat) (pre : List Int) (k : Int), pre.length + d ≤ 4611686018427387903 → 0 ≤ k → k + d ≤ 4611686018427387904 →
    Tot (fun n => laws_heldIntS.l0 n (pre ++ upN k d) k (pre.length : Int)) (Eq (k + d)) := by
  intro d
  induction d with
  | zero =>
    intro pre k hn h0 h1
    refine Tot.step (fun n => laws_heldIntS.l0.eq_2 _ _ _ _) ?_
    exact Tot.neg (by simp [upN]) (Tot.ret (by simp))
  | succ d ih =>
    intro pre k hn h0 h1
    refine Tot.step (fun n => laws_heldIntS.l0.eq_2 _ _ _ _) ?_
    rw [upN]
    refine Tot.pos (by simp; omega) (Tot.pos (by omega) (Tot.pos (by rw [rd_mid]) ?_))
    rw [wrap_nat _ (by omega), show wrap64 (k + 1) = k + 1 from wrap_in (by omega) (by omega)]
    have := ih (pre ++ [k]) (k + 1) (by simp; omega) (by omega) (by omega)
    rw [List.append_assoc, List.length_append, List.length_singleton] at this
    refine this.mono fun r hr => ?_
    rw [← hr]; omega
theorem held_t (d : Nat) (hn : d ≤ 1048576) : Tot (fun n => laws_heldIntS.f n (upN 1 d) 1) (Eq (1 + (d : Int))) := by
  unfold laws_heldIntS.f
  exact held_loop d [] 1 (by simp; omega) (by omega) (by omega)
/-! ### Rows of rows: equal to themselves, marked, held -/
theorem rdL1_mid (pre suf : List (List Int)) (r : List Int) : rd_L1 (pre ++ r :: suf) (pre.length : Int) = r := by simp [rd_L1]
def szSS : List (List Int) → Nat
  | [] => 0
  | r :: t => r.length + szSS t
def upSS (k : Int) : List (List Int) → List (List Int)
  | [] => []
  | r :: t => upN k r.length :: upSS (k + r.length) t
theorem upSS_length : ∀ (v : List (List Int)) (k : Int), (upSS k v).length = v.length
  | [], _ => rfl
  | r :: t, k => by simp [upSS, upSS_length t]
theorem eqSS_loop (v : List (List Int)) (hl : v.length ≤ 1048576) (hr : ∀ r ∈ v, r.length ≤ 1048576) : ∀ (suf pre : List (List Int)), v = pre ++ suf → Tot (fun k => laws_eqIntSS.l0 k v v (pre.length : Int)) (Eq true) := by
  intro suf
  induction suf with
  | nil =>
    intro pre h
    refine Tot.step (fun k => laws_eqIntSS.l0.eq_2 _ _ _ _) ?_
    exact Tot.neg (by simp [h]) (Tot.ret rfl)
  | cons x suf ih =>
    intro pre h
    have hlen : v.length = pre.length + suf.length + 1 := by simp [h]; omega
    refine Tot.step (fun k => laws_eqIntSS.l0.eq_2 _ _ _ _) ?_
    refine Tot.pos (by omega) (Tot.pos (by omega) (Tot.pos (by omega) ?_))
    rw [show rd_L1 v (pre.length : Int) = x by rw [h, rdL1_mid], wrap_nat _ (by omega)]
    refine Tot.bind (eqIntS_t x (by have := hr x (by simp [h]); omega)) ?_
    rintro _ rfl
    refine Tot.pos rfl ?_
    have := ih (pre ++ [x]) (by simp [h])
    rw [List.length_append, List.length_singleton] at this
    exact this
theorem eqSS_t (v : List (List Int)) (hl : v.length ≤ 1048576) (hr : ∀ r ∈ v, r.length ≤ 1048576) : Tot (fun k => laws_eqIntSS.f k v v) (Eq true) := by
  unfold laws_eqIntSS.f
  exact Tot.pos rfl (eqSS_loop v hl hr v [] rfl)
theorem mark1 (r : List Int) (k : Int) (hr : r.length ≤ 1048576) (h0 : 0 ≤ k) (h1 : k + r.length ≤ 4611686018427387904) : Tot (fun n => laws_markIntS.f n r k) (Eq (k + (r.length : Int), upN k r.length)) := by
  unfold laws_markIntS.f
  exact mark_loop r [] k (by simp; omega) h0 h1
theorem held1 (d : Nat) (k : Int) (hd : d ≤ 1048576) (h0 : 0 ≤ k) (h1 : k + d ≤ 4611686018427387904) : Tot (fun n => laws_heldIntS.f n (upN k d) k) (Eq (k + (d : Int))) := by
  unfold laws_heldIntS.f
  exact held_loop d [] k (by simp; omega) h0 h1
theorem markSS_loop : ∀ (suf pre : List (List Int)) (k : Int), (pre ++ suf).length ≤ 1048576 → (∀ r ∈ suf, r.length ≤ 1048576) → 0 ≤ k → k + szSS suf ≤ 4611686018427387904 →
    Tot (fun n => laws_markIntSS.l0 n (pre ++ suf) k (pre.length : Int)) (Eq (k + (szSS suf : Int), pre ++ upSS k suf)) := by
  intro suf
  induction suf with
  | nil =>
    intro pre k hn hr h0 h1
    refine Tot.step (fun n => laws_markIntSS.l0.eq_2 _ _ _ _) ?_
    exact Tot.neg (by simp) (Tot.ret (by simp [upSS, szSS]))
  | cons x suf ih =>
    intro pre k hn hr h0 h1
    have hlen : (pre ++ x :: suf).length = pre.length + suf.length + 1 := by simp; omega
    simp only [szSS] at h1
    refine Tot.step (fun n => laws_markIntSS.l0.eq_2 _ _ _ _) ?_
    refine Tot.pos (by omega) (Tot.pos (by omega) ?_)
    rw [rdL1_mid, wrap_nat _ (by omega)]
    refine Tot.bind (mark1 x k (hr x (by simp)) h0 (by omega)) ?_
    rintro _ rfl
    rw [set_mid]
    have := ih (pre ++ [upN k x.length]) (k + x.length) (by simp at hn ⊢; omega) (fun r h => hr r (by simp [h])) (by omega) (by omega)
    rw [List.append_assoc, List.length_append, List.length_singleton] at this
    refine this.mono fun r h => ?_
    rw [← h, upSS, szSS, List.append_assoc]
    simp
    omega
theorem markSS_t (v : List (List Int)) (hl : v.length ≤ 1048576) (hr : ∀ r ∈ v, r.length ≤ 1048576) (hs : szSS v ≤ 4611686018427387900) : Tot (fun n => laws_markIntSS.f n v 1) (Eq (1 + (szSS v : Int), upSS 1 v)) := by
  unfold laws_markIntSS.f
  exact markSS_loop v [] 1 (by simpa using hl) hr (by omega) (by omega)
theorem heldSS_loop : ∀ (suf pre : List (List Int)) (k : Int), pre.length + suf.length ≤ 1048576 → (∀ r ∈ suf, r.length ≤ 1048576) → 0 ≤ k → k + szSS suf ≤ 4611686018427387904 →
    Tot (fun n => laws_heldIntSS.l0 n (pre ++ upSS k suf) k (pre.length : Int)) (Eq (k + (szSS suf : Int))) := by
  intro suf
  induction suf with
  | nil =>
    intro pre k hn hr h0 h1
    refine Tot.step (fun n => laws_heldIntSS.l0.eq_2 _ _ _ _) ?_
    exact Tot.neg (by simp [upSS]) (Tot.ret (by simp [szSS]))
  | cons x suf ih =>
    intro pre k hn hr h0 h1
    simp only [List.length_cons] at hn
    simp only [szSS] at h1
    refine Tot.step (fun n => laws_heldIntSS.l0.eq_2 _ _ _ _) ?_
    rw [upSS]
    refine Tot.pos (by simp; omega) (Tot.pos (by omega) ?_)
    rw [rdL1_mid, wrap_nat _ (by omega)]
    refine Tot.bind (held1 x.length k (hr x (by simp)) h0 (by omega)) ?_
    rintro _ rfl
    refine Tot.neg (by omega) ?_
    have := ih (pre ++ [upN k x.length]) (k + x.length) (by simp; omega) (fun r h => hr r (by simp [h])) (by omega) (by omega)
    rw [List.append_assoc, List.length_append, List.length_singleton] at this
    refine this.mono fun r h => ?_
    rw [← h, szSS]
    omega
theorem heldSS_t (v : List (List Int)) (hl : v.length ≤ 1048576) (hr : ∀ r ∈ v, r.length ≤ 1048576) (hs : szSS v ≤ 4611686018427387900) : Tot (fun n => laws_heldIntSS.f n (upSS 1 v) 1) (Eq (1 + (szSS v : Int))) := by
  unfold laws_heldIntSS.f
  exact heldSS_loop v [] 1 (by simpa using hl) hr (by omega) (by omega)
theorem szSS_le (v : List (List Int)) (b : Nat) (h : ∀ r ∈ v, r.length ≤ b) : szSS v ≤ b * v.length := by
  induction v with
  | nil => simp [szSS]
  | cons r t ih =>
    have h1 := h r (by simp)
    have h2 := ih (fun x hx => h x (by simp [hx]))
    simp only [szSS, List.length_cons, Nat.mul_add, Nat.mul_one]
    omega
/-- The rest of a list rises, from p on, within 1..20. -/
def asc : Int → List Int → Bool
  | _, [] => true
  | p, x :: xs => decide (1 ≤ x ∧ x ≤ 20 ∧ p < x) && asc x xs
def kindsB (l : List Int) : Bool := decide (1 ≤ l.length ∧ l.length ≤ 5) && asc 0 l
theorem within_eq (a b c : Int) : impl_within.f a b c = some (decide (b ≤ a ∧ a ≤ c)) := by
  unfold impl_within.f; split <;> simp [*]
theorem l1In_eq (a b c : Int) : spec_l1In.f a b c = some (decide (b ≤ a ∧ a ≤ c)) := by
  unfold spec_l1In.f
  split
  · simp [*]
  · have : ¬ (b ≤ a ∧ a ≤ c) := by omega
    simp [this]
theorem rd_last (pre suf : List Int) (h : pre ≠ []) : rd (pre ++ suf) ((pre.length : Int) - 1) = pre.getLastD 0 := by
  have hp : 0 < pre.length := List.length_pos_iff.2 h
  have : ((pre.length : Int) - 1).toNat = pre.length - 1 := by omega
  simp only [rd, this]
  rw [List.getD_eq_getElem?_getD, List.getElem?_append_left (by omega), List.getLastD_eq_getLast?, List.getLast?_eq_getElem?]
theorem getLastD_snoc (pre : List Int) (x : Int) : (pre ++ [x]).getLastD 0 = x := by simp
theorem implKinds_loop (l : List Int) (hn : l.length ≤ 1048576) : ∀ (suf pre : List Int), l = pre ++ suf → 0 ≤ pre.getLastD 0 → Tot (fun k => impl_AreKinds.l0 k l l (l.length : Int) (pre.length : Int)) (Eq (asc (pre.getLastD 0) suf)) := by
  intro suf
  induction suf with
  | nil =>
    intro pre h _
    refine Tot.step (fun k => impl_AreKinds.l0.eq_2 _ _ _ _ _) ?_
    exact Tot.neg (by simp [h]) (Tot.ret rfl)
  | cons x suf ih =>
    intro pre h hg
    have hl : l.length = pre.length + suf.length + 1 := by simp [h]; omega
    refine Tot.step (fun k => impl_AreKinds.l0.eq_2 _ _ _ _ _) ?_
    refine Tot.pos (by omega) (Tot.pos (by omega) (Tot.pos (by omega) ?_))
    rw [show rd l (pre.length : Int) = x by rw [h, rd_mid], within_eq]
    refine Tot.some_bind ?_
    refine Tot.ite (fun hx => ?_) (fun hx => Tot.ret ?_)
    · have hx' : 1 ≤ x ∧ x ≤ 20 := by simpa using hx
      have key : pre.getLastD 0 < x → Tot (fun k => impl_AreKinds.l0 k l l (l.length : Int) (wrap64 ((pre.length : Int) + 1))) (Eq (asc (pre.getLastD 0) (x :: suf))) := by
        intro hlt
        have := ih (pre ++ [x]) (by simp [h]) (by rw [getLastD_snoc]; omega)
        rw [getLastD_snoc, List.length_append, List.length_singleton] at this
        rw [wrap_nat _ (by omega)]
        refine this.mono fun r hr => ?_
        rw [← hr, asc, decide_eq_true (show 1 ≤ x ∧ x ≤ 20 ∧ pre.getLastD 0 < x from ⟨hx'.1, hx'.2, hlt⟩), Bool.true_and]
      refine Tot.ite (fun hp => ?_) (fun hp => key ?_)
      · have hne : pre ≠ [] := by intro e; simp [e] at hp
        have hw : wrap64 ((pre.length : Int) - 1) = (pre.length : Int) - 1 := wrap_in (by omega) (by omega)
        rw [hw]
        refine Tot.pos (by omega) (Tot.pos (by omega) ?_)
        rw [show rd l ((pre.length : Int) - 1) = pre.getLastD 0 by rw [h]; exact rd_last _ _ hne]
        refine Tot.ite (fun hle => Tot.ret ?_) (fun hle => key (by omega))
        rw [asc, decide_eq_false (show ¬ (1 ≤ x ∧ x ≤ 20 ∧ pre.getLastD 0 < x) from fun e => by omega), Bool.false_and]
      · have : pre = [] := List.eq_nil_of_length_eq_zero (by omega)
        subst this
        simp; omega
    · have hx' : ¬ (1 ≤ x ∧ x ≤ 20) := by simpa using hx
      have : ¬ (1 ≤ x ∧ x ≤ 20 ∧ pre.getLastD 0 < x) := fun e => hx' ⟨e.1, e.2.1⟩
      simp only [asc, this, decide_false, Bool.false_and]
theorem implKinds_t (l : List Int) (hn : l.length ≤ 1048576) : Tot (fun k => impl_AreKinds.f k l) (Eq (kindsB l)) := by
  unfold impl_AreKinds.f
  rw [within_eq]
  refine Tot.some_bind (Tot.ite (fun h => ?_) (fun h => Tot.ret ?_))
  · have h' : 1 ≤ l.length ∧ l.length ≤ 5 := by have := of_decide_eq_true h; omega
    refine (implKinds_loop l hn l [] rfl (by simp)).mono fun r hr => ?_
    simpa [kindsB, h'] using hr
  · have h' : ¬ (1 ≤ l.length ∧ l.length ≤ 5) := by intro e; apply h; simp; omega
    simp only [kindsB, h', decide_false, Bool.false_and]
theorem specRising_eq (k : Nat) (l : List Int) : ∀ (m i : Int), spec_l1Rising.l0 k l 1 20 l m i = impl_AreKinds.l0 k l l m i := by
  induction k with
  | zero => intro m i; rfl
  | succ k ih =>
    intro m i
    rw [spec_l1Rising.l0, impl_AreKinds.l0]
    simp only [ih, l1In_eq, within_eq, ge_iff_le]
theorem specKinds_eq (k : Nat) (l : List Int) : spec_goKinds.f k l = impl_AreKinds.f k l := by
  unfold spec_goKinds.f impl_AreKinds.f spec_l1Rising.f
  simp only [specRising_eq, l1In_eq, within_eq]
  congr 1
  funext t
  split
  · cases impl_AreKinds.l0 k l l (l.length : Int) 0 <;> rfl
  · rfl
theorem asc_all (l : List Int) : ∀ p, asc p l = true → ∀ x ∈ l, 1 ≤ x ∧ x ≤ 20 := by
  induction l with
  | nil => intro p _ x hx; cases hx
  | cons y l ih =>
    intro p h x hx
    simp only [asc, Bool.and_eq_true, decide_eq_true_eq] at h
    rcases List.mem_cons.1 hx with rfl | hx
    · exact ⟨h.1.1, h.1.2.1⟩
    · exact ih _ h.2 x hx
theorem kinds_facts {l : List Int} (h : kindsB l = true) : 1 ≤ l.length ∧ l.length ≤ 5 ∧ ∀ x ∈ l, 1 ≤ x ∧ x ≤ 20 := by
  simp only [kindsB, Bool.and_eq_true, decide_eq_true_eq] at h
  exact ⟨h.1.1, h.1.2, asc_all l 0 h.2⟩
def okL (n c : Int) : Bool := decide ((0 ≤ c - 97 ∧ c - 97 ≤ n - 1) ∨ (0 ≤ c - 65 ∧ c - 65 ≤ n - 1))
/-- The last d bytes of a text are letters of a game. -/
def letters (n : Int) (s : ByteArray) : Nat → Bool
  | 0 => true
  | d + 1 => okL n (bt s ((s.size : Int) - ((d + 1 : Nat) : Int))) && letters n s d
def gameB (l : List Int) (s : ByteArray) : Bool := letters l.length s s.size && decide (s.size ≤ 60)
def goalV (l : List Int) (c : Int) : Int × Int × Bool := if okL l.length c then (if c < 97 then (1, rd l (c - 65), true) else (0, rd l (c - 97), true)) else (0, 0, false)
theorem goalOf_eq (l : List Int) (c : Int) (h0 : 0 ≤ c) (h1 : c ≤ 255) (hl : 1 ≤ l.length) (hl2 : l.length ≤ 5) : impl_goalOf.f l c = some (goalV l c) := by
  unfold impl_goalOf.f goalV
  rw [show wrap64 c = c from wrap_in (by omega) (by omega), show wrap64 (c - 65) = c - 65 from wrap_in (by omega) (by omega), show wrap64 (c - 97) = c - 97 from wrap_in (by omega) (by omega), show wrap64 ((l.length : Int) - 1) = (l.length : Int) - 1 from wrap_in (by omega) (by omega), within_eq, within_eq]
  simp only [Option.bind_some]
  by_cases hc : c < 97
  · by_cases hk : 0 ≤ c - 65 ∧ c - 65 ≤ (l.length : Int) - 1
    · have hok : okL l.length c = true := by unfold okL; rw [decide_eq_true_eq]; right; omega
      rw [if_pos hc, if_pos (by simpa using hk), if_pos (by omega), if_pos (by omega), if_pos hok, if_pos hc]
    · have hok : ¬ okL l.length c = true := by unfold okL; rw [decide_eq_true_eq]; omega
      rw [if_pos hc, if_neg (by simpa using hk), if_neg hok]
  · by_cases hk : 0 ≤ c - 97 ∧ c - 97 ≤ (l.length : Int) - 1
    · have hok : okL l.length c = true := by unfold okL; rw [decide_eq_true_eq]; left; omega
      rw [if_neg hc, if_pos (by simpa using hk), if_pos (by omega), if_pos (by omega), if_pos hok, if_neg hc]
    · have hok : ¬ okL l.length c = true := by unfold okL; rw [decide_eq_true_eq]; omega
      rw [if_neg hc, if_neg (by simpa using hk), if_neg hok]
theorem implGame_loop (l : List Int) (s : ByteArray) (hs : s.size ≤ 140737488351232) (hl : 1 ≤ l.length) (hl2 : l.length ≤ 5) : ∀ (d : Nat) (i : Int), 0 ≤ i → i + d = s.size → Tot (fun k => impl_isGame.l0 k l s (s.size : Int) i) (Eq (letters l.length s d && decide (s.size ≤ 60))) := by
  intro d
  induction d with
  | zero =>
    intro i h0 hd
    refine Tot.step (fun k => impl_isGame.l0.eq_2 _ _ _ _ _) ?_
    refine Tot.neg (by omega) (Tot.ret ?_)
    rw [letters, Bool.true_and, Bool.eq_iff_iff, decide_eq_true_eq, decide_eq_true_eq]; omega
  | succ d ih =>
    intro i h0 hd
    have hb := bt_range s i
    refine Tot.step (fun k => impl_isGame.l0.eq_2 _ _ _ _ _) ?_
    refine Tot.pos (by omega) (Tot.pos (by omega) (Tot.pos (by omega) ?_))
    rw [goalOf_eq l _ hb.1 hb.2 hl hl2]
    refine Tot.some_bind ?_
    have e : (s.size : Int) - ((d + 1 : Nat) : Int) = i := by omega
    by_cases hk : okL l.length (bt s i) = true
    · refine Tot.pos (by unfold goalV; rw [if_pos hk]; split <;> rfl) ?_
      rw [show wrap64 (i + 1) = i + 1 from wrap_in (by omega) (by omega), letters, e, hk, Bool.true_and]
      exact ih _ (by omega) (by omega)
    · refine Tot.neg (by unfold goalV; rw [if_neg hk]; simp) (Tot.ret ?_)
      rw [letters, e, Bool.eq_false_iff.2 hk, Bool.false_and, Bool.false_and]
theorem implGame_t (l : List Int) (s : ByteArray) (hs : s.size ≤ 140737488351232) (hl : 1 ≤ l.length) (hl2 : l.length ≤ 5) : Tot (fun k => impl_isGame.f k l s) (Eq (gameB l s)) := by
  unfold impl_isGame.f
  exact implGame_loop l s hs hl hl2 s.size 0 (by omega) (by omega)
theorem specGame_loop (l : List Int) (s : ByteArray) (hs : s.size ≤ 140737488351232) (hl : 1 ≤ l.length) (hl2 : l.length ≤ 5) : ∀ (d : Nat) (i : Int), 0 ≤ i → i + d = s.size → Tot (fun k => spec_goGame.l0 k l s i) (Eq (letters l.length s d)) := by
  intro d
  induction d with
  | zero =>
    intro i h0 hd
    refine Tot.step (fun k => spec_goGame.l0.eq_2 _ _ _ _) ?_
    exact Tot.neg (by omega) (Tot.ret rfl)
  | succ d ih =>
    intro i h0 hd
    have hb := bt_range s i
    refine Tot.step (fun k => spec_goGame.l0.eq_2 _ _ _ _) ?_
    refine Tot.pos (by omega) (Tot.pos (by omega) ?_)
    have e : (s.size : Int) - ((d + 1 : Nat) : Int) = i := by omega
    rw [show wrap64 (bt s i) = bt s i from wrap_in (by omega) (by omega), show wrap64 (bt s i - 65) = bt s i - 65 from wrap_in (by omega) (by omega), show wrap64 (bt s i - 97) = bt s i - 97 from wrap_in (by omega) (by omega), show wrap64 ((l.length : Int) - 1) = (l.length : Int) - 1 from wrap_in (by omega) (by omega), l1In_eq, l1In_eq, show wrap64 (i + 1) = i + 1 from wrap_in (by omega) (by omega), letters, e]
    have go := ih (i + 1) (by omega) (by omega)
    refine Tot.some_bind (Tot.ite (fun h1 => ?_) (fun h1 => Tot.some_bind (Tot.ite (fun h2 => ?_) (fun h2 => Tot.ret ?_))))
    · have hk : okL l.length (bt s i) = true := by unfold okL; rw [decide_eq_true_eq]; left; simpa using h1
      rw [hk, Bool.true_and]; exact go
    · have hk : okL l.length (bt s i) = true := by unfold okL; rw [decide_eq_true_eq]; right; simpa using h2
      rw [hk, Bool.true_and]; exact go
    · have hk : okL l.length (bt s i) = false := by
        unfold okL; rw [decide_eq_false_iff_not]
        simp only [decide_eq_true_eq] at h1 h2
        omega
      rw [hk, Bool.false_and]
theorem specGame_t (l : List Int) (s : ByteArray) (hs : s.size ≤ 140737488351232) (hl : 1 ≤ l.length) (hl2 : l.length ≤ 5) : Tot (fun k => spec_goGame.f k l s) (Eq (gameB l s)) := by
  unfold spec_goGame.f
  refine Tot.ite (fun h => Tot.ret ?_) (fun h => ?_)
  · unfold gameB; rw [decide_eq_false (by omega), Bool.and_false]
  · unfold gameB; rw [decide_eq_true (by omega), Bool.and_true]
    exact specGame_loop l s hs hl hl2 s.size 0 (by omega) (by omega)
theorem letters_all {n : Int} {s : ByteArray} : ∀ d : Nat, letters n s d = true → ∀ i : Int, (s.size : Int) - d ≤ i → i < s.size → okL n (bt s i) = true := by
  intro d
  induction d with
  | zero => intro _ i h1 h2; omega
  | succ d ih =>
    intro h i h1 h2
    rw [letters, Bool.and_eq_true] at h
    by_cases e : i = (s.size : Int) - ((d + 1 : Nat) : Int)
    · rw [e]; exact h.1
    · exact ih h.2 i (by omega) h2
theorem game_facts {l : List Int} {s : ByteArray} (h : gameB l s = true) : s.size ≤ 60 ∧ ∀ i : Int, 0 ≤ i → i < s.size → okL l.length (bt s i) = true := by
  rw [gameB, Bool.and_eq_true, decide_eq_true_eq] at h
  exact ⟨h.2, fun i h0 h1 => letters_all s.size h.1 i (by omega) h1⟩
/-- The points of both sides behind each of the last d letters, from a and b on. -/
def sc (l : List Int) (s : ByteArray) : Nat → Int → Int → List (List Int)
  | 0, _, _ => []
  | d + 1, a, b =>
    let c := bt s ((s.size : Int) - ((d + 1 : Nat) : Int))
    if c < 97 then [a, b + rd l (c - 65)] :: sc l s d a (b + rd l (c - 65)) else [a + rd l (c - 97), b] :: sc l s d (a + rd l (c - 97)) b
def rows (l : List Int) (s : ByteArray) : List (List Int) := [0, 0] :: sc l s s.size 0 0
theorem sc_length (l : List Int) (s : ByteArray) : ∀ d a b, (sc l s d a b).length = d := by
  intro d
  induction d with
  | zero => intro a b; rfl
  | succ d ih =>
    intro a b
    unfold sc
    simp only
    split <;> simp [ih]
theorem okL_at {l : List Int} {c : Int} (hl2 : l.length ≤ 5) (hk : ∀ x ∈ l, 1 ≤ x ∧ x ≤ 20) (h : okL l.length c = true) : (c < 97 → 65 ≤ c ∧ c - 65 < l.length ∧ 1 ≤ rd l (c - 65) ∧ rd l (c - 65) ≤ 20) ∧ (¬ c < 97 → c - 97 < l.length ∧ 1 ≤ rd l (c - 97) ∧ rd l (c - 97) ≤ 20) := by
  unfold okL at h
  rw [decide_eq_true_eq] at h
  have key : ∀ i : Int, 0 ≤ i → i < l.length → 1 ≤ rd l i ∧ rd l i ≤ 20 := by
    intro i h0 h1
    obtain ⟨n, rfl⟩ : ∃ n : Nat, i = (n : Int) := ⟨i.toNat, by omega⟩
    rw [rd_get l n (by omega)]
    exact hk _ (List.getElem_mem _)
  refine ⟨fun hc => ?_, fun hc => ?_⟩
  · have := key (c - 65) (by omega) (by omega)
    exact ⟨by omega, by omega, this⟩
  · have := key (c - 97) (by omega) (by omega)
    exact ⟨by omega, this⟩
/-- A row holds two numbers, neither of them great. -/
def RowOK (r : List Int) : Prop := ∃ a b, r = [a, b] ∧ 0 ≤ a ∧ a ≤ 1200 ∧ 0 ≤ b ∧ b ≤ 1200
theorem sc_ok (l : List Int) (s : ByteArray) (hl2 : l.length ≤ 5) (hk : ∀ x ∈ l, 1 ≤ x ∧ x ≤ 20) (hg : ∀ i : Int, 0 ≤ i → i < s.size → okL l.length (bt s i) = true) :
    ∀ (d : Nat) (a b : Int), d ≤ s.size → d ≤ 60 → 0 ≤ a → a + 20 * d ≤ 1200 → 0 ≤ b → b + 20 * d ≤ 1200 → ∀ r ∈ sc l s d a b, RowOK r := by
  intro d
  induction d with
  | zero => intro a b _ _ _ _ _ _ r hr; cases hr
  | succ d ih =>
    intro a b hd hd2 a0 a1 b0 b1 r hr
    have hb := okL_at hl2 hk (hg ((s.size : Int) - ((d + 1 : Nat) : Int)) (by omega) (by omega))
    unfold sc at hr
    simp only at hr
    split at hr
    · rename_i hc
      have := hb.1 hc
      rcases List.mem_cons.1 hr with rfl | hr
      · exact ⟨_, _, rfl, by omega, by omega, by omega, by omega⟩
      · exact ih _ _ (by omega) (by omega) (by omega) (by omega) (by omega) (by omega) r hr
    · rename_i hc
      have := hb.2 hc
      rcases List.mem_cons.1 hr with rfl | hr
      · exact ⟨_, _, rfl, by omega, by omega, by omega, by omega⟩
      · exact ih _ _ (by omega) (by omega) (by omega) (by omega) (by omega) (by omega) r hr
theorem specScores_loop (l : List Int) (s : ByteArray) (hs : s.size ≤ 60) (hl2 : l.length ≤ 5) (hk : ∀ x ∈ l, 1 ≤ x ∧ x ≤ 20) (hg : ∀ i : Int, 0 ≤ i → i < s.size → okL l.length (bt s i) = true) :
    ∀ (d : Nat) (i a b : Int) (xs : List (List Int)), 0 ≤ i → i + d = s.size → 0 ≤ a → a + 20 * d ≤ 1200 → 0 ≤ b → b + 20 * d ≤ 1200 → xs.length + d ≤ 1000 → Tot (fun k => spec_goScores.l0 k l s a b xs i) (Eq (xs ++ sc l s d a b)) := by
  intro d
  induction d with
  | zero =>
    intro i a b xs h0 hd _ _ _ _ _
    refine Tot.step (fun k => spec_goScores.l0.eq_2 _ _ _ _ _ _ _) ?_
    exact Tot.neg (by omega) (Tot.ret (by simp [sc]))
  | succ d ih =>
    intro i a b xs h0 hd a0 a1 b0 b1 hx
    have hb := okL_at hl2 hk (hg i h0 (by omega))
    have hr := bt_range s i
    have e : (s.size : Int) - ((d + 1 : Nat) : Int) = i := by omega
    refine Tot.step (fun k => spec_goScores.l0.eq_2 _ _ _ _ _ _ _) ?_
    refine Tot.pos (by omega) (Tot.pos (by omega) ?_)
    rw [show wrap64 (i + 1) = i + 1 from wrap_in (by omega) (by omega)]
    unfold sc
    simp only [e]
    by_cases hc : bt s i < 97
    · obtain ⟨q1, q2, q3, q4⟩ := hb.1 hc
      rw [if_pos hc, show (bt s i - 65) % 256 = bt s i - 65 by omega, show wrap64 (b + rd l (bt s i - 65)) = b + rd l (bt s i - 65) from wrap_in (by omega) (by omega)]
      refine Tot.neg (by omega) (Tot.pos (by omega) (Tot.pos (by omega) (Tot.pos (by omega) ?_)))
      have := ih (i + 1) a (b + rd l (bt s i - 65)) (xs ++ [[a, b + rd l (bt s i - 65)]]) (by omega) (by omega) (by omega) (by omega) (by omega) (by omega) (by simp; omega)
      simpa using this
    · obtain ⟨q2, q3, q4⟩ := hb.2 hc
      rw [if_neg hc, show (bt s i - 97) % 256 = bt s i - 97 by omega, show wrap64 (a + rd l (bt s i - 97)) = a + rd l (bt s i - 97) from wrap_in (by omega) (by omega)]
      refine Tot.pos (by omega) (Tot.pos (by omega) (Tot.pos (by omega) (Tot.pos (by omega) ?_)))
      have := ih (i + 1) (a + rd l (bt s i - 97)) b (xs ++ [[a + rd l (bt s i - 97), b]]) (by omega) (by omega) (by omega) (by omega) (by omega) (by omega) (by simp; omega)
      simpa using this
theorem clone_eq (l : List Int) (h : l.length < 17592186044416) : slices_Clone_int_int.f l = some l := by
  unfold slices_Clone_int_int.f
  simp only [Option.bind_some, List.nil_append, List.length_nil, Nat.zero_add]
  rw [if_pos h]
theorem implScores_loop (l : List Int) (s : ByteArray) (hs : s.size ≤ 60) (hl : 1 ≤ l.length) (hl2 : l.length ≤ 5) (hk : ∀ x ∈ l, 1 ≤ x ∧ x ≤ 20) (hg : ∀ i : Int, 0 ≤ i → i < s.size → okL l.length (bt s i) = true) :
    ∀ (d : Nat) (i a b : Int) (xs : List (List Int)), 0 ≤ i → i + d = s.size → 0 ≤ a → a + 20 * d ≤ 1200 → 0 ≤ b → b + 20 * d ≤ 1200 → xs.length + d ≤ 1000 → Tot (fun k => impl_ScoresOn.l0 k l s [a, b] xs (s.size : Int) i) (Eq (xs ++ sc l s d a b, true)) := by
  intro d
  induction d with
  | zero =>
    intro i a b xs h0 hd _ _ _ _ _
    refine Tot.step (fun k => impl_ScoresOn.l0.eq_2 _ _ _ _ _ _ _) ?_
    exact Tot.neg (by omega) (Tot.ret (by simp [sc]))
  | succ d ih =>
    intro i a b xs h0 hd a0 a1 b0 b1 hx
    have hgi := hg i h0 (by omega)
    have hb := okL_at hl2 hk hgi
    have hr := bt_range s i
    have e : (s.size : Int) - ((d + 1 : Nat) : Int) = i := by omega
    refine Tot.step (fun k => impl_ScoresOn.l0.eq_2 _ _ _ _ _ _ _) ?_
    refine Tot.pos (by omega) (Tot.pos (by omega) (Tot.pos (by omega) ?_))
    rw [show wrap64 (i + 1) = i + 1 from wrap_in (by omega) (by omega), goalOf_eq l _ hr.1 hr.2 hl hl2]
    refine Tot.some_bind ?_
    unfold sc goalV
    simp only [e]
    rw [if_pos hgi]
    by_cases hc : bt s i < 97
    · obtain ⟨q1, q2, q3, q4⟩ := hb.1 hc
      rw [if_pos hc, if_pos hc]
      simp only
      rw [show rd [a, b] 1 = b from rfl, show wrap64 (b + rd l (bt s i - 65)) = b + rd l (bt s i - 65) from wrap_in (by omega) (by omega)]
      refine Tot.pos (by omega) (Tot.pos (by simp) (Tot.some_bind ?_))
      rw [clone_eq _ (by simp)]
      refine Tot.some_bind (Tot.pos (by omega) ?_)
      have := ih (i + 1) a (b + rd l (bt s i - 65)) (xs ++ [[a, b + rd l (bt s i - 65)]]) (by omega) (by omega) (by omega) (by omega) (by omega) (by omega) (by simp; omega)
      simpa using this
    · obtain ⟨q2, q3, q4⟩ := hb.2 hc
      rw [if_neg hc, if_neg hc]
      simp only
      rw [show rd [a, b] 0 = a from rfl, show wrap64 (a + rd l (bt s i - 97)) = a + rd l (bt s i - 97) from wrap_in (by omega) (by omega)]
      refine Tot.pos (by omega) (Tot.pos (by simp) (Tot.some_bind ?_))
      rw [clone_eq _ (by simp)]
      refine Tot.some_bind (Tot.pos (by omega) ?_)
      have := ih (i + 1) (a + rd l (bt s i - 97)) b (xs ++ [[a + rd l (bt s i - 97), b]]) (by omega) (by omega) (by omega) (by omega) (by omega) (by omega) (by simp; omega)
      simpa using this
def bothB (l : List Int) (s : ByteArray) : Bool := kindsB l && gameB l s
theorem specBoth_t (l : List Int) (s : ByteArray) (hn : l.length ≤ 1048576) (hs : s.size ≤ 140737488351232) : Tot (fun k => spec_goBoth.f k l s) (Eq (bothB l s)) := by
  unfold spec_goBoth.f
  simp only [specKinds_eq]
  refine Tot.bind (implKinds_t l hn) ?_
  rintro _ rfl
  refine Tot.ite (fun h => ?_) (fun h => Tot.ret (by unfold bothB; rw [Bool.eq_false_iff.2 h, Bool.false_and]))
  obtain ⟨k1, k2, k3⟩ := kinds_facts h
  refine Tot.bind (specGame_t l s hs k1 k2) ?_
  rintro _ rfl
  exact Tot.ret (by unfold bothB; rw [h, Bool.true_and])
theorem specScores_t (l : List Int) (s : ByteArray) (h : bothB l s = true) : Tot (fun k => spec_goScores.f k l s) (Eq (rows l s)) := by
  rw [bothB, Bool.and_eq_true] at h
  obtain ⟨k1, k2, k3⟩ := kinds_facts h.1
  obtain ⟨g1, g2⟩ := game_facts h.2
  unfold spec_goScores.f
  exact specScores_loop l s g1 k2 k3 g2 s.size 0 0 0 [[0, 0]] (by omega) (by omega) (by omega) (by omega) (by omega) (by omega) (by simp; omega)
theorem rows_ok {l : List Int} {s : ByteArray} (h : bothB l s = true) : (rows l s).length = s.size + 1 ∧ s.size ≤ 60 ∧ ∀ r ∈ rows l s, RowOK r := by
  rw [bothB, Bool.and_eq_true] at h
  obtain ⟨k1, k2, k3⟩ := kinds_facts h.1
  obtain ⟨g1, g2⟩ := game_facts h.2
  refine ⟨by simp [rows, sc_length], g1, fun r hr => ?_⟩
  rcases List.mem_cons.1 hr with rfl | hr
  · exact ⟨0, 0, rfl, by omega, by omega, by omega, by omega⟩
  · exact sc_ok l s k2 k3 g2 s.size 0 0 (by omega) g1 (by omega) (by omega) (by omega) (by omega) r hr
theorem implScores_t (l : List Int) (s : ByteArray) (hn : l.length ≤ 1048576) (hs : s.size ≤ 140737488351232) : Tot (fun k => impl_ScoresOn.f k l s) (Eq (if bothB l s then (rows l s, true) else ([], false))) := by
  unfold impl_ScoresOn.f
  refine Tot.bind (implKinds_t l hn) ?_
  rintro _ rfl
  refine Tot.ite (fun h => ?_) (fun h => ?_)
  · obtain ⟨k1, k2, k3⟩ := kinds_facts h
    refine Tot.bind (implGame_t l s hs k1 k2) ?_
    rintro _ rfl
    refine Tot.step (fun k => impl_ScoresOn.j0.eq_2 _ _ _ _ _) ?_
    refine Tot.ite (fun g => Tot.ret ?_) (fun g => ?_)
    · have : bothB l s = false := by unfold bothB; rw [h, Bool.true_and]; simpa using g
      rw [this]; rfl
    · have g' : gameB l s = true := by simpa using g
      have : bothB l s = true := by unfold bothB; rw [h, g']; rfl
      obtain ⟨g1, g2⟩ := game_facts g'
      rw [this, if_pos rfl]
      refine Tot.some_bind ?_
      rw [clone_eq _ (by simp)]
      refine Tot.some_bind (Tot.pos (by simp) ?_)
      exact implScores_loop l s g1 k1 k2 k3 g2 s.size 0 0 0 [[0, 0]] (by omega) (by omega) (by omega) (by omega) (by omega) (by omega) (by simp; omega)
  · refine Tot.step (fun k => impl_ScoresOn.j0.eq_2 _ _ _ _ _) ?_
    refine Tot.pos rfl (Tot.ret ?_)
    have : bothB l s = false := by unfold bothB; rw [Bool.eq_false_iff.2 h, Bool.false_and]
    rw [this]; rfl
theorem rdL_mid (pre suf : List (List Int)) (x : List Int) : rd_L1 (pre ++ x :: suf) (pre.length : Int) = x := by simp [rd_L1]
theorem rdL_get (m : List (List Int)) (i : Nat) (h : i < m.length) : rd_L1 m (i : Int) = m[i] := by simp [rd_L1, h]
theorem both (l : List Int) (s : ByteArray) (hn : l.length ≤ 1048576) (hs : s.size ≤ 140737488351232) : ∃ v : List (List Int) × Bool, Tot (fun k => spec_ScoresOn.f k l s) (Eq v) ∧ Tot (fun k => impl_ScoresOn.f k l s) (Eq v) ∧ v.1.length ≤ 100 ∧ ∀ r ∈ v.1, r.length ≤ 2 := by
  by_cases h : bothB l s = true
  case neg =>
    refine ⟨([], false), ?_, ?_, by simp, by simp⟩
    · unfold spec_ScoresOn.f
      refine Tot.bind (specBoth_t l s hn hs) ?_
      rintro _ rfl
      exact Tot.neg h (Tot.ret rfl)
    · have := implScores_t l s hn hs
      rw [if_neg h] at this
      exact this
  obtain ⟨h1, h2, h3⟩ := rows_ok h
  refine ⟨(rows l s, true), ?_, ?_, by simp only; omega, fun r hr => ?_⟩
  · unfold spec_ScoresOn.f
    refine Tot.bind (specBoth_t l s hn hs) ?_
    rintro _ rfl
    refine Tot.pos h ?_
    refine Tot.bind (specScores_t l s h) ?_
    rintro _ rfl
    exact Tot.ret rfl
  · have := implScores_t l s hn hs
    rw [if_pos h] at this
    exact this
  · obtain ⟨a, b, rfl, _⟩ := h3 r hr
    exact Nat.le_refl 2
theorem FnExactScoresOn : laws_FnExactScoresOn.Pure := by
  intro l a h1 h2 h3 h4
  refine Tot.rounds ?_
  unfold laws_FnExactScoresOn.f
  refine Tot.ite (fun _ => Tot.ret rfl) (fun hn => ?_)
  have hn' : l.length ≤ 1048576 := by omega
  refine Tot.ite (fun _ => Tot.ret rfl) (fun _ => ?_)
  obtain ⟨v, A, B, s1, s2⟩ := both l a hn' h4
  have b1 : v.1.length ≤ 1048576 := by omega
  have b2 : ∀ r ∈ v.1, r.length ≤ 1048576 := fun r hr => by have := s2 r hr; omega
  have b3 : szSS v.1 ≤ 4611686018427387900 := by have := szSS_le v.1 2 s2; omega
  refine Tot.bind (toIntS_t l hn') ?_
  rintro _ rfl
  refine Tot.bind A ?_
  rintro _ rfl
  refine Tot.bind B ?_
  rintro _ rfl
  refine Tot.bind (eqSS_t v.1 b1 b2) ?_
  rintro _ rfl
  refine Tot.bind (eqIntS_t l (by omega)) ?_
  rintro _ rfl
  refine Tot.bind (mark_t l hn') ?_
  rintro _ rfl
  refine Tot.bind (markSS_t v.1 b1 b2 b3) ?_
  rintro _ rfl
  refine Tot.bind (heldSS_t v.1 b1 b2 b3) ?_
  rintro _ rfl
  exact Tot.pos ⟨rfl, rfl, rfl, rfl, by simp only; omega, by simp only; omega, rfl⟩ (Tot.ret rfl)
end Go.Proofs.Ytcpebdjklameeaa.Pure
namespace Go.Proofs.Ytcpebdjklameeaa.PrintWords
theorem sized_ints : type_of% @Go.Proofs.YtcpebdjklameeaaW.PrintWords.sized_ints := @Go.Proofs.YtcpebdjklameeaaW.PrintWords.sized_ints
end Go.Proofs.Ytcpebdjklameeaa.PrintWords
