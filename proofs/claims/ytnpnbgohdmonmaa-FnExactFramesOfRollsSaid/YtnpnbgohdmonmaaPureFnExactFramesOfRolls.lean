/- The program's FramesOfRolls answers as the reference's does, for every number of frames and every list of at most 1048576 rolls; for a longer list nothing is asked. -/
import Derived.Test.YtnpnbgohdmonmaaMFnExactFramesOfRollsx5
import Derived.Test.YtnpnbgohdmonmaaWSized
set_option linter.unusedVariables false
set_option linter.unusedSimpArgs false
namespace Go.Proofs.Ytnpnbgohdmonmaa.Pure
open Go.RowKit Go.Proofs.Ytnpnbgohdmonmaa.MFnExactFramesOfRolls Go.Proofs.YtnpnbgohdmonmaaW.PrintWords Go.Proofs.YtnpnbgohdmonmaaW.PrintLast
/-! ### Rounds: some number of rounds on, a function tells r, and r has a property -/
def Tot {α : Type} (g : Nat → Option α) (P : α → Prop) : Prop := ∃ r, Ev g r ∧ P r
theorem Tot.ret {α : Type} {P : α → Prop} {r : α} (h : P r) : Tot (fun _ => some r) P := ⟨r, Ev.now r, h⟩
theorem Tot.pos {α : Type} {c : Prop} [Decidable c] {f g : Nat → Option α} {P : α → Prop} (h : c) (hf : Tot f P) : Tot (fun k => if c then f k else g k) P := by
  simp only [if_pos h]; exact hf
theorem Tot.neg {α : Type} {c : Prop} [Decidable c] {f g : Nat → Option α} {P : α → Prop} (h : ¬ c) (hg : Tot g P) : Tot (fun k => if c then f k else g k) P := by
  simp only [if_neg h]; exact hg
theorem Tot.ite {α : Type} {c : Prop} [Decidable c] {f g : Nat → Option α} {P : α → Prop} (hf : c → Tot f P) (hg : ¬ c → Tot g P) : Tot (fun k => if c then f k else g k) P := by
  by_cases h : c
  · exact Tot.pos h (hf h)
  · exact Tot.neg h (hg h)
theorem Tot.bind {α β : Type} {g : Nat → Option α} {f : Nat → α → Option β} {P : α → Prop} {Q : β → Prop} (h : Tot g P) (k : ∀ a, P a → Tot (fun n => f n a) Q) : Tot (fun n => (g n).bind (f n)) Q := by
  obtain ⟨a, ha, hp⟩ := h
  obtain ⟨r, hr, hq⟩ := k a hp
  exact ⟨r, Ev.bind ha hr, hq⟩
theorem Tot.some_bind {α β : Type} {f : Nat → α → Option β} {Q : β → Prop} {a : α} (k : Tot (fun n => f n a) Q) : Tot (fun n => (some a).bind (f n)) Q := k
theorem Tot.step {α : Type} {g f : Nat → Option α} {P : α → Prop} (h : ∀ k, g (k + 1) = f k) (k : Tot f P) : Tot g P := by
  obtain ⟨r, hr, hp⟩ := k
  exact ⟨r, Ev.step h hr, hp⟩
theorem Tot.congr {α : Type} {g f : Nat → Option α} {P : α → Prop} (h : ∀ k, g k = f k) (k : Tot f P) : Tot g P := by
  obtain ⟨r, hr, hp⟩ := k
  exact ⟨r, Ev.congr h hr, hp⟩
theorem Tot.mono {α : Type} {g : Nat → Option α} {P Q : α → Prop} (h : Tot g P) (k : ∀ r, P r → Q r) : Tot g Q := by
  obtain ⟨r, hr, hp⟩ := h
  exact ⟨r, hr, k r hp⟩
theorem Tot.rounds {α : Type} {g : Nat → Option α} {r : α} (h : Tot g (Eq r)) : ∃ k, g k = some r := by
  obtain ⟨_, hr, rfl⟩ := h
  exact hr.rounds
theorem Tot.ev {α : Type} {g : Nat → Option α} {r : α} (h : Tot g (Eq r)) : Ev g r := by
  obtain ⟨_, hr, rfl⟩ := h
  exact hr
theorem Tot.of {α : Type} {g : Nat → Option α} {r : α} (h : Ev g r) : Tot g (Eq r) := ⟨r, h, rfl⟩
theorem wrap_in {x : Int} (h0 : -9223372036854775808 ≤ x) (h1 : x ≤ 9223372036854775807) : wrap64 x = x := by unfold wrap64; omega
theorem wrap_nat (n : Nat) (h : n < 4611686018427387904) : wrap64 ((n : Int) + 1) = ((n + 1 : Nat) : Int) := by rw [wrap_in] <;> omega
theorem rd_mid (pre suf : List Int) (x : Int) : rd (pre ++ x :: suf) (pre.length : Int) = x := by simp [rd]
theorem rd_get (l : List Int) (i : Nat) (h : i < l.length) : rd l (i : Int) = l[i] := by simp [rd, h]
theorem set_mid {α : Type} (pre suf : List α) (x y : α) : (pre ++ x :: suf).set (pre.length : Int).toNat y = pre ++ y :: suf := by simp
theorem toIntS_loop (l : List Int) (hn : l.length ≤ 1048576) : ∀ (suf pre rest : List Int), l = pre ++ suf → rest.length = suf.length → Tot (fun k => laws_toIntS.l0 k l (pre ++ rest) (pre.length : Int)) (Eq l) := by
  intro suf
  induction suf with
  | nil =>
    intro pre rest h hr
    obtain rfl : rest = [] := List.eq_nil_of_length_eq_zero (by simpa using hr)
    refine Tot.step (fun k => laws_toIntS.l0.eq_2 _ _ _ _) ?_
    exact Tot.neg (by simp [h]) (Tot.ret (by simp [h]))
  | cons x suf ih =>
    intro pre rest h hr
    match rest, hr with
    | r :: rest, hr =>
    have hp : pre.length < l.length := by simp [h]
    have hr' : rest.length = suf.length := by simpa using hr
    have hl : l.length = pre.length + suf.length + 1 := by simp [h]; omega
    refine Tot.step (fun k => laws_toIntS.l0.eq_2 _ _ _ _) ?_
    refine Tot.pos (by omega) (Tot.pos (by omega) (Tot.pos (by simp; omega) ?_))
    rw [set_mid, wrap_nat _ (by omega), show rd l (pre.length : Int) = x by rw [h, rd_mid]]
    have := ih (pre ++ [x]) rest (by simp [h]) hr'
    simpa using this
theorem toIntS_t (l : List Int) (hn : l.length ≤ 1048576) : Tot (fun k => laws_toIntS.f k l) (Eq l) := by
  unfold laws_toIntS.f
  refine Tot.pos (by omega) (Tot.pos (by omega) ?_)
  exact toIntS_loop l hn l [] _ rfl (by simp)
theorem eqIntS_loop (l : List Int) (hn : l.length ≤ 4611686018427387903) : ∀ (suf pre : List Int), l = pre ++ suf → Tot (fun k => laws_eqIntS.l0 k l l (pre.length : Int)) (Eq true) := by
  intro suf
  induction suf with
  | nil =>
    intro pre h
    refine Tot.step (fun k => laws_eqIntS.l0.eq_2 _ _ _ _) ?_
    exact Tot.neg (by simp [h]) (Tot.ret rfl)
  | cons x suf ih =>
    intro pre h
    have hl : l.length = pre.length + suf.length + 1 := by simp [h]; omega
    refine Tot.step (fun k => laws_eqIntS.l0.eq_2 _ _ _ _) ?_
    refine Tot.pos (by omega) (Tot.pos (by omega) (Tot.pos (by omega) (Tot.pos rfl ?_)))
    rw [wrap_nat _ (by omega)]
    have := ih (pre ++ [x]) (by simp [h])
    simpa using this
theorem eqIntS_t (l : List Int) (hn : l.length ≤ 4611686018427387903) : Tot (fun k => laws_eqIntS.f k l l) (Eq true) := by
  unfold laws_eqIntS.f
  exact Tot.pos rfl (eqIntS_loop l hn l [] rfl)
/-- The numbers from k on. -/
def upN (k : Int) : Nat → List Int
  | 0 => []
  | d + 1 => k :: upN (k + 1) d
theorem upN_length (d : Nat) : ∀ k, (upN k d).length = d := by
  induction d with
  | zero => intro k; rfl
  | succ d ih => intro k; simp [upN, ih]
theorem mark_loop : ∀ (suf pre : List Int) (k : Int), (pre ++ suf).length ≤ 4611686018427387903 → 0 ≤ k → k + suf.length ≤ 4611686018427387904 →
    Tot (fun n => laws_markIntS.l0 n (pre ++ suf) k (pre.length : Int)) (Eq (k + suf.length, pre ++ upN k suf.length)) := by
  intro suf
  induction suf with
  | nil =>
    intro pre k hn h0 h1
    refine Tot.step (fun n => laws_markIntS.l0.eq_2 _ _ _ _) ?_
    exact Tot.neg (by simp) (Tot.ret (by simp [upN]))
  | cons x suf ih =>
    intro pre k hn h0 h1
    have hlen : (pre ++ x :: suf).length = pre.length + suf.length + 1 := by simp; omega
    have hx : (x :: suf).length = suf.length + 1 := rfl
    refine Tot.step (fun n => laws_markIntS.l0.eq_2 _ _ _ _) ?_
    refine Tot.pos (by omega) (Tot.pos (by omega) ?_)
    rw [set_mid, wrap_nat _ (by omega), show wrap64 (k + 1) = k + 1 from wrap_in (by omega) (by omega)]
    have := ih (pre ++ [k]) (k + 1) (by simp; omega) (by omega) (by omega)
    rw [List.append_assoc, List.length_append, List.length_singleton] at this
    refine this.mono fun r hr => ?_
    rw [← hr, hx, upN, List.append_assoc]
    simp; omega
theorem mark_t (l : List Int) (hn : l.length ≤ 1048576) : Tot (fun n => laws_markIntS.f n l 1) (Eq (1 + (l.length : Int), upN 1 l.length)) := by
  unfold laws_markIntS.f
  exact mark_loop l [] 1 (by simp; omega) (by omega) (by omega)
theorem held_loop : ∀ (d : Nat) (pre : List Int) (k : Int), pre.length + d ≤ 4611686018427387903 → 0 ≤ k → k + d ≤ 4611686018427387904 →
    Tot (fun n => laws_heldIntS.l0 n (pre ++ upN k d) k (pre.length : Int)) (Eq (k + d)) := by
  intro d
  induction d with
  | zero =>
    intro pre k hn h0 h1
    refine Tot.step (fun n => laws_heldIntS.l0.eq_2 _ _ _ _) ?_
    exact Tot.neg (by simp [upN]) (Tot.ret (by simp))
  | succ d ih =>
    intro pre k hn h0 h1
    refine Tot.step (fun n => laws_heldIntS.l0.eq_2 _ _ _ _) ?_
    rw [upN]
    refine Tot.pos (by simp; omega) (Tot.pos (by omega) (Tot.pos (by rw [rd_mid]) ?_))
    rw [wrap_nat _ (by omega), show wrap64 (k + 1) = k + 1 from wrap_in (by omega) (by omega)]
    have := ih (pre ++ [k]) (k + 1) (by simp; omega) (by omega) (by omega)
    rw [List.append_assoc, List.length_append, List.length_singleton] at this
    refine this.mono fun r hr => ?_
    rw [← hr]; omega
theorem held_t (d : Nat) (hn : d ≤ 1048576) : Tot (fun n => laws_heldIntS.f n (upN 1 d) 1) (Eq (1 + (d : Int))) := by
  unfold laws_heldIntS.f
  exact held_loop d [] 1 (by simp; omega) (by omega) (by omega)
/-! ### Rows of rows: equal to themselves, marked, held -/
theorem rdL1_mid (pre suf : List (List Int)) (r : List Int) : rd_L1 (pre ++ r :: suf) (pre.length : Int) = r := by simp [rd_L1]
def szSS : List (List Int) → Nat
  | [] => 0
  | r :: t => r.length + szSS t
def upSS (k : Int) : List (List Int) → List (List Int)
  | [] => []
  | r :: t => upN k r.length :: upSS (k + r.length) t
theorem upSS_length : ∀ (v : List (List Int)) (k : Int), (upSS k v).length = v.length
  | [], _ => rfl
  | r :: t, k => by simp [upSS, upSS_length t]
theorem eqSS_loop (v : List (List Int)) (hl : v.length ≤ 1048576) (hr : ∀ r ∈ v, r.length ≤ 1048576) : ∀ (suf pre : List (List Int)), v = pre ++ suf → Tot (fun k => laws_eqIntSS.l0 k v v (pre.length : Int)) (Eq true) := by
  intro suf
  induction suf with
  | nil =>
    intro pre h
    refine Tot.step (fun k => laws_eqIntSS.l0.eq_2 _ _ _ _) ?_
    exact Tot.neg (by simp [h]) (Tot.ret rfl)
  | cons x suf ih =>
    intro pre h
    have hlen : v.length = pre.length + suf.length + 1 := by simp [h]; omega
    refine Tot.step (fun k => laws_eqIntSS.l0.eq_2 _ _ _ _) ?_
    refine Tot.pos (by omega) (Tot.pos (by omega) (Tot.pos (by omega) ?_))
    rw [show rd_L1 v (pre.length : Int) = x by rw [h, rdL1_mid], wrap_nat _ (by omega)]
    refine Tot.bind (eqIntS_t x (by have := hr x (by simp [h]); omega)) ?_
    rintro _ rfl
    refine Tot.pos rfl ?_
    have := ih (pre ++ [x]) (by simp [h])
    rw [List.length_append, List.length_singleton] at this
    exact this
theorem eqSS_t (v : List (List Int)) (hl : v.length ≤ 1048576) (hr : ∀ r ∈ v, r.length ≤ 1048576) : Tot (fun k => laws_eqIntSS.f k v v) (Eq true) := by
  unfold laws_eqIntSS.f
  exact Tot.pos rfl (eqSS_loop v hl hr v [] rfl)
theorem mark1 (r : List Int) (k : Int) (hr : r.length ≤ 1048576) (h0 : 0 ≤ k) (h1 : k + r.length ≤ 4611686018427387904) : Tot (fun n => laws_markIntS.f n r k) (Eq (k + (r.length : Int), upN k r.length)) := by
  unfold laws_markIntS.f
  exact mark_loop r [] k (by simp; omega) h0 h1
theorem held1 (d : Nat) (k : Int) (hd : d ≤ 1048576) (h0 : 0 ≤ k) (h1 : k + d ≤ 4611686018427387904) : Tot (fun n => laws_heldIntS.f n (upN k d) k) (Eq (k + (d : Int))) := by
  unfold laws_heldIntS.f
  exact held_loop d [] k (by simp; omega) h0 h1
theorem markSS_loop : ∀ (suf pre : List (List Int)) (k : Int), (pre ++ suf).length ≤ 1048576 → (∀ r ∈ suf, r.length ≤ 1048576) → 0 ≤ k → k + szSS suf ≤ 4611686018427387904 →
    Tot (fun n => laws_markIntSS.l0 n (pre ++ suf) k (pre.length : Int)) (Eq (k + (szSS suf : Int), pre ++ upSS k suf)) := by
  intro suf
  induction suf with
  | nil =>
    intro pre k hn hr h0 h1
    refine Tot.step (fun n => laws_markIntSS.l0.eq_2 _ _ _ _) ?_
    exact Tot.neg (by simp) (Tot.ret (by simp [upSS, szSS]))
  | cons x suf ih =>
    intro pre k hn hr h0 h1
    have hlen : (pre ++ x :: suf).length = pre.length + suf.length + 1 := by simp; omega
    simp only [szSS] at h1
    refine Tot.step (fun n => laws_markIntSS.l0.eq_2 _ _ _ _) ?_
    refine Tot.pos (by omega) (Tot.pos (by omega) ?_)
    rw [rdL1_mid, wrap_nat _ (by omega)]
    refine Tot.bind (mark1 x k (hr x (by simp)) h0 (by omega)) ?_
    rintro _ rfl
    rw [set_mid]
    have := ih (pre ++ [upN k x.length]) (k + x.length) (by simp at hn ⊢; omega) (fun r h => hr r (by simp [h])) (by omega) (by omega)
    rw [List.append_assoc, List.length_append, List.length_singleton] at this
    refine this.mono fun r h => ?_
    rw [← h, upSS, szSS, List.append_assoc]
    simp
    omega
theorem markSS_t (v : List (List Int)) (hl : v.length ≤ 1048576) (hr : ∀ r ∈ v, r.length ≤ 1048576) (hs : szSS v ≤ 4611686018427387900) : Tot (fun n => laws_markIntSS.f n v 1) (Eq (1 + (szSS v : Int), upSS 1 v)) := by
  unfold laws_markIntSS.f
  exact markSS_loop v [] 1 (by simpa using hl) hr (by omega) (by omega)
theorem heldSS_loop : ∀ (suf pre : List (List Int)) (k : Int), pre.length + suf.length ≤ 1048576 → (∀ r ∈ suf, r.length ≤ 1048576) → 0 ≤ k → k + szSS suf ≤ 4611686018427387904 →
    Tot (fun n => laws_heldIntSS.l0 n (pre ++ upSS k suf) k (pre.length : Int)) (Eq (k + (szSS suf : Int))) := by
  intro suf
  induction suf with
  | nil =>
    intro pre k hn hr h0 h1
    refine Tot.step (fun n => laws_heldIntSS.l0.eq_2 _ _ _ _) ?_
    exact Tot.neg (by simp [upSS]) (Tot.ret (by simp [szSS]))
  | cons x suf ih =>
    intro pre k hn hr h0 h1
    simp only [List.length_cons] at hn
    simp only [szSS] at h1
    refine Tot.step (fun n => laws_heldIntSS.l0.eq_2 _ _ _ _) ?_
    rw [upSS]
    refine Tot.pos (by simp; omega) (Tot.pos (by omega) ?_)
    rw [rdL1_mid, wrap_nat _ (by omega)]
    refine Tot.bind (held1 x.length k (hr x (by simp)) h0 (by omega)) ?_
    rintro _ rfl
    refine Tot.neg (by omega) ?_
    have := ih (pre ++ [upN k x.length]) (k + x.length) (by simp; omega) (fun r h => hr r (by simp [h])) (by omega) (by omega)
    rw [List.append_assoc, List.length_append, List.length_singleton] at this
    refine this.mono fun r h => ?_
    rw [← h, szSS]
    omega
theorem heldSS_t (v : List (List Int)) (hl : v.length ≤ 1048576) (hr : ∀ r ∈ v, r.length ≤ 1048576) (hs : szSS v ≤ 4611686018427387900) : Tot (fun n => laws_heldIntSS.f n (upSS 1 v) 1) (Eq (1 + (szSS v : Int))) := by
  unfold laws_heldIntSS.f
  exact heldSS_loop v [] 1 (by simpa using hl) hr (by omega) (by omega)
theorem szSS_le (v : List (List Int)) (b : Nat) (h : ∀ r ∈ v, r.length ≤ b) : szSS v ≤ b * v.length := by
  induction v with
  | nil => simp [szSS]
  | cons r t ih =>
    have h1 := h r (by simp)
    have h2 := ih (fun x hx => h x (by simp [hx]))
    simp only [szSS, List.length_cons, Nat.mul_add, Nat.mul_one]
    omega
theorem own_f (l : List Int) (h : l.length < 17592186044416) : spec_l1Own.f l = some l := by
  unfold spec_l1Own.f
  simp [h]
theorem boRoll_f (F fr : Int) (bs : List Int) (st : Int) (ov : Bool) (n : Int) (h : bs.length < 1000) : spec_boRoll.f F fr bs st ov n = some (rollV F fr (bs ++ [n]) (wrap64 (st - n))) := by
  unfold spec_boRoll.f
  rw [own_f _ (by omega)]
  simp only [Option.bind_some, List.length_cons, List.length_nil]
  rw [if_pos (by omega)]
theorem w_small {x : Int} (h : -1000 ≤ x ∧ x ≤ 1000) : wrap64 x = x := by
  unfold wrap64
  omega
/-- Where the reference stands, where the lane stands. -/
structure Sim (F : Nat) (bg : List (List Int)) (p : Int) (fr : Int) (bs : List Int) (st : Int) (ov : Bool) : Prop where
  good : Lane.Good F bg
  p0 : 0 ≤ p
  p1 : p ≤ 10
  over : ov = Lane.allV F bg
  stand : ov = false → st = p
  fresh : ov = false → Lane.newV F bg = true → bs = [] ∧ fr = bg.length ∧ p = 10
  begun : ov = false → Lane.newV F bg = false → ∃ m, bg.length = m + 1 ∧ fr = m ∧ bs = bg.getD m [] ∧ (m + 1 < F → ∃ a, bs = [a] ∧ a ≠ 10 ∧ p = 10 - a)
theorem sim_start (F : Nat) (hF : 1 ≤ F) : Sim F [] 10 0 [] 10 false := by
  have h : Lane.allV F [] = false := by
    unfold Lane.allV
    rw [if_pos (by simp; omega)]
  exact ⟨Lane.good_start F, by decide, by decide, h.symm, fun _ => rfl, fun _ _ => ⟨rfl, rfl, rfl⟩, fun _ h2 => by simp [Lane.newV] at h2⟩
theorem new_lt {F : Nat} {bg : List (List Int)} (hF : 1 ≤ F) (h : Lane.newV F bg = true) : bg.length < F := by
  unfold Lane.newV at h
  simp only [Bool.or_eq_true, beq_iff_eq, Bool.and_eq_true, decide_eq_true_eq] at h
  omega
theorem all_short {F : Nat} {bg : List (List Int)} (h : bg.length < F) : Lane.allV F bg = false := by
  unfold Lane.allV
  rw [if_pos h]
theorem set_end (bg : List (List Int)) (r : List Int) : (bg ++ [[]]).set bg.length r = bg ++ [r] := by
  rw [List.set_append_right _ _ (Nat.le_refl _)]
  simp
theorem getD_end (bg : List (List Int)) (r : List Int) : (bg ++ [r]).getD bg.length [] = r := by simp
theorem getD_set (bg : List (List Int)) (m : Nat) (h : m < bg.length) (r : List Int) : (bg.set m r).getD m [] = r := by simp [List.getD_eq_getElem?_getD, h]
def lastV (r : List Int) : Bool := match r with
  | [a, b] => (a != 10) && decide (a + b < 10)
  | [_, _, _] => true
  | _ => false
theorem all_last {F : Nat} {bg : List (List Int)} (h : ¬ bg.length < F) : Lane.allV F bg = lastV (bg.getD (F - 1) []) := by
  unfold Lane.allV lastV
  rw [if_neg h]
  generalize bg.getD (F - 1) [] = r
  match r with
  | [] => rfl
  | [a] => rfl
  | [a, b] => rfl
  | [a, b, c] => rfl
  | a :: b :: c :: d :: e => rfl
theorem last_over {bs : List Int} {n : Int} (hne : bs ≠ []) (hl3 : bs.length ≤ 3) (h0 : lastV bs = false) (hx : ∀ x ∈ bs, 0 ≤ x ∧ x ≤ 10) (hn : 0 ≤ n ∧ n ≤ 10) :
    (if (bs ++ [n]).length = 3 then true else if (bs ++ [n]).length = 2 then (if rd (bs ++ [n]) 0 < 10 then decide (wrap64 (rd (bs ++ [n]) 0 + rd (bs ++ [n]) 1) < 10) else false) else false) = lastV (bs ++ [n]) := by
  match bs, hne, hl3, h0, hx with
  | [a], _, _, _, hx =>
    have hxa := hx a (by simp)
    show (if a < 10 then decide (wrap64 (a + n) < 10) else false) = lastV [a, n]
    rw [w_small (by omega)]
    show _ = ((a != 10) && decide (a + n < 10))
    by_cases h10 : a < 10
    · have hb2 : (a != 10) = true := by simp [bne]; omega
      rw [if_pos h10, hb2, Bool.true_and]
    · have hb2 : (a != 10) = false := by simp [bne]; omega
      rw [if_neg h10, hb2, Bool.false_and]
  | [a, b], _, _, _, _ => rfl
  | [a, b, c], _, _, ha0, _ => exact absurd ha0 (by simp [lastV])
set_option maxHeartbeats 1000000 in
theorem sim_step {F : Nat} {bg : List (List Int)} {p fr : Int} {bs : List Int} {st n : Int} (hF : 1 ≤ F) (hF9 : F ≤ 10) (h : Sim F bg p fr bs st false) (hn : 0 ≤ n ∧ n ≤ p) :
    Sim F (Lane.begV F bg n) (Lane.endV F ((Lane.begV F bg n).length - 1) (Lane.begV F bg n) (p - n)).1 (rollV F fr (bs ++ [n]) (wrap64 (st - n))).1 (rollV F fr (bs ++ [n]) (wrap64 (st - n))).2.1
      (rollV F fr (bs ++ [n]) (wrap64 (st - n))).2.2.1 (rollV F fr (bs ++ [n]) (wrap64 (st - n))).2.2.2 := by
  obtain ⟨hg, p0, p1, ho, hs, hnew, hold⟩ := h
  have hs := hs rfl
  have hmay : Lane.mayV F bg p n = true := by
    unfold Lane.mayV
    rw [← ho]
    simpa using hn
  have hgood := Lane.good_beg hF hg hmay p1
  have hend := fun k (b : List (List Int)) => Lane.end_pins (F := F) (k := k) (bg := b) hn p1
  have hwf : wrap64 ((F : Int) - 1) = (F : Int) - 1 := w_small (by omega)
  subst hs
  rw [w_small (show -1000 ≤ st - n ∧ st - n ≤ 1000 by omega)]
  cases hv : Lane.newV F bg with
  | true =>
    obtain ⟨rfl, rfl, rfl⟩ := hnew rfl hv
    have hlt := new_lt hF hv
    have hb : Lane.begV F bg n = bg ++ [[n]] := by
      unfold Lane.begV
      rw [if_pos hv, set_end]
    rw [hb] at hgood ⊢
    have hl : (bg ++ [[n]]).length = bg.length + 1 := by simp
    have hgd : (bg ++ [[n]]).getD bg.length [] = [n] := getD_end bg [n]
    have he : Lane.endV F ((bg ++ [[n]]).length - 1) (bg ++ [[n]]) (10 - n) = if n = 10 then (10, true) else (10 - n, false) := by
      unfold Lane.endV
      rw [hl, Nat.add_sub_cancel, hgd]
      by_cases h10 : n = 10
      · rw [if_pos (Or.inl (by omega)), if_pos h10]
      · rw [if_neg, if_neg h10]
        rintro (hc | ⟨_, hc⟩)
        · omega
        · simp [Lane.doneV] at hc
          omega
    rw [he]
    have hn1 : Lane.newV F (bg ++ [[n]]) = (decide (bg.length + 1 < F) && (n == 10)) := by
      unfold Lane.newV
      rw [hl, Nat.add_sub_cancel, hgd]
      have : decide (((bg.length + 1 : Nat) : Int) - 1 < (F : Int) - 1) = decide (bg.length + 1 < F) := by
        congr 1
        apply propext
        omega
      rw [this]
      simp [Lane.doneV]
    by_cases hm : bg.length + 1 < F
    · have ha := all_short (bg := bg ++ [[n]]) (F := F) (by omega)
      by_cases h10 : n = 10
      · subst h10
        have hr : rollV F bg.length ([] ++ [10]) (10 - 10) = ((bg.length : Int) + 1, [], 10, false) := by
          unfold rollV
          rw [hwf, if_pos (by omega), if_pos (by omega), w_small (by omega)]
        rw [hr, if_pos rfl]
        exact ⟨hgood, by decide, by decide, ha.symm, fun _ => rfl, fun _ _ => ⟨rfl, by simp, rfl⟩, fun _ h2 => by rw [hn1] at h2; simp [hm] at h2⟩
      · have hr : rollV F bg.length ([] ++ [n]) (10 - n) = ((bg.length : Int), [n], 10 - n, false) := by
          unfold rollV
          rw [hwf, if_pos (by omega), if_neg (by omega)]
          rfl
        rw [hr, if_neg h10]
        exact ⟨hgood, by simp only; omega, by simp only; omega, ha.symm, fun _ => rfl, fun _ h2 => by rw [hn1] at h2; simp [h10] at h2, fun _ _ => ⟨bg.length, hl, rfl, hgd.symm, fun _ => ⟨n, rfl, h10, rfl⟩⟩⟩
    · have hFl : F - 1 = bg.length := by omega
      have ha : Lane.allV F (bg ++ [[n]]) = false := by
        unfold Lane.allV
        rw [if_neg (by omega), hFl, hgd]
      have hr : rollV F bg.length ([] ++ [n]) (10 - n) = ((bg.length : Int), [n], if 10 - n = 0 then 10 else 10 - n, false) := by
        unfold rollV
        rw [hwf, if_neg (by omega)]
        rfl
      rw [hr]
      have hq : (if n = 10 then ((10 : Int), true) else (10 - n, false)).1 = if 10 - n = 0 then 10 else 10 - n := by
        by_cases h10 : n = 10
        · rw [if_pos h10, if_pos (by omega)]
        · rw [if_neg h10, if_neg (by omega)]
      rw [hq]
      refine ⟨hgood, ?_, ?_, ha.symm, fun _ => rfl, fun _ h2 => by rw [hn1] at h2; simp [hm] at h2, fun _ _ => ⟨bg.length, hl, rfl, hgd.symm, fun h3 => absurd h3 hm⟩⟩
      · split <;> omega
      · split <;> omega
  | false =>
    obtain ⟨m, hlen, rfl, hbs, hone⟩ := hold rfl hv
    have hmF : m + 1 ≤ F := by have := hg.2.1; omega
    have hb : Lane.begV F bg n = bg.set m (bs ++ [n]) := by
      unfold Lane.begV
      rw [if_neg (by rw [hv]; decide), hlen, Nat.add_sub_cancel, hbs]
    rw [hb] at hgood ⊢
    have hl : (bg.set m (bs ++ [n])).length = m + 1 := by rw [List.length_set, hlen]
    have hgd : (bg.set m (bs ++ [n])).getD m [] = bs ++ [n] := getD_set bg m (by omega) _
    by_cases hm : m + 1 < F
    · obtain ⟨a, rfl, ha10, rfl⟩ := hone hm
      have ha := all_short (bg := bg.set m ([a] ++ [n])) (F := F) (by omega)
      have he : Lane.endV F ((bg.set m ([a] ++ [n])).length - 1) (bg.set m ([a] ++ [n])) (10 - a - n) = (10, true) := by
        unfold Lane.endV
        rw [hl, Nat.add_sub_cancel, hgd, if_pos]
        exact Or.inr ⟨by omega, rfl⟩
      have hr : rollV F m ([a] ++ [n]) (10 - a - n) = ((m : Int) + 1, [], 10, false) := by
        unfold rollV
        rw [hwf, if_pos (by omega), w_small (by omega)]
        split
        · rfl
        · rfl
      rw [he, hr]
      refine ⟨hgood, by decide, by decide, ha.symm, fun _ => rfl, fun _ _ => ⟨rfl, by rw [hl]; simp, rfl⟩, fun _ h2 => ?_⟩
      exfalso
      unfold Lane.newV at h2
      rw [hl, Nat.add_sub_cancel, hgd] at h2
      simp [Lane.doneV] at h2
      omega
    · have hFm : F = m + 1 := by omega
      have hmem : bs ∈ bg := by
        rw [hbs, List.getD_eq_getElem?_getD, List.getElem?_eq_getElem (show m < bg.length by omega)]
        exact List.getElem_mem _
      obtain ⟨hne, hl3, hx⟩ := hg.1 bs hmem
      have hn0 : Lane.newV F (bg.set m (bs ++ [n])) = false := by
        unfold Lane.newV
        rw [hl]
        simp
        omega
      have he : (Lane.endV F ((bg.set m (bs ++ [n])).length - 1) (bg.set m (bs ++ [n])) (st - n)).1 = if st - n = 0 then 10 else st - n := by
        unfold Lane.endV
        rw [hl, Nat.add_sub_cancel]
        by_cases h0 : st - n = 0
        · rw [if_pos (Or.inl h0), if_pos h0]
        · rw [if_neg (by rintro (hc | ⟨hc, _⟩) <;> omega), if_neg h0]
      have ha : Lane.allV F (bg.set m (bs ++ [n])) = lastV (bs ++ [n]) := by
        rw [all_last (by omega), show F - 1 = m by omega, hgd]
      have ha0 : lastV bs = false := by
        rw [all_last (by omega), show F - 1 = m by omega, ← hbs] at ho
        exact ho.symm
      have hr : rollV F m (bs ++ [n]) (st - n) = ((m : Int), bs ++ [n], if st - n = 0 then 10 else st - n, Lane.allV F (bg.set m (bs ++ [n]))) := by
        unfold rollV
        rw [hwf, if_neg (by omega), ha, last_over hne hl3 ha0 hx (by omega)]
      rw [he, hr]
      refine ⟨hgood, ?_, ?_, rfl, fun _ => rfl, fun _ h2 => absurd h2 (by rw [hn0]; decide), fun _ _ => ⟨m, hl, rfl, hgd.symm, fun h3 => absurd h3 hm⟩⟩
      · split <;> omega
      · split <;> omega
theorem rd_at (l : List Int) (i : Nat) (h : i < l.length) : rd l (i : Int) = l[i] := by
  unfold rd
  simp [List.getD_eq_getElem?_getD, h]
theorem sim_short {F : Nat} {bg : List (List Int)} {p fr : Int} {bs : List Int} {st : Int} (h : Sim F bg p fr bs st false) : bs.length ≤ 3 := by
  cases hv : Lane.newV F bg with
  | true => rw [(h.fresh rfl hv).1]; decide
  | false =>
    obtain ⟨m, h1, _, rfl, _⟩ := h.begun rfl hv
    refine (h.good.1 _ ?_).2.1
    rw [List.getD_eq_getElem?_getD, List.getElem?_eq_getElem (show m < bg.length by omega)]
    exact List.getElem_mem _
theorem play_l0 (F : Nat) (l : List Int) (hF : 1 ≤ F) (hF9 : F ≤ 10) (hl : l.length ≤ 1048576) : ∀ (k i : Nat) (bg : List (List Int)) (p fr : Int) (bs : List Int) (st : Int) (ov q : Bool), i ≤ l.length → l.length - i < k → Sim F bg p fr bs st ov →
    ∃ fr' bs' st' ov', spec_boPlay.l0 k F l l.length i fr bs st ov = some (fr', bs', st', ov', (Lane.rollsV F (l.drop i) (bg, p, q)).isSome) ∧
      ∀ s, Lane.rollsV F (l.drop i) (bg, p, q) = some s → Sim F s.1 s.2.1 fr' bs' st' ov'
  | 0, _, _, _, _, _, _, _, _, _, hk, _ => absurd hk (Nat.not_lt_zero _)
  | k + 1, i, bg, p, fr, bs, st, ov, q, hi, hk, hs => by
    unfold spec_boPlay.l0
    by_cases h : i < l.length
    · rw [if_pos (by omega), if_pos (by omega), if_pos (by omega), List.drop_eq_getElem_cons h, rd_at l i h]
      unfold Lane.rollsV
      generalize l[i] = n
      cases ov with
      | true =>
        rw [if_pos rfl, if_neg (by unfold Lane.mayV; rw [← hs.over]; simp)]
        exact ⟨fr, bs, st, true, rfl, fun s h => by cases h⟩
      | false =>
        have hst := hs.stand rfl
        rw [if_neg (by decide)]
        by_cases hn : 0 ≤ n ∧ n ≤ p
        · have h1 : spec_l1In.f n 0 st = some true := by
            unfold spec_l1In.f
            rw [if_pos hn.1, decide_eq_true (by omega)]
          have hm : Lane.mayV F (bg, p, q).1 (bg, p, q).2.1 n = true := by
            unfold Lane.mayV
            rw [← hs.over]
            simpa using hn
          rw [h1, if_pos hm, boRoll_f _ _ _ _ _ _ (by have := sim_short hs; omega)]
          simp only [Option.bind_some, if_true]
          have hw : wrap64 ((i : Int) + 1) = ((i + 1 : Nat) : Int) := by
            unfold wrap64
            omega
          rw [hw]
          have hn2 := sim_step hF hF9 hs hn
          exact play_l0 F l hF hF9 hl k (i + 1) _ _ _ _ _ _ _ (by omega) (by omega) hn2
        · have h1 : spec_l1In.f n 0 st = some false := by
            unfold spec_l1In.f
            by_cases h0 : n ≥ 0
            · rw [if_pos h0, decide_eq_false (by omega)]
            · rw [if_neg h0]
          have hm : ¬ Lane.mayV F (bg, p, q).1 (bg, p, q).2.1 n = true := by
            unfold Lane.mayV
            rw [← hs.over]
            simpa using hn
          rw [h1, if_neg hm]
          simp only [Option.bind_some]
          rw [if_neg (by decide)]
          exact ⟨fr, bs, st, false, rfl, fun s h => by cases h⟩
    · rw [if_neg (by omega), List.drop_eq_nil_of_le (by omega)]
      exact ⟨fr, bs, st, ov, rfl, fun s h => by injection h with h; subst h; exact hs⟩
/-- What the reference's game is behind rolls: whether they are some, and where one stands. -/
theorem play_f (F : Nat) (l : List Int) (hF : 1 ≤ F) (hF9 : F ≤ 10) (hl : l.length ≤ 1048576) (k : Nat) (hk : l.length < k) : ∃ fr' bs' st' ov', spec_boPlay.f k F l = some (fr', bs', st', ov', (Lane.rollsV F l ([], 10, true)).isSome) ∧
    ∀ s, Lane.rollsV F l ([], 10, true) = some s → Sim F s.1 s.2.1 fr' bs' st' ov' := by
  unfold spec_boPlay.f spec_boStart.f
  exact play_l0 F l hF hF9 hl k 0 [] 10 0 [] 10 false true (Nat.zero_le _) (by omega) (sim_start F hF)
/-- How many balls lie in the frames. -/
def ballsV : List (List Int) → Nat
  | [] => 0
  | r :: t => r.length + ballsV t
theorem ballsV_append (a b : List (List Int)) : ballsV (a ++ b) = ballsV a + ballsV b := by
  induction a with
  | nil => simp [ballsV]
  | cons r t ih => simp only [List.cons_append, ballsV, ih]; omega
theorem ballsV_set (bg : List (List Int)) (m : Nat) (h : m < bg.length) (n : Int) : ballsV (bg.set m (bg.getD m [] ++ [n])) = ballsV bg + 1 := by
  induction bg generalizing m with
  | nil => simp at h
  | cons r t ih =>
    cases m with
    | zero => simp [ballsV]; omega
    | succ m =>
      have := ih m (by simpa using h)
      simp only [List.set_cons_succ, List.getD_cons_succ, ballsV, this]
      omega
theorem ballsV_beg (F : Nat) (bg : List (List Int)) (n : Int) : ballsV (Lane.begV F bg n) = ballsV bg + 1 := by
  unfold Lane.begV
  split
  · rw [set_end, ballsV_append]
    simp [ballsV]
  · rename_i h
    refine ballsV_set bg _ ?_ n
    cases bg with
    | nil => simp [Lane.newV] at h
    | cons r t => simp
theorem rolls_balls (F : Nat) : ∀ (l : List Int) (s s' : List (List Int) × Int × Bool), Lane.rollsV F l s = some s' → ballsV s'.1 = ballsV s.1 + l.length
  | [], s, s', h => by
    unfold Lane.rollsV at h
    injection h with h
    subst h
    simp
  | n :: l, s, s', h => by
    unfold Lane.rollsV at h
    split at h
    · have := rolls_balls F l _ _ h
      rw [ballsV_beg] at this
      simp only [List.length_cons]
      omega
    · cases h
theorem balls_le : ∀ (bg : List (List Int)) (F : Nat), (∀ i (h : i < bg.length), i + 1 < F → bg[i].length ≤ 2) → (∀ r ∈ bg, r.length ≤ 3) → bg.length ≤ F → ballsV bg ≤ 2 * bg.length + 1
  | [], _, _, _, _ => by simp [ballsV]
  | r :: t, F, h1, h2, h3 => by
    simp only [ballsV, List.length_cons] at *
    cases t with
    | nil =>
      have := h2 r (by simp)
      simp [ballsV]
      omega
    | cons r2 t2 =>
      have hr := h1 0 (by simp) (by simp only [List.length_cons] at h3; omega)
      simp only [List.getElem_cons_zero] at hr
      have := balls_le (r2 :: t2) (F - 1) (fun i h hi => by
        have := h1 (i + 1) (by simp only [List.length_cons] at h ⊢; omega) (by omega)
        simpa using this) (fun x hx => h2 x (by simp [hx])) (by simp only [List.length_cons] at h3 ⊢; omega)
      simp only [List.length_cons] at this ⊢
      omega
theorem rolls_few {F : Nat} {l : List Int} {s : List (List Int) × Int × Bool} (hF9 : F ≤ 10) (h : Lane.rollsV F l ([], 10, true) = some s) (hg : Lane.Good F s.1) : l.length ≤ 21 := by
  have h1 := rolls_balls F l _ _ h
  have h2 := balls_le s.1 F hg.2.2 (fun r hr => (hg.1 r hr).2.1) hg.2.1
  have h3 := hg.2.1
  simp only [ballsV] at h1
  omega
/-- The reference's rules: whether there are rolls, as the program's reading says. -/
theorem good_f (F : Int) (l : List Int) (hl : l.length ≤ 1048576) (k : Nat) (hk : l.length < k) : spec_boGood.f k F l = some (Lane.readV F l).isSome := by
  unfold spec_boGood.f spec_boFrames.f spec_l1In.f Lane.readV
  by_cases h1 : 1 ≤ F ∧ F ≤ 10
  · rw [if_pos h1.1, decide_eq_true h1.2]
    simp only [Option.bind_some, if_true]
    obtain ⟨fr, bs, st, ov, hp, hs⟩ := play_f F.toNat l (by omega) (by omega) hl k hk
    rw [show ((F.toNat : Nat) : Int) = F by omega] at hp
    rw [hp]
    simp only [Option.bind_some]
    cases hr : Lane.rollsV F.toNat l ([], 10, true) with
    | none =>
      split
      · rfl
      · rfl
    | some s =>
      have h21 := rolls_few (by omega) hr (hs s hr).good
      rw [if_pos ⟨h1.1, h1.2, h21⟩]
  · rw [if_neg (show ¬ (1 ≤ F ∧ F ≤ 10 ∧ l.length ≤ 21) from fun h => h1 ⟨h.1, h.2.1⟩)]
    by_cases h2 : F ≥ 1
    · rw [if_pos h2, decide_eq_false (by omega)]
      rfl
    · rw [if_neg h2]
      rfl
/-- Where the reference stands behind rolls that the program reads. -/
theorem play_read {F : Int} {l : List Int} {s : List (List Int) × Int × Bool} (hl : l.length ≤ 1048576) (k : Nat) (hk : l.length < k) (h : Lane.readV F l = some s) :
    1 ≤ F ∧ F ≤ 10 ∧ l.length ≤ 21 ∧ ∃ fr bs st ov, spec_boPlay.f k F l = some (fr, bs, st, ov, true) ∧ Sim F.toNat s.1 s.2.1 fr bs st ov := by
  unfold Lane.readV at h
  split at h
  · rename_i hc
    obtain ⟨fr, bs, st, ov, hp, hs⟩ := play_f F.toNat l (by omega) (by omega) hl k hk
    rw [show ((F.toNat : Nat) : Int) = F by omega, h] at hp
    exact ⟨hc.1, hc.2.1, hc.2.2, fr, bs, st, ov, hp, hs s h⟩
  · cases h
theorem Tot.past {α : Type} {g : Nat → Option α} {r : α} (n : Nat) (h : ∀ k, n < k → g k = some r) : Tot g (Eq r) := Tot.of ⟨n + 1, fun k hk => h k (by omega)⟩
theorem good_t (F : Int) (l : List Int) (hl : l.length ≤ 1048576) : Tot (fun k => spec_boGood.f k F l) (Eq (Lane.readV F l).isSome) := Tot.past l.length fun k hk => good_f F l hl k hk
theorem rdL_mid (pre suf : List (List Int)) (r : List Int) : rd_L1 (pre ++ r :: suf) (pre.length : Int) = r := by simp [rd_L1]
theorem rdL_get (l : List (List Int)) (i : Nat) : rd_L1 l (i : Int) = l.getD i [] := by simp [rd_L1]
theorem split_l0 (F : Nat) (l : List Int) (hF : 1 ≤ F) (hF9 : F ≤ 10) (hl : l.length ≤ 1048576) : ∀ (k i : Nat) (bg : List (List Int)) (p fr : Int) (bs : List Int) (st : Int) (ov q : Bool) (s : List (List Int) × Int × Bool), i ≤ l.length → l.length - i < k → Sim F bg p fr bs st ov →
    Lane.rollsV F (l.drop i) (bg, p, q) = some s → spec_boSplit.l0 k F bg l l.length i fr bs st ov = some s.1
  | 0, _, _, _, _, _, _, _, _, _, _, hk, _, _ => absurd hk (Nat.not_lt_zero _)
  | k + 1, i, bg, p, fr, bs, st, ov, q, s, hi, hk, hs, hr => by
    unfold spec_boSplit.l0
    by_cases h : i < l.length
    · rw [List.drop_eq_getElem_cons h] at hr
      rw [if_pos (by omega), if_pos (by omega), if_pos (by omega), rd_at l i h]
      unfold Lane.rollsV at hr
      generalize l[i] = n at *
      split at hr
      · rename_i hm
        have hm2 := hm
        unfold Lane.mayV at hm2
        rw [← hs.over] at hm2
        simp only [Bool.and_eq_true, Bool.not_eq_true', decide_eq_true_eq] at hm2
        obtain ⟨rfl, hn⟩ := hm2
        have hn2 := sim_step hF hF9 hs hn
        have hsh := sim_short hs
        have hw : wrap64 ((i : Int) + 1) = ((i + 1 : Nat) : Int) := by
          unfold wrap64
          omega
        have hlen := hs.good.2.1
        cases hv : Lane.newV F bg with
        | true =>
          obtain ⟨rfl, rfl, rfl⟩ := hs.fresh rfl hv
          rw [if_pos (show (([] : List Int).length : Int) = 0 from rfl), if_pos (by omega)]
          simp only [Option.bind_some]
          rw [if_pos (by omega), if_pos (by simp; omega), rdL_mid bg [] [], if_pos (by decide), boRoll_f _ _ _ _ _ _ (by simp)]
          simp only [Option.bind_some, Int.toNat_natCast]
          have hb : (bg ++ [[]]).set bg.length ([] ++ [n]) = Lane.begV F bg n := by
            unfold Lane.begV
            rw [if_pos hv]
            rfl
          rw [hb, hw]
          exact split_l0 F l hF hF9 hl k (i + 1) _ _ _ _ _ _ _ s (by omega) (by omega) hn2 hr
        | false =>
          obtain ⟨m, hm1, rfl, hbs, _⟩ := hs.begun rfl hv
          have hmem : bs ∈ bg := by
            rw [hbs, List.getD_eq_getElem?_getD, List.getElem?_eq_getElem (show m < bg.length by omega)]
            exact List.getElem_mem _
          have hne : bs.length ≠ 0 := by
            have := (hs.good.1 bs hmem).1
            intro h0
            exact this (List.eq_nil_of_length_eq_zero h0)
          rw [if_neg (by omega), if_pos (by omega), if_pos (by omega), rdL_get, ← hbs, if_pos (by omega), boRoll_f _ _ _ _ _ _ (by omega)]
          simp only [Option.bind_some, Int.toNat_natCast]
          have hb : bg.set m (bs ++ [n]) = Lane.begV F bg n := by
            unfold Lane.begV
            rw [if_neg (by rw [hv]; decide), hm1, Nat.add_sub_cancel, ← hbs]
          rw [hb, hw]
          exact split_l0 F l hF hF9 hl k (i + 1) _ _ _ _ _ _ _ s (by omega) (by omega) hn2 hr
      · cases hr
    · rw [List.drop_eq_nil_of_le (by omega)] at hr
      rw [if_neg (by omega)]
      unfold Lane.rollsV at hr
      injection hr with hr
      subst hr
      rfl
/-- The balls of each frame, as the reference tells them: as the lane holds them. -/
theorem split_read {F : Int} {l : List Int} {s : List (List Int) × Int × Bool} (hl : l.length ≤ 1048576) (k : Nat) (hk : l.length < k) (h : Lane.readV F l = some s) : spec_boSplit.f k F l = some s.1 := by
  unfold Lane.readV at h
  split at h
  · rename_i hc
    have := split_l0 F.toNat l (by omega) (by omega) hl k 0 [] 10 0 [] 10 false true s (Nat.zero_le _) (by omega) (sim_start F.toNat (by omega)) h
    rw [show ((F.toNat : Nat) : Int) = F by omega] at this
    unfold spec_boSplit.f spec_boStart.f
    exact this
  · cases h
def ans (a : Int) (l : List Int) : List (List Int) × Bool := Lane.framesOf a l
theorem spec_both (a : Int) (l : List Int) (hl : l.length ≤ 1048576) : Tot (fun k => spec_FramesOfRolls.f k a l) (Eq (ans a l)) := by
  unfold spec_FramesOfRolls.f
  refine Tot.bind (good_t a l hl) ?_
  rintro _ rfl
  unfold ans Lane.framesOf
  cases h : Lane.readV a l with
  | none => exact Tot.neg (by simp) (Tot.ret rfl)
  | some s =>
    refine Tot.pos rfl ?_
    refine Tot.bind (Tot.past l.length fun k hk => split_read hl k hk h) ?_
    rintro _ rfl
    exact Tot.ret rfl
theorem ans_small (a : Int) (l : List Int) : (ans a l).1.length ≤ 10 ∧ ∀ r ∈ (ans a l).1, r.length ≤ 3 := by
  unfold ans Lane.framesOf
  cases h : Lane.readV a l with
  | none => exact ⟨Nat.zero_le _, by simp⟩
  | some s =>
    obtain ⟨h1, h2, _, hg, _⟩ := Lane.read_good h
    have := hg.2.1
    exact ⟨by simp only; omega, fun r hr => (hg.1 r hr).2.1⟩
theorem FnExactFramesOfRolls : laws_FnExactFramesOfRolls.Pure := by
  intro a l h1 h2 h3 h4
  refine Tot.rounds ?_
  unfold laws_FnExactFramesOfRolls.f
  refine Tot.ite (fun _ => Tot.ret rfl) (fun hn => ?_)
  have hn' : l.length ≤ 1048576 := by omega
  obtain ⟨s1, s2⟩ := ans_small a l
  have A := spec_both a l hn'
  have B : Tot (fun _ => impl_FramesOfRolls.f a l) (Eq (ans a l)) := Tot.ret rfl
  generalize ans a l = v at *
  have b1 : v.1.length ≤ 1048576 := by omega
  have b2 : ∀ r ∈ v.1, r.length ≤ 1048576 := fun r hr => by have := s2 r hr; omega
  have b3 : szSS v.1 ≤ 4611686018427387900 := by have := szSS_le v.1 3 s2; omega
  refine Tot.bind (toIntS_t l hn') ?_
  rintro _ rfl
  refine Tot.bind A ?_
  rintro _ rfl
  refine Tot.bind B ?_
  rintro _ rfl
  refine Tot.bind (eqSS_t v.1 b1 b2) ?_
  rintro _ rfl
  refine Tot.bind (eqIntS_t l (by omega)) ?_
  rintro _ rfl
  refine Tot.bind (mark_t l hn') ?_
  rintro _ rfl
  refine Tot.bind (markSS_t v.1 b1 b2 b3) ?_
  rintro _ rfl
  refine Tot.bind (heldSS_t v.1 b1 b2 b3) ?_
  rintro _ rfl
  exact Tot.pos ⟨rfl, rfl, rfl, rfl, by simp only; omega, by simp only; omega, rfl⟩ (Tot.ret rfl)
end Go.Proofs.Ytnpnbgohdmonmaa.Pure
namespace Go.Proofs.Ytnpnbgohdmonmaa.PrintWords
theorem sized_ints : type_of% @Go.Proofs.YtnpnbgohdmonmaaW.PrintWords.sized_ints := @Go.Proofs.YtnpnbgohdmonmaaW.PrintWords.sized_ints
end Go.Proofs.Ytnpnbgohdmonmaa.PrintWords
