/- The program's ParseRolls answers as the reference's does, for every number of frames and every text of at most 1048576 bytes; for a longer one nothing is asked. -/
import Derived.Test.YtdioconinnpmmaaDoorMFnExactParseRollsx5
import Derived.Test.YtdioconinnpmmaaDoorWSized
set_option linter.unusedVariables false
set_option linter.unusedSimpArgs false
namespace Go.Proofs.YtdioconinnpmmaaDoor.Pure
open Go.RowKit Go.Proofs.YtdioconinnpmmaaDoor.MFnExactParseRolls Go.Proofs.YtdioconinnpmmaaDoorW.PrintWords Go.Proofs.YtdioconinnpmmaaDoorW.PrintLast
/-! ### Rounds: some number of rounds on, a function tells r, and r has a property -/
def Tot {α : Type} (g : Nat → Option α) (P : α → Prop) : Prop := ∃ r, Ev g r ∧ P r
theorem Tot.ret {α : Type} {P : α → Prop} {r : α} (h : P r) : Tot (fun _ => some r) P := ⟨r, Ev.now r, h⟩
theorem Tot.pos {α : Type} {c : Prop} [Decidable c] {f g : Nat → Option α} {P : α → Prop} (h : c) (hf : Tot f P) : Tot (fun k => if c then f k else g k) P := by
  simp only [if_pos h]; exact hf
theorem Tot.neg {α : Type} {c : Prop} [Decidable c] {f g : Nat → Option α} {P : α → Prop} (h : ¬ c) (hg : Tot g P) : Tot (fun k => if c then f k else g k) P := by
  simp only [if_neg h]; exact hg
theorem Tot.ite {α : Type} {c : Prop} [Decidable c] {f g : Nat → Option α} {P : α → Prop} (hf : c → Tot f P) (hg : ¬ c → Tot g P) : Tot (fun k => if c then f k else g k) P := by
  by_cases h : c
  · exact Tot.pos h (hf h)
  · exact Tot.neg h (hg h)
theorem Tot.bind {α β : Type} {g : Nat → Option α} {f : Nat → α → Option β} {P : α → Prop} {Q : β → Prop} (h : Tot g P) (k : ∀ a, P a → Tot (fun n => f n a) Q) : Tot (fun n => (g n).bind (f n)) Q := by
  obtain ⟨a, ha, hp⟩ := h
  obtain ⟨r, hr, hq⟩ := k a hp
  exact ⟨r, Ev.bind ha hr, hq⟩
theorem Tot.some_bind {α β : Type} {f : Nat → α → Option β} {Q : β → Prop} {a : α} (k : Tot (fun n => f n a) Q) : Tot (fun n => (some a).bind (f n)) Q := k
theorem Tot.step {α : Type} {g f : Nat → Option α} {P : α → Prop} (h : ∀ k, g (k + 1) = f k) (k : Tot f P) : Tot g P := by
  obtain ⟨r, hr, hp⟩ := k
  exact ⟨r, Ev.step h hr, hp⟩
theorem Tot.congr {α : Type} {g f : Nat → Option α} {P : α → Prop} (h : ∀ k, g k = f k) (k : Tot f P) : Tot g P := by
  obtain ⟨r, hr, hp⟩ := k
  exact ⟨r, Ev.congr h hr, hp⟩
theorem Tot.mono {α : Type} {g : Nat → Option α} {P Q : α → Prop} (h : Tot g P) (k : ∀ r, P r → Q r) : Tot g Q := by
  obtain ⟨r, hr, hp⟩ := h
  exact ⟨r, hr, k r hp⟩
theorem Tot.rounds {α : Type} {g : Nat → Option α} {r : α} (h : Tot g (Eq r)) : ∃ k, g k = some r := by
  obtain ⟨_, hr, rfl⟩ := h
  exact hr.rounds
theorem Tot.ev {α : Type} {g : Nat → Option α} {r : α} (h : Tot g (Eq r)) : Ev g r := by
  obtain ⟨_, hr, rfl⟩ := h
  exact hr
theorem Tot.of {α : Type} {g : Nat → Option α} {r : α} (h : Ev g r) : Tot g (Eq r) := ⟨r, h, rfl⟩
theorem wrap_in {x : Int} (h0 : -9223372036854775808 ≤ x) (h1 : x ≤ 9223372036854775807) : wrap64 x = x := by unfold wrap64; omega
theorem wrap_nat (n : Nat) (h : n < 4611686018427387904) : wrap64 ((n : Int) + 1) = ((n + 1 : Nat) : Int) := by rw [wrap_in] <;> omega
theorem rd_mid (pre suf : List Int) (x : Int) : rd (pre ++ x :: suf) (pre.length : Int) = x := by simp [rd]
theorem rd_get (l : List Int) (i : Nat) (h : i < l.length) : rd l (i : Int) = l[i] := by simp [rd, h]
theorem set_mid {α : Type} (pre suf : List α) (x y : α) : (pre ++ x :: suf).set (pre.length : Int).toNat y = pre ++ y :: suf := by simp
theorem eqIntS_loop (l : List Int) (hn : l.length ≤ 4611686018427387903) : ∀ (suf pre : List Int), l = pre ++ suf → Tot (fun k => laws_eqIntS.l0 k l l (pre.length : Int)) (Eq true) := by
  intro suf
  induction suf with
  | nil =>
    intro pre h
    refine Tot.step (fun k => laws_eqIntS.l0.eq_2 _ _ _ _) ?_
    exact Tot.neg (by simp [h]) (Tot.ret rfl)
  | cons x suf ih =>
    intro pre h
    have hl : l.length = pre.length + suf.length + 1 := by simp [h]; omega
    refine Tot.step (fun k => laws_eqIntS.l0.eq_2 _ _ _ _) ?_
    refine Tot.pos (by omega) (Tot.pos (by omega) (Tot.pos (by omega) (Tot.pos rfl ?_)))
    rw [wrap_nat _ (by omega)]
    have := ih (pre ++ [x]) (by simp [h])
    simpa using this
theorem eqIntS_t (l : List Int) (hn : l.length ≤ 4611686018427387903) : Tot (fun k => laws_eqIntS.f k l l) (Eq true) := by
  unfold laws_eqIntS.f
  exact Tot.pos rfl (eqIntS_loop l hn l [] rfl)
/-- The numbers from k on. -/
def upN (k : Int) : Nat → List Int
  | 0 => []
  | d + 1 => k :: upN (k + 1) d
theorem upN_length (d : Nat) : ∀ k, (upN k d).length = d := by
  induction d with
  | zero => intro k; rfl
  | succ d ih => intro k; simp [upN, ih]
theorem mark_loop : ∀ (suf pre : List Int) (k : Int), (pre ++ suf).length ≤ 4611686018427387903 → 0 ≤ k → k + suf.length ≤ 4611686018427387904 →
    Tot (fun n => laws_markIntS.l0 n (pre ++ suf) k (pre.length : Int)) (Eq (k + suf.length, pre ++ upN k suf.length)) := by
  intro suf
  induction suf with
  | nil =>
    intro pre k hn h0 h1
    refine Tot.step (fun n => laws_markIntS.l0.eq_2 _ _ _ _) ?_
    exact Tot.neg (by simp) (Tot.ret (by simp [upN]))
  | cons x suf ih =>
    intro pre k hn h0 h1
    have hlen : (pre ++ x :: suf).length = pre.length + suf.length + 1 := by simp; omega
    have hx : (x :: suf).length = suf.length + 1 := rfl
    refine Tot.step (fun n => laws_markIntS.l0.eq_2 _ _ _ _) ?_
    refine Tot.pos (by omega) (Tot.pos (by omega) ?_)
    rw [set_mid, wrap_nat _ (by omega), show wrap64 (k + 1) = k + 1 from wrap_in (by omega) (by omega)]
    have := ih (pre ++ [k]) (k + 1) (by simp; omega) (by omega) (by omega)
    rw [List.append_assoc, List.length_append, List.length_singleton] at this
    refine this.mono fun r hr => ?_
    rw [← hr, hx, upN, List.append_assoc]
    simp; omega
theorem mark_t (l : List Int) (hn : l.length ≤ 1048576) : Tot (fun n => laws_markIntS.f n l 1) (Eq (1 + (l.length : Int), upN 1 l.length)) := by
  unfold laws_markIntS.f
  exact mark_loop l [] 1 (by simp; omega) (by omega) (by omega)
theorem held_loop : ∀ (d : Nat) (pre : List Int) (k : Int), pre.length + d ≤ 4611686018427387903 → 0 ≤ k → k + d ≤ 4611686018427387904 →
    Tot (fun n => laws_heldIntS.l0 n (pre ++ upN k d) k (pre.length : Int)) (Eq (k + d)) := by
  intro d
  induction d with
  | zero =>
    intro pre k hn h0 h1
    refine Tot.step (fun n => laws_heldIntS.l0.eq_2 _ _ _ _) ?_
    exact Tot.neg (by simp [upN]) (Tot.ret (by simp))
  | succ d ih =>
    intro pre k hn h0 h1
    refine Tot.step (fun n => laws_heldIntS.l0.eq_2 _ _ _ _) ?_
    rw [upN]
    refine Tot.pos (by simp; omega) (Tot.pos (by omega) (Tot.pos (by rw [rd_mid]) ?_))
    rw [wrap_nat _ (by omega), show wrap64 (k + 1) = k + 1 from wrap_in (by omega) (by omega)]
    have := ih (pre ++ [k]) (k + 1) (by simp; omega) (by omega) (by omega)
    rw [List.append_assoc, List.length_append, List.length_singleton] at this
    refine this.mono fun r hr => ?_
    rw [← hr]; omega
theorem held_t (d : Nat) (hn : d ≤ 1048576) : Tot (fun n => laws_heldIntS.f n (upN 1 d) 1) (Eq (1 + (d : Int))) := by
  unfold laws_heldIntS.f
  exact held_loop d [] 1 (by simp; omega) (by omega) (by omega)
theorem own_f (l : List Int) (h : l.length < 17592186044416) : spec_l1Own.f l = some l := by
  unfold spec_l1Own.f
  simp [h]
theorem boRoll_f (F fr : Int) (bs : List Int) (st : Int) (ov : Bool) (n : Int) (h : bs.length < 1000) : spec_boRoll.f F fr bs st ov n = some (rollV F fr (bs ++ [n]) (wrap64 (st - n))) := by
  unfold spec_boRoll.f
  rw [own_f _ (by omega)]
  simp only [Option.bind_some, List.length_cons, List.length_nil]
  rw [if_pos (by omega)]
theorem w_small {x : Int} (h : -1000 ≤ x ∧ x ≤ 1000) : wrap64 x = x := by
  unfold wrap64
  omega
/-- Where the reference stands, where the lane stands. -/
structure Sim (F : Nat) (bg : List (List Int)) (p : Int) (fr : Int) (bs : List Int) (st : Int) (ov : Bool) : Prop where
  good : Lane.Good F bg
  p0 : 0 ≤ p
  p1 : p ≤ 10
  over : ov = Lane.allV F bg
  stand : ov = false → st = p
  fresh : ov = false → Lane.newV F bg = true → bs = [] ∧ fr = bg.length ∧ p = 10
  begun : ov = false → Lane.newV F bg = false → ∃ m, bg.length = m + 1 ∧ fr = m ∧ bs = bg.getD m [] ∧ (m + 1 < F → ∃ a, bs = [a] ∧ a ≠ 10 ∧ p = 10 - a)
theorem sim_start (F : Nat) (hF : 1 ≤ F) : Sim F [] 10 0 [] 10 false := by
  have h : Lane.allV F [] = false := by
    unfold Lane.allV
    rw [if_pos (by simp; omega)]
  exact ⟨Lane.good_start F, by decide, by decide, h.symm, fun _ => rfl, fun _ _ => ⟨rfl, rfl, rfl⟩, fun _ h2 => by simp [Lane.newV] at h2⟩
theorem new_lt {F : Nat} {bg : List (List Int)} (hF : 1 ≤ F) (h : Lane.newV F bg = true) : bg.length < F := by
  unfold Lane.newV at h
  simp only [Bool.or_eq_true, beq_iff_eq, Bool.and_eq_true, decide_eq_true_eq] at h
  omega
theorem all_short {F : Nat} {bg : List (List Int)} (h : bg.length < F) : Lane.allV F bg = false := by
  unfold Lane.allV
  rw [if_pos h]
theorem set_end (bg : List (List Int)) (r : List Int) : (bg ++ [[]]).set bg.length r = bg ++ [r] := by
  rw [List.set_append_right _ _ (Nat.le_refl _)]
  simp
theorem getD_end (bg : List (List Int)) (r : List Int) : (bg ++ [r]).getD bg.length [] = r := by simp
theorem getD_set (bg : List (List Int)) (m : Nat) (h : m < bg.length) (r : List Int) : (bg.set m r).getD m [] = r := by simp [List.getD_eq_getElem?_getD, h]
def lastV (r : List Int) : Bool := match r with
  | [a, b] => (a != 10) && decide (a + b < 10)
  | [_, _, _] => true
  | _ => false
theorem all_last {F : Nat} {bg : List (List Int)} (h : ¬ bg.length < F) : Lane.allV F bg = lastV (bg.getD (F - 1) []) := by
  unfold Lane.allV lastV
  rw [if_neg h]
  generalize bg.getD (F - 1) [] = r
  match r with
  | [] => rfl
  | [a] => rfl
  | [a, b] => rfl
  | [a, b, c] => rfl
  | a :: b :: c :: d :: e => rfl
theorem last_over {bs : List Int} {n : Int} (hne : bs ≠ []) (hl3 : bs.length ≤ 3) (h0 : lastV bs = false) (hx : ∀ x ∈ bs, 0 ≤ x ∧ x ≤ 10) (hn : 0 ≤ n ∧ n ≤ 10) :
    (if (bs ++ [n]).length = 3 then true else if (bs ++ [n]).length = 2 then (if rd (bs ++ [n]) 0 < 10 then decide (wrap64 (rd (bs ++ [n]) 0 + rd (bs ++ [n]) 1) < 10) else false) else false) = lastV (bs ++ [n]) := by
  match bs, hne, hl3, h0, hx with
  | [a], _, _, _, hx =>
    have hxa := hx a (by simp)
    show (if a < 10 then decide (wrap64 (a + n) < 10) else false) = lastV [a, n]
    rw [w_small (by omega)]
    show _ = ((a != 10) && decide (a + n < 10))
    by_cases h10 : a < 10
    · have hb2 : (a != 10) = true := by simp [bne]; omega
      rw [if_pos h10, hb2, Bool.true_and]
    · have hb2 : (a != 10) = false := by simp [bne]; omega
      rw [if_neg h10, hb2, Bool.false_and]
  | [a, b], _, _, _, _ => rfl
  | [a, b, c], _, _, ha0, _ => exact absurd ha0 (by simp [lastV])
set_option maxHeartbeats 1000000 in
theorem sim_step {F : Nat} {bg : List (List Int)} {p fr : Int} {bs : List Int} {st n : Int} (hF : 1 ≤ F) (hF9 : F ≤ 10) (h : Sim F bg p fr bs st false) (hn : 0 ≤ n ∧ n ≤ p) :
    Sim F (Lane.begV F bg n) (Lane.endV F ((Lane.begV F bg n).length - 1) (Lane.begV F bg n) (p - n)).1 (rollV F fr (bs ++ [n]) (wrap64 (st - n))).1 (rollV F fr (bs ++ [n]) (wrap64 (st - n))).2.1
      (rollV F fr (bs ++ [n]) (wrap64 (st - n))).2.2.1 (rollV F fr (bs ++ [n]) (wrap64 (st - n))).2.2.2 := by
  obtain ⟨hg, p0, p1, ho, hs, hnew, hold⟩ := h
  have hs := hs rfl
  have hmay : Lane.mayV F bg p n = true := by
    unfold Lane.mayV
    rw [← ho]
    simpa using hn
  have hgood := Lane.good_beg hF hg hmay p1
  have hend := fun k (b : List (List Int)) => Lane.end_pins (F := F) (k := k) (bg := b) hn p1
  have hwf : wrap64 ((F : Int) - 1) = (F : Int) - 1 := w_small (by omega)
  subst hs
  rw [w_small (show -1000 ≤ st - n ∧ st - n ≤ 1000 by omega)]
  cases hv : Lane.newV F bg with
  | true =>
    obtain ⟨rfl, rfl, rfl⟩ := hnew rfl hv
    have hlt := new_lt hF hv
    have hb : Lane.begV F bg n = bg ++ [[n]] := by
      unfold Lane.begV
      rw [if_pos hv, set_end]
    rw [hb] at hgood ⊢
    have hl : (bg ++ [[n]]).length = bg.length + 1 := by simp
    have hgd : (bg ++ [[n]]).getD bg.length [] = [n] := getD_end bg [n]
    have he : Lane.endV F ((bg ++ [[n]]).length - 1) (bg ++ [[n]]) (10 - n) = if n = 10 then (10, true) else (10 - n, false) := by
      unfold Lane.endV
      rw [hl, Nat.add_sub_cancel, hgd]
      by_cases h10 : n = 10
      · rw [if_pos (Or.inl (by omega)), if_pos h10]
      · rw [if_neg, if_neg h10]
        rintro (hc | ⟨_, hc⟩)
        · omega
        · simp [Lane.doneV] at hc
          omega
    rw [he]
    have hn1 : Lane.newV F (bg ++ [[n]]) = (decide (bg.length + 1 < F) && (n == 10)) := by
      unfold Lane.newV
      rw [hl, Nat.add_sub_cancel, hgd]
      have : decide (((bg.length + 1 : Nat) : Int) - 1 < (F : Int) - 1) = decide (bg.length + 1 < F) := by
        congr 1
        apply propext
        omega
      rw [this]
      simp [Lane.doneV]
    by_cases hm : bg.length + 1 < F
    · have ha := all_short (bg := bg ++ [[n]]) (F := F) (by omega)
      by_cases h10 : n = 10
      · subst h10
        have hr : rollV F bg.length ([] ++ [10]) (10 - 10) = ((bg.length : Int) + 1, [], 10, false) := by
          unfold rollV
          rw [hwf, if_pos (by omega), if_pos (by omega), w_small (by omega)]
        rw [hr, if_pos rfl]
        exact ⟨hgood, by decide, by decide, ha.symm, fun _ => rfl, fun _ _ => ⟨rfl, by simp, rfl⟩, fun _ h2 => by rw [hn1] at h2; simp [hm] at h2⟩
      · have hr : rollV F bg.length ([] ++ [n]) (10 - n) = ((bg.length : Int), [n], 10 - n, false) := by
          unfold rollV
          rw [hwf, if_pos (by omega), if_neg (by omega)]
          rfl
        rw [hr, if_neg h10]
        exact ⟨hgood, by simp only; omega, by simp only; omega, ha.symm, fun _ => rfl, fun _ h2 => by rw [hn1] at h2; simp [h10] at h2, fun _ _ => ⟨bg.length, hl, rfl, hgd.symm, fun _ => ⟨n, rfl, h10, rfl⟩⟩⟩
    · have hFl : F - 1 = bg.length := by omega
      have ha : Lane.allV F (bg ++ [[n]]) = false := by
        unfold Lane.allV
        rw [if_neg (by omega), hFl, hgd]
      have hr : rollV F bg.length ([] ++ [n]) (10 - n) = ((bg.length : Int), [n], if 10 - n = 0 then 10 else 10 - n, false) := by
        unfold rollV
        rw [hwf, if_neg (by omega)]
        rfl
      rw [hr]
      have hq : (if n = 10 then ((10 : Int), true) else (10 - n, false)).1 = if 10 - n = 0 then 10 else 10 - n := by
        by_cases h10 : n = 10
        · rw [if_pos h10, if_pos (by omega)]
        · rw [if_neg h10, if_neg (by omega)]
      rw [hq]
      refine ⟨hgood, ?_, ?_, ha.symm, fun _ => rfl, fun _ h2 => by rw [hn1] at h2; simp [hm] at h2, fun _ _ => ⟨bg.length, hl, rfl, hgd.symm, fun h3 => absurd h3 hm⟩⟩
      · split <;> omega
      · split <;> omega
  | false =>
    obtain ⟨m, hlen, rfl, hbs, hone⟩ := hold rfl hv
    have hmF : m + 1 ≤ F := by have := hg.2.1; omega
    have hb : Lane.begV F bg n = bg.set m (bs ++ [n]) := by
      unfold Lane.begV
      rw [if_neg (by rw [hv]; decide), hlen, Nat.add_sub_cancel, hbs]
    rw [hb] at hgood ⊢
    have hl : (bg.set m (bs ++ [n])).length = m + 1 := by rw [List.length_set, hlen]
    have hgd : (bg.set m (bs ++ [n])).getD m [] = bs ++ [n] := getD_set bg m (by omega) _
    by_cases hm : m + 1 < F
    · obtain ⟨a, rfl, ha10, rfl⟩ := hone hm
      have ha := all_short (bg := bg.set m ([a] ++ [n])) (F := F) (by omega)
      have he : Lane.endV F ((bg.set m ([a] ++ [n])).length - 1) (bg.set m ([a] ++ [n])) (10 - a - n) = (10, true) := by
        unfold Lane.endV
        rw [hl, Nat.add_sub_cancel, hgd, if_pos]
        exact Or.inr ⟨by omega, rfl⟩
      have hr : rollV F m ([a] ++ [n]) (10 - a - n) = ((m : Int) + 1, [], 10, false) := by
        unfold rollV
        rw [hwf, if_pos (by omega), w_small (by omega)]
        split
        · rfl
        · rfl
      rw [he, hr]
      refine ⟨hgood, by decide, by decide, ha.symm, fun _ => rfl, fun _ _ => ⟨rfl, by rw [hl]; simp, rfl⟩, fun _ h2 => ?_⟩
      exfalso
      unfold Lane.newV at h2
      rw [hl, Nat.add_sub_cancel, hgd] at h2
      simp [Lane.doneV] at h2
      omega
    · have hFm : F = m + 1 := by omega
      have hmem : bs ∈ bg := by
        rw [hbs, List.getD_eq_getElem?_getD, List.getElem?_eq_getElem (show m < bg.length by omega)]
        exact List.getElem_mem _
      obtain ⟨hne, hl3, hx⟩ := hg.1 bs hmem
      have hn0 : Lane.newV F (bg.set m (bs ++ [n])) = false := by
        unfold Lane.newV
        rw [hl]
        simp
        omega
      have he : (Lane.endV F ((bg.set m (bs ++ [n])).length - 1) (bg.set m (bs ++ [n])) (st - n)).1 = if st - n = 0 then 10 else st - n := by
        unfold Lane.endV
        rw [hl, Nat.add_sub_cancel]
        by_cases h0 : st - n = 0
        · rw [if_pos (Or.inl h0), if_pos h0]
        · rw [if_neg (by rintro (hc | ⟨hc, _⟩) <;> omega), if_neg h0]
      have ha : Lane.allV F (bg.set m (bs ++ [n])) = lastV (bs ++ [n]) := by
        rw [all_last (by omega), show F - 1 = m by omega, hgd]
      have ha0 : lastV bs = false := by
        rw [all_last (by omega), show F - 1 = m by omega, ← hbs] at ho
        exact ho.symm
      have hr : rollV F m (bs ++ [n]) (st - n) = ((m : Int), bs ++ [n], if st - n = 0 then 10 else st - n, Lane.allV F (bg.set m (bs ++ [n]))) := by
        unfold rollV
        rw [hwf, if_neg (by omega), ha, last_over hne hl3 ha0 hx (by omega)]
      rw [he, hr]
      refine ⟨hgood, ?_, ?_, rfl, fun _ => rfl, fun _ h2 => absurd h2 (by rw [hn0]; decide), fun _ _ => ⟨m, hl, rfl, hgd.symm, fun h3 => absurd h3 hm⟩⟩
      · split <;> omega
      · split <;> omega
theorem rd_at (l : List Int) (i : Nat) (h : i < l.length) : rd l (i : Int) = l[i] := by
  unfold rd
  simp [List.getD_eq_getElem?_getD, h]
theorem sim_short {F : Nat} {bg : List (List Int)} {p fr : Int} {bs : List Int} {st : Int} (h : Sim F bg p fr bs st false) : bs.length ≤ 3 := by
  cases hv : Lane.newV F bg with
  | true => rw [(h.fresh rfl hv).1]; decide
  | false =>
    obtain ⟨m, h1, _, rfl, _⟩ := h.begun rfl hv
    refine (h.good.1 _ ?_).2.1
    rw [List.getD_eq_getElem?_getD, List.getElem?_eq_getElem (show m < bg.length by omega)]
    exact List.getElem_mem _
def freshV (bs : List Int) (st : Int) : Bool := match bs with
  | [] => true
  | [a] => decide (st = 10) && decide (a = 10)
  | [_, b] => decide (st = 10) && decide (b > 0)
  | _ => false
theorem boFresh_f (fr : Int) (bs : List Int) (st : Int) (ov : Bool) : spec_boFresh.f fr bs st ov = some (freshV bs st) := by
  unfold spec_boFresh.f
  match bs with
  | [] => rfl
  | [a] =>
    show (if (1 : Int) = 0 then _ else if st = 10 then (if (1 : Int) = 1 then (if (0 : Int) < 1 then (if a = 10 then some true else (if (1 : Int) = 2 then _ else some false)) else none) else _) else some false) = some (decide (st = 10) && decide (a = 10))
    by_cases h1 : st = 10 <;> by_cases h2 : a = 10 <;> simp [h1, h2]
  | [a, b] =>
    show (if (2 : Int) = 0 then _ else if st = 10 then (if (2 : Int) = 1 then _ else (if (2 : Int) = 2 then (if (1 : Int) < 2 then some (decide (b > 0)) else none) else some false)) else some false) = some (decide (st = 10) && decide (b > 0))
    by_cases h1 : st = 10 <;> simp [h1]
  | a :: b :: c :: t =>
    have h0 : ((a :: b :: c :: t).length : Int) ≠ 0 := by simp only [List.length_cons]; omega
    have h1 : ((a :: b :: c :: t).length : Int) ≠ 1 := by simp only [List.length_cons]; omega
    have h2 : ((a :: b :: c :: t).length : Int) ≠ 2 := by simp only [List.length_cons]; omega
    rw [if_neg h0, if_neg h1, if_neg h2]
    show (if st = 10 then some false else some false) = some false
    split <;> rfl
/-- The lane's own mark, and where the reference stands. -/
def Fr (p : Int) (f : Bool) (bs : List Int) (st : Int) (ov : Bool) : Prop := 1 ≤ p ∧ (f = true → p = 10) ∧ (ov = false → f = freshV bs st)
theorem fresh_step {F : Nat} {bg : List (List Int)} {p fr : Int} {bs : List Int} {st n : Int} (hF : 1 ≤ F) (hF9 : F ≤ 10) (h : Sim F bg p fr bs st false) (hn : 0 ≤ n ∧ n ≤ p) (hp : 1 ≤ p) :
    Fr (Lane.endV F ((Lane.begV F bg n).length - 1) (Lane.begV F bg n) (p - n)).1 (Lane.endV F ((Lane.begV F bg n).length - 1) (Lane.begV F bg n) (p - n)).2
      (rollV F fr (bs ++ [n]) (wrap64 (st - n))).2.1 (rollV F fr (bs ++ [n]) (wrap64 (st - n))).2.2.1 (rollV F fr (bs ++ [n]) (wrap64 (st - n))).2.2.2 := by
  have hg := h.good
  have p1 := h.p1
  obtain rfl : st = p := h.stand rfl
  have hwf : wrap64 ((F : Int) - 1) = (F : Int) - 1 := w_small (by omega)
  rw [w_small (show -1000 ≤ st - n ∧ st - n ≤ 1000 by omega)]
  refine ⟨?_, ?_, ?_⟩
  · unfold Lane.endV
    split
    · decide
    · rename_i hc
      have : st - n ≠ 0 := fun e => hc (Or.inl e)
      simp only
      omega
  · unfold Lane.endV
    split
    · exact fun _ => rfl
    · intro hc
      simp at hc
  have key : ∃ k : Nat, (Lane.begV F bg n).length - 1 = k ∧ fr = (k : Int) ∧ (Lane.begV F bg n).getD k [] = bs ++ [n] ∧ k + 1 ≤ F ∧ bs.length ≤ 2 ∧ (bs = [] → st = 10) ∧ (k + 1 < F → bs.length ≤ 1) := by
    cases hv : Lane.newV F bg with
    | true =>
      obtain ⟨rfl, rfl, rfl⟩ := h.fresh rfl hv
      have hlt := new_lt hF hv
      have hb : Lane.begV F bg n = bg ++ [[n]] := by
        unfold Lane.begV
        rw [if_pos hv, set_end]
      rw [hb]
      exact ⟨bg.length, by simp, rfl, getD_end bg [n], by omega, by simp, fun _ => rfl, fun _ => by simp⟩
    | false =>
      obtain ⟨m, hlen, rfl, hbs, hone⟩ := h.begun rfl hv
      have hmF : m + 1 ≤ F := by have := hg.2.1; omega
      have hb : Lane.begV F bg n = bg.set m (bs ++ [n]) := by
        unfold Lane.begV
        rw [if_neg (by rw [hv]; decide), hlen, Nat.add_sub_cancel, hbs]
      have hmem : bs ∈ bg := by
        rw [hbs, List.getD_eq_getElem?_getD, List.getElem?_eq_getElem (show m < bg.length by omega)]
        exact List.getElem_mem _
      obtain ⟨hne, hl3, hx⟩ := hg.1 bs hmem
      rw [hb]
      refine ⟨m, by rw [List.length_set, hlen, Nat.add_sub_cancel], rfl, getD_set bg m (by omega) _, hmF, ?_, fun e => absurd e hne, fun hm => ?_⟩
      · by_cases hm : m + 1 < F
        · obtain ⟨a, rfl, _, _⟩ := hone hm
          simp
        · have ho := h.over
          rw [all_last (by omega), show F - 1 = m by omega, ← hbs] at ho
          match bs, hl3, ho with
          | [], _, _ => simp
          | [a], _, _ => simp
          | [a, b], _, _ => simp
          | [a, b, c], _, ho => simp [lastV] at ho
      · obtain ⟨a, rfl, _, _⟩ := hone hm
        simp
  obtain ⟨k, hk, rfl, hgd, hkF, hl2, hnil, hone⟩ := key
  rw [hk]
  unfold Lane.endV rollV
  rw [hgd, hwf]
  by_cases hm : k + 1 < F
  · have hlt : (k : Int) < (F : Int) - 1 := by omega
    rw [if_pos hlt]
    have h1 := hone hm
    match bs, h1, hnil with
    | [], _, hnil =>
      obtain rfl := hnil rfl
      by_cases h10 : n = 10
      · subst h10
        intro _
        rfl
      · have hq : ¬ (10 - n = 0) := by omega
        rw [if_neg hq, if_neg (by simp)]
        intro _
        rw [if_neg]
        · show false = (decide (10 - n = 10) && decide (n = 10))
          rw [decide_eq_false h10, Bool.and_false]
        · rintro (hc | ⟨_, hc⟩)
          · exact hq hc
          · simp [Lane.doneV] at hc
            omega
    | [a], _, _ =>
      intro _
      rw [if_pos (Or.inr ⟨hlt, rfl⟩)]
      split
      · rfl
      · rfl
  · have hlt : ¬ (k : Int) < (F : Int) - 1 := by omega
    rw [if_neg hlt]
    have he : (if st - n = 0 ∨ ((k : Int) < (F : Int) - 1 ∧ Lane.doneV (bs ++ [n]) = true) then ((10 : Int), true) else (st - n, false)).2 = decide (st - n = 0) := by
      by_cases h0 : st - n = 0
      · rw [if_pos (Or.inl h0), decide_eq_true h0]
      · rw [if_neg (fun hc => hc.elim h0 (fun h => hlt h.1)), decide_eq_false h0]
    rw [he]
    match bs, hl2, hnil with
    | [], _, hnil =>
      obtain rfl := hnil rfl
      intro _
      show decide (10 - n = 0) = (decide ((if 10 - n = 0 then (10 : Int) else 10 - n) = 10) && decide (n = 10))
      by_cases h10 : n = 10
      · subst h10; rfl
      · rw [decide_eq_false h10, Bool.and_false, decide_eq_false (by omega)]
    | [a], _, _ =>
      intro _
      show decide (st - n = 0) = (decide ((if st - n = 0 then (10 : Int) else st - n) = 10) && decide (n > 0))
      by_cases h0 : st - n = 0
      · rw [if_pos h0, decide_eq_true h0, decide_eq_true (show n > 0 by omega)]
        rfl
      · rw [if_neg h0, decide_eq_false h0]
        by_cases h10 : st - n = 10
        · rw [decide_eq_false (show ¬ n > 0 by omega), Bool.and_false]
        · rw [decide_eq_false h10, Bool.false_and]
    | [a, b], _, _ =>
      intro hc
      exact absurd hc (by simp)
theorem num_t (n : Int) (h : 0 ≤ n ∧ n ≤ 9) : Tot (fun k => spec_l1Num.f k n) (Eq (⟨(Lib.decDigits n.toNat).toArray⟩ : ByteArray)) := by
  refine Tot.step (fun k => spec_l1Num.f.eq_2 _ _) (Tot.pos (by omega) (Tot.ret ?_))
  have hc : n = 0 ∨ n = 1 ∨ n = 2 ∨ n = 3 ∨ n = 4 ∨ n = 5 ∨ n = 6 ∨ n = 7 ∨ n = 8 ∨ n = 9 := by omega
  rcases hc with rfl | rfl | rfl | rfl | rfl | rfl | rfl | rfl | rfl | rfl <;> decide +kernel
theorem app_sign (out x : ByteArray) (t : List UInt8) : out ++ x ++ (⟨t.toArray⟩ : ByteArray) = out ++ (⟨(x.data.toList ++ t).toArray⟩ : ByteArray) := by
  apply ByteArray.ext
  apply Array.ext'
  simp [ByteArray.data_append]
theorem text_loop (F : Nat) (hF : 1 ≤ F) (hF9 : F ≤ 10) (l : List Int) (hl : l.length ≤ 21) (s : List (List Int) × Int × Bool) : ∀ (d i : Nat) (bg : List (List Int)) (p : Int) (f : Bool) (fr : Int) (bs : List Int) (st : Int) (ov : Bool) (out : ByteArray),
    i + d = l.length → out.size ≤ 2 * i → Sim F bg p fr bs st ov → Fr p f bs st ov → Lane.rollsV F (l.drop i) (bg, p, f) = some s →
    Tot (fun k => spec_boText.l0 k (F : Int) out l (l.length : Int) (i : Int) fr bs st ov) (Eq (out ++ (⟨(Lane.textV F (l.drop i) (bg, p, f)).toArray⟩ : ByteArray))) := by
  intro d
  induction d with
  | zero =>
    intro i bg p f fr bs st ov out hd ho hs hfr hv
    refine Tot.step (fun k => spec_boText.l0.eq_2 _ _ _ _ _ _ _ _ _ _) ?_
    refine Tot.neg (by omega) (Tot.ret ?_)
    rw [List.drop_eq_nil_of_le (by omega)]
    apply ByteArray.ext
    simp [ByteArray.data_append, Lane.textV]
  | succ d ih =>
    intro i bg p f fr bs st ov out hd ho hs hfr hv
    have hi : i < l.length := by omega
    rw [List.drop_eq_getElem_cons hi] at hv
    have hv' : (if Lane.mayV F bg p l[i] = true then Lane.rollsV F (l.drop (i + 1)) (Lane.begV F bg l[i], Lane.endV F ((Lane.begV F bg l[i]).length - 1) (Lane.begV F bg l[i]) (p - l[i])) else none) = some s := hv
    clear hv
    have e : Lane.textV F (l.drop i) (bg, p, f) = (Lane.signV p f l[i]).data.toList ++ Lane.textV F (l.drop (i + 1)) (Lane.stepT F (bg, p, f) l[i]) := by
      rw [List.drop_eq_getElem_cons hi]
      rfl
    rw [e]
    have hrd := rd_at l i hi
    generalize l[i] = n at *
    clear e
    by_cases hm : Lane.mayV F bg p n = true
    case neg => rw [if_neg hm] at hv'; cases hv'
    rw [if_pos hm] at hv'
    unfold Lane.mayV at hm
    simp only [Bool.and_eq_true, Bool.not_eq_true', decide_eq_true_eq] at hm
    obtain ⟨hall, hn⟩ := hm
    obtain rfl : ov = false := by rw [hs.over]; exact hall
    obtain ⟨q1, q2, q3⟩ := hfr
    have q3 := q3 rfl
    have p1 := hs.p1
    obtain rfl : st = p := hs.stand rfl
    have hbl : bs.length < 1000 := by have := sim_short hs; omega
    have hs' := sim_step hF hF9 hs hn
    have hf' := fresh_step hF hF9 hs hn q1
    have hr := boRoll_f (F : Int) fr bs st false n hbl
    have hw : wrap64 ((i : Int) + 1) = ((i + 1 : Nat) : Int) := w_small (by omega)
    have hsg := Lane.sign_len (fr := f) hn p1
    have fin : ∀ (x : ByteArray), Lane.signV st f n = x → Tot (fun k => spec_boText.l0 k (F : Int) (out ++ x) l (l.length : Int) ((i + 1 : Nat) : Int) (rollV F fr (bs ++ [n]) (wrap64 (st - n))).1 (rollV F fr (bs ++ [n]) (wrap64 (st - n))).2.1 (rollV F fr (bs ++ [n]) (wrap64 (st - n))).2.2.1 (rollV F fr (bs ++ [n]) (wrap64 (st - n))).2.2.2)
        (Eq (out ++ (⟨((Lane.signV st f n).data.toList ++ Lane.textV F (l.drop (i + 1)) (Lane.stepT F (bg, st, f) n)).toArray⟩ : ByteArray))) := by
      rintro _ rfl
      have hh := ih (i + 1) _ _ _ _ _ _ _ (out ++ Lane.signV st f n) (by omega) (by rw [ByteArray.size_append]; omega) hs' hf' hv'
      have e : out ++ Lane.signV st f n ++ (⟨(Lane.textV F (l.drop (i + 1)) (Lane.stepT F (bg, st, f) n)).toArray⟩ : ByteArray) = out ++ (⟨((Lane.signV st f n).data.toList ++ Lane.textV F (l.drop (i + 1)) (Lane.stepT F (bg, st, f) n)).toArray⟩ : ByteArray) := app_sign _ _ _
      rw [← e]
      exact hh
    have j : n ≠ 0 → ∀ x25 : Bool, x25 = (decide (n = 10) && f) → Tot (fun k => spec_boText.j1 k (F : Int) out n l (l.length : Int) (i : Int) x25 fr bs st false)
        (Eq (out ++ (⟨((Lane.signV st f n).data.toList ++ Lane.textV F (l.drop (i + 1)) (Lane.stepT F (bg, st, f) n)).toArray⟩ : ByteArray))) := by
      intro hn0 x25 hx
      refine Tot.step (fun k => spec_boText.j1.eq_2 _ _ _ _ _ _ _ _ _ _ _ _) ?_
      rw [hr, hw]
      refine Tot.ite (fun hx1 => ?_) (fun hx1 => ?_)
      · rw [hx1] at hx
        have hx2 : n = 10 ∧ f = true := by simpa using hx.symm
        refine Tot.pos (by omega) (Tot.some_bind (fin _ ?_))
        unfold Lane.signV
        rw [if_neg hn0, if_pos (by have := q2 hx2.2; omega), if_pos hx2.2]
      · refine Tot.ite (fun hns => ?_) (fun hns => ?_)
        · refine Tot.pos (by omega) (Tot.some_bind (fin _ ?_))
          unfold Lane.signV
          rw [if_neg hn0, if_pos hns, if_neg]
          intro hf
          apply hx1
          rw [hx, hf, Bool.and_true, decide_eq_true_eq]
          have := q2 hf
          omega
        · refine Tot.bind (num_t n (by omega)) ?_
          rintro _ rfl
          have hsv : Lane.signV st f n = (⟨(Lib.decDigits n.toNat).toArray⟩ : ByteArray) := by
            unfold Lane.signV
            rw [if_neg hn0, if_neg hns]
          rw [hsv] at hsg
          exact Tot.pos (by omega) (Tot.some_bind (fin _ hsv))
    refine Tot.step (fun k => spec_boText.l0.eq_2 _ _ _ _ _ _ _ _ _ _) ?_
    refine Tot.pos (by omega) (Tot.pos (by omega) (Tot.pos (by omega) ?_))
    rw [hrd, hr, hw]
    refine Tot.ite (fun h0 => ?_) (fun h0 => ?_)
    · refine Tot.pos (by omega) (Tot.some_bind (fin _ ?_))
      unfold Lane.signV
      rw [if_pos h0]
    · refine Tot.ite (fun h10 => ?_) (fun h10 => ?_)
      · rw [boFresh_f]
        refine Tot.some_bind (j h0 _ ?_)
        rw [decide_eq_true h10, Bool.true_and, q3]
      · exact j h0 _ (by rw [decide_eq_false h10, Bool.false_and])
theorem text_t (F : Int) (l : List Int) (s : List (List Int) × Int × Bool) (hv : Lane.readV F l = some s) : Tot (fun k => spec_boText.f k F l) (Eq (Lane.textOf F l).1) := by
  have hF : 1 ≤ F ∧ F ≤ 10 ∧ l.length ≤ 21 := by
    by_cases h : 1 ≤ F ∧ F ≤ 10 ∧ l.length ≤ 21
    · exact h
    · unfold Lane.readV at hv
      rw [if_neg h] at hv
      cases hv
  have ht : (Lane.textOf F l).1 = ⟨(Lane.textV F.toNat l ([], 10, true)).toArray⟩ := by unfold Lane.textOf; rw [hv]
  unfold Lane.readV at hv
  rw [if_pos hF] at hv
  rw [ht]
  unfold spec_boText.f spec_boStart.f
  refine Tot.some_bind ?_
  have := text_loop F.toNat (by omega) (by omega) l hF.2.2 s l.length 0 [] 10 true 0 [] 10 false ⟨#[]⟩ (by omega) (Nat.le_refl _) (sim_start F.toNat (by omega)) ⟨by decide, fun _ => rfl, fun _ => rfl⟩ hv
  rw [show ((F.toNat : Nat) : Int) = F by omega] at this
  have e : (⟨#[]⟩ : ByteArray) ++ (⟨(Lane.textV F.toNat (l.drop 0) ([], 10, true)).toArray⟩ : ByteArray) = ⟨(Lane.textV F.toNat l ([], 10, true)).toArray⟩ := by
    apply ByteArray.ext
    simp [ByteArray.data_append]
  rw [e] at this
  exact this
def pinsOf (p : Int) (ch : UInt8) : Option Int :=
  if (ch.toNat : Int) = 88 then some 10 else if (ch.toNat : Int) = 47 then some p else if 49 ≤ (ch.toNat : Int) ∧ (ch.toNat : Int) ≤ 57 then some ((ch.toNat : Int) - 48) else if (ch.toNat : Int) = 45 then some 0 else none
/-- The reference's reading of a text: the rolls, before their text is held against it. -/
def specV (F : Nat) : List UInt8 → List (List Int) × Int × Bool → List Int → Option (List Int)
  | [], _, out => some out
  | ch :: t, s, out => if Lane.allV F s.1 = true then none else match pinsOf s.2.1 ch with
    | none => none
    | some n => if n > s.2.1 then none else specV F t (Lane.stepT F s n) (out ++ [n])
theorem step_same (F : Nat) (s : List (List Int) × Int × Bool) (n : Int) : Lane.stepT F s n = Lane.stepV F s n := rfl
theorem text_snoc (F : Nat) : ∀ (out : List Int) (s0 s' : List (List Int) × Int × Bool) (n : Int), Lane.rollsV F out s0 = some s' → Lane.textV F (out ++ [n]) s0 = Lane.textV F out s0 ++ (Lane.signV s'.2.1 s'.2.2 n).data.toList
  | [], s0, s', n, h => by
    unfold Lane.rollsV at h
    injection h with h
    subst h
    simp [Lane.textV]
  | x :: t, s0, s', n, h => by
    unfold Lane.rollsV at h
    split at h
    · have := text_snoc F t _ s' n h
      simp only [List.cons_append, Lane.textV, List.append_assoc]
      congr 1
    · cases h
theorem pins_nat {p : Int} {ch : UInt8} {n : Int} (h : pinsOf p ch = some n) (hp : 0 ≤ p) : 0 ≤ n := by
  unfold pinsOf at h
  split at h
  · injection h with h; omega
  · split at h
    · injection h with h; omega
    · split at h
      · injection h with h; omega
      · split at h
        · injection h with h; omega
        · cases h
theorem spec_pre (F : Nat) : ∀ (t : List UInt8) (s : List (List Int) × Int × Bool) (out o : List Int), 0 ≤ s.2.1 → s.2.1 ≤ 10 → Lane.rollsV F out ([], 10, true) = some s → specV F t s out = some o →
    ∃ rest s', Lane.textV F o ([], 10, true) = Lane.textV F out ([], 10, true) ++ rest ∧ Lane.rollsV F o ([], 10, true) = some s' := by
  intro t
  induction t with
  | nil =>
    intro s out o _ _ hr h
    unfold specV at h
    injection h with h
    subst h
    exact ⟨[], s, by simp, hr⟩
  | cons ch t ih =>
    intro s out o hp hp1 hr h
    unfold specV at h
    split at h
    · cases h
    · rename_i ha
      split at h
      · cases h
      · rename_i n hn
        split at h
        · cases h
        · rename_i hle
          have hle : n ≤ s.2.1 := by omega
          have hn0 := pins_nat hn hp
          have hm : Lane.mayV F s.1 s.2.1 n = true := by
            unfold Lane.mayV
            simp only [Bool.and_eq_true, Bool.not_eq_true', decide_eq_true_eq]
            exact ⟨by simpa using ha, hn0, hle⟩
          have hr2 := Lane.rolls_more F out ([], 10, true) s n hr hm
          have he := Lane.end_pins (F := F) (k := (Lane.begV F s.1 n).length - 1) (bg := Lane.begV F s.1 n) ⟨hn0, hle⟩ hp1
          obtain ⟨rest, s', e1, e2⟩ := ih (Lane.stepT F s n) (out ++ [n]) o he.1 he.2 hr2 h
          rw [text_snoc F out _ s n hr, List.append_assoc] at e1
          exact ⟨_, s', e1, e2⟩
theorem sign_one {p n : Int} {f : Bool} (h : 0 ≤ n ∧ n ≤ p) (hp : p ≤ 10) : ∃ c : UInt8, (Lane.signV p f n).data.toList = [c] ∧ ((f = true → p = 10) → pinsOf p c = some n) := by
  unfold Lane.signV
  by_cases h0 : n = 0
  · rw [if_pos h0]
    exact ⟨45, rfl, fun _ => by subst h0; rfl⟩
  · rw [if_neg h0]
    by_cases hq : n = p
    · rw [if_pos hq]
      cases f with
      | true => exact ⟨88, rfl, fun hf => by have := hf rfl; subst this; subst hq; rfl⟩
      | false => exact ⟨47, rfl, fun _ => by subst hq; rfl⟩
    · rw [if_neg hq]
      have hc : n = 1 ∨ n = 2 ∨ n = 3 ∨ n = 4 ∨ n = 5 ∨ n = 6 ∨ n = 7 ∨ n = 8 ∨ n = 9 := by omega
      rcases hc with rfl | rfl | rfl | rfl | rfl | rfl | rfl | rfl | rfl
      · exact ⟨49, by decide +kernel, fun _ => rfl⟩
      · exact ⟨50, by decide +kernel, fun _ => rfl⟩
      · exact ⟨51, by decide +kernel, fun _ => rfl⟩
      · exact ⟨52, by decide +kernel, fun _ => rfl⟩
      · exact ⟨53, by decide +kernel, fun _ => rfl⟩
      · exact ⟨54, by decide +kernel, fun _ => rfl⟩
      · exact ⟨55, by decide +kernel, fun _ => rfl⟩
      · exact ⟨56, by decide +kernel, fun _ => rfl⟩
      · exact ⟨57, by decide +kernel, fun _ => rfl⟩
theorem find_spec (p : Int) (f : Bool) (c : UInt8) : ∀ (d n : Nat), match Lane.findV p f c d n with
    | some m => n ≤ m ∧ m < n + d ∧ ((Lane.signV p f (m : Int)).toList == [c]) = true
    | none => ∀ m, n ≤ m → m < n + d → ((Lane.signV p f (m : Int)).toList == [c]) = false := by
  intro d
  induction d with
  | zero =>
    intro n
    show ∀ m, n ≤ m → m < n + 0 → _
    intro m h1 h2
    omega
  | succ d ih =>
    intro n
    unfold Lane.findV
    by_cases h : ((Lane.signV p f (n : Int)).toList == [c]) = true
    · rw [if_pos h]
      exact ⟨Nat.le_refl _, by omega, h⟩
    · rw [if_neg h]
      have := ih (n + 1)
      split at this
      · exact ⟨by omega, by omega, this.2.2⟩
      · intro m h1 h2
        by_cases e : m = n
        · subst e; simpa using h
        · exact this m (by omega) (by omega)
theorem toList_data (s : ByteArray) : s.toList = s.data.toList := ByteArray.toList_eq s
theorem bt_byte (s : ByteArray) (i : Nat) (h : i < s.data.toList.length) : bt s (i : Int) = ((s.data.toList[i]).toNat : Int) := by
  have h' : i < s.size := by simpa using h
  unfold bt
  rw [dif_pos (by simpa using h')]
  simp
  rfl
def ansV (F : Nat) (s : List UInt8) (r : Option (List Int)) : List Int × Bool := match r with
  | none => ([], false)
  | some o => if Lane.textV F o ([], 10, true) = s then (o, true) else ([], false)
theorem end_ok {F k : Nat} {bg : List (List Int)} {p n : Int} (h : 0 ≤ n ∧ n ≤ p) (p1 : p ≤ 10) : 1 ≤ (Lane.endV F k bg (p - n)).1 ∧ (Lane.endV F k bg (p - n)).1 ≤ 10 ∧ ((Lane.endV F k bg (p - n)).2 = true → (Lane.endV F k bg (p - n)).1 = 10) := by
  unfold Lane.endV
  split
  · exact ⟨by decide, by decide, fun _ => rfl⟩
  · rename_i hc
    have : p - n ≠ 0 := fun e => hc (Or.inl e)
    refine ⟨by simp only; omega, by simp only; omega, fun hc => ?_⟩
    simp at hc
theorem plain (F : Nat) : ∀ (t : List UInt8) (bg : List (List Int)) (p : Int) (f : Bool) (out : List Int) (pre : List UInt8), (f = true → p = 10) → 1 ≤ p → p ≤ 10 → Lane.rollsV F out ([], 10, true) = some (bg, p, f) → Lane.textV F out ([], 10, true) = pre →
    ansV F (pre ++ t) (specV F t (bg, p, f) out) = Lane.resV (Lane.parseV F t (bg, p, f) out) := by
  intro t
  induction t with
  | nil =>
    intro bg p f out pre hf hp hp1 hr hpre
    show (if _ then _ else _) = _
    rw [List.append_nil, if_pos hpre]
    rfl
  | cons ch t ih =>
    intro bg p f out pre hf hp hp1 hr hpre
    have fs := find_spec p f ch (p.toNat + 1) 0
    have eP : Lane.parseV F (ch :: t) (bg, p, f) out = match Lane.findV p f ch (p.toNat + 1) 0 with
      | none => none
      | some n => if Lane.allV F bg = true then none else Lane.parseV F t (Lane.stepV F (bg, p, f) (n : Int)) (out ++ [(n : Int)]) := rfl
    have eS : specV F (ch :: t) (bg, p, f) out = if Lane.allV F bg = true then none else match pinsOf p ch with
      | none => none
      | some n => if n > p then none else specV F t (Lane.stepT F (bg, p, f) n) (out ++ [n]) := rfl
    rw [eP, eS]
    by_cases ha : Lane.allV F bg = true
    · rw [if_pos ha]
      cases Lane.findV p f ch (p.toNat + 1) 0 with
      | none => rfl
      | some n =>
        show ansV F _ none = Lane.resV (if Lane.allV F bg = true then none else _)
        rw [if_pos ha]
        rfl
    · rw [if_neg ha]
      cases hfv : Lane.findV p f ch (p.toNat + 1) 0 with
      | some m =>
        rw [hfv] at fs
        obtain ⟨_, f2, f3⟩ := fs
        have hmp : 0 ≤ (m : Int) ∧ (m : Int) ≤ p := by omega
        obtain ⟨c, e1, e2⟩ := sign_one (f := f) hmp hp1
        rw [toList_data, e1] at f3
        have hc : c = ch := by simpa using f3
        subst hc
        rw [e2 hf]
        have hm : Lane.mayV F bg p (m : Int) = true := by
          unfold Lane.mayV
          simp only [Bool.and_eq_true, Bool.not_eq_true', decide_eq_true_eq]
          exact ⟨by simpa using ha, hmp⟩
        have hr2 := Lane.rolls_more F out ([], 10, true) (bg, p, f) (m : Int) hr hm
        have ht2 := text_snoc F out _ _ (m : Int) hr
        obtain ⟨k1, k2, k3⟩ := end_ok (F := F) (k := (Lane.begV F bg (m : Int)).length - 1) (bg := Lane.begV F bg (m : Int)) hmp hp1
        have hh := ih (Lane.begV F bg (m : Int)) _ _ (out ++ [(m : Int)]) (pre ++ [c]) k3 k1 k2 hr2 (by rw [ht2, hpre]; exact congrArg (pre ++ ·) e1)
        rw [List.append_assoc] at hh
        show ansV F _ (if (m : Int) > p then none else _) = Lane.resV (if Lane.allV F bg = true then none else _)
        rw [if_neg (by omega), if_neg ha]
        exact hh
      | none =>
        rw [hfv] at fs
        cases hpi : pinsOf p ch with
        | none => rfl
        | some n =>
          show ansV F _ (if n > p then none else _) = ([], false)
          by_cases hn : n > p
          · rw [if_pos hn]
            rfl
          · rw [if_neg hn]
            have hn0 := pins_nat hpi (by omega)
            cases hsp : specV F t (Lane.stepT F (bg, p, f) n) (out ++ [n]) with
            | none => rfl
            | some o =>
              have hm : Lane.mayV F bg p n = true := by
                unfold Lane.mayV
                simp only [Bool.and_eq_true, Bool.not_eq_true', decide_eq_true_eq]
                exact ⟨by simpa using ha, hn0, by omega⟩
              have hr2 := Lane.rolls_more F out ([], 10, true) (bg, p, f) n hr hm
              obtain ⟨k1, k2, k3⟩ := end_ok (F := F) (k := (Lane.begV F bg n).length - 1) (bg := Lane.begV F bg n) (p := p) (n := n) ⟨hn0, by omega⟩ hp1
              obtain ⟨rest, s', e1, _⟩ := spec_pre F t (Lane.stepT F (bg, p, f) n) (out ++ [n]) o (Int.le_trans (by decide) k1) k2 hr2 hsp
              obtain ⟨c, e3, _⟩ := sign_one (f := f) (p := p) (n := n) ⟨hn0, by omega⟩ hp1
              have hne := fs n.toNat (Nat.zero_le _) (by omega)
              rw [show ((n.toNat : Nat) : Int) = n by omega, toList_data, e3] at hne
              show (if Lane.textV F o ([], 10, true) = pre ++ ch :: t then _ else _) = _
              rw [if_neg]
              rw [e1, text_snoc F out _ _ n hr, hpre, List.append_assoc]
              intro hq
              have hq2 := List.append_cancel_left hq
              have hq3 : [c] ++ rest = ch :: t := by rw [← e3]; exact hq2
              injection hq3 with hq4
              subst hq4
              simp at hne
theorem parse_loop (F : Nat) (hF : 1 ≤ F) (hF9 : F ≤ 10) (s : ByteArray) (hs : s.size ≤ 1048576) : ∀ (d i : Nat) (bg : List (List Int)) (p : Int) (f : Bool) (fr : Int) (bs : List Int) (st : Int) (ov : Bool) (out : List Int),
    i + d = s.size → Sim F bg p fr bs st ov → Fr p f bs st ov → Lane.rollsV F out ([], 10, true) = some (bg, p, f) →
    Tot (fun k => spec_boParse.l0 k (F : Int) s out (i : Int) fr bs st ov) (Eq (ansV F s.data.toList (specV F (s.data.toList.drop i) (bg, p, f) out))) := by
  intro d
  induction d with
  | zero =>
    intro i bg p f fr bs st ov out hd hsim hfr hr
    have h21 : out.length ≤ 21 := Lane.rolls_few hF9 hr hsim.good
    refine Tot.step (fun k => spec_boParse.l0.eq_2 _ _ _ _ _ _ _ _ _) ?_
    refine Tot.neg (by omega) ?_
    have hv : Lane.readV (F : Int) out = some (bg, p, f) := by
      unfold Lane.readV
      rw [if_pos ⟨by omega, by omega, h21⟩, Int.toNat_natCast]
      exact hr
    have ht : (Lane.textOf (F : Int) out).1 = ⟨(Lane.textV F out ([], 10, true)).toArray⟩ := by unfold Lane.textOf; rw [hv, Int.toNat_natCast]
    refine Tot.bind (text_t (F : Int) out _ hv) ?_
    rintro _ rfl
    rw [ht, List.drop_eq_nil_of_le (by simp; omega)]
    have e : ByteArray.toList ⟨(Lane.textV F out ([], 10, true)).toArray⟩ = Lane.textV F out ([], 10, true) := by rw [toList_data]
    rw [e, toList_data]
    refine Tot.ite (fun h => Tot.ret ?_) (fun h => Tot.ret ?_)
    · show (if _ then _ else _) = _
      rw [if_pos h]
    · show (if _ then _ else _) = _
      rw [if_neg h]
  | succ d ih =>
    intro i bg p f fr bs st ov out hd hsim hfr hr
    have h21 : out.length ≤ 21 := Lane.rolls_few hF9 hr hsim.good
    have hi : i < s.data.toList.length := by simp; omega
    have hb := bt_byte s i hi
    have eD : s.data.toList.drop i = s.data.toList[i] :: s.data.toList.drop (i + 1) := List.drop_eq_getElem_cons hi
    rw [eD]
    have hch := (s.data.toList[i]).toNat_lt
    generalize s.data.toList[i] = ch at *
    have eS : specV F (ch :: s.data.toList.drop (i + 1)) (bg, p, f) out = if Lane.allV F bg = true then none else match pinsOf p ch with
      | none => none
      | some n => if n > p then none else specV F (s.data.toList.drop (i + 1)) (Lane.stepT F (bg, p, f) n) (out ++ [n]) := rfl
    rw [eS]
    refine Tot.step (fun k => spec_boParse.l0.eq_2 _ _ _ _ _ _ _ _ _) ?_
    refine Tot.pos (by omega) ?_
    refine Tot.ite (fun hov => Tot.ret ?_) (fun hov => ?_)
    · rw [if_pos (by rw [← hsim.over]; exact hov)]
      rfl
    have hov : ov = false := by simpa using hov
    subst hov
    have hall : ¬ Lane.allV F bg = true := by rw [← hsim.over]; decide
    rw [if_neg hall]
    have p1 := hsim.p1
    obtain rfl : st = p := hsim.stand rfl
    have q1 := hfr.1
    have hbl : bs.length < 1000 := by have := sim_short hsim; omega
    have hw : wrap64 ((i : Int) + 1) = ((i + 1 : Nat) : Int) := wrap_nat i (by omega)
    have fin : ∀ n : Int, 0 ≤ n → ¬ n > st → Tot (fun k => spec_boParse.l0 k (F : Int) s (out ++ [n]) ((i + 1 : Nat) : Int) (rollV F fr (bs ++ [n]) (wrap64 (st - n))).1 (rollV F fr (bs ++ [n]) (wrap64 (st - n))).2.1 (rollV F fr (bs ++ [n]) (wrap64 (st - n))).2.2.1 (rollV F fr (bs ++ [n]) (wrap64 (st - n))).2.2.2)
        (Eq (ansV F s.data.toList (if n > st then none else specV F (s.data.toList.drop (i + 1)) (Lane.stepT F (bg, st, f) n) (out ++ [n])))) := by
      intro n h0 h1
      have hn : 0 ≤ n ∧ n ≤ st := ⟨h0, by omega⟩
      have hm : Lane.mayV F bg st n = true := by
        unfold Lane.mayV
        simp only [Bool.and_eq_true, Bool.not_eq_true', decide_eq_true_eq]
        exact ⟨by simpa using hall, hn⟩
      rw [if_neg h1]
      exact ih (i + 1) _ _ _ _ _ _ _ (out ++ [n]) (by omega) (sim_step hF hF9 hsim hn) (fresh_step hF hF9 hsim hn q1) (Lane.rolls_more F out ([], 10, true) _ n hr hm)
    have hlt : (i : Int) < (s.size : Int) := by omega
    have hrl := fun n : Int => boRoll_f (F : Int) fr bs st false n hbl
    refine Tot.pos (Int.natCast_nonneg i) ?_
    rw [hb]
    refine Tot.ite (fun h88 => ?_) (fun h88 => ?_)
    · have hp : pinsOf st ch = some 10 := by unfold pinsOf; rw [if_pos h88]
      rw [hp]
      refine Tot.ite (fun hg => Tot.ret ?_) (fun hg => ?_)
      · show ansV F _ (if (10 : Int) > st then none else _) = _
        rw [if_pos hg]
        rfl
      · refine Tot.pos (by omega) ?_
        rw [hrl, hw]
        exact Tot.some_bind (fin 10 (by decide) hg)
    refine Tot.ite (fun h47 => ?_) (fun h47 => ?_)
    · have hp : pinsOf st ch = some st := by unfold pinsOf; rw [if_neg h88, if_pos h47]
      rw [hp]
      refine Tot.neg (by omega) ?_
      refine Tot.pos (by omega) ?_
      rw [hrl, hw]
      exact Tot.some_bind (fin st (by omega) (by omega))
    have hno : ∀ x34 : Bool, x34 = decide (49 ≤ (ch.toNat : Int) ∧ (ch.toNat : Int) ≤ 57) → Tot (fun k => spec_boParse.j1 k (F : Int) s out (i : Int) 0 x34 fr bs st false) (Eq (ansV F s.data.toList (match pinsOf st ch with
      | none => none
      | some n => if n > st then none else specV F (s.data.toList.drop (i + 1)) (Lane.stepT F (bg, st, f) n) (out ++ [n])))) := by
      intro x34 hx
      refine Tot.step (fun k => spec_boParse.j1.eq_2 _ _ _ _ _ _ _ _ _ _ _) ?_
      rw [hb]
      refine Tot.ite (fun h34 => ?_) (fun h34 => ?_)
      · rw [h34] at hx
        have hdg : 49 ≤ (ch.toNat : Int) ∧ (ch.toNat : Int) ≤ 57 := of_decide_eq_true hx.symm
        have hp : pinsOf st ch = some ((ch.toNat : Int) - 48) := by unfold pinsOf; rw [if_neg h88, if_neg h47, if_pos hdg]
        have hmod : ((ch.toNat : Int) - 48) % 256 = (ch.toNat : Int) - 48 := by omega
        rw [hp, hmod]
        refine Tot.pos (Int.natCast_nonneg i) (Tot.pos hlt ?_)
        refine Tot.ite (fun hg => Tot.ret ?_) (fun hg => ?_)
        · show ansV F _ (if (ch.toNat : Int) - 48 > st then none else _) = _
          rw [if_pos hg]
          rfl
        · refine Tot.pos (by omega) ?_
          rw [hrl, hw]
          exact Tot.some_bind (fin _ (by omega) hg)
      · have hdg : ¬ (49 ≤ (ch.toNat : Int) ∧ (ch.toNat : Int) ≤ 57) := fun h => h34 (by rw [hx]; exact decide_eq_true h)
        refine Tot.pos (Int.natCast_nonneg i) (Tot.pos hlt ?_)
        refine Tot.ite (fun h45 => ?_) (fun h45 => Tot.ret ?_)
        · have hp : pinsOf st ch = some 0 := by unfold pinsOf; rw [if_neg h88, if_neg h47, if_neg hdg, if_pos h45]
          rw [hp]
          refine Tot.neg (by omega) (Tot.pos (by omega) ?_)
          rw [hrl, hw]
          exact Tot.some_bind (fin 0 (by omega) (by omega))
        · have hp : pinsOf st ch = none := by unfold pinsOf; rw [if_neg h88, if_neg h47, if_neg hdg, if_neg h45]
          rw [hp]
          rfl
    refine Tot.ite (fun h49 => ?_) (fun h49 => ?_)
    · exact hno _ (by congr 1; apply propext; constructor <;> intro h <;> omega)
    · exact hno _ (decide_eq_false (by omega)).symm
theorem parse_t (F : Int) (s : ByteArray) (hs : s.size ≤ 1048576) : Tot (fun k => spec_ParseRolls.f k F s) (Eq (Lane.parseOf F s)) := by
  have hB : Tot (fun k => spec_boParse.f k F s) (Eq (Lane.parseOf F s)) := by
    unfold spec_boParse.f spec_boFrames.f spec_l1In.f Lane.parseOf
    by_cases h1 : 1 ≤ F ∧ F ≤ 10
    · rw [if_pos h1.1, decide_eq_true h1.2, if_pos h1]
      refine Tot.some_bind (Tot.pos rfl ?_)
      unfold spec_boStart.f
      refine Tot.some_bind ?_
      have hh := parse_loop F.toNat (by omega) (by omega) s hs s.size 0 [] 10 true 0 [] 10 false [] (by omega) (sim_start F.toNat (by omega)) ⟨by decide, fun _ => rfl, fun _ => rfl⟩ rfl
      rw [show ((F.toNat : Nat) : Int) = F by omega] at hh
      rw [← plain F.toNat s.data.toList [] 10 true [] [] (fun _ => rfl) (by decide) (by decide) rfl rfl]
      exact hh
    · rw [if_neg h1]
      by_cases h2 : F ≥ 1
      · rw [if_pos h2, decide_eq_false (by omega)]
        exact Tot.some_bind (Tot.neg (by simp) (Tot.ret rfl))
      · rw [if_neg h2]
        exact Tot.some_bind (Tot.neg (by simp) (Tot.ret rfl))
  unfold spec_ParseRolls.f
  refine Tot.bind hB ?_
  rintro _ rfl
  exact Tot.ret rfl
theorem parse_len (F : Nat) : ∀ (t : List UInt8) (s : List (List Int) × Int × Bool) (out o : List Int), Lane.parseV F t s out = some o → o.length = out.length + t.length := by
  intro t
  induction t with
  | nil =>
    intro s out o h
    unfold Lane.parseV at h
    injection h with h
    subst h
    simp
  | cons ch t ih =>
    intro s out o h
    unfold Lane.parseV at h
    split at h
    · cases h
    · split at h
      · cases h
      · have := ih _ _ _ h
        simp only [List.length_append, List.length_cons, List.length_nil] at this ⊢
        omega
theorem parse_short (F : Int) (s : ByteArray) : (Lane.parseOf F s).1.length ≤ s.size := by
  unfold Lane.parseOf
  split
  · cases h : Lane.parseV F.toNat s.data.toList ([], 10, true) [] with
    | none => simp [Lane.resV]
    | some o =>
      have := parse_len _ _ _ _ _ h
      simp only [Lane.resV, List.length_nil, Nat.zero_add] at this ⊢
      rw [this]
      simp
  · simp
theorem FnExactParseRolls : laws_FnExactParseRolls.Pure := by
  intro F s h1 h2
  refine Tot.rounds ?_
  unfold laws_FnExactParseRolls.f
  refine Tot.ite (fun _ => Tot.ret rfl) (fun hn => ?_)
  have hn' : s.size ≤ 1048576 := by omega
  have hv : (Lane.parseOf F s).1.length ≤ 1048576 := Nat.le_trans (parse_short F s) hn'
  have A := parse_t F s hn'
  have B : Tot (fun _ => impl_ParseRolls.f F s) (Eq (Lane.parseOf F s)) := by
    unfold impl_ParseRolls.f
    exact Tot.pos (by omega) (Tot.ret rfl)
  generalize Lane.parseOf F s = v at *
  have he := eqIntS_t v.1 (by omega)
  refine Tot.bind A ?_
  rintro _ rfl
  refine Tot.bind B ?_
  rintro _ rfl
  refine Tot.bind he ?_
  rintro _ rfl
  refine Tot.pos rfl ?_
  refine Tot.step (fun k => laws_FnExactParseRolls.j0.eq_2 _ _ _ _ _ _ _) ?_
  refine Tot.neg (by simp) ?_
  refine Tot.bind (mark_t v.1 hv) ?_
  rintro _ rfl
  refine Tot.bind (held_t v.1.length hv) ?_
  rintro _ rfl
  refine Tot.neg (by omega) (Tot.pos rfl ?_)
  refine Tot.bind B ?_
  rintro _ rfl
  refine Tot.bind he ?_
  rintro _ rfl
  refine Tot.pos rfl ?_
  refine Tot.step (fun k => laws_FnExactParseRolls.j1.eq_2 _ _ _ _) ?_
  refine Tot.neg (by simp) ?_
  refine Tot.bind (held_t v.1.length hv) ?_
  rintro _ rfl
  exact Tot.neg (by omega) (Tot.pos rfl (Tot.ret rfl))
end Go.Proofs.YtdioconinnpmmaaDoor.Pure
namespace Go.Proofs.YtdioconinnpmmaaDoor.PrintWords
theorem sized_ints : type_of% @Go.Proofs.YtdioconinnpmmaaDoorW.PrintWords.sized_ints := @Go.Proofs.YtdioconinnpmmaaDoorW.PrintWords.sized_ints
end Go.Proofs.YtdioconinnpmmaaDoor.PrintWords
