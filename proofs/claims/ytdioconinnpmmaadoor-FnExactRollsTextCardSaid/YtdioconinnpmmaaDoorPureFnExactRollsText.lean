/- The program's RollsText answers as the reference's does, for every number of frames and every list of at most 1048576 rolls; for a longer list nothing is asked. -/
import Derived.Test.YtdioconinnpmmaaDoorMFnExactRollsTextx4
import Derived.Test.YtdioconinnpmmaaDoorWSized
set_option linter.unusedVariables false
set_option linter.unusedSimpArgs false
namespace Go.Proofs.YtdioconinnpmmaaDoor.Pure
open Go.RowKit Go.Proofs.YtdioconinnpmmaaDoor.MFnExactRollsText Go.Proofs.YtdioconinnpmmaaDoorW.PrintWords Go.Proofs.YtdioconinnpmmaaDoorW.PrintLast
/-! ### Rounds: some number of rounds on, a function tells r, and r has a property -/
def Tot {α : Type} (g : Nat → Option α) (P : α → Prop) : Prop := ∃ r, Ev g r ∧ P r
theorem Tot.ret {α : Type} {P : α → Prop} {r : α} (h : P r) : Tot (fun _ => some r) P := ⟨r, Ev.now r, h⟩
theorem Tot.pos {α : Type} {c : Prop} [Decidable c] {f g : Nat → Option α} {P : α → Prop} (h : c) (hf : Tot f P) : Tot (fun k => if c then f k else g k) P := by
  simp only [if_pos h]; exact hf
theorem Tot.neg {α : Type} {c : Prop} [Decidable c] {f g : Nat → Option α} {P : α → Prop} (h : ¬ c) (hg : Tot g P) : Tot (fun k => if c then f k else g k) P := by
  simp only [if_neg h]; exact hg
theorem Tot.ite {α : Type} {c : Prop} [Decidable c] {f g : Nat → Option α} {P : α → Prop} (hf : c → Tot f P) (hg : ¬ c → Tot g P) : Tot (fun k => if c then f k else g k) P := by
  by_cases h : c
  · exact Tot.pos h (hf h)
  · exact Tot.neg h (hg h)
theorem Tot.bind {α β : Type} {g : Nat → Option α} {f : Nat → α → Option β} {P : α → Prop} {Q : β → Prop} (h : Tot g P) (k : ∀ a, P a → Tot (fun n => f n a) Q) : Tot (fun n => (g n).bind (f n)) Q := by
  obtain ⟨a, ha, hp⟩ := h
  obtain ⟨r, hr, hq⟩ := k a hp
  exact ⟨r, Ev.bind ha hr, hq⟩
theorem Tot.some_bind {α β : Type} {f : Nat → α → Option β} {Q : β → Prop} {a : α} (k : Tot (fun n => f n a) Q) : Tot (fun n => (some a).bind (f n)) Q := k
theorem Tot.step {α : Type} {g f : Nat → Option α} {P : α → Prop} (h : ∀ k, g (k + 1) = f k) (k : Tot f P) : Tot g P := by
  obtain ⟨r, hr, hp⟩ := k
  exact ⟨r, Ev.step h hr, hp⟩
theorem Tot.congr {α : Type} {g f : Nat → Option α} {P : α → Prop} (h : ∀ k, g k = f k) (k : Tot f P) : Tot g P := by
  obtain ⟨r, hr, hp⟩ := k
  exact ⟨r, Ev.congr h hr, hp⟩
theorem Tot.mono {α : Type} {g : Nat → Option α} {P Q : α → Prop} (h : Tot g P) (k : ∀ r, P r → Q r) : Tot g Q := by
  obtain ⟨r, hr, hp⟩ := h
  exact ⟨r, hr, k r hp⟩
theorem Tot.rounds {α : Type} {g : Nat → Option α} {r : α} (h : Tot g (Eq r)) : ∃ k, g k = some r := by
  obtain ⟨_, hr, rfl⟩ := h
  exact hr.rounds
theorem Tot.ev {α : Type} {g : Nat → Option α} {r : α} (h : Tot g (Eq r)) : Ev g r := by
  obtain ⟨_, hr, rfl⟩ := h
  exact hr
theorem Tot.of {α : Type} {g : Nat → Option α} {r : α} (h : Ev g r) : Tot g (Eq r) := ⟨r, h, rfl⟩
theorem wrap_in {x : Int} (h0 : -9223372036854775808 ≤ x) (h1 : x ≤ 9223372036854775807) : wrap64 x = x := by unfold wrap64; omega
theorem wrap_nat (n : Nat) (h : n < 4611686018427387904) : wrap64 ((n : Int) + 1) = ((n + 1 : Nat) : Int) := by rw [wrap_in] <;> omega
theorem rd_mid (pre suf : List Int) (x : Int) : rd (pre ++ x :: suf) (pre.length : Int) = x := by simp [rd]
theorem rd_get (l : List Int) (i : Nat) (h : i < l.length) : rd l (i : Int) = l[i] := by simp [rd, h]
theorem set_mid {α : Type} (pre suf : List α) (x y : α) : (pre ++ x :: suf).set (pre.length : Int).toNat y = pre ++ y :: suf := by simp
theorem toIntS_loop (l : List Int) (hn : l.length ≤ 1048576) : ∀ (suf pre rest : List Int), l = pre ++ suf → rest.length = suf.length → Tot (fun k => laws_toIntS.l0 k l (pre ++ rest) (pre.length : Int)) (Eq l) := by
  intro suf
  induction suf with
  | nil =>
    intro pre rest h hr
    obtain rfl : rest = [] := List.eq_nil_of_length_eq_zero (by simpa using hr)
    refine Tot.step (fun k => laws_toIntS.l0.eq_2 _ _ _ _) ?_
    exact Tot.neg (by simp [h]) (Tot.ret (by simp [h]))
  | cons x suf ih =>
    intro pre rest h hr
    match rest, hr with
    | r :: rest, hr =>
    have hp : pre.length < l.length := by simp [h]
    have hr' : rest.length = suf.length := by simpa using hr
    have hl : l.length = pre.length + suf.length + 1 := by simp [h]; omega
    refine Tot.step (fun k => laws_toIntS.l0.eq_2 _ _ _ _) ?_
    refine Tot.pos (by omega) (Tot.pos (by omega) (Tot.pos (by simp; omega) ?_))
    rw [set_mid, wrap_nat _ (by omega), show rd l (pre.length : Int) = x by rw [h, rd_mid]]
    have := ih (pre ++ [x]) rest (by simp [h]) hr'
    simpa using this
theorem toIntS_t (l : List Int) (hn : l.length ≤ 1048576) : Tot (fun k => laws_toIntS.f k l) (Eq l) := by
  unfold laws_toIntS.f
  refine Tot.pos (by omega) (Tot.pos (by omega) ?_)
  exact toIntS_loop l hn l [] _ rfl (by simp)
theorem eqIntS_loop (l : List Int) (hn : l.length ≤ 4611686018427387903) : ∀ (suf pre : List Int), l = pre ++ suf → Tot (fun k => laws_eqIntS.l0 k l l (pre.length : Int)) (Eq true) := by
  intro suf
  induction suf with
  | nil =>
    intro pre h
    refine Tot.step (fun k => laws_eqIntS.l0.eq_2 _ _ _ _) ?_
    exact Tot.neg (by simp [h]) (Tot.ret rfl)
  | cons x suf ih =>
    intro pre h
    have hl : l.length = pre.length + suf.length + 1 := by simp [h]; omega
    refine Tot.step (fun k => laws_eqIntS.l0.eq_2 _ _ _ _) ?_
    refine Tot.pos (by omega) (Tot.pos (by omega) (Tot.pos (by omega) (Tot.pos rfl ?_)))
    rw [wrap_nat _ (by omega)]
    have := ih (pre ++ [x]) (by simp [h])
    simpa using this
theorem eqIntS_t (l : List Int) (hn : l.length ≤ 4611686018427387903) : Tot (fun k => laws_eqIntS.f k l l) (Eq true) := by
  unfold laws_eqIntS.f
  exact Tot.pos rfl (eqIntS_loop l hn l [] rfl)
theorem own_f (l : List Int) (h : l.length < 17592186044416) : spec_l1Own.f l = some l := by
  unfold spec_l1Own.f
  simp [h]
theorem boRoll_f (F fr : Int) (bs : List Int) (st : Int) (ov : Bool) (n : Int) (h : bs.length < 1000) : spec_boRoll.f F fr bs st ov n = some (rollV F fr (bs ++ [n]) (wrap64 (st - n))) := by
  unfold spec_boRoll.f
  rw [own_f _ (by omega)]
  simp only [Option.bind_some, List.length_cons, List.length_nil]
  rw [if_pos (by omega)]
theorem w_small {x : Int} (h : -1000 ≤ x ∧ x ≤ 1000) : wrap64 x = x := by
  unfold wrap64
  omega
/-- Where the reference stands, where the lane stands. -/
structure Sim (F : Nat) (bg : List (List Int)) (p : Int) (fr : Int) (bs : List Int) (st : Int) (ov : Bool) : Prop where
  good : Lane.Good F bg
  p0 : 0 ≤ p
  p1 : p ≤ 10
  over : ov = Lane.allV F bg
  stand : ov = false → st = p
  fresh : ov = false → Lane.newV F bg = true → bs = [] ∧ fr = bg.length ∧ p = 10
  begun : ov = false → Lane.newV F bg = false → ∃ m, bg.length = m + 1 ∧ fr = m ∧ bs = bg.getD m [] ∧ (m + 1 < F → ∃ a, bs = [a] ∧ a ≠ 10 ∧ p = 10 - a)
theorem sim_start (F : Nat) (hF : 1 ≤ F) : Sim F [] 10 0 [] 10 false := by
  have h : Lane.allV F [] = false := by
    unfold Lane.allV
    rw [if_pos (by simp; omega)]
  exact ⟨Lane.good_start F, by decide, by decide, h.symm, fun _ => rfl, fun _ _ => ⟨rfl, rfl, rfl⟩, fun _ h2 => by simp [Lane.newV] at h2⟩
theorem new_lt {F : Nat} {bg : List (List Int)} (hF : 1 ≤ F) (h : Lane.newV F bg = true) : bg.length < F := by
  unfold Lane.newV at h
  simp only [Bool.or_eq_true, beq_iff_eq, Bool.and_eq_true, decide_eq_true_eq] at h
  omega
theorem all_short {F : Nat} {bg : List (List Int)} (h : bg.length < F) : Lane.allV F bg = false := by
  unfold Lane.allV
  rw [if_pos h]
theorem set_end (bg : List (List Int)) (r : List Int) : (bg ++ [[]]).set bg.length r = bg ++ [r] := by
  rw [List.set_append_right _ _ (Nat.le_refl _)]
  simp
theorem getD_end (bg : List (List Int)) (r : List Int) : (bg ++ [r]).getD bg.length [] = r := by simp
theorem getD_set (bg : List (List Int)) (m : Nat) (h : m < bg.length) (r : List Int) : (bg.set m r).getD m [] = r := by simp [List.getD_eq_getElem?_getD, h]
def lastV (r : List Int) : Bool := match r with
  | [a, b] => (a != 10) && decide (a + b < 10)
  | [_, _, _] => true
  | _ => false
theorem all_last {F : Nat} {bg : List (List Int)} (h : ¬ bg.length < F) : Lane.allV F bg = lastV (bg.getD (F - 1) []) := by
  unfold Lane.allV lastV
  rw [if_neg h]
  generalize bg.getD (F - 1) [] = r
  match r with
  | [] => rfl
  | [a] => rfl
  | [a, b] => rfl
  | [a, b, c] => rfl
  | a :: b :: c :: d :: e => rfl
theorem last_over {bs : List Int} {n : Int} (hne : bs ≠ []) (hl3 : bs.length ≤ 3) (h0 : lastV bs = false) (hx : ∀ x ∈ bs, 0 ≤ x ∧ x ≤ 10) (hn : 0 ≤ n ∧ n ≤ 10) :
    (if (bs ++ [n]).length = 3 then true else if (bs ++ [n]).length = 2 then (if rd (bs ++ [n]) 0 < 10 then decide (wrap64 (rd (bs ++ [n]) 0 + rd (bs ++ [n]) 1) < 10) else false) else false) = lastV (bs ++ [n]) := by
  match bs, hne, hl3, h0, hx with
  | [a], _, _, _, hx =>
    have hxa := hx a (by simp)
    show (if a < 10 then decide (wrap64 (a + n) < 10) else false) = lastV [a, n]
    rw [w_small (by omega)]
    show _ = ((a != 10) && decide (a + n < 10))
    by_cases h10 : a < 10
    · have hb2 : (a != 10) = true := by simp [bne]; omega
      rw [if_pos h10, hb2, Bool.true_and]
    · have hb2 : (a != 10) = false := by simp [bne]; omega
      rw [if_neg h10, hb2, Bool.false_and]
  | [a, b], _, _, _, _ => rfl
  | [a, b, c], _, _, ha0, _ => exact absurd ha0 (by simp [lastV])
set_option maxHeartbeats 1000000 in
theorem sim_step {F : Nat} {bg : List (List Int)} {p fr : Int} {bs : List Int} {st n : Int} (hF : 1 ≤ F) (hF9 : F ≤ 10) (h : Sim F bg p fr bs st false) (hn : 0 ≤ n ∧ n ≤ p) :
    Sim F (Lane.begV F bg n) (Lane.endV F ((Lane.begV F bg n).length - 1) (Lane.begV F bg n) (p - n)).1 (rollV F fr (bs ++ [n]) (wrap64 (st - n))).1 (rollV F fr (bs ++ [n]) (wrap64 (st - n))).2.1
      (rollV F fr (bs ++ [n]) (wrap64 (st - n))).2.2.1 (rollV F fr (bs ++ [n]) (wrap64 (st - n))).2.2.2 := by
  obtain ⟨hg, p0, p1, ho, hs, hnew, hold⟩ := h
  have hs := hs rfl
  have hmay : Lane.mayV F bg p n = true := by
    unfold Lane.mayV
    rw [← ho]
    simpa using hn
  have hgood := Lane.good_beg hF hg hmay p1
  have hend := fun k (b : List (List Int)) => Lane.end_pins (F := F) (k := k) (bg := b) hn p1
  have hwf : wrap64 ((F : Int) - 1) = (F : Int) - 1 := w_small (by omega)
  subst hs
  rw [w_small (show -1000 ≤ st - n ∧ st - n ≤ 1000 by omega)]
  cases hv : Lane.newV F bg with
  | true =>
    obtain ⟨rfl, rfl, rfl⟩ := hnew rfl hv
    have hlt := new_lt hF hv
    have hb : Lane.begV F bg n = bg ++ [[n]] := by
      unfold Lane.begV
      rw [if_pos hv, set_end]
    rw [hb] at hgood ⊢
    have hl : (bg ++ [[n]]).length = bg.length + 1 := by simp
    have hgd : (bg ++ [[n]]).getD bg.length [] = [n] := getD_end bg [n]
    have he : Lane.endV F ((bg ++ [[n]]).length - 1) (bg ++ [[n]]) (10 - n) = if n = 10 then (10, true) else (10 - n, false) := by
      unfold Lane.endV
      rw [hl, Nat.add_sub_cancel, hgd]
      by_cases h10 : n = 10
      · rw [if_pos (Or.inl (by omega)), if_pos h10]
      · rw [if_neg, if_neg h10]
        rintro (hc | ⟨_, hc⟩)
        · omega
        · simp [Lane.doneV] at hc
          omega
    rw [he]
    have hn1 : Lane.newV F (bg ++ [[n]]) = (decide (bg.length + 1 < F) && (n == 10)) := by
      unfold Lane.newV
      rw [hl, Nat.add_sub_cancel, hgd]
      have : decide (((bg.length + 1 : Nat) : Int) - 1 < (F : Int) - 1) = decide (bg.length + 1 < F) := by
        congr 1
        apply propext
        omega
      rw [this]
      simp [Lane.doneV]
    by_cases hm : bg.length + 1 < F
    · have ha := all_short (bg := bg ++ [[n]]) (F := F) (by omega)
      by_cases h10 : n = 10
      · subst h10
        have hr : rollV F bg.length ([] ++ [10]) (10 - 10) = ((bg.length : Int) + 1, [], 10, false) := by
          unfold rollV
          rw [hwf, if_pos (by omega), if_pos (by omega), w_small (by omega)]
        rw [hr, if_pos rfl]
        exact ⟨hgood, by decide, by decide, ha.symm, fun _ => rfl, fun _ _ => ⟨rfl, by simp, rfl⟩, fun _ h2 => by rw [hn1] at h2; simp [hm] at h2⟩
      · have hr : rollV F bg.length ([] ++ [n]) (10 - n) = ((bg.length : Int), [n], 10 - n, false) := by
          unfold rollV
          rw [hwf, if_pos (by omega), if_neg (by omega)]
          rfl
        rw [hr, if_neg h10]
        exact ⟨hgood, by simp only; omega, by simp only; omega, ha.symm, fun _ => rfl, fun _ h2 => by rw [hn1] at h2; simp [h10] at h2, fun _ _ => ⟨bg.length, hl, rfl, hgd.symm, fun _ => ⟨n, rfl, h10, rfl⟩⟩⟩
    · have hFl : F - 1 = bg.length := by omega
      have ha : Lane.allV F (bg ++ [[n]]) = false := by
        unfold Lane.allV
        rw [if_neg (by omega), hFl, hgd]
      have hr : rollV F bg.length ([] ++ [n]) (10 - n) = ((bg.length : Int), [n], if 10 - n = 0 then 10 else 10 - n, false) := by
        unfold rollV
        rw [hwf, if_neg (by omega)]
        rfl
      rw [hr]
      have hq : (if n = 10 then ((10 : Int), true) else (10 - n, false)).1 = if 10 - n = 0 then 10 else 10 - n := by
        by_cases h10 : n = 10
        · rw [if_pos h10, if_pos (by omega)]
        · rw [if_neg h10, if_neg (by omega)]
      rw [hq]
      refine ⟨hgood, ?_, ?_, ha.symm, fun _ => rfl, fun _ h2 => by rw [hn1] at h2; simp [hm] at h2, fun _ _ => ⟨bg.length, hl, rfl, hgd.symm, fun h3 => absurd h3 hm⟩⟩
      · split <;> omega
      · split <;> omega
  | false =>
    obtain ⟨m, hlen, rfl, hbs, hone⟩ := hold rfl hv
    have hmF : m + 1 ≤ F := by have := hg.2.1; omega
    have hb : Lane.begV F bg n = bg.set m (bs ++ [n]) := by
      unfold Lane.begV
      rw [if_neg (by rw [hv]; decide), hlen, Nat.add_sub_cancel, hbs]
    rw [hb] at hgood ⊢
    have hl : (bg.set m (bs ++ [n])).length = m + 1 := by rw [List.length_set, hlen]
    have hgd : (bg.set m (bs ++ [n])).getD m [] = bs ++ [n] := getD_set bg m (by omega) _
    by_cases hm : m + 1 < F
    · obtain ⟨a, rfl, ha10, rfl⟩ := hone hm
      have ha := all_short (bg := bg.set m ([a] ++ [n])) (F := F) (by omega)
      have he : Lane.endV F ((bg.set m ([a] ++ [n])).length - 1) (bg.set m ([a] ++ [n])) (10 - a - n) = (10, true) := by
        unfold Lane.endV
        rw [hl, Nat.add_sub_cancel, hgd, if_pos]
        exact Or.inr ⟨by omega, rfl⟩
      have hr : rollV F m ([a] ++ [n]) (10 - a - n) = ((m : Int) + 1, [], 10, false) := by
        unfold rollV
        rw [hwf, if_pos (by omega), w_small (by omega)]
        split
        · rfl
        · rfl
      rw [he, hr]
      refine ⟨hgood, by decide, by decide, ha.symm, fun _ => rfl, fun _ _ => ⟨rfl, by rw [hl]; simp, rfl⟩, fun _ h2 => ?_⟩
      exfalso
      unfold Lane.newV at h2
      rw [hl, Nat.add_sub_cancel, hgd] at h2
      simp [Lane.doneV] at h2
      omega
    · have hFm : F = m + 1 := by omega
      have hmem : bs ∈ bg := by
        rw [hbs, List.getD_eq_getElem?_getD, List.getElem?_eq_getElem (show m < bg.length by omega)]
        exact List.getElem_mem _
      obtain ⟨hne, hl3, hx⟩ := hg.1 bs hmem
      have hn0 : Lane.newV F (bg.set m (bs ++ [n])) = false := by
        unfold Lane.newV
        rw [hl]
        simp
        omega
      have he : (Lane.endV F ((bg.set m (bs ++ [n])).length - 1) (bg.set m (bs ++ [n])) (st - n)).1 = if st - n = 0 then 10 else st - n := by
        unfold Lane.endV
        rw [hl, Nat.add_sub_cancel]
        by_cases h0 : st - n = 0
        · rw [if_pos (Or.inl h0), if_pos h0]
        · rw [if_neg (by rintro (hc | ⟨hc, _⟩) <;> omega), if_neg h0]
      have ha : Lane.allV F (bg.set m (bs ++ [n])) = lastV (bs ++ [n]) := by
        rw [all_last (by omega), show F - 1 = m by omega, hgd]
      have ha0 : lastV bs = false := by
        rw [all_last (by omega), show F - 1 = m by omega, ← hbs] at ho
        exact ho.symm
      have hr : rollV F m (bs ++ [n]) (st - n) = ((m : Int), bs ++ [n], if st - n = 0 then 10 else st - n, Lane.allV F (bg.set m (bs ++ [n]))) := by
        unfold rollV
        rw [hwf, if_neg (by omega), ha, last_over hne hl3 ha0 hx (by omega)]
      rw [he, hr]
      refine ⟨hgood, ?_, ?_, rfl, fun _ => rfl, fun _ h2 => absurd h2 (by rw [hn0]; decide), fun _ _ => ⟨m, hl, rfl, hgd.symm, fun h3 => absurd h3 hm⟩⟩
      · split <;> omega
      · split <;> omega
theorem rd_at (l : List Int) (i : Nat) (h : i < l.length) : rd l (i : Int) = l[i] := by
  unfold rd
  simp [List.getD_eq_getElem?_getD, h]
theorem sim_short {F : Nat} {bg : List (List Int)} {p fr : Int} {bs : List Int} {st : Int} (h : Sim F bg p fr bs st false) : bs.length ≤ 3 := by
  cases hv : Lane.newV F bg with
  | true => rw [(h.fresh rfl hv).1]; decide
  | false =>
    obtain ⟨m, h1, _, rfl, _⟩ := h.begun rfl hv
    refine (h.good.1 _ ?_).2.1
    rw [List.getD_eq_getElem?_getD, List.getElem?_eq_getElem (show m < bg.length by omega)]
    exact List.getElem_mem _
theorem play_l0 (F : Nat) (l : List Int) (hF : 1 ≤ F) (hF9 : F ≤ 10) (hl : l.length ≤ 1048576) : ∀ (k i : Nat) (bg : List (List Int)) (p fr : Int) (bs : List Int) (st : Int) (ov q : Bool), i ≤ l.length → l.length - i < k → Sim F bg p fr bs st ov →
    ∃ fr' bs' st' ov', spec_boPlay.l0 k F l l.length i fr bs st ov = some (fr', bs', st', ov', (Lane.rollsV F (l.drop i) (bg, p, q)).isSome) ∧
      ∀ s, Lane.rollsV F (l.drop i) (bg, p, q) = some s → Sim F s.1 s.2.1 fr' bs' st' ov'
  | 0, _, _, _, _, _, _, _, _, _, hk, _ => absurd hk (Nat.not_lt_zero _)
  | k + 1, i, bg, p, fr, bs, st, ov, q, hi, hk, hs => by
    unfold spec_boPlay.l0
    by_cases h : i < l.length
    · rw [if_pos (by omega), if_pos (by omega), if_pos (by omega), List.drop_eq_getElem_cons h, rd_at l i h]
      unfold Lane.rollsV
      generalize l[i] = n
      cases ov with
      | true =>
        rw [if_pos rfl, if_neg (by unfold Lane.mayV; rw [← hs.over]; simp)]
        exact ⟨fr, bs, st, true, rfl, fun s h => by cases h⟩
      | false =>
        have hst := hs.stand rfl
        rw [if_neg (by decide)]
        by_cases hn : 0 ≤ n ∧ n ≤ p
        · have h1 : spec_l1In.f n 0 st = some true := by
            unfold spec_l1In.f
            rw [if_pos hn.1, decide_eq_true (by omega)]
          have hm : Lane.mayV F (bg, p, q).1 (bg, p, q).2.1 n = true := by
            unfold Lane.mayV
            rw [← hs.over]
            simpa using hn
          rw [h1, if_pos hm, boRoll_f _ _ _ _ _ _ (by have := sim_short hs; omega)]
          simp only [Option.bind_some, if_true]
          have hw : wrap64 ((i : Int) + 1) = ((i + 1 : Nat) : Int) := by
            unfold wrap64
            omega
          rw [hw]
          have hn2 := sim_step hF hF9 hs hn
          exact play_l0 F l hF hF9 hl k (i + 1) _ _ _ _ _ _ _ (by omega) (by omega) hn2
        · have h1 : spec_l1In.f n 0 st = some false := by
            unfold spec_l1In.f
            by_cases h0 : n ≥ 0
            · rw [if_pos h0, decide_eq_false (by omega)]
            · rw [if_neg h0]
          have hm : ¬ Lane.mayV F (bg, p, q).1 (bg, p, q).2.1 n = true := by
            unfold Lane.mayV
            rw [← hs.over]
            simpa using hn
          rw [h1, if_neg hm]
          simp only [Option.bind_some]
          rw [if_neg (by decide)]
          exact ⟨fr, bs, st, false, rfl, fun s h => by cases h⟩
    · rw [if_neg (by omega), List.drop_eq_nil_of_le (by omega)]
      exact ⟨fr, bs, st, ov, rfl, fun s h => by injection h with h; subst h; exact hs⟩
/-- What the reference's game is behind rolls: whether they are some, and where one stands. -/
theorem play_f (F : Nat) (l : List Int) (hF : 1 ≤ F) (hF9 : F ≤ 10) (hl : l.length ≤ 1048576) (k : Nat) (hk : l.length < k) : ∃ fr' bs' st' ov', spec_boPlay.f k F l = some (fr', bs', st', ov', (Lane.rollsV F l ([], 10, true)).isSome) ∧
    ∀ s, Lane.rollsV F l ([], 10, true) = some s → Sim F s.1 s.2.1 fr' bs' st' ov' := by
  unfold spec_boPlay.f spec_boStart.f
  exact play_l0 F l hF hF9 hl k 0 [] 10 0 [] 10 false true (Nat.zero_le _) (by omega) (sim_start F hF)
/-- How many balls lie in the frames. -/
def ballsV : List (List Int) → Nat
  | [] => 0
  | r :: t => r.length + ballsV t
theorem ballsV_append (a b : List (List Int)) : ballsV (a ++ b) = ballsV a + ballsV b := by
  induction a with
  | nil => simp [ballsV]
  | cons r t ih => simp only [List.cons_append, ballsV, ih]; omega
theorem ballsV_set (bg : List (List Int)) (m : Nat) (h : m < bg.length) (n : Int) : ballsV (bg.set m (bg.getD m [] ++ [n])) = ballsV bg + 1 := by
  induction bg generalizing m with
  | nil => simp at h
  | cons r t ih =>
    cases m with
    | zero => simp [ballsV]; omega
    | succ m =>
      have := ih m (by simpa using h)
      simp only [List.set_cons_succ, List.getD_cons_succ, ballsV, this]
      omega
theorem ballsV_beg (F : Nat) (bg : List (List Int)) (n : Int) : ballsV (Lane.begV F bg n) = ballsV bg + 1 := by
  unfold Lane.begV
  split
  · rw [set_end, ballsV_append]
    simp [ballsV]
  · rename_i h
    refine ballsV_set bg _ ?_ n
    cases bg with
    | nil => simp [Lane.newV] at h
    | cons r t => simp
theorem rolls_balls (F : Nat) : ∀ (l : List Int) (s s' : List (List Int) × Int × Bool), Lane.rollsV F l s = some s' → ballsV s'.1 = ballsV s.1 + l.length
  | [], s, s', h => by
    unfold Lane.rollsV at h
    injection h with h
    subst h
    simp
  | n :: l, s, s', h => by
    unfold Lane.rollsV at h
    split at h
    · have := rolls_balls F l _ _ h
      rw [ballsV_beg] at this
      simp only [List.length_cons]
      omega
    · cases h
theorem balls_le : ∀ (bg : List (List Int)) (F : Nat), (∀ i (h : i < bg.length), i + 1 < F → bg[i].length ≤ 2) → (∀ r ∈ bg, r.length ≤ 3) → bg.length ≤ F → ballsV bg ≤ 2 * bg.length + 1
  | [], _, _, _, _ => by simp [ballsV]
  | r :: t, F, h1, h2, h3 => by
    simp only [ballsV, List.length_cons] at *
    cases t with
    | nil =>
      have := h2 r (by simp)
      simp [ballsV]
      omega
    | cons r2 t2 =>
      have hr := h1 0 (by simp) (by simp only [List.length_cons] at h3; omega)
      simp only [List.getElem_cons_zero] at hr
      have := balls_le (r2 :: t2) (F - 1) (fun i h hi => by
        have := h1 (i + 1) (by simp only [List.length_cons] at h ⊢; omega) (by omega)
        simpa using this) (fun x hx => h2 x (by simp [hx])) (by simp only [List.length_cons] at h3 ⊢; omega)
      simp only [List.length_cons] at this ⊢
      omega
theorem rolls_few {F : Nat} {l : List Int} {s : List (List Int) × Int × Bool} (hF9 : F ≤ 10) (h : Lane.rollsV F l ([], 10, true) = some s) (hg : Lane.Good F s.1) : l.length ≤ 21 := by
  have h1 := rolls_balls F l _ _ h
  have h2 := balls_le s.1 F hg.2.2 (fun r hr => (hg.1 r hr).2.1) hg.2.1
  have h3 := hg.2.1
  simp only [ballsV] at h1
  omega
/-- The reference's rules: whether there are rolls, as the program's reading says. -/
theorem good_f (F : Int) (l : List Int) (hl : l.length ≤ 1048576) (k : Nat) (hk : l.length < k) : spec_boGood.f k F l = some (Lane.readV F l).isSome := by
  unfold spec_boGood.f spec_boFrames.f spec_l1In.f Lane.readV
  by_cases h1 : 1 ≤ F ∧ F ≤ 10
  · rw [if_pos h1.1, decide_eq_true h1.2]
    simp only [Option.bind_some, if_true]
    obtain ⟨fr, bs, st, ov, hp, hs⟩ := play_f F.toNat l (by omega) (by omega) hl k hk
    rw [show ((F.toNat : Nat) : Int) = F by omega] at hp
    rw [hp]
    simp only [Option.bind_some]
    cases hr : Lane.rollsV F.toNat l ([], 10, true) with
    | none =>
      split
      · rfl
      · rfl
    | some s =>
      have h21 := rolls_few (by omega) hr (hs s hr).good
      rw [if_pos ⟨h1.1, h1.2, h21⟩]
  · rw [if_neg (show ¬ (1 ≤ F ∧ F ≤ 10 ∧ l.length ≤ 21) from fun h => h1 ⟨h.1, h.2.1⟩)]
    by_cases h2 : F ≥ 1
    · rw [if_pos h2, decide_eq_false (by omega)]
      rfl
    · rw [if_neg h2]
      rfl
/-- Where the reference stands behind rolls that the program reads. -/
theorem play_read {F : Int} {l : List Int} {s : List (List Int) × Int × Bool} (hl : l.length ≤ 1048576) (k : Nat) (hk : l.length < k) (h : Lane.readV F l = some s) :
    1 ≤ F ∧ F ≤ 10 ∧ l.length ≤ 21 ∧ ∃ fr bs st ov, spec_boPlay.f k F l = some (fr, bs, st, ov, true) ∧ Sim F.toNat s.1 s.2.1 fr bs st ov := by
  unfold Lane.readV at h
  split at h
  · rename_i hc
    obtain ⟨fr, bs, st, ov, hp, hs⟩ := play_f F.toNat l (by omega) (by omega) hl k hk
    rw [show ((F.toNat : Nat) : Int) = F by omega, h] at hp
    exact ⟨hc.1, hc.2.1, hc.2.2, fr, bs, st, ov, hp, hs s h⟩
  · cases h
theorem Tot.past {α : Type} {g : Nat → Option α} {r : α} (n : Nat) (h : ∀ k, n < k → g k = some r) : Tot g (Eq r) := Tot.of ⟨n + 1, fun k hk => h k (by omega)⟩
theorem good_t (F : Int) (l : List Int) (hl : l.length ≤ 1048576) : Tot (fun k => spec_boGood.f k F l) (Eq (Lane.readV F l).isSome) := Tot.past l.length fun k hk => good_f F l hl k hk
def freshV (bs : List Int) (st : Int) : Bool := match bs with
  | [] => true
  | [a] => decide (st = 10) && decide (a = 10)
  | [_, b] => decide (st = 10) && decide (b > 0)
  | _ => false
theorem boFresh_f (fr : Int) (bs : List Int) (st : Int) (ov : Bool) : spec_boFresh.f fr bs st ov = some (freshV bs st) := by
  unfold spec_boFresh.f
  match bs with
  | [] => rfl
  | [a] =>
    show (if (1 : Int) = 0 then _ else if st = 10 then (if (1 : Int) = 1 then (if (0 : Int) < 1 then (if a = 10 then some true else (if (1 : Int) = 2 then _ else some false)) else none) else _) else some false) = some (decide (st = 10) && decide (a = 10))
    by_cases h1 : st = 10 <;> by_cases h2 : a = 10 <;> simp [h1, h2]
  | [a, b] =>
    show (if (2 : Int) = 0 then _ else if st = 10 then (if (2 : Int) = 1 then _ else (if (2 : Int) = 2 then (if (1 : Int) < 2 then some (decide (b > 0)) else none) else some false)) else some false) = some (decide (st = 10) && decide (b > 0))
    by_cases h1 : st = 10 <;> simp [h1]
  | a :: b :: c :: t =>
    have h0 : ((a :: b :: c :: t).length : Int) ≠ 0 := by simp only [List.length_cons]; omega
    have h1 : ((a :: b :: c :: t).length : Int) ≠ 1 := by simp only [List.length_cons]; omega
    have h2 : ((a :: b :: c :: t).length : Int) ≠ 2 := by simp only [List.length_cons]; omega
    rw [if_neg h0, if_neg h1, if_neg h2]
    show (if st = 10 then some false else some false) = some false
    split <;> rfl
/-- The lane's own mark, and where the reference stands. -/
def Fr (p : Int) (f : Bool) (bs : List Int) (st : Int) (ov : Bool) : Prop := 1 ≤ p ∧ (f = true → p = 10) ∧ (ov = false → f = freshV bs st)
theorem fresh_step {F : Nat} {bg : List (List Int)} {p fr : Int} {bs : List Int} {st n : Int} (hF : 1 ≤ F) (hF9 : F ≤ 10) (h : Sim F bg p fr bs st false) (hn : 0 ≤ n ∧ n ≤ p) (hp : 1 ≤ p) :
    Fr (Lane.endV F ((Lane.begV F bg n).length - 1) (Lane.begV F bg n) (p - n)).1 (Lane.endV F ((Lane.begV F bg n).length - 1) (Lane.begV F bg n) (p - n)).2
      (rollV F fr (bs ++ [n]) (wrap64 (st - n))).2.1 (rollV F fr (bs ++ [n]) (wrap64 (st - n))).2.2.1 (rollV F fr (bs ++ [n]) (wrap64 (st - n))).2.2.2 := by
  have hg := h.good
  have p1 := h.p1
  obtain rfl : st = p := h.stand rfl
  have hwf : wrap64 ((F : Int) - 1) = (F : Int) - 1 := w_small (by omega)
  rw [w_small (show -1000 ≤ st - n ∧ st - n ≤ 1000 by omega)]
  refine ⟨?_, ?_, ?_⟩
  · unfold Lane.endV
    split
    · decide
    · rename_i hc
      have : st - n ≠ 0 := fun e => hc (Or.inl e)
      simp only
      omega
  · unfold Lane.endV
    split
    · exact fun _ => rfl
    · intro hc
      simp at hc
  have key : ∃ k : Nat, (Lane.begV F bg n).length - 1 = k ∧ fr = (k : Int) ∧ (Lane.begV F bg n).getD k [] = bs ++ [n] ∧ k + 1 ≤ F ∧ bs.length ≤ 2 ∧ (bs = [] → st = 10) ∧ (k + 1 < F → bs.length ≤ 1) := by
    cases hv : Lane.newV F bg with
    | true =>
      obtain ⟨rfl, rfl, rfl⟩ := h.fresh rfl hv
      have hlt := new_lt hF hv
      have hb : Lane.begV F bg n = bg ++ [[n]] := by
        unfold Lane.begV
        rw [if_pos hv, set_end]
      rw [hb]
      exact ⟨bg.length, by simp, rfl, getD_end bg [n], by omega, by simp, fun _ => rfl, fun _ => by simp⟩
    | false =>
      obtain ⟨m, hlen, rfl, hbs, hone⟩ := h.begun rfl hv
      have hmF : m + 1 ≤ F := by have := hg.2.1; omega
      have hb : Lane.begV F bg n = bg.set m (bs ++ [n]) := by
        unfold Lane.begV
        rw [if_neg (by rw [hv]; decide), hlen, Nat.add_sub_cancel, hbs]
      have hmem : bs ∈ bg := by
        rw [hbs, List.getD_eq_getElem?_getD, List.getElem?_eq_getElem (show m < bg.length by omega)]
        exact List.getElem_mem _
      obtain ⟨hne, hl3, hx⟩ := hg.1 bs hmem
      rw [hb]
      refine ⟨m, by rw [List.length_set, hlen, Nat.add_sub_cancel], rfl, getD_set bg m (by omega) _, hmF, ?_, fun e => absurd e hne, fun hm => ?_⟩
      · by_cases hm : m + 1 < F
        · obtain ⟨a, rfl, _, _⟩ := hone hm
          simp
        · have ho := h.over
          rw [all_last (by omega), show F - 1 = m by omega, ← hbs] at ho
          match bs, hl3, ho with
          | [], _, _ => simp
          | [a], _, _ => simp
          | [a, b], _, _ => simp
          | [a, b, c], _, ho => simp [lastV] at ho
      · obtain ⟨a, rfl, _, _⟩ := hone hm
        simp
  obtain ⟨k, hk, rfl, hgd, hkF, hl2, hnil, hone⟩ := key
  rw [hk]
  unfold Lane.endV rollV
  rw [hgd, hwf]
  by_cases hm : k + 1 < F
  · have hlt : (k : Int) < (F : Int) - 1 := by omega
    rw [if_pos hlt]
    have h1 := hone hm
    match bs, h1, hnil with
    | [], _, hnil =>
      obtain rfl := hnil rfl
      by_cases h10 : n = 10
      · subst h10
        intro _
        rfl
      · have hq : ¬ (10 - n = 0) := by omega
        rw [if_neg hq, if_neg (by simp)]
        intro _
        rw [if_neg]
        · show false = (decide (10 - n = 10) && decide (n = 10))
          rw [decide_eq_false h10, Bool.and_false]
        · rintro (hc | ⟨_, hc⟩)
          · exact hq hc
          · simp [Lane.doneV] at hc
            omega
    | [a], _, _ =>
      intro _
      rw [if_pos (Or.inr ⟨hlt, rfl⟩)]
      split
      · rfl
      · rfl
  · have hlt : ¬ (k : Int) < (F : Int) - 1 := by omega
    rw [if_neg hlt]
    have he : (if st - n = 0 ∨ ((k : Int) < (F : Int) - 1 ∧ Lane.doneV (bs ++ [n]) = true) then ((10 : Int), true) else (st - n, false)).2 = decide (st - n = 0) := by
      by_cases h0 : st - n = 0
      · rw [if_pos (Or.inl h0), decide_eq_true h0]
      · rw [if_neg (fun hc => hc.elim h0 (fun h => hlt h.1)), decide_eq_false h0]
    rw [he]
    match bs, hl2, hnil with
    | [], _, hnil =>
      obtain rfl := hnil rfl
      intro _
      show decide (10 - n = 0) = (decide ((if 10 - n = 0 then (10 : Int) else 10 - n) = 10) && decide (n = 10))
      by_cases h10 : n = 10
      · subst h10; rfl
      · rw [decide_eq_false h10, Bool.and_false, decide_eq_false (by omega)]
    | [a], _, _ =>
      intro _
      show decide (st - n = 0) = (decide ((if st - n = 0 then (10 : Int) else st - n) = 10) && decide (n > 0))
      by_cases h0 : st - n = 0
      · rw [if_pos h0, decide_eq_true h0, decide_eq_true (show n > 0 by omega)]
        rfl
      · rw [if_neg h0, decide_eq_false h0]
        by_cases h10 : st - n = 10
        · rw [decide_eq_false (show ¬ n > 0 by omega), Bool.and_false]
        · rw [decide_eq_false h10, Bool.false_and]
    | [a, b], _, _ =>
      intro hc
      exact absurd hc (by simp)
theorem num_t (n : Int) (h : 0 ≤ n ∧ n ≤ 9) : Tot (fun k => spec_l1Num.f k n) (Eq (⟨(Lib.decDigits n.toNat).toArray⟩ : ByteArray)) := by
  refine Tot.step (fun k => spec_l1Num.f.eq_2 _ _) (Tot.pos (by omega) (Tot.ret ?_))
  have hc : n = 0 ∨ n = 1 ∨ n = 2 ∨ n = 3 ∨ n = 4 ∨ n = 5 ∨ n = 6 ∨ n = 7 ∨ n = 8 ∨ n = 9 := by omega
  rcases hc with rfl | rfl | rfl | rfl | rfl | rfl | rfl | rfl | rfl | rfl <;> decide +kernel
theorem app_sign (out x : ByteArray) (t : List UInt8) : out ++ x ++ (⟨t.toArray⟩ : ByteArray) = out ++ (⟨(x.data.toList ++ t).toArray⟩ : ByteArray) := by
  apply ByteArray.ext
  apply Array.ext'
  simp [ByteArray.data_append]
theorem text_loop (F : Nat) (hF : 1 ≤ F) (hF9 : F ≤ 10) (l : List Int) (hl : l.length ≤ 21) (s : List (List Int) × Int × Bool) : ∀ (d i : Nat) (bg : List (List Int)) (p : Int) (f : Bool) (fr : Int) (bs : List Int) (st : Int) (ov : Bool) (out : ByteArray),
    i + d = l.length → out.size ≤ 2 * i → Sim F bg p fr bs st ov → Fr p f bs st ov → Lane.rollsV F (l.drop i) (bg, p, f) = some s →
    Tot (fun k => spec_boText.l0 k (F : Int) out l (l.length : Int) (i : Int) fr bs st ov) (Eq (out ++ (⟨(Lane.textV F (l.drop i) (bg, p, f)).toArray⟩ : ByteArray))) := by
  intro d
  induction d with
  | zero =>
    intro i bg p f fr bs st ov out hd ho hs hfr hv
    refine Tot.step (fun k => spec_boText.l0.eq_2 _ _ _ _ _ _ _ _ _ _) ?_
    refine Tot.neg (by omega) (Tot.ret ?_)
    rw [List.drop_eq_nil_of_le (by omega)]
    apply ByteArray.ext
    simp [ByteArray.data_append, Lane.textV]
  | succ d ih =>
    intro i bg p f fr bs st ov out hd ho hs hfr hv
    have hi : i < l.length := by omega
    rw [List.drop_eq_getElem_cons hi] at hv
    have hv' : (if Lane.mayV F bg p l[i] = true then Lane.rollsV F (l.drop (i + 1)) (Lane.begV F bg l[i], Lane.endV F ((Lane.begV F bg l[i]).length - 1) (Lane.begV F bg l[i]) (p - l[i])) else none) = some s := hv
    clear hv
    have e : Lane.textV F (l.drop i) (bg, p, f) = (Lane.signV p f l[i]).data.toList ++ Lane.textV F (l.drop (i + 1)) (Lane.stepT F (bg, p, f) l[i]) := by
      rw [List.drop_eq_getElem_cons hi]
      rfl
    rw [e]
    have hrd := rd_at l i hi
    generalize l[i] = n at *
    clear e
    by_cases hm : Lane.mayV F bg p n = true
    case neg => rw [if_neg hm] at hv'; cases hv'
    rw [if_pos hm] at hv'
    unfold Lane.mayV at hm
    simp only [Bool.and_eq_true, Bool.not_eq_true', decide_eq_true_eq] at hm
    obtain ⟨hall, hn⟩ := hm
    obtain rfl : ov = false := by rw [hs.over]; exact hall
    obtain ⟨q1, q2, q3⟩ := hfr
    have q3 := q3 rfl
    have p1 := hs.p1
    obtain rfl : st = p := hs.stand rfl
    have hbl : bs.length < 1000 := by have := sim_short hs; omega
    have hs' := sim_step hF hF9 hs hn
    have hf' := fresh_step hF hF9 hs hn q1
    have hr := boRoll_f (F : Int) fr bs st false n hbl
    have hw : wrap64 ((i : Int) + 1) = ((i + 1 : Nat) : Int) := w_small (by omega)
    have hsg := Lane.sign_len (fr := f) hn p1
    have fin : ∀ (x : ByteArray), Lane.signV st f n = x → Tot (fun k => spec_boText.l0 k (F : Int) (out ++ x) l (l.length : Int) ((i + 1 : Nat) : Int) (rollV F fr (bs ++ [n]) (wrap64 (st - n))).1 (rollV F fr (bs ++ [n]) (wrap64 (st - n))).2.1 (rollV F fr (bs ++ [n]) (wrap64 (st - n))).2.2.1 (rollV F fr (bs ++ [n]) (wrap64 (st - n))).2.2.2)
        (Eq (out ++ (⟨((Lane.signV st f n).data.toList ++ Lane.textV F (l.drop (i + 1)) (Lane.stepT F (bg, st, f) n)).toArray⟩ : ByteArray))) := by
      rintro _ rfl
      have hh := ih (i + 1) _ _ _ _ _ _ _ (out ++ Lane.signV st f n) (by omega) (by rw [ByteArray.size_append]; omega) hs' hf' hv'
      have e : out ++ Lane.signV st f n ++ (⟨(Lane.textV F (l.drop (i + 1)) (Lane.stepT F (bg, st, f) n)).toArray⟩ : ByteArray) = out ++ (⟨((Lane.signV st f n).data.toList ++ Lane.textV F (l.drop (i + 1)) (Lane.stepT F (bg, st, f) n)).toArray⟩ : ByteArray) := app_sign _ _ _
      rw [← e]
      exact hh
    have j : n ≠ 0 → ∀ x25 : Bool, x25 = (decide (n = 10) && f) → Tot (fun k => spec_boText.j1 k (F : Int) out n l (l.length : Int) (i : Int) x25 fr bs st false)
        (Eq (out ++ (⟨((Lane.signV st f n).data.toList ++ Lane.textV F (l.drop (i + 1)) (Lane.stepT F (bg, st, f) n)).toArray⟩ : ByteArray))) := by
      intro hn0 x25 hx
      refine Tot.step (fun k => spec_boText.j1.eq_2 _ _ _ _ _ _ _ _ _ _ _ _) ?_
      rw [hr, hw]
      refine Tot.ite (fun hx1 => ?_) (fun hx1 => ?_)
      · rw [hx1] at hx
        have hx2 : n = 10 ∧ f = true := by simpa using hx.symm
        refine Tot.pos (by omega) (Tot.some_bind (fin _ ?_))
        unfold Lane.signV
        rw [if_neg hn0, if_pos (by have := q2 hx2.2; omega), if_pos hx2.2]
      · refine Tot.ite (fun hns => ?_) (fun hns => ?_)
        · refine Tot.pos (by omega) (Tot.some_bind (fin _ ?_))
          unfold Lane.signV
          rw [if_neg hn0, if_pos hns, if_neg]
          intro hf
          apply hx1
          rw [hx, hf, Bool.and_true, decide_eq_true_eq]
          have := q2 hf
          omega
        · refine Tot.bind (num_t n (by omega)) ?_
          rintro _ rfl
          have hsv : Lane.signV st f n = (⟨(Lib.decDigits n.toNat).toArray⟩ : ByteArray) := by
            unfold Lane.signV
            rw [if_neg hn0, if_neg hns]
          rw [hsv] at hsg
          exact Tot.pos (by omega) (Tot.some_bind (fin _ hsv))
    refine Tot.step (fun k => spec_boText.l0.eq_2 _ _ _ _ _ _ _ _ _ _) ?_
    refine Tot.pos (by omega) (Tot.pos (by omega) (Tot.pos (by omega) ?_))
    rw [hrd, hr, hw]
    refine Tot.ite (fun h0 => ?_) (fun h0 => ?_)
    · refine Tot.pos (by omega) (Tot.some_bind (fin _ ?_))
      unfold Lane.signV
      rw [if_pos h0]
    · refine Tot.ite (fun h10 => ?_) (fun h10 => ?_)
      · rw [boFresh_f]
        refine Tot.some_bind (j h0 _ ?_)
        rw [decide_eq_true h10, Bool.true_and, q3]
      · exact j h0 _ (by rw [decide_eq_false h10, Bool.false_and])
theorem text_t (F : Int) (l : List Int) (s : List (List Int) × Int × Bool) (hv : Lane.readV F l = some s) : Tot (fun k => spec_boText.f k F l) (Eq (Lane.textOf F l).1) := by
  have hF : 1 ≤ F ∧ F ≤ 10 ∧ l.length ≤ 21 := by
    by_cases h : 1 ≤ F ∧ F ≤ 10 ∧ l.length ≤ 21
    · exact h
    · unfold Lane.readV at hv
      rw [if_neg h] at hv
      cases hv
  have ht : (Lane.textOf F l).1 = ⟨(Lane.textV F.toNat l ([], 10, true)).toArray⟩ := by unfold Lane.textOf; rw [hv]
  unfold Lane.readV at hv
  rw [if_pos hF] at hv
  rw [ht]
  unfold spec_boText.f spec_boStart.f
  refine Tot.some_bind ?_
  have := text_loop F.toNat (by omega) (by omega) l hF.2.2 s l.length 0 [] 10 true 0 [] 10 false ⟨#[]⟩ (by omega) (Nat.le_refl _) (sim_start F.toNat (by omega)) ⟨by decide, fun _ => rfl, fun _ => rfl⟩ hv
  rw [show ((F.toNat : Nat) : Int) = F by omega] at this
  have e : (⟨#[]⟩ : ByteArray) ++ (⟨(Lane.textV F.toNat (l.drop 0) ([], 10, true)).toArray⟩ : ByteArray) = ⟨(Lane.textV F.toNat l ([], 10, true)).toArray⟩ := by
    apply ByteArray.ext
    simp [ByteArray.data_append]
  rw [e] at this
  exact this
theorem both (F : Int) (l : List Int) (hl : l.length ≤ 1048576) : Tot (fun k => spec_RollsText.f k F l) (Eq (Lane.textOf F l)) := by
  unfold spec_RollsText.f
  refine Tot.bind (good_t F l hl) ?_
  rintro _ rfl
  cases hv : Lane.readV F l with
  | none =>
    refine Tot.neg (by simp) (Tot.ret ?_)
    unfold Lane.textOf
    rw [hv]
  | some s =>
    refine Tot.pos rfl ?_
    refine Tot.bind (text_t F l s hv) ?_
    rintro _ rfl
    refine Tot.ret ?_
    unfold Lane.textOf
    rw [hv]
theorem FnExactRollsText : laws_FnExactRollsText.Pure := by
  intro a l h1 h2 h3 h4
  refine Tot.rounds ?_
  unfold laws_FnExactRollsText.f
  refine Tot.ite (fun _ => Tot.ret rfl) (fun hn => ?_)
  have hn' : l.length ≤ 1048576 := by omega
  refine Tot.bind (toIntS_t l hn') ?_
  rintro _ rfl
  refine Tot.bind (both a l hn') ?_
  rintro _ rfl
  refine Tot.bind (toIntS_t l hn') ?_
  rintro _ rfl
  refine Tot.bind (P := (Eq (Lane.textOf a l))) (Tot.ret rfl) ?_
  rintro _ rfl
  refine Tot.pos rfl ?_
  refine Tot.step (fun k => laws_FnExactRollsText.j0.eq_2 _ _ _ _) ?_
  refine Tot.neg (by simp) ?_
  refine Tot.bind (toIntS_t l hn') ?_
  rintro _ rfl
  refine Tot.bind (eqIntS_t l (by omega)) ?_
  rintro _ rfl
  exact Tot.pos rfl (Tot.ret rfl)
end Go.Proofs.YtdioconinnpmmaaDoor.Pure
namespace Go.Proofs.YtdioconinnpmmaaDoor.PrintWords
theorem sized_ints : type_of% @Go.Proofs.YtdioconinnpmmaaDoorW.PrintWords.sized_ints := @Go.Proofs.YtdioconinnpmmaaDoorW.PrintWords.sized_ints
end Go.Proofs.YtdioconinnpmmaaDoor.PrintWords
