/- The program's BestRoll answers as the reference's does, for every number of frames, every list of at most 1048576 rolls and every total; for a longer list nothing is asked. -/
import Derived.Test.YtdioconinnpmmaaMFnExactBestRollx6
import Derived.Test.YtdioconinnpmmaaWSized
set_option linter.unusedVariables false
set_option linter.unusedSimpArgs false
namespace Go.Proofs.Ytdioconinnpmmaa.Pure
open Go.RowKit Go.Proofs.Ytdioconinnpmmaa.MFnExactBestRoll Go.Proofs.YtdioconinnpmmaaW.PrintWords Go.Proofs.YtdioconinnpmmaaW.PrintLast
/-! ### Rounds: some number of rounds on, a function tells r, and r has a property -/
def Tot {α : Type} (g : Nat → Option α) (P : α → Prop) : Prop := ∃ r, Ev g r ∧ P r
theorem Tot.ret {α : Type} {P : α → Prop} {r : α} (h : P r) : Tot (fun _ => some r) P := ⟨r, Ev.now r, h⟩
theorem Tot.pos {α : Type} {c : Prop} [Decidable c] {f g : Nat → Option α} {P : α → Prop} (h : c) (hf : Tot f P) : Tot (fun k => if c then f k else g k) P := by
  simp only [if_pos h]; exact hf
theorem Tot.neg {α : Type} {c : Prop} [Decidable c] {f g : Nat → Option α} {P : α → Prop} (h : ¬ c) (hg : Tot g P) : Tot (fun k => if c then f k else g k) P := by
  simp only [if_neg h]; exact hg
theorem Tot.ite {α : Type} {c : Prop} [Decidable c] {f g : Nat → Option α} {P : α → Prop} (hf : c → Tot f P) (hg : ¬ c → Tot g P) : Tot (fun k => if c then f k else g k) P := by
  by_cases h : c
  · exact Tot.pos h (hf h)
  · exact Tot.neg h (hg h)
theorem Tot.bind {α β : Type} {g : Nat → Option α} {f : Nat → α → Option β} {P : α → Prop} {Q : β → Prop} (h : Tot g P) (k : ∀ a, P a → Tot (fun n => f n a) Q) : Tot (fun n => (g n).bind (f n)) Q := by
  obtain ⟨a, ha, hp⟩ := h
  obtain ⟨r, hr, hq⟩ := k a hp
  exact ⟨r, Ev.bind ha hr, hq⟩
theorem Tot.some_bind {α β : Type} {f : Nat → α → Option β} {Q : β → Prop} {a : α} (k : Tot (fun n => f n a) Q) : Tot (fun n => (some a).bind (f n)) Q := k
theorem Tot.step {α : Type} {g f : Nat → Option α} {P : α → Prop} (h : ∀ k, g (k + 1) = f k) (k : Tot f P) : Tot g P := by
  obtain ⟨r, hr, hp⟩ := k
  exact ⟨r, Ev.step h hr, hp⟩
theorem Tot.congr {α : Type} {g f : Nat → Option α} {P : α → Prop} (h : ∀ k, g k = f k) (k : Tot f P) : Tot g P := by
  obtain ⟨r, hr, hp⟩ := k
  exact ⟨r, Ev.congr h hr, hp⟩
theorem Tot.mono {α : Type} {g : Nat → Option α} {P Q : α → Prop} (h : Tot g P) (k : ∀ r, P r → Q r) : Tot g Q := by
  obtain ⟨r, hr, hp⟩ := h
  exact ⟨r, hr, k r hp⟩
theorem Tot.rounds {α : Type} {g : Nat → Option α} {r : α} (h : Tot g (Eq r)) : ∃ k, g k = some r := by
  obtain ⟨_, hr, rfl⟩ := h
  exact hr.rounds
theorem Tot.ev {α : Type} {g : Nat → Option α} {r : α} (h : Tot g (Eq r)) : Ev g r := by
  obtain ⟨_, hr, rfl⟩ := h
  exact hr
theorem Tot.of {α : Type} {g : Nat → Option α} {r : α} (h : Ev g r) : Tot g (Eq r) := ⟨r, h, rfl⟩
theorem wrap_in {x : Int} (h0 : -9223372036854775808 ≤ x) (h1 : x ≤ 9223372036854775807) : wrap64 x = x := by unfold wrap64; omega
theorem wrap_nat (n : Nat) (h : n < 4611686018427387904) : wrap64 ((n : Int) + 1) = ((n + 1 : Nat) : Int) := by rw [wrap_in] <;> omega
theorem rd_mid (pre suf : List Int) (x : Int) : rd (pre ++ x :: suf) (pre.length : Int) = x := by simp [rd]
theorem rd_get (l : List Int) (i : Nat) (h : i < l.length) : rd l (i : Int) = l[i] := by simp [rd, h]
theorem set_mid {α : Type} (pre suf : List α) (x y : α) : (pre ++ x :: suf).set (pre.length : Int).toNat y = pre ++ y :: suf := by simp
theorem toIntS_loop (l : List Int) (hn : l.length ≤ 1048576) : ∀ (suf pre rest : List Int), l = pre ++ suf → rest.length = suf.length → Tot (fun k => laws_toIntS.l0 k l (pre ++ rest) (pre.length : Int)) (Eq l) := by
  intro suf
  induction suf with
  | nil =>
    intro pre rest h hr
    obtain rfl : rest = [] := List.eq_nil_of_length_eq_zero (by simpa using hr)
    refine Tot.step (fun k => laws_toIntS.l0.eq_2 _ _ _ _) ?_
    exact Tot.neg (by simp [h]) (Tot.ret (by simp [h]))
  | cons x suf ih =>
    intro pre rest h hr
    match rest, hr with
    | r :: rest, hr =>
    have hp : pre.length < l.length := by simp [h]
    have hr' : rest.length = suf.length := by simpa using hr
    have hl : l.length = pre.length + suf.length + 1 := by simp [h]; omega
    refine Tot.step (fun k => laws_toIntS.l0.eq_2 _ _ _ _) ?_
    refine Tot.pos (by omega) (Tot.pos (by omega) (Tot.pos (by simp; omega) ?_))
    rw [set_mid, wrap_nat _ (by omega), show rd l (pre.length : Int) = x by rw [h, rd_mid]]
    have := ih (pre ++ [x]) rest (by simp [h]) hr'
    simpa using this
theorem toIntS_t (l : List Int) (hn : l.length ≤ 1048576) : Tot (fun k => laws_toIntS.f k l) (Eq l) := by
  unfold laws_toIntS.f
  refine Tot.pos (by omega) (Tot.pos (by omega) ?_)
  exact toIntS_loop l hn l [] _ rfl (by simp)
theorem eqIntS_loop (l : List Int) (hn : l.length ≤ 4611686018427387903) : ∀ (suf pre : List Int), l = pre ++ suf → Tot (fun k => laws_eqIntS.l0 k l l (pre.length : Int)) (Eq true) := by
  intro suf
  induction suf with
  | nil =>
    intro pre h
    refine Tot.step (fun k => laws_eqIntS.l0.eq_2 _ _ _ _) ?_
    exact Tot.neg (by simp [h]) (Tot.ret rfl)
  | cons x suf ih =>
    intro pre h
    have hl : l.length = pre.length + suf.length + 1 := by simp [h]; omega
    refine Tot.step (fun k => laws_eqIntS.l0.eq_2 _ _ _ _) ?_
    refine Tot.pos (by omega) (Tot.pos (by omega) (Tot.pos (by omega) (Tot.pos rfl ?_)))
    rw [wrap_nat _ (by omega)]
    have := ih (pre ++ [x]) (by simp [h])
    simpa using this
theorem eqIntS_t (l : List Int) (hn : l.length ≤ 4611686018427387903) : Tot (fun k => laws_eqIntS.f k l l) (Eq true) := by
  unfold laws_eqIntS.f
  exact Tot.pos rfl (eqIntS_loop l hn l [] rfl)
theorem own_f (l : List Int) (h : l.length < 17592186044416) : spec_l1Own.f l = some l := by
  unfold spec_l1Own.f
  simp [h]
theorem boRoll_f (F fr : Int) (bs : List Int) (st : Int) (ov : Bool) (n : Int) (h : bs.length < 1000) : spec_boRoll.f F fr bs st ov n = some (rollV F fr (bs ++ [n]) (wrap64 (st - n))) := by
  unfold spec_boRoll.f
  rw [own_f _ (by omega)]
  simp only [Option.bind_some, List.length_cons, List.length_nil]
  rw [if_pos (by omega)]
theorem w_small {x : Int} (h : -1000 ≤ x ∧ x ≤ 1000) : wrap64 x = x := by
  unfold wrap64
  omega
/-- Where the reference stands, where the lane stands. -/
structure Sim (F : Nat) (bg : List (List Int)) (p : Int) (fr : Int) (bs : List Int) (st : Int) (ov : Bool) : Prop where
  good : Lane.Good F bg
  p0 : 0 ≤ p
  p1 : p ≤ 10
  over : ov = Lane.allV F bg
  stand : ov = false → st = p
  fresh : ov = false → Lane.newV F bg = true → bs = [] ∧ fr = bg.length ∧ p = 10
  begun : ov = false → Lane.newV F bg = false → ∃ m, bg.length = m + 1 ∧ fr = m ∧ bs = bg.getD m [] ∧ (m + 1 < F → ∃ a, bs = [a] ∧ a ≠ 10 ∧ p = 10 - a)
theorem sim_start (F : Nat) (hF : 1 ≤ F) : Sim F [] 10 0 [] 10 false := by
  have h : Lane.allV F [] = false := by
    unfold Lane.allV
    rw [if_pos (by simp; omega)]
  exact ⟨Lane.good_start F, by decide, by decide, h.symm, fun _ => rfl, fun _ _ => ⟨rfl, rfl, rfl⟩, fun _ h2 => by simp [Lane.newV] at h2⟩
theorem new_lt {F : Nat} {bg : List (List Int)} (hF : 1 ≤ F) (h : Lane.newV F bg = true) : bg.length < F := by
  unfold Lane.newV at h
  simp only [Bool.or_eq_true, beq_iff_eq, Bool.and_eq_true, decide_eq_true_eq] at h
  omega
theorem all_short {F : Nat} {bg : List (List Int)} (h : bg.length < F) : Lane.allV F bg = false := by
  unfold Lane.allV
  rw [if_pos h]
theorem set_end (bg : List (List Int)) (r : List Int) : (bg ++ [[]]).set bg.length r = bg ++ [r] := by
  rw [List.set_append_right _ _ (Nat.le_refl _)]
  simp
theorem getD_end (bg : List (List Int)) (r : List Int) : (bg ++ [r]).getD bg.length [] = r := by simp
theorem getD_set (bg : List (List Int)) (m : Nat) (h : m < bg.length) (r : List Int) : (bg.set m r).getD m [] = r := by simp [List.getD_eq_getElem?_getD, h]
def lastV (r : List Int) : Bool := match r with
  | [a, b] => (a != 10) && decide (a + b < 10)
  | [_, _, _] => true
  | _ => false
theorem all_last {F : Nat} {bg : List (List Int)} (h : ¬ bg.length < F) : Lane.allV F bg = lastV (bg.getD (F - 1) []) := by
  unfold Lane.allV lastV
  rw [if_neg h]
  generalize bg.getD (F - 1) [] = r
  match r with
  | [] => rfl
  | [a] => rfl
  | [a, b] => rfl
  | [a, b, c] => rfl
  | a :: b :: c :: d :: e => rfl
theorem last_over {bs : List Int} {n : Int} (hne : bs ≠ []) (hl3 : bs.length ≤ 3) (h0 : lastV bs = false) (hx : ∀ x ∈ bs, 0 ≤ x ∧ x ≤ 10) (hn : 0 ≤ n ∧ n ≤ 10) :
    (if (bs ++ [n]).length = 3 then true else if (bs ++ [n]).length = 2 then (if rd (bs ++ [n]) 0 < 10 then decide (wrap64 (rd (bs ++ [n]) 0 + rd (bs ++ [n]) 1) < 10) else false) else false) = lastV (bs ++ [n]) := by
  match bs, hne, hl3, h0, hx with
  | [a], _, _, _, hx =>
    have hxa := hx a (by simp)
    show (if a < 10 then decide (wrap64 (a + n) < 10) else false) = lastV [a, n]
    rw [w_small (by omega)]
    show _ = ((a != 10) && decide (a + n < 10))
    by_cases h10 : a < 10
    · have hb2 : (a != 10) = true := by simp [bne]; omega
      rw [if_pos h10, hb2, Bool.true_and]
    · have hb2 : (a != 10) = false := by simp [bne]; omega
      rw [if_neg h10, hb2, Bool.false_and]
  | [a, b], _, _, _, _ => rfl
  | [a, b, c], _, _, ha0, _ => exact absurd ha0 (by simp [lastV])
set_option maxHeartbeats 1000000 in
theorem sim_step {F : Nat} {bg : List (List Int)} {p fr : Int} {bs : List Int} {st n : Int} (hF : 1 ≤ F) (hF9 : F ≤ 10) (h : Sim F bg p fr bs st false) (hn : 0 ≤ n ∧ n ≤ p) :
    Sim F (Lane.begV F bg n) (Lane.endV F ((Lane.begV F bg n).length - 1) (Lane.begV F bg n) (p - n)).1 (rollV F fr (bs ++ [n]) (wrap64 (st - n))).1 (rollV F fr (bs ++ [n]) (wrap64 (st - n))).2.1
      (rollV F fr (bs ++ [n]) (wrap64 (st - n))).2.2.1 (rollV F fr (bs ++ [n]) (wrap64 (st - n))).2.2.2 := by
  obtain ⟨hg, p0, p1, ho, hs, hnew, hold⟩ := h
  have hs := hs rfl
  have hmay : Lane.mayV F bg p n = true := by
    unfold Lane.mayV
    rw [← ho]
    simpa using hn
  have hgood := Lane.good_beg hF hg hmay p1
  have hend := fun k (b : List (List Int)) => Lane.end_pins (F := F) (k := k) (bg := b) hn p1
  have hwf : wrap64 ((F : Int) - 1) = (F : Int) - 1 := w_small (by omega)
  subst hs
  rw [w_small (show -1000 ≤ st - n ∧ st - n ≤ 1000 by omega)]
  cases hv : Lane.newV F bg with
  | true =>
    obtain ⟨rfl, rfl, rfl⟩ := hnew rfl hv
    have hlt := new_lt hF hv
    have hb : Lane.begV F bg n = bg ++ [[n]] := by
      unfold Lane.begV
      rw [if_pos hv, set_end]
    rw [hb] at hgood ⊢
    have hl : (bg ++ [[n]]).length = bg.length + 1 := by simp
    have hgd : (bg ++ [[n]]).getD bg.length [] = [n] := getD_end bg [n]
    have he : Lane.endV F ((bg ++ [[n]]).length - 1) (bg ++ [[n]]) (10 - n) = if n = 10 then (10, true) else (10 - n, false) := by
      unfold Lane.endV
      rw [hl, Nat.add_sub_cancel, hgd]
      by_cases h10 : n = 10
      · rw [if_pos (Or.inl (by omega)), if_pos h10]
      · rw [if_neg, if_neg h10]
        rintro (hc | ⟨_, hc⟩)
        · omega
        · simp [Lane.doneV] at hc
          omega
    rw [he]
    have hn1 : Lane.newV F (bg ++ [[n]]) = (decide (bg.length + 1 < F) && (n == 10)) := by
      unfold Lane.newV
      rw [hl, Nat.add_sub_cancel, hgd]
      have : decide (((bg.length + 1 : Nat) : Int) - 1 < (F : Int) - 1) = decide (bg.length + 1 < F) := by
        congr 1
        apply propext
        omega
      rw [this]
      simp [Lane.doneV]
    by_cases hm : bg.length + 1 < F
    · have ha := all_short (bg := bg ++ [[n]]) (F := F) (by omega)
      by_cases h10 : n = 10
      · subst h10
        have hr : rollV F bg.length ([] ++ [10]) (10 - 10) = ((bg.length : Int) + 1, [], 10, false) := by
          unfold rollV
          rw [hwf, if_pos (by omega), if_pos (by omega), w_small (by omega)]
        rw [hr, if_pos rfl]
        exact ⟨hgood, by decide, by decide, ha.symm, fun _ => rfl, fun _ _ => ⟨rfl, by simp, rfl⟩, fun _ h2 => by rw [hn1] at h2; simp [hm] at h2⟩
      · have hr : rollV F bg.length ([] ++ [n]) (10 - n) = ((bg.length : Int), [n], 10 - n, false) := by
          unfold rollV
          rw [hwf, if_pos (by omega), if_neg (by omega)]
          rfl
        rw [hr, if_neg h10]
        exact ⟨hgood, by simp only; omega, by simp only; omega, ha.symm, fun _ => rfl, fun _ h2 => by rw [hn1] at h2; simp [h10] at h2, fun _ _ => ⟨bg.length, hl, rfl, hgd.symm, fun _ => ⟨n, rfl, h10, rfl⟩⟩⟩
    · have hFl : F - 1 = bg.length := by omega
      have ha : Lane.allV F (bg ++ [[n]]) = false := by
        unfold Lane.allV
        rw [if_neg (by omega), hFl, hgd]
      have hr : rollV F bg.length ([] ++ [n]) (10 - n) = ((bg.length : Int), [n], if 10 - n = 0 then 10 else 10 - n, false) := by
        unfold rollV
        rw [hwf, if_neg (by omega)]
        rfl
      rw [hr]
      have hq : (if n = 10 then ((10 : Int), true) else (10 - n, false)).1 = if 10 - n = 0 then 10 else 10 - n := by
        by_cases h10 : n = 10
        · rw [if_pos h10, if_pos (by omega)]
        · rw [if_neg h10, if_neg (by omega)]
      rw [hq]
      refine ⟨hgood, ?_, ?_, ha.symm, fun _ => rfl, fun _ h2 => by rw [hn1] at h2; simp [hm] at h2, fun _ _ => ⟨bg.length, hl, rfl, hgd.symm, fun h3 => absurd h3 hm⟩⟩
      · split <;> omega
      · split <;> omega
  | false =>
    obtain ⟨m, hlen, rfl, hbs, hone⟩ := hold rfl hv
    have hmF : m + 1 ≤ F := by have := hg.2.1; omega
    have hb : Lane.begV F bg n = bg.set m (bs ++ [n]) := by
      unfold Lane.begV
      rw [if_neg (by rw [hv]; decide), hlen, Nat.add_sub_cancel, hbs]
    rw [hb] at hgood ⊢
    have hl : (bg.set m (bs ++ [n])).length = m + 1 := by rw [List.length_set, hlen]
    have hgd : (bg.set m (bs ++ [n])).getD m [] = bs ++ [n] := getD_set bg m (by omega) _
    by_cases hm : m + 1 < F
    · obtain ⟨a, rfl, ha10, rfl⟩ := hone hm
      have ha := all_short (bg := bg.set m ([a] ++ [n])) (F := F) (by omega)
      have he : Lane.endV F ((bg.set m ([a] ++ [n])).length - 1) (bg.set m ([a] ++ [n])) (10 - a - n) = (10, true) := by
        unfold Lane.endV
        rw [hl, Nat.add_sub_cancel, hgd, if_pos]
        exact Or.inr ⟨by omega, rfl⟩
      have hr : rollV F m ([a] ++ [n]) (10 - a - n) = ((m : Int) + 1, [], 10, false) := by
        unfold rollV
        rw [hwf, if_pos (by omega), w_small (by omega)]
        split
        · rfl
        · rfl
      rw [he, hr]
      refine ⟨hgood, by decide, by decide, ha.symm, fun _ => rfl, fun _ _ => ⟨rfl, by rw [hl]; simp, rfl⟩, fun _ h2 => ?_⟩
      exfalso
      unfold Lane.newV at h2
      rw [hl, Nat.add_sub_cancel, hgd] at h2
      simp [Lane.doneV] at h2
      omega
    · have hFm : F = m + 1 := by omega
      have hmem : bs ∈ bg := by
        rw [hbs, List.getD_eq_getElem?_getD, List.getElem?_eq_getElem (show m < bg.length by omega)]
        exact List.getElem_mem _
      obtain ⟨hne, hl3, hx⟩ := hg.1 bs hmem
      have hn0 : Lane.newV F (bg.set m (bs ++ [n])) = false := by
        unfold Lane.newV
        rw [hl]
        simp
        omega
      have he : (Lane.endV F ((bg.set m (bs ++ [n])).length - 1) (bg.set m (bs ++ [n])) (st - n)).1 = if st - n = 0 then 10 else st - n := by
        unfold Lane.endV
        rw [hl, Nat.add_sub_cancel]
        by_cases h0 : st - n = 0
        · rw [if_pos (Or.inl h0), if_pos h0]
        · rw [if_neg (by rintro (hc | ⟨hc, _⟩) <;> omega), if_neg h0]
      have ha : Lane.allV F (bg.set m (bs ++ [n])) = lastV (bs ++ [n]) := by
        rw [all_last (by omega), show F - 1 = m by omega, hgd]
      have ha0 : lastV bs = false := by
        rw [all_last (by omega), show F - 1 = m by omega, ← hbs] at ho
        exact ho.symm
      have hr : rollV F m (bs ++ [n]) (st - n) = ((m : Int), bs ++ [n], if st - n = 0 then 10 else st - n, Lane.allV F (bg.set m (bs ++ [n]))) := by
        unfold rollV
        rw [hwf, if_neg (by omega), ha, last_over hne hl3 ha0 hx (by omega)]
      rw [he, hr]
      refine ⟨hgood, ?_, ?_, rfl, fun _ => rfl, fun _ h2 => absurd h2 (by rw [hn0]; decide), fun _ _ => ⟨m, hl, rfl, hgd.symm, fun h3 => absurd h3 hm⟩⟩
      · split <;> omega
      · split <;> omega
theorem rd_at (l : List Int) (i : Nat) (h : i < l.length) : rd l (i : Int) = l[i] := by
  unfold rd
  simp [List.getD_eq_getElem?_getD, h]
theorem sim_short {F : Nat} {bg : List (List Int)} {p fr : Int} {bs : List Int} {st : Int} (h : Sim F bg p fr bs st false) : bs.length ≤ 3 := by
  cases hv : Lane.newV F bg with
  | true => rw [(h.fresh rfl hv).1]; decide
  | false =>
    obtain ⟨m, h1, _, rfl, _⟩ := h.begun rfl hv
    refine (h.good.1 _ ?_).2.1
    rw [List.getD_eq_getElem?_getD, List.getElem?_eq_getElem (show m < bg.length by omega)]
    exact List.getElem_mem _
theorem play_l0 (F : Nat) (l : List Int) (hF : 1 ≤ F) (hF9 : F ≤ 10) (hl : l.length ≤ 1048576) : ∀ (k i : Nat) (bg : List (List Int)) (p fr : Int) (bs : List Int) (st : Int) (ov q : Bool), i ≤ l.length → l.length - i < k → Sim F bg p fr bs st ov →
    ∃ fr' bs' st' ov', spec_boPlay.l0 k F l l.length i fr bs st ov = some (fr', bs', st', ov', (Lane.rollsV F (l.drop i) (bg, p, q)).isSome) ∧
      ∀ s, Lane.rollsV F (l.drop i) (bg, p, q) = some s → Sim F s.1 s.2.1 fr' bs' st' ov'
  | 0, _, _, _, _, _, _, _, _, _, hk, _ => absurd hk (Nat.not_lt_zero _)
  | k + 1, i, bg, p, fr, bs, st, ov, q, hi, hk, hs => by
    unfold spec_boPlay.l0
    by_cases h : i < l.length
    · rw [if_pos (by omega), if_pos (by omega), if_pos (by omega), List.drop_eq_getElem_cons h, rd_at l i h]
      unfold Lane.rollsV
      generalize l[i] = n
      cases ov with
      | true =>
        rw [if_pos rfl, if_neg (by unfold Lane.mayV; rw [← hs.over]; simp)]
        exact ⟨fr, bs, st, true, rfl, fun s h => by cases h⟩
      | false =>
        have hst := hs.stand rfl
        rw [if_neg (by decide)]
        by_cases hn : 0 ≤ n ∧ n ≤ p
        · have h1 : spec_l1In.f n 0 st = some true := by
            unfold spec_l1In.f
            rw [if_pos hn.1, decide_eq_true (by omega)]
          have hm : Lane.mayV F (bg, p, q).1 (bg, p, q).2.1 n = true := by
            unfold Lane.mayV
            rw [← hs.over]
            simpa using hn
          rw [h1, if_pos hm, boRoll_f _ _ _ _ _ _ (by have := sim_short hs; omega)]
          simp only [Option.bind_some, if_true]
          have hw : wrap64 ((i : Int) + 1) = ((i + 1 : Nat) : Int) := by
            unfold wrap64
            omega
          rw [hw]
          have hn2 := sim_step hF hF9 hs hn
          exact play_l0 F l hF hF9 hl k (i + 1) _ _ _ _ _ _ _ (by omega) (by omega) hn2
        · have h1 : spec_l1In.f n 0 st = some false := by
            unfold spec_l1In.f
            by_cases h0 : n ≥ 0
            · rw [if_pos h0, decide_eq_false (by omega)]
            · rw [if_neg h0]
          have hm : ¬ Lane.mayV F (bg, p, q).1 (bg, p, q).2.1 n = true := by
            unfold Lane.mayV
            rw [← hs.over]
            simpa using hn
          rw [h1, if_neg hm]
          simp only [Option.bind_some]
          rw [if_neg (by decide)]
          exact ⟨fr, bs, st, false, rfl, fun s h => by cases h⟩
    · rw [if_neg (by omega), List.drop_eq_nil_of_le (by omega)]
      exact ⟨fr, bs, st, ov, rfl, fun s h => by injection h with h; subst h; exact hs⟩
/-- What the reference's game is behind rolls: whether they are some, and where one stands. -/
theorem play_f (F : Nat) (l : List Int) (hF : 1 ≤ F) (hF9 : F ≤ 10) (hl : l.length ≤ 1048576) (k : Nat) (hk : l.length < k) : ∃ fr' bs' st' ov', spec_boPlay.f k F l = some (fr', bs', st', ov', (Lane.rollsV F l ([], 10, true)).isSome) ∧
    ∀ s, Lane.rollsV F l ([], 10, true) = some s → Sim F s.1 s.2.1 fr' bs' st' ov' := by
  unfold spec_boPlay.f spec_boStart.f
  exact play_l0 F l hF hF9 hl k 0 [] 10 0 [] 10 false true (Nat.zero_le _) (by omega) (sim_start F hF)
/-- How many balls lie in the frames. -/
def ballsV : List (List Int) → Nat
  | [] => 0
  | r :: t => r.length + ballsV t
theorem ballsV_append (a b : List (List Int)) : ballsV (a ++ b) = ballsV a + ballsV b := by
  induction a with
  | nil => simp [ballsV]
  | cons r t ih => simp only [List.cons_append, ballsV, ih]; omega
theorem ballsV_set (bg : List (List Int)) (m : Nat) (h : m < bg.length) (n : Int) : ballsV (bg.set m (bg.getD m [] ++ [n])) = ballsV bg + 1 := by
  induction bg generalizing m with
  | nil => simp at h
  | cons r t ih =>
    cases m with
    | zero => simp [ballsV]; omega
    | succ m =>
      have := ih m (by simpa using h)
      simp only [List.set_cons_succ, List.getD_cons_succ, ballsV, this]
      omega
theorem ballsV_beg (F : Nat) (bg : List (List Int)) (n : Int) : ballsV (Lane.begV F bg n) = ballsV bg + 1 := by
  unfold Lane.begV
  split
  · rw [set_end, ballsV_append]
    simp [ballsV]
  · rename_i h
    refine ballsV_set bg _ ?_ n
    cases bg with
    | nil => simp [Lane.newV] at h
    | cons r t => simp
theorem rolls_balls (F : Nat) : ∀ (l : List Int) (s s' : List (List Int) × Int × Bool), Lane.rollsV F l s = some s' → ballsV s'.1 = ballsV s.1 + l.length
  | [], s, s', h => by
    unfold Lane.rollsV at h
    injection h with h
    subst h
    simp
  | n :: l, s, s', h => by
    unfold Lane.rollsV at h
    split at h
    · have := rolls_balls F l _ _ h
      rw [ballsV_beg] at this
      simp only [List.length_cons]
      omega
    · cases h
theorem balls_le : ∀ (bg : List (List Int)) (F : Nat), (∀ i (h : i < bg.length), i + 1 < F → bg[i].length ≤ 2) → (∀ r ∈ bg, r.length ≤ 3) → bg.length ≤ F → ballsV bg ≤ 2 * bg.length + 1
  | [], _, _, _, _ => by simp [ballsV]
  | r :: t, F, h1, h2, h3 => by
    simp only [ballsV, List.length_cons] at *
    cases t with
    | nil =>
      have := h2 r (by simp)
      simp [ballsV]
      omega
    | cons r2 t2 =>
      have hr := h1 0 (by simp) (by simp only [List.length_cons] at h3; omega)
      simp only [List.getElem_cons_zero] at hr
      have := balls_le (r2 :: t2) (F - 1) (fun i h hi => by
        have := h1 (i + 1) (by simp only [List.length_cons] at h ⊢; omega) (by omega)
        simpa using this) (fun x hx => h2 x (by simp [hx])) (by simp only [List.length_cons] at h3 ⊢; omega)
      simp only [List.length_cons] at this ⊢
      omega
theorem rolls_few {F : Nat} {l : List Int} {s : List (List Int) × Int × Bool} (hF9 : F ≤ 10) (h : Lane.rollsV F l ([], 10, true) = some s) (hg : Lane.Good F s.1) : l.length ≤ 21 := by
  have h1 := rolls_balls F l _ _ h
  have h2 := balls_le s.1 F hg.2.2 (fun r hr => (hg.1 r hr).2.1) hg.2.1
  have h3 := hg.2.1
  simp only [ballsV] at h1
  omega
/-- The reference's rules: whether there are rolls, as the program's reading says. -/
theorem good_f (F : Int) (l : List Int) (hl : l.length ≤ 1048576) (k : Nat) (hk : l.length < k) : spec_boGood.f k F l = some (Lane.readV F l).isSome := by
  unfold spec_boGood.f spec_boFrames.f spec_l1In.f Lane.readV
  by_cases h1 : 1 ≤ F ∧ F ≤ 10
  · rw [if_pos h1.1, decide_eq_true h1.2]
    simp only [Option.bind_some, if_true]
    obtain ⟨fr, bs, st, ov, hp, hs⟩ := play_f F.toNat l (by omega) (by omega) hl k hk
    rw [show ((F.toNat : Nat) : Int) = F by omega] at hp
    rw [hp]
    simp only [Option.bind_some]
    cases hr : Lane.rollsV F.toNat l ([], 10, true) with
    | none =>
      split
      · rfl
      · rfl
    | some s =>
      have h21 := rolls_few (by omega) hr (hs s hr).good
      rw [if_pos ⟨h1.1, h1.2, h21⟩]
  · rw [if_neg (show ¬ (1 ≤ F ∧ F ≤ 10 ∧ l.length ≤ 21) from fun h => h1 ⟨h.1, h.2.1⟩)]
    by_cases h2 : F ≥ 1
    · rw [if_pos h2, decide_eq_false (by omega)]
      rfl
    · rw [if_neg h2]
      rfl
/-- Where the reference stands behind rolls that the program reads. -/
theorem play_read {F : Int} {l : List Int} {s : List (List Int) × Int × Bool} (hl : l.length ≤ 1048576) (k : Nat) (hk : l.length < k) (h : Lane.readV F l = some s) :
    1 ≤ F ∧ F ≤ 10 ∧ l.length ≤ 21 ∧ ∃ fr bs st ov, spec_boPlay.f k F l = some (fr, bs, st, ov, true) ∧ Sim F.toNat s.1 s.2.1 fr bs st ov := by
  unfold Lane.readV at h
  split at h
  · rename_i hc
    obtain ⟨fr, bs, st, ov, hp, hs⟩ := play_f F.toNat l (by omega) (by omega) hl k hk
    rw [show ((F.toNat : Nat) : Int) = F by omega, h] at hp
    exact ⟨hc.1, hc.2.1, hc.2.2, fr, bs, st, ov, hp, hs s h⟩
  · cases h
theorem Tot.past {α : Type} {g : Nat → Option α} {r : α} (n : Nat) (h : ∀ k, n < k → g k = some r) : Tot g (Eq r) := Tot.of ⟨n + 1, fun k hk => h k (by omega)⟩
theorem good_t (F : Int) (l : List Int) (hl : l.length ≤ 1048576) : Tot (fun k => spec_boGood.f k F l) (Eq (Lane.readV F l).isSome) := Tot.past l.length fun k hk => good_f F l hl k hk
theorem rdL_mid (pre suf : List (List Int)) (r : List Int) : rd_L1 (pre ++ r :: suf) (pre.length : Int) = r := by simp [rd_L1]
theorem rdL_get (l : List (List Int)) (i : Nat) : rd_L1 l (i : Int) = l.getD i [] := by simp [rd_L1]
theorem split_l0 (F : Nat) (l : List Int) (hF : 1 ≤ F) (hF9 : F ≤ 10) (hl : l.length ≤ 1048576) : ∀ (k i : Nat) (bg : List (List Int)) (p fr : Int) (bs : List Int) (st : Int) (ov q : Bool) (s : List (List Int) × Int × Bool), i ≤ l.length → l.length - i < k → Sim F bg p fr bs st ov →
    Lane.rollsV F (l.drop i) (bg, p, q) = some s → spec_boSplit.l0 k F bg l l.length i fr bs st ov = some s.1
  | 0, _, _, _, _, _, _, _, _, _, _, hk, _, _ => absurd hk (Nat.not_lt_zero _)
  | k + 1, i, bg, p, fr, bs, st, ov, q, s, hi, hk, hs, hr => by
    unfold spec_boSplit.l0
    by_cases h : i < l.length
    · rw [List.drop_eq_getElem_cons h] at hr
      rw [if_pos (by omega), if_pos (by omega), if_pos (by omega), rd_at l i h]
      unfold Lane.rollsV at hr
      generalize l[i] = n at *
      split at hr
      · rename_i hm
        have hm2 := hm
        unfold Lane.mayV at hm2
        rw [← hs.over] at hm2
        simp only [Bool.and_eq_true, Bool.not_eq_true', decide_eq_true_eq] at hm2
        obtain ⟨rfl, hn⟩ := hm2
        have hn2 := sim_step hF hF9 hs hn
        have hsh := sim_short hs
        have hw : wrap64 ((i : Int) + 1) = ((i + 1 : Nat) : Int) := by
          unfold wrap64
          omega
        have hlen := hs.good.2.1
        cases hv : Lane.newV F bg with
        | true =>
          obtain ⟨rfl, rfl, rfl⟩ := hs.fresh rfl hv
          rw [if_pos (show (([] : List Int).length : Int) = 0 from rfl), if_pos (by omega)]
          simp only [Option.bind_some]
          rw [if_pos (by omega), if_pos (by simp; omega), rdL_mid bg [] [], if_pos (by decide), boRoll_f _ _ _ _ _ _ (by simp)]
          simp only [Option.bind_some, Int.toNat_natCast]
          have hb : (bg ++ [[]]).set bg.length ([] ++ [n]) = Lane.begV F bg n := by
            unfold Lane.begV
            rw [if_pos hv]
            rfl
          rw [hb, hw]
          exact split_l0 F l hF hF9 hl k (i + 1) _ _ _ _ _ _ _ s (by omega) (by omega) hn2 hr
        | false =>
          obtain ⟨m, hm1, rfl, hbs, _⟩ := hs.begun rfl hv
          have hmem : bs ∈ bg := by
            rw [hbs, List.getD_eq_getElem?_getD, List.getElem?_eq_getElem (show m < bg.length by omega)]
            exact List.getElem_mem _
          have hne : bs.length ≠ 0 := by
            have := (hs.good.1 bs hmem).1
            intro h0
            exact this (List.eq_nil_of_length_eq_zero h0)
          rw [if_neg (by omega), if_pos (by omega), if_pos (by omega), rdL_get, ← hbs, if_pos (by omega), boRoll_f _ _ _ _ _ _ (by omega)]
          simp only [Option.bind_some, Int.toNat_natCast]
          have hb : bg.set m (bs ++ [n]) = Lane.begV F bg n := by
            unfold Lane.begV
            rw [if_neg (by rw [hv]; decide), hm1, Nat.add_sub_cancel, ← hbs]
          rw [hb, hw]
          exact split_l0 F l hF hF9 hl k (i + 1) _ _ _ _ _ _ _ s (by omega) (by omega) hn2 hr
      · cases hr
    · rw [List.drop_eq_nil_of_le (by omega)] at hr
      rw [if_neg (by omega)]
      unfold Lane.rollsV at hr
      injection hr with hr
      subst hr
      rfl
/-- The balls of each frame, as the reference tells them: as the lane holds them. -/
theorem split_read {F : Int} {l : List Int} {s : List (List Int) × Int × Bool} (hl : l.length ≤ 1048576) (k : Nat) (hk : l.length < k) (h : Lane.readV F l = some s) : spec_boSplit.f k F l = some s.1 := by
  unfold Lane.readV at h
  split at h
  · rename_i hc
    have := split_l0 F.toNat l (by omega) (by omega) hl k 0 [] 10 0 [] 10 false true s (Nat.zero_le _) (by omega) (sim_start F.toNat (by omega)) h
    rw [show ((F.toNat : Nat) : Int) = F by omega] at this
    unfold spec_boSplit.f spec_boStart.f
    exact this
  · cases h
def Closed (r : List Int) : Prop := r = [10] ∨ ∃ a b, r = [a, b] ∧ a ≠ 10 ∧ a + b ≤ 10
/-- The frame that has begun last, and how many pins stand behind it. -/
def Cur (F m : Nat) (r : List Int) (p : Int) : Prop :=
  (m + 1 < F ∧ (Closed r ∧ p = 10 ∨ ∃ a, r = [a] ∧ a ≠ 10 ∧ p = 10 - a)) ∨
  (m + 1 = F ∧ ((∃ a, r = [a] ∧ (a = 10 ∧ p = 10 ∨ a ≠ 10 ∧ p = 10 - a)) ∨ (∃ a b, r = [a, b] ∧ (a = 10 ∨ a + b ≤ 10)) ∨ ∃ a b c, r = [a, b, c] ∧ (a = 10 ∨ a + b = 10)))
/-- What frames can be. -/
def Shp (F : Nat) (bg : List (List Int)) (p : Int) : Prop := (bg = [] ∧ p = 10) ∨ ∃ pre r, bg = pre ++ [r] ∧ (∀ x ∈ pre, Closed x) ∧ Cur F pre.length r p
theorem closed_done {r : List Int} (h : Closed r) : Lane.doneV r = true := by
  rcases h with rfl | ⟨a, b, rfl, _, _⟩
  · rfl
  · rfl
theorem beg_new {F : Nat} {bg : List (List Int)} {n : Int} (h : Lane.newV F bg = true) : Lane.begV F bg n = bg ++ [[n]] := by
  unfold Lane.begV
  rw [if_pos h, set_end]
theorem getD_last (pre : List (List Int)) (r : List Int) : (pre ++ [r]).getD ((pre ++ [r]).length - 1) [] = r := by
  rw [List.length_append, List.length_singleton, Nat.add_sub_cancel]
  exact getD_end pre r
theorem beg_old {F : Nat} {pre : List (List Int)} {r : List Int} {n : Int} (h : Lane.newV F (pre ++ [r]) = false) : Lane.begV F (pre ++ [r]) n = pre ++ [r ++ [n]] := by
  unfold Lane.begV
  rw [if_neg (by rw [h]; decide), getD_last, List.length_append, List.length_singleton, Nat.add_sub_cancel, List.set_append_right _ _ (Nat.le_refl _)]
  simp
theorem new_old (F : Nat) (pre : List (List Int)) (r : List Int) : Lane.newV F (pre ++ [r]) = (decide (pre.length + 1 < F) && Lane.doneV r) := by
  unfold Lane.newV
  rw [getD_last]
  have h0 : ((pre ++ [r]).length == 0) = false := by simp
  have h1 : decide (((pre ++ [r]).length : Int) - 1 < (F : Int) - 1) = decide (pre.length + 1 < F) := by
    congr 1
    apply propext
    simp
    omega
  rw [h0, h1, Bool.false_or]
theorem end_at (F : Nat) (pre : List (List Int)) (r : List Int) (p : Int) : (Lane.endV F ((pre ++ [r]).length - 1) (pre ++ [r]) p).1 = if p = 0 ∨ (pre.length + 1 < F ∧ Lane.doneV r = true) then 10 else p := by
  unfold Lane.endV
  rw [getD_last, List.length_append, List.length_singleton, Nat.add_sub_cancel]
  by_cases h : p = 0 ∨ (pre.length + 1 < F ∧ Lane.doneV r = true)
  · rw [if_pos h, if_pos (h.imp id (fun h => ⟨by omega, h.2⟩))]
  · rw [if_neg h, if_neg (fun h2 => h (h2.imp id (fun h => ⟨by omega, h.2⟩)))]
/-- The first ball of a frame. -/
theorem cur_one {F m : Nat} {n : Int} (hm : m < F) (hn : 0 ≤ n ∧ n ≤ 10) : Cur F m [n] (if 10 - n = 0 ∨ (m + 1 < F ∧ Lane.doneV [n] = true) then 10 else 10 - n) := by
  have hd : Lane.doneV [n] = (n == 10) := rfl
  by_cases h10 : n = 10
  · subst h10
    have e : (10 : Int) - 10 = 0 ∨ (m + 1 < F ∧ Lane.doneV [10] = true) := Or.inl rfl
    rw [if_pos e]
    by_cases h : m + 1 < F
    · exact Or.inl ⟨h, Or.inl ⟨Or.inl rfl, rfl⟩⟩
    · exact Or.inr ⟨by omega, Or.inl ⟨10, rfl, Or.inl ⟨rfl, rfl⟩⟩⟩
  · rw [if_neg (by rw [hd]; simp only [beq_iff_eq]; omega)]
    by_cases h : m + 1 < F
    · exact Or.inl ⟨h, Or.inr ⟨n, rfl, h10, rfl⟩⟩
    · exact Or.inr ⟨by omega, Or.inl ⟨n, rfl, Or.inr ⟨h10, rfl⟩⟩⟩
theorem shp_step {F : Nat} {bg : List (List Int)} {p n : Int} (hF : 1 ≤ F) (h : Shp F bg p) (hm : Lane.mayV F bg p n = true) (hp : p ≤ 10) :
    Shp F (Lane.begV F bg n) (Lane.endV F ((Lane.begV F bg n).length - 1) (Lane.begV F bg n) (p - n)).1 := by
  unfold Lane.mayV at hm
  simp only [Bool.and_eq_true, Bool.not_eq_true', decide_eq_true_eq] at hm
  obtain ⟨hall, hn⟩ := hm
  rcases h with ⟨rfl, rfl⟩ | ⟨pre, r, rfl, hpre, hc⟩
  · rw [beg_new (by rfl)]
    refine Or.inr ⟨[], [n], rfl, by simp, ?_⟩
    rw [end_at]
    exact cur_one hF hn
  · rcases hc with ⟨hlt, ⟨hcl, rfl⟩ | ⟨a, rfl, ha, rfl⟩⟩ | ⟨heq, hc⟩
    · rw [beg_new (by rw [new_old, closed_done hcl, decide_eq_true hlt]; rfl), end_at]
      refine Or.inr ⟨pre ++ [r], [n], rfl, ?_, ?_⟩
      · intro x hx
        rcases List.mem_append.mp hx with hx | hx
        · exact hpre x hx
        · rw [List.mem_singleton] at hx
          rw [hx]
          exact hcl
      · exact cur_one (by simp; omega) hn
    · have hd : Lane.doneV [a] = false := by
        show (a == 10) = false
        simpa using ha
      rw [beg_old (by rw [new_old, hd, Bool.and_false]), end_at]
      refine Or.inr ⟨pre, [a] ++ [n], rfl, hpre, Or.inl ⟨hlt, Or.inl ⟨Or.inr ⟨a, n, rfl, ha, by omega⟩, ?_⟩⟩⟩
      rw [if_pos (Or.inr ⟨hlt, rfl⟩)]
    · rw [beg_old (by rw [new_old, decide_eq_false (by omega), Bool.false_and])]
      refine Or.inr ⟨pre, r ++ [n], rfl, hpre, Or.inr ⟨heq, ?_⟩⟩
      rw [all_last (by simp; omega), show F - 1 = pre.length by omega, getD_end] at hall
      rcases hc with ⟨a, rfl, ha⟩ | ⟨a, b, rfl, ha⟩ | ⟨a, b, c, rfl, ha⟩
      · refine Or.inr (Or.inl ⟨a, n, rfl, ?_⟩)
        rcases ha with ⟨rfl, _⟩ | ⟨_, rfl⟩
        · exact Or.inl rfl
        · exact Or.inr (by omega)
      · refine Or.inr (Or.inr ⟨a, b, n, rfl, ?_⟩)
        have h2 : ((a != 10) && decide (a + b < 10)) = false := hall
        rcases ha with rfl | ha
        · exact Or.inl rfl
        · by_cases h10 : a = 10
          · exact Or.inl h10
          · have hb : (a != 10) = true := by simpa using h10
            rw [hb, Bool.true_and] at h2
            have := of_decide_eq_false h2
            exact Or.inr (by omega)
      · exact absurd (show lastV [a, b, c] = true from rfl) (by rw [hall]; decide)
theorem rolls_shp {F : Nat} (hF : 1 ≤ F) : ∀ (l : List Int) (s s' : List (List Int) × Int × Bool), Lane.rollsV F l s = some s' → Lane.Good F s.1 → 0 ≤ s.2.1 ∧ s.2.1 ≤ 10 → Shp F s.1 s.2.1 → Shp F s'.1 s'.2.1
  | [], s, s', h, hg, hp, hs => by
    unfold Lane.rollsV at h
    injection h with h
    subst h
    exact hs
  | n :: l, s, s', h, hg, hp, hs => by
    unfold Lane.rollsV at h
    split at h
    · rename_i hm
      have hm2 := hm
      unfold Lane.mayV at hm2
      simp only [Bool.and_eq_true, decide_eq_true_eq] at hm2
      exact rolls_shp hF l _ s' h (Lane.good_beg hF hg hm hp.2) (Lane.end_pins hm2.2 hp.2) (shp_step hF hs hm hp.2)
    · cases h
theorem rolls_small {F : Nat} (hF : 1 ≤ F) : ∀ (l : List Int) (s s' : List (List Int) × Int × Bool), Lane.rollsV F l s = some s' → Lane.Good F s.1 → 0 ≤ s.2.1 ∧ s.2.1 ≤ 10 → ∀ x ∈ l, 0 ≤ x ∧ x ≤ 10
  | [], s, s', h, hg, hp => by simp
  | n :: l, s, s', h, hg, hp => by
    unfold Lane.rollsV at h
    split at h
    · rename_i hm
      have hm2 := hm
      unfold Lane.mayV at hm2
      simp only [Bool.and_eq_true, decide_eq_true_eq] at hm2
      intro x hx
      rcases List.mem_cons.mp hx with rfl | hx
      · omega
      · exact rolls_small hF l _ s' h (Lane.good_beg hF hg hm hp.2) (Lane.end_pins hm2.2 hp.2) x hx
    · cases h
/-- What the program's reading tells of its frames. -/
theorem read_all {F : Int} {l : List Int} {s : List (List Int) × Int × Bool} (h : Lane.readV F l = some s) :
    1 ≤ F ∧ F ≤ 10 ∧ l.length ≤ 21 ∧ Lane.Good F.toNat s.1 ∧ Shp F.toNat s.1 s.2.1 ∧ ballsV s.1 = l.length ∧ ∀ x ∈ l, 0 ≤ x ∧ x ≤ 10 := by
  obtain ⟨h1, h2, h3, h4, h5, h6⟩ := Lane.read_good h
  unfold Lane.readV at h
  rw [if_pos ⟨h1, h2, h3⟩] at h
  have hb := rolls_balls F.toNat l _ _ h
  refine ⟨h1, h2, h3, h4, rolls_shp (by omega) l _ _ h (Lane.good_start F.toNat) ⟨by decide, by decide⟩ (Or.inl ⟨rfl, rfl⟩), ?_, rolls_small (by omega) l _ _ h (Lane.good_start F.toNat) ⟨by decide, by decide⟩⟩
  simpa [ballsV] using hb
theorem many_two (a b : Int) : Lane.manyS [a, b] = if a = 10 then 3 else if a + b = 10 then 3 else 2 := by simp [Lane.manyS]
theorem many_three (a b c : Int) : Lane.manyS [a, b, c] = if a = 10 then 3 else if a + b = 10 then 3 else 2 := by simp [Lane.manyS]
theorem cnt_two {F k : Nat} (hk : k + 1 ≠ F) (a b : Int) : Lane.cntV F k [a, b] = if a ≠ 10 ∧ a + b < 10 then 2 else 3 := by simp [Lane.cntV, hk]
theorem cnt_closed {F k : Nat} {r : List Int} (h : Closed r) (hr : ∀ x ∈ r, 0 ≤ x ∧ x ≤ 10) (hk : k + 1 ≠ F) : Lane.cntV F k r = Lane.manyS r := by
  rcases h with rfl | ⟨a, b, rfl, ha, hab⟩
  · unfold Lane.cntV Lane.manyS
    rw [if_neg hk]
    rfl
  · rw [cnt_two hk, many_two, if_neg ha]
    by_cases h : a + b = 10
    · rw [if_neg (by omega), if_pos h]
    · rw [if_pos ⟨ha, by omega⟩, if_neg h]
theorem scores_eq (F : Nat) (xs : List Int) (all : Bool) (r : List Int) (p : Int) : ∀ (pre : List (List Int)) (k place : Nat), (∀ x ∈ pre, Closed x ∧ ∀ y ∈ x, 0 ≤ y ∧ y ≤ 10) → (∀ y ∈ r, 0 ≤ y ∧ y ≤ 10) →
    Cur F (k + pre.length) r p → (k + pre.length + 1 = F → all = lastV r) → place + ballsV (pre ++ [r]) = xs.length → Lane.scoresV F xs all k place (pre ++ [r]) = Lane.scoresS F xs all k place (pre ++ [r])
  | [], k, place, _, hr, hc, hall, hb => by
    simp only [List.nil_append, ballsV, List.length_nil, Nat.add_zero] at *
    have e1 : ∀ q, Lane.scoresV F xs all (k + 1) q [] = [] := fun q => by unfold Lane.scoresV; rfl
    have e2 : ∀ q, Lane.scoresS F xs all (k + 1) q [] = [] := fun q => by unfold Lane.scoresS; rfl
    have key : ((Lane.haltV F k all r = true ∨ xs.length < place + Lane.cntV F k r) ↔ Lane.haltS F k all (Lane.manyS r) place xs.length) ∧ (¬ Lane.haltS F k all (Lane.manyS r) place xs.length → Lane.cntV F k r = Lane.manyS r) := by
      rcases hc with ⟨hlt, ⟨hcl, _⟩ | ⟨a, rfl, ha, _⟩⟩ | ⟨heq, hc⟩
      · have hk : k + 1 ≠ F := by omega
        have hh : Lane.haltV F k all r = false := by
          unfold Lane.haltV
          rw [if_neg hk, closed_done hcl]
          rfl
        have hcn := cnt_closed (k := k) hcl hr hk
        refine ⟨?_, fun _ => hcn⟩
        rw [hh, hcn]
        unfold Lane.haltS
        constructor
        · rintro (h | h)
          · cases h
          · exact Or.inr h
        · rintro (h | h)
          · exact absurd h.1 hk
          · exact Or.inr h
      · have hk : k + 1 ≠ F := by omega
        have hd : Lane.doneV [a] = false := by
          show (a == 10) = false
          simpa using ha
        have hh : Lane.haltV F k all [a] = true := by
          unfold Lane.haltV
          rw [if_neg hk, hd]
          rfl
        have hs : Lane.haltS F k all (Lane.manyS [a]) place xs.length := by
          refine Or.inr ?_
          have : Lane.manyS [a] = 2 := by
            unfold Lane.manyS
            rw [if_neg (by simpa using ha), if_neg (by simp)]
          rw [this]
          simp only [List.length_singleton] at hb
          omega
        exact ⟨⟨fun _ => hs, fun _ => Or.inl hh⟩, fun h => absurd hs h⟩
      · have hh : Lane.haltV F k all r = !all := by
          unfold Lane.haltV
          rw [if_pos heq]
        have hcn : Lane.cntV F k r = r.length := by
          unfold Lane.cntV
          rw [if_pos heq]
        have hal := hall heq
        rw [hh, hcn]
        cases all with
        | false =>
          have hs : Lane.haltS F k false (Lane.manyS r) place xs.length := Or.inl ⟨heq, rfl⟩
          exact ⟨⟨fun _ => hs, fun _ => Or.inl rfl⟩, fun h => absurd hs h⟩
        | true =>
          have hm : Lane.manyS r = r.length := by
            rcases hc with ⟨a, rfl, _⟩ | ⟨a, b, rfl, ha⟩ | ⟨a, b, c, rfl, ha⟩
            · exact absurd hal (by simp [lastV])
            · have h2 : ((a != 10) && decide (a + b < 10)) = true := hal.symm
              simp only [Bool.and_eq_true, bne_iff_ne, decide_eq_true_eq] at h2
              rw [many_two, if_neg h2.1, if_neg (by omega)]
              rfl
            · rw [many_three]
              rcases ha with rfl | ha
              · rw [if_pos rfl]
                rfl
              · rw [if_pos ha]
                split <;> rfl
          rw [hm]
          unfold Lane.haltS
          refine ⟨?_, fun _ => rfl⟩
          constructor
          · rintro (h | h)
            · cases h
            · exact Or.inr h
          · rintro (h | h)
            · cases h.2
            · exact Or.inr h
    by_cases hs : Lane.haltS F k all (Lane.manyS r) place xs.length
    · rw [Lane.scores_stop _ _ _ _ _ _ _ (key.1.mpr hs), Lane.scoresS_stop _ _ _ _ _ _ _ hs]
    · rw [Lane.scores_step _ _ _ _ _ _ _ (fun h => hs (key.1.mp h)), Lane.scoresS_step _ _ _ _ _ _ _ hs, key.2 hs, e1, e2]
  | r0 :: pre, k, place, hpre, hr, hc, hall, hb => by
    simp only [List.cons_append, ballsV, List.length_cons] at *
    obtain ⟨hcl, hx⟩ := hpre r0 (by simp)
    have hlt : k + 1 < F := by
      rcases hc with ⟨h, _⟩ | ⟨h, _⟩
      · omega
      · omega
    have hh : Lane.haltV F k all r0 = false := by
      unfold Lane.haltV
      rw [if_neg (by omega), closed_done hcl]
      rfl
    have hcn := cnt_closed (k := k) (F := F) hcl hx (by omega)
    have hrec := scores_eq F xs all r p pre (k + 1) (place + r0.length) (fun x h => hpre x (by simp [h])) hr (by rw [show k + 1 + pre.length = k + (pre.length + 1) by omega]; exact hc) (fun h => hall (by omega)) (by omega)
    by_cases h : xs.length < place + Lane.manyS r0
    · rw [Lane.scores_stop _ _ _ _ _ _ _ (Or.inr (by rw [hcn]; exact h)), Lane.scoresS_stop _ _ _ _ _ _ _ (Or.inr h)]
    · have g1 : ¬ (Lane.haltV F k all r0 = true ∨ xs.length < place + Lane.cntV F k r0) := by
        rw [hh, hcn]
        rintro (h2 | h2)
        · cases h2
        · exact h h2
      have g2 : ¬ Lane.haltS F k all (Lane.manyS r0) place xs.length := by
        rintro (h2 | h2)
        · omega
        · exact h h2
      rw [Lane.scores_step _ _ _ _ _ _ _ g1, Lane.scoresS_step _ _ _ _ _ _ _ g2, hcn, hrec]
theorem okS_read {F : Int} {l : List Int} {s : List (List Int) × Int × Bool} (h : Lane.readV F l = some s) : Lane.okS F l s.1 = true := by
  obtain ⟨h1, h2, h3, hg, _, _, hx⟩ := read_all h
  have := hg.2.1
  exact Lane.okS_iff.mpr ⟨⟨h1, h2, by omega, h3⟩, fun r hr => ⟨⟨(hg.1 r hr).1, (hg.1 r hr).2.1⟩, (hg.1 r hr).2.2⟩, hx⟩
/-- What the reference counts for the frames: what the program does. -/
theorem scores_read {F : Int} {l : List Int} {s : List (List Int) × Int × Bool} (h : Lane.readV F l = some s) :
    Lane.scoresS F.toNat l (Lane.allV F.toNat s.1) 0 0 s.1 = Lane.scoresV F.toNat l (Lane.allV F.toNat s.1) 0 0 s.1 := by
  obtain ⟨h1, h2, h3, hg, hs, hb, hx⟩ := read_all h
  obtain ⟨bg, p, q⟩ := s
  simp only at *
  rcases hs with ⟨rfl, _⟩ | ⟨pre, r, rfl, hpre, hc⟩
  · unfold Lane.scoresS Lane.scoresV
    rfl
  · refine (scores_eq F.toNat l _ r p pre 0 0 (fun x hx => ⟨hpre x hx, (hg.1 x (by simp [hx])).2.2⟩) (hg.1 r (by simp)).2.2 (by rw [Nat.zero_add]; exact hc) ?_ (by rw [Nat.zero_add]; exact hb)).symm
    intro he
    rw [Nat.zero_add] at he
    rw [all_last (by simp; omega), show F.toNat - 1 = pre.length by omega, getD_end]
theorem boScores_t {F : Int} {l : List Int} {s : List (List Int) × Int × Bool} (hl : l.length ≤ 1048576) (h : Lane.readV F l = some s) :
    Tot (fun k => spec_boScores.f k F l) (Eq (Lane.scoresV F.toNat l (Lane.allV F.toNat s.1) 0 0 s.1)) := by
  unfold spec_boScores.f
  refine Tot.bind (Tot.past l.length fun k hk => split_read hl k hk h) ?_
  rintro _ rfl
  obtain ⟨_, _, _, fr, bs, st, ov, _, hs⟩ := play_read hl (l.length + 1) (by omega) h
  have ho : Tot (fun k => spec_boOver.f k F l) (Eq (Lane.allV F.toNat s.1)) := by
    refine Tot.past l.length fun k hk => ?_
    obtain ⟨_, _, _, fr, bs, st, ov, hp, hs⟩ := play_read hl k (by omega) h
    unfold spec_boOver.f
    rw [hp]
    simp only [Option.bind_some]
    rw [hs.over]
  refine Tot.bind ho ?_
  rintro _ rfl
  exact Tot.pos (okS_read h) (Tot.ret (scores_read h).symm)
theorem sum_le210 : ∀ (l : List Int), (∀ x ∈ l, 0 ≤ x ∧ x ≤ 210) → 0 ≤ l.sum ∧ l.sum ≤ 210 * l.length
  | [], _ => by simp
  | x :: t, h => by
    have h1 := h x (by simp)
    have h2 := sum_le210 t (fun y hy => h y (by simp [hy]))
    simp only [List.sum_cons, List.length_cons]
    omega
theorem sum_two (a : List Int) (x : Int) : (a ++ [x]).sum = a.sum + x := by simp
theorem boSum_l0 (l : List Int) (hx : ∀ x ∈ l, 0 ≤ x ∧ x ≤ 210) (hl : l.length ≤ 10) : ∀ (suf pre : List Int), l = pre ++ suf → Tot (fun k => spec_boSum.l0 k pre.sum l l.length pre.length) (Eq l.sum) := by
  intro suf
  induction suf with
  | nil =>
    intro pre h
    refine Tot.step (fun k => spec_boSum.l0.eq_2 _ _ _ _ _) ?_
    exact Tot.neg (by simp [h]) (Tot.ret (by simp [h]))
  | cons x suf ih =>
    intro pre h
    have hlen : l.length = pre.length + suf.length + 1 := by simp [h]; omega
    have hb := sum_le210 pre (fun y hy => hx y (by simp [h, hy]))
    have hxx := hx x (by simp [h])
    refine Tot.step (fun k => spec_boSum.l0.eq_2 _ _ _ _ _) ?_
    refine Tot.pos (by omega) (Tot.pos (by omega) (Tot.pos (by omega) ?_))
    rw [show rd l (pre.length : Int) = x by rw [h, rd_mid], wrap_in (x := pre.sum + x) (by omega) (by omega), wrap_nat _ (by omega)]
    have := ih (pre ++ [x]) (by simp [h])
    rw [sum_two, List.length_append, List.length_singleton] at this
    exact this
theorem scores_small (F : Nat) (xs : List Int) (all : Bool) (hx : ∀ x ∈ xs, 0 ≤ x ∧ x ≤ 10) (hl : xs.length ≤ 21) : ∀ (t : List (List Int)) (k place : Nat), (Lane.scoresV F xs all k place t).length ≤ t.length ∧ ∀ x ∈ Lane.scoresV F xs all k place t, 0 ≤ x ∧ x ≤ 210
  | [], k, place => by
    unfold Lane.scoresV
    exact ⟨Nat.le_refl _, by simp⟩
  | r :: t, k, place => by
    unfold Lane.scoresV
    split
    · exact ⟨Nat.zero_le _, by simp⟩
    · obtain ⟨h1, h2⟩ := scores_small F xs all hx hl t (k + 1) (place + r.length)
      refine ⟨by simp only [List.length_cons]; omega, fun x hxm => ?_⟩
      rcases List.mem_cons.mp hxm with rfl | hxm
      · have h3 := Lane.sum_le ((xs.drop place).take (Lane.cntV F k r)) (fun y hy => hx y (List.mem_of_mem_drop (List.mem_of_mem_take hy)))
        have h4 : ((xs.drop place).take (Lane.cntV F k r)).length ≤ 21 := by
          rw [List.length_take, List.length_drop]
          omega
        omega
      · exact h2 x hxm
/-- The sum of what the frames count. -/
def soOf (a : Int) (l : List Int) : Int × Bool := match Lane.readV a l with
  | some s => ((Lane.scoresV a.toNat l (Lane.allV a.toNat s.1) 0 0 s.1).sum, true)
  | none => (0, false)
theorem scores_few {F : Int} {l : List Int} {s : List (List Int) × Int × Bool} (h : Lane.readV F l = some s) :
    (Lane.scoresV F.toNat l (Lane.allV F.toNat s.1) 0 0 s.1).length ≤ 10 ∧ ∀ x ∈ Lane.scoresV F.toNat l (Lane.allV F.toNat s.1) 0 0 s.1, 0 ≤ x ∧ x ≤ 210 := by
  obtain ⟨h1, h2, h3, hg, _, _, hx⟩ := read_all h
  obtain ⟨h4, h5⟩ := scores_small F.toNat l (Lane.allV F.toNat s.1) hx h3 s.1 0 0
  have := hg.2.1
  exact ⟨by omega, h5⟩
theorem boSum_t {a : Int} {l : List Int} {s : List (List Int) × Int × Bool} (hl : l.length ≤ 1048576) (h : Lane.readV a l = some s) : Tot (fun k => spec_boSum.f k a l) (Eq (soOf a l).1) := by
  unfold spec_boSum.f
  refine Tot.bind (boScores_t hl h) ?_
  rintro _ rfl
  obtain ⟨h4, h5⟩ := scores_few h
  have := boSum_l0 _ h5 h4 _ [] rfl
  unfold soOf
  rw [h]
  exact this
theorem implSum_l0 (l : List Int) (hx : ∀ x ∈ l, 0 ≤ x ∧ x ≤ 210) (hl : l.length ≤ 10) : ∀ (suf pre : List Int), l = pre ++ suf → Tot (fun k => impl_sum.l0 k pre.sum l l.length pre.length) (Eq l.sum) := by
  intro suf
  induction suf with
  | nil =>
    intro pre h
    refine Tot.step (fun k => impl_sum.l0.eq_2 _ _ _ _ _) ?_
    exact Tot.neg (by simp [h]) (Tot.ret (by simp [h]))
  | cons x suf ih =>
    intro pre h
    have hlen : l.length = pre.length + suf.length + 1 := by simp [h]; omega
    have hb := sum_le210 pre (fun y hy => hx y (by simp [h, hy]))
    have hxx := hx x (by simp [h])
    refine Tot.step (fun k => impl_sum.l0.eq_2 _ _ _ _ _) ?_
    refine Tot.pos (by omega) (Tot.pos (by omega) (Tot.pos (by omega) ?_))
    rw [show rd l (pre.length : Int) = x by rw [h, rd_mid], wrap_in (x := pre.sum + x) (by omega) (by omega), wrap_nat _ (by omega)]
    have := ih (pre ++ [x]) (by simp [h])
    rw [sum_two, List.length_append, List.length_singleton] at this
    exact this
theorem so_t (a : Int) (l : List Int) : Tot (fun k => impl_SoFar.f k a l) (Eq (soOf a l)) := by
  unfold impl_SoFar.f impl_FrameScores.f
  refine Tot.some_bind ?_
  unfold soOf Lane.scoresOf
  cases h : Lane.readV a l with
  | none =>
    unfold impl_sum.f
    refine Tot.bind (implSum_l0 [] (by simp) (by simp) [] [] rfl) ?_
    rintro _ rfl
    exact Tot.ret rfl
  | some s =>
    obtain ⟨h4, h5⟩ := scores_few h
    unfold impl_sum.f
    refine Tot.bind (implSum_l0 _ h5 h4 _ [] rfl) ?_
    rintro _ rfl
    exact Tot.ret rfl
theorem over_t {a : Int} {l : List Int} {s : List (List Int) × Int × Bool} (hl : l.length ≤ 1048576) (h : Lane.readV a l = some s) : Tot (fun k => spec_boOver.f k a l) (Eq (Lane.allV a.toNat s.1)) := by
  refine Tot.past l.length fun k hk => ?_
  obtain ⟨_, _, _, fr, bs, st, ov, hp, hs⟩ := play_read hl k (by omega) h
  unfold spec_boOver.f
  rw [hp]
  simp only [Option.bind_some]
  rw [hs.over]
def totOf (a : Int) (l : List Int) : Int × Bool := if Lane.allOf a l = true then soOf a l else (0, false)
theorem tot_t (a : Int) (l : List Int) : Tot (fun k => impl_TotalOf.f k a l) (Eq (totOf a l)) := by
  unfold impl_TotalOf.f impl_AreAll.f
  refine Tot.some_bind ?_
  unfold totOf
  cases h : Lane.readV a l with
  | none =>
    refine Tot.neg (by simp) (Tot.ret ?_)
    rw [if_neg (by unfold Lane.allOf; rw [h]; exact Bool.false_ne_true)]
  | some s =>
    refine Tot.pos rfl ?_
    by_cases ha : Lane.allOf a l = true
    · refine Tot.pos ha ?_
      rw [if_pos ha]
      refine Tot.bind (so_t a l) ?_
      rintro _ rfl
      exact Tot.ret rfl
    · refine Tot.neg ha (Tot.ret ?_)
      rw [if_neg ha]
theorem end_l0 (F : Nat) (hF : 1 ≤ F) (hF9 : F ≤ 10) : ∀ (d : Nat) (game : List Int) (bg : List (List Int)) (p fr : Int) (bs : List Int) (st : Int) (ov q : Bool), game.length + d = 22 → Lane.rollsV F game ([], 10, true) = some (bg, p, q) → Sim F bg p fr bs st ov →
    ∃ s', Lane.readV (F : Int) (Lane.gameV F true d game (bg, p, q)) = some s' ∧ Lane.allV F s'.1 = true ∧ Tot (fun k => spec_boMost.l0 k F game fr bs st ov) (Eq (soOf (F : Int) (Lane.gameV F true d game (bg, p, q))).1)
  | 0, game, bg, p, fr, bs, st, ov, q, hd, hr, hs => by
    have := rolls_few hF9 hr hs.good
    omega
  | d + 1, game, bg, p, fr, bs, st, ov, q, hd, hr, hs => by
    have hlen := rolls_few hF9 hr hs.good
    have ho := hs.over
    cases ov with
    | true =>
      have hg : Lane.gameV F true (d + 1) game (bg, p, q) = game := by
        show (if _ then _ else _) = _
        rw [if_pos ho.symm]
      rw [hg]
      have hv : Lane.readV (F : Int) game = some (bg, p, q) := by
        unfold Lane.readV
        rw [if_pos ⟨by omega, by omega, hlen⟩, Int.toNat_natCast]
        exact hr
      refine ⟨(bg, p, q), hv, ho.symm, ?_⟩
      refine Tot.step (fun k => spec_boMost.l0.eq_2 _ _ _ _ _ _ _) ?_
      refine Tot.pos rfl ?_
      refine Tot.bind (boSum_t (by omega) hv) ?_
      rintro _ rfl
      exact Tot.ret rfl
    | false =>
      have hst := hs.stand rfl
      subst hst
      have hm : Lane.mayV F bg st (Lane.ballV true st) = true := Lane.ball_may true ho.symm hs.p0
      have hm2 : 0 ≤ st ∧ st ≤ st := by have := hs.p0; omega
      have hstep := sim_step hF hF9 hs hm2
      have hg : Lane.gameV F true (d + 1) game (bg, st, q) = Lane.gameV F true d (game ++ [st]) (Lane.stepV F (bg, st, q) st) := by
        show (if _ then _ else _) = _
        rw [if_neg (by rw [← ho]; decide)]
        rfl
      rw [hg]
      obtain ⟨s', h1, h2, h3⟩ := end_l0 F hF hF9 d (game ++ [st]) _ _ _ _ _ _ (Lane.stepV F (bg, st, q) st).2.2 (by rw [List.length_append, List.length_singleton]; omega) (Lane.rolls_more F game _ _ st hr hm) hstep
      refine ⟨s', h1, h2, ?_⟩
      refine Tot.step (fun k => spec_boMost.l0.eq_2 _ _ _ _ _ _ _) ?_
      refine Tot.neg (by decide) (Tot.pos (by omega) ?_)
      rw [boRoll_f _ _ _ _ _ _ (by have := sim_short hs; omega)]
      exact Tot.some_bind h3
theorem end_t {a : Int} {l : List Int} {s : List (List Int) × Int × Bool} (hl : l.length ≤ 1048576) (h : Lane.readV a l = some s) :
    Lane.allOf a (Lane.gameOf a l true) = true ∧ (soOf a (Lane.gameOf a l true)).2 = true ∧ Tot (fun k => spec_boMost.f k a l) (Eq (soOf a (Lane.gameOf a l true)).1) := by
  obtain ⟨h1, h2, h3, fr, bs, st, ov, _, hs⟩ := play_read hl (l.length + 1) (by omega) h
  obtain ⟨F, rfl⟩ : ∃ n : Nat, a = (n : Int) := ⟨a.toNat, by omega⟩
  rw [Int.toNat_natCast] at hs
  have hr : Lane.rollsV F l ([], 10, true) = some s := by
    unfold Lane.readV at h
    rw [if_pos ⟨h1, h2, h3⟩, Int.toNat_natCast] at h
    exact h
  have hp : Tot (fun k => spec_boPlay.f k F l) (fun x => x.2.2.2.2 = true ∧ Sim F s.1 s.2.1 x.1 x.2.1 x.2.2.1 x.2.2.2.1) := by
    obtain ⟨_, _, _, fr, bs, st, ov, hp, hs⟩ := play_read hl (l.length + 1) (by omega) h
    rw [Int.toNat_natCast] at hs
    exact ⟨(fr, bs, st, ov, true), Ev.of (fun k => spec_boPlay.mono _ _ k) hp, rfl, hs⟩
  have hgame : Lane.gameOf (F : Int) l true = Lane.gameV F true (22 - l.length) l s := by
    unfold Lane.gameOf
    rw [h, Int.toNat_natCast]
  rw [hgame]
  obtain ⟨s', g1, g2, _⟩ := end_l0 F (by omega) (by omega) (22 - l.length) l s.1 s.2.1 fr bs st ov s.2.2 (by omega) hr hs
  refine ⟨?_, ?_, ?_⟩
  · unfold Lane.allOf
    rw [g1, Int.toNat_natCast]
    exact g2
  · unfold soOf
    rw [g1]
  · unfold spec_boMost.f
    rw [own_f l (by omega)]
    refine Tot.some_bind ?_
    refine Tot.bind hp ?_
    rintro ⟨fr, bs, st, ov, ok⟩ ⟨_, hs⟩
    obtain ⟨_, _, _, g3⟩ := end_l0 F (by omega) (by omega) (22 - l.length) l s.1 s.2.1 fr bs st ov s.2.2 (by omega) hr hs
    exact g3
theorem clone_f (l : List Int) (h : l.length < 17592186044416) : slices_Clone_int_int.f l = some l := by
  unfold slices_Clone_int_int.f
  simp [h]
def mostT (a : Int) (l : List Int) : Int := (soOf a (Lane.gameOf a l true)).1
theorem most_t {a : Int} {l : List Int} {s : List (List Int) × Int × Bool} (h : Lane.readV a l = some s) : Tot (fun k => impl_MostTotal.f k a l) (fun m => m.1 = mostT a l) := by
  unfold impl_MostTotal.f impl_finished.f
  rw [h]
  obtain ⟨_, _, h3, _⟩ := read_all h
  obtain ⟨e1, e2, e3⟩ := end_t (by omega) h
  have ht := tot_t a (Lane.gameOf a l true)
  unfold totOf at ht
  rw [if_pos e1] at ht
  refine Tot.bind (P := Eq (soOf a (Lane.gameOf a l true))) (Tot.pos rfl ?_) (by rintro _ rfl; exact Tot.ret rfl)
  rw [clone_f l (by omega)]
  exact Tot.some_bind (Tot.pos rfl ht)
theorem read_more {F : Int} {l : List Int} {s : List (List Int) × Int × Bool} {n : Int} (h : Lane.readV F l = some s) (hm : Lane.mayV F.toNat s.1 s.2.1 n = true) : Lane.readV F (l ++ [n]) = some (Lane.stepV F.toNat s n) := by
  obtain ⟨h1, h2, h3, hg, p0, p1⟩ := Lane.read_good h
  have hr : Lane.rollsV F.toNat l ([], 10, true) = some s := by
    unfold Lane.readV at h
    rw [if_pos ⟨h1, h2, h3⟩] at h
    exact h
  have hr2 := Lane.rolls_more F.toNat l _ _ n hr hm
  have hl := rolls_few (show F.toNat ≤ 10 by omega) hr2 (Lane.good_beg (by omega) hg hm p1)
  unfold Lane.readV
  rw [if_pos ⟨h1, h2, hl⟩]
  exact hr2
def bestP (m : Int → Int) (total : Int) : Nat → Int → Int × Bool
  | 0, _ => (0, false)
  | d + 1, n => if total ≤ m n then (n, true) else bestP m total d (n + 1)
def ans (a : Int) (l : List Int) (t : Int) : Int × Bool := match Lane.bestC a l t with
  | some p => bestP (fun n => mostT a (l ++ [n])) t (p.toNat + 1) 0
  | none => (0, false)
theorem l1In_f (x a b : Int) : spec_l1In.f x a b = some (decide (a ≤ x ∧ x ≤ b)) := by
  unfold spec_l1In.f
  by_cases h : a ≤ x
  · rw [if_pos (by omega)]
    congr 1
    by_cases h2 : x ≤ b
    · rw [decide_eq_true h2, decide_eq_true ⟨h, h2⟩]
    · rw [decide_eq_false h2, decide_eq_false (fun h3 => h2 h3.2)]
  · rw [if_neg (by omega), decide_eq_false (fun h3 => h h3.1)]
theorem impl_loop {a : Int} {l : List Int} {s : List (List Int) × Int × Bool} (t : Int) (h : Lane.readV a l = some s) (ha : Lane.allV a.toNat s.1 = false) : ∀ (d : Nat) (n : Int), 0 ≤ n → n + d = s.2.1 + 1 →
    Tot (fun k => Lane.bestL (fun n => impl_MostTotal.f k a (l ++ [n])) t d n) (Eq (bestP (fun n => mostT a (l ++ [n])) t d n))
  | 0, n, h0, hd => Tot.ret rfl
  | d + 1, n, h0, hd => by
    have hm : Lane.mayV a.toNat s.1 s.2.1 n = true := by
      unfold Lane.mayV
      rw [ha]
      simp only [Bool.not_false, Bool.true_and, decide_eq_true_eq]
      omega
    unfold Lane.bestL bestP
    refine Tot.bind (most_t (read_more h hm)) ?_
    rintro m hm
    rw [hm]
    by_cases hq : t ≤ mostT a (l ++ [n])
    · rw [if_pos hq]
      exact Tot.pos hq (Tot.ret rfl)
    · rw [if_neg hq]
      exact Tot.neg hq (impl_loop t h ha d (n + 1) (by omega) (by omega))
theorem impl_both (a : Int) (l : List Int) (t : Int) : Tot (fun k => impl_BestRoll.f k a l t) (Eq (ans a l t)) := by
  unfold impl_BestRoll.f ans
  cases hP : Lane.bestC a l t with
  | none => exact Tot.ret rfl
  | some p =>
    simp only
    unfold Lane.bestC at hP
    cases h : Lane.readV a l with
    | none => rw [h] at hP; cases hP
    | some s =>
      rw [h] at hP
      obtain ⟨_, _, h3, _, p0, _⟩ := Lane.read_good h
      by_cases ht : 0 ≤ t ∧ t ≤ 300
      · simp only [if_pos ht] at hP
        cases ha : Lane.allV a.toNat s.1 with
        | true => rw [ha] at hP; cases hP
        | false =>
          rw [ha, if_neg (by decide)] at hP
          have hP := Option.some.inj hP
          subst hP
          rw [clone_f l (by omega)]
          exact Tot.some_bind (Tot.pos rfl (impl_loop t h ha _ 0 (by omega) (by omega)))
      · simp only [if_neg ht] at hP
        cases hP
theorem spec_loop {a : Int} {l : List Int} {s : List (List Int) × Int × Bool} (t : Int) (fr : Int) (bs : List Int) (ov : Bool) (h : Lane.readV a l = some s) (ha : Lane.allV a.toNat s.1 = false) : ∀ (d : Nat) (n : Int), 0 ≤ n → n + d = s.2.1 + 1 →
    Tot (fun k => spec_BestRoll.l0 k a l t n fr bs s.2.1 ov) (Eq (bestP (fun n => mostT a (l ++ [n])) t d n))
  | 0, n, h0, hd => by
    refine Tot.step (fun k => spec_BestRoll.l0.eq_2 _ _ _ _ _ _ _ _ _) ?_
    exact Tot.neg (by omega) (Tot.ret rfl)
  | d + 1, n, h0, hd => by
    obtain ⟨_, _, h3, _, p0, p1⟩ := Lane.read_good h
    have hm : Lane.mayV a.toNat s.1 s.2.1 n = true := by
      unfold Lane.mayV
      rw [ha]
      simp only [Bool.not_false, Bool.true_and, decide_eq_true_eq]
      omega
    have h2 := read_more h hm
    obtain ⟨_, _, _, e3⟩ := And.intro trivial (end_t (by have := (Lane.read_good h2).2.2.1; omega) h2)
    refine Tot.step (fun k => spec_BestRoll.l0.eq_2 _ _ _ _ _ _ _ _ _) ?_
    refine Tot.pos (by omega) ?_
    rw [own_f l (by omega)]
    refine Tot.some_bind (Tot.pos (by omega) ?_)
    refine Tot.bind e3 ?_
    rintro _ rfl
    unfold bestP
    by_cases hq : t ≤ mostT a (l ++ [n])
    · rw [if_pos hq]
      exact Tot.pos hq (Tot.ret rfl)
    · rw [if_neg hq]
      refine Tot.neg hq ?_
      rw [wrap_in (x := n + 1) (by omega) (by omega)]
      exact spec_loop t fr bs ov h ha d (n + 1) (by omega) (by omega)
theorem spec_both (a : Int) (l : List Int) (t : Int) (hl : l.length ≤ 1048576) : Tot (fun k => spec_BestRoll.f k a l t) (Eq (ans a l t)) := by
  unfold spec_BestRoll.f ans Lane.bestC
  refine Tot.bind (good_t a l hl) ?_
  rintro _ rfl
  cases h : Lane.readV a l with
  | none =>
    refine Tot.neg (by simp) ?_
    refine Tot.step (fun k => spec_BestRoll.j0.eq_2 _ _ _ _ _) ?_
    exact Tot.pos rfl (Tot.ret rfl)
  | some s =>
    refine Tot.pos rfl ?_
    rw [l1In_f]
    refine Tot.some_bind ?_
    refine Tot.step (fun k => spec_BestRoll.j0.eq_2 _ _ _ _ _) ?_
    by_cases ht : 0 ≤ t ∧ t ≤ 300
    · refine Tot.neg (by simpa using ht) ?_
      simp only [if_pos ht]
      obtain ⟨_, _, _, fr0, bs0, st0, ov0, hp0, hs0⟩ := play_read hl (l.length + 1) (by omega) h
      have hp : Tot (fun k => spec_boPlay.f k a l) (fun x => Sim a.toNat s.1 s.2.1 x.1 x.2.1 x.2.2.1 x.2.2.2.1) := ⟨_, Ev.of (fun k => spec_boPlay.mono _ _ k) hp0, hs0⟩
      refine Tot.bind hp ?_
      rintro ⟨fr, bs, st, ov, ok⟩ hs
      simp only at hs
      have ho := hs.over
      cases ov with
      | true =>
        rw [if_pos ho.symm]
        exact Tot.pos rfl (Tot.ret rfl)
      | false =>
        have hst := hs.stand rfl
        have p0 := hs.p0
        subst hst
        rw [if_neg (by rw [← ho]; decide)]
        refine Tot.neg (by simp) ?_
        exact spec_loop t fr bs false h ho.symm _ 0 (by omega) (by omega)
    · refine Tot.pos (by rw [decide_eq_false ht]; rfl) ?_
      simp only [if_neg ht]
      exact Tot.ret rfl
theorem FnExactBestRoll : laws_FnExactBestRoll.Pure := by
  intro a l t h1 h2 h3 h4 h5
  refine Tot.rounds ?_
  unfold laws_FnExactBestRoll.f
  refine Tot.ite (fun _ => Tot.ret rfl) (fun hn => ?_)
  have hn' : l.length ≤ 1048576 := by omega
  refine Tot.bind (toIntS_t l hn') ?_
  rintro _ rfl
  refine Tot.bind (spec_both a l t hn') ?_
  rintro _ rfl
  refine Tot.bind (toIntS_t l hn') ?_
  rintro _ rfl
  refine Tot.bind (impl_both a l t) ?_
  rintro _ rfl
  first | refine Tot.pos rfl ?_ | refine Tot.neg (by simp) ?_
  refine Tot.step (fun k => laws_FnExactBestRoll.j0.eq_2 _ _ _ _) ?_
  refine Tot.neg (by simp) ?_
  refine Tot.bind (toIntS_t l hn') ?_
  rintro _ rfl
  refine Tot.bind (eqIntS_t l (by omega)) ?_
  rintro _ rfl
  exact Tot.pos rfl (Tot.ret rfl)
end Go.Proofs.Ytdioconinnpmmaa.Pure
namespace Go.Proofs.Ytdioconinnpmmaa.PrintWords
theorem sized_ints : type_of% @Go.Proofs.YtdioconinnpmmaaW.PrintWords.sized_ints := @Go.Proofs.YtdioconinnpmmaaW.PrintWords.sized_ints
end Go.Proofs.Ytdioconinnpmmaa.PrintWords
