/- The law on darts that are played holds of what it computes: for all texts of bytes. -/
import Derived.Test.YtcmlmjgoidpabaaGreatDoorYFdDraw
import Derived.Test.YtcmlmjgoidpabaaGreatDoorYFdRing
set_option linter.unusedVariables false
set_option linter.unusedSimpArgs false
namespace Go.Proofs.YtcmlmjgoidpabaaGreatDoor.Pure
open Go.RowKit Go.Proofs.YtcmlmjgoidpabaaGreatDoor.MFnDartsPlayed Go.Proofs.YtcmlmjgoidpabaaGreatDoorW.PrintWords Go.Proofs.YtcmlmjgoidpabaaGreatDoorW.PrintLast
theorem bSame_t (l : List Int) (hl : l.length ≤ 1000000) : Tot (fun k => laws_bSame.f k l l) (Eq true) := by
  have := walkL (P := fun pre suf => Tot (fun k => laws_bSame.l0 k l l (l.length : Int) (pre.length : Int)) (Eq true)) l ?_ ?_
  · exact Tot.pos rfl this
  · rintro pre rfl
    exact Tot.step (fun k => laws_bSame.l0.eq_2 _ _ _ _ _) (Tot.neg (by omega) (Tot.ret rfl))
  · intro pre x suf h ih
    have hn := len_mid pre suf x
    rw [← h] at hn
    refine Tot.step (fun k => laws_bSame.l0.eq_2 _ _ _ _ _) (Tot.pos (by omega) (Tot.pos (by omega) (Tot.pos (by omega) (Tot.pos (by omega) (Tot.pos rfl ?_)))))
    rw [wrap_in (by omega) (by omega), ← nat_succL pre x]
    exact ih
theorem bDarts_t (l : List S52) (hl : l.length ≤ 1000000) : Tot (fun k => laws_bDarts.f k l l) (Eq true) := by
  have := walkL (P := fun pre suf => Tot (fun k => laws_bDarts.l0 k l l (l.length : Int) (pre.length : Int)) (Eq true)) l ?_ ?_
  · exact Tot.pos rfl this
  · rintro pre rfl
    exact Tot.step (fun k => laws_bDarts.l0.eq_2 _ _ _ _ _) (Tot.neg (by omega) (Tot.ret rfl))
  · intro pre x suf h ih
    have hn := len_mid pre suf x
    rw [← h] at hn
    refine Tot.step (fun k => laws_bDarts.l0.eq_2 _ _ _ _ _) (Tot.pos (by omega) (Tot.pos (by omega) (Tot.pos (by omega) (Tot.pos (by omega) (Tot.neg (by simp) ?_)))))
    rw [wrap_in (by omega) (by omega), ← nat_succL pre x]
    exact ih
theorem legR_len : ∀ (vs : List (List S52)) (left : Int) (L : List Int), legR left vs = some L → L.length = vs.length
  | [], left, L, h => by
    obtain rfl : [] = L := Option.some.inj h
    rfl
  | v :: r, left, L, h => by
    unfold legR at h
    by_cases c : (leavesV left v).2.2 = true
    · rw [if_pos c] at h
      cases hr : legR (leavesV left v).1 r with
      | none => rw [hr] at h; cases h
      | some M =>
        rw [hr] at h
        obtain rfl := (Option.some.inj h).symm
        simp [legR_len r _ M hr]
    · rw [if_neg c] at h
      cases h
theorem legV_cases (left : Int) (vs : List (List S52)) : (legV left vs).1.length ≤ 1000 ∧ ((legV left vs).2 = true → vs.length ≤ 100 ∧ ∃ L, legR left vs = some L ∧ (legV left vs).1 = left :: L) := by
  unfold legV
  by_cases c : (0 ≤ left ∧ left ≤ 1001) ∧ vs.length ≤ 100
  · rw [if_pos c]
    cases h : legR left vs with
    | none => exact ⟨by simp [legEnd], fun e => by cases e⟩
    | some L =>
      have := legR_len vs left L h
      exact ⟨by simp [legEnd]; omega, fun _ => ⟨c.2, L, rfl, rfl⟩⟩
  · rw [if_neg c]
    exact ⟨by simp, fun e => by cases e⟩
section
variable (beside before after : Int) (bok : Bool) (s0 s1 away : Int) (sok : Bool) (many best most : Int) (aok : Bool)
theorem j16_t (ha : aok = true → Tot (fun k => laws_FnDartsPlayed.l1 k many best most 0 best 0) (Eq true)) : Tot (fun k => laws_FnDartsPlayed.j16 k many best most aok) (Eq true) :=
  Tot.step (fun k => laws_FnDartsPlayed.j16.eq_2 _ _ _ _ _) (Tot.ite (fun e => ha e) (fun _ => Tot.ret rfl))
theorem j15_t (ha : aok = true → Tot (fun k => laws_FnDartsPlayed.l1 k many best most 0 best 0) (Eq true)) (hs : sok = true → Tot (fun k => impl_StepsAround.f k s1 s0) (Eq (away, true)) ∧ 0 ≤ away ∧ away ≤ 10 ∧ (away == 0) = (s0 == s1)) :
    Tot (fun k => laws_FnDartsPlayed.j15 k s0 s1 away sok many best most aok) (Eq true) := by
  have hj := j16_t many best most aok ha
  refine Tot.step (fun k => laws_FnDartsPlayed.j15.eq_2 _ _ _ _ _ _ _ _ _) (Tot.ite (fun e => ?_) (fun _ => hj))
  obtain ⟨h1, h2, h3, h4⟩ := hs e
  refine Tot.bind h1 ?_
  rintro _ rfl
  exact Tot.pos rfl (Tot.pos rfl (Tot.neg (by omega) (Tot.neg (by omega) (Tot.neg (by rw [h4]; simp) hj))))
theorem j14_t (ha : aok = true → Tot (fun k => laws_FnDartsPlayed.l1 k many best most 0 best 0) (Eq true)) (hs : sok = true → Tot (fun k => impl_StepsAround.f k s1 s0) (Eq (away, true)) ∧ 0 ≤ away ∧ away ≤ 10 ∧ (away == 0) = (s0 == s1))
    (hb : bok = true → ∃ q, q ≠ beside ∧ Tot (fun k => impl_BesideOf.f k after) (Eq (beside, q, true)) ∧ Tot (fun k => impl_StepsAround.f k before after) (Eq (2, true))) :
    Tot (fun k => laws_FnDartsPlayed.j14 k beside before after bok s0 s1 away sok many best most aok) (Eq true) := by
  have hj := j15_t s0 s1 away sok many best most aok ha hs
  refine Tot.step (fun k => laws_FnDartsPlayed.j14.eq_2 _ _ _ _ _ _ _ _ _ _ _ _ _) (Tot.ite (fun e => ?_) (fun _ => hj))
  obtain ⟨q, hq, h1, h2⟩ := hb e
  refine Tot.bind h1 ?_
  rintro _ rfl
  refine Tot.bind h2 ?_
  rintro _ rfl
  exact Tot.pos rfl (Tot.pos rfl (Tot.neg hq (Tot.pos rfl (Tot.pos rfl hj))))
end
theorem text_ok (n t : Int) : (if goodD n t = true then (textD n t, true) else ((⟨#[]⟩ : ByteArray), false)).2 = goodD n t := by
  cases goodD n t <;> rfl
theorem j11_t (s : ByteArray) (hs : s.size ≤ 1000) (n t : Int) (z : ByteArray) {J : Nat → Option Bool} (hJ : Tot J (Eq true)) {x : Int} (beside before after : Int) (bok : Bool) (s0 s1 away : Int) (sok : Bool) (many best most : Int) (aok : Bool)
    (h14 : Tot (fun k => laws_FnDartsPlayed.j14 k beside before after bok s0 s1 away sok many best most aok) (Eq true)) :
    Tot (fun k => laws_FnDartsPlayed.j11 k s (parsV s).1 (parsV s).2 (if goodD n t = true then (textD n t, true) else ((⟨#[]⟩ : ByteArray), false)).1 (if goodD n t = true then (textD n t, true) else ((⟨#[]⟩ : ByteArray), false)).2 z (pv z).2.2 beside before after bok s0 s1 away sok many best most aok n t (pv z).1 (pv z).2.1) (Eq true) := by
  have h13 : Tot (fun k => laws_FnDartsPlayed.j13 k z (pv z).2.2 beside before after bok s0 s1 away sok many best most aok (pv z).1 (pv z).2.1) (Eq true) := by
    refine Tot.step (fun k => laws_FnDartsPlayed.j13.eq_2 _ _ _ _ _ _ _ _ _ _ _ _ _ _ _ _ _) (Tot.ite (fun e => ?_) (fun _ => h14))
    obtain ⟨g, ht⟩ := pv_true e
    rw [idtext_eq, if_pos g]
    exact Tot.some_bind (Tot.pos rfl (Tot.pos (by rw [ht]) h14))
  have h12 : Tot (fun k => laws_FnDartsPlayed.j12 k (if goodD n t = true then (textD n t, true) else ((⟨#[]⟩ : ByteArray), false)).1 (if goodD n t = true then (textD n t, true) else ((⟨#[]⟩ : ByteArray), false)).2 z (pv z).2.2 beside before after bok s0 s1 away sok many best most aok n t (pv z).1 (pv z).2.1) (Eq true) := by
    refine Tot.step (fun k => laws_FnDartsPlayed.j12.eq_2 _ _ _ _ _ _ _ _ _ _ _ _ _ _ _ _ _ _ _ _ _) (Tot.ite (fun e => ?_) (fun _ => h13))
    rw [text_ok] at e
    rw [if_pos e]
    refine Tot.bind (iparse_t _) ?_
    rintro _ rfl
    rw [pv_text e]
    exact Tot.pos rfl (Tot.neg (by simp) h13)
  refine Tot.step (fun k => laws_FnDartsPlayed.j11.eq_2 _ _ _ _ _ _ _ _ _ _ _ _ _ _ _ _ _ _ _ _ _ _ _ _) (Tot.ite (fun e => ?_) (fun _ => h12))
  obtain ⟨h1, h2⟩ := join_pars s e
  refine Tot.bind (itexts_t _ (by omega)) ?_
  rintro _ rfl
  rw [h1]
  exact Tot.pos rfl (Tot.pos rfl h12)
theorem j3_t {l : List Int} (hl : ∀ x ∈ l, 0 ≤ x ∧ x ≤ 255) : Tot (fun k => laws_FnDartsPlayed.j3 k l) (Eq true) := by
  refine Tot.step (fun k => laws_FnDartsPlayed.j3.eq_2 _ _) (Tot.bind (drawLeg_t hl) ?_)
  rintro ⟨from0, vs⟩ hv
  have hv : ∀ v ∈ vs, v.length ≤ 1000000 := fun v h => by have := hv v h; omega
  simp only
  refine Tot.bind (ileg_t from0 vs hv) ?_
  rintro _ rfl
  refine Tot.bind (sleg_t from0 vs hv) ?_
  rintro _ rfl
  refine Tot.bind (drawScore_t hl) ?_
  rintro list hlist
  refine Tot.bind (iscore_t list (by omega)) ?_
  rintro _ rfl
  refine Tot.bind (sscore_t list (by omega)) ?_
  rintro _ rfl
  refine Tot.bind (itexts_t list (by omega)) ?_
  rintro _ rfl
  refine Tot.bind (stexts_t list (by omega)) ?_
  rintro _ rfl
  refine Tot.bind (drawTexts_t hl) ?_
  rintro s hs
  refine Tot.bind (idarts_t s (by omega)) ?_
  rintro _ rfl
  refine Tot.bind (sdarts_t s (by omega)) ?_
  rintro _ rfl
  refine Tot.bind (drawDart_t hl) ?_
  rintro ⟨n, t⟩ _
  simp only
  rw [idtext_eq]
  refine Tot.some_bind (Tot.bind (sdtext_t n t) ?_)
  rintro _ rfl
  refine Tot.bind (drawText_t hl) ?_
  rintro z _
  refine Tot.bind (iparse_t z) ?_
  rintro _ rfl
  refine Tot.bind (sparse_t z) ?_
  rintro _ rfl
  refine Tot.bind (drawBeside_t hl) ?_
  rintro m ⟨m0, m1⟩
  obtain ⟨b, hb1, hb2, hb3⟩ := beside_both m m0 m1
  refine Tot.bind hb1 ?_
  rintro _ rfl
  refine Tot.bind hb2 ?_
  rintro _ rfl
  refine Tot.bind (drawSteps_t hl) ?_
  rintro ⟨a0, a1⟩ ⟨q0, q1, q2, q3⟩
  simp only at q0 q1 q2 q3 ⊢
  obtain ⟨w, hw1, hw2, hw3⟩ := steps_both a0 a1 q0 q1 q2 q3
  refine Tot.bind hw1 ?_
  rintro _ rfl
  refine Tot.bind hw2 ?_
  rintro _ rfl
  refine Tot.bind (drawArc_t hl) ?_
  rintro many ⟨y0, y1⟩
  obtain ⟨u, hu1, hu2, hu3⟩ := arc_both many y0 y1
  refine Tot.bind hu1 ?_
  rintro _ rfl
  refine Tot.bind hu2 ?_
  rintro _ rfl
  obtain ⟨c1, c2⟩ := legV_cases from0 vs
  refine Tot.neg (by simp) (Tot.bind (bSame_t _ (by omega)) ?_)
  rintro _ rfl
  refine Tot.pos (by first | rfl | trivial) (Tot.neg (by simp) (Tot.pos (by first | rfl | trivial) (Tot.neg (by simp) (Tot.pos (by first | rfl | trivial) (Tot.neg (by simp) (Tot.bind (bDarts_t _ ?_) ?_))))))
  · unfold parsV
    have hw := words_few s
    by_cases c : (parsV s).2 = true
    · have := (join_pars s c).2
      unfold parsV at this
      omega
    · unfold parsV at c
      split
      · rename_i c9
        rw [if_pos c9] at c
        cases hp : parsL (words s) with
        | none => simp [parsEnd]
        | some L => rw [hp] at c; exact absurd rfl c
      · simp
  rintro _ rfl
  refine Tot.pos (by first | rfl | trivial) (Tot.neg (by simp) (Tot.pos (by first | rfl | trivial) (Tot.neg (by simp) (Tot.neg (by simp) (Tot.neg (by simp) (Tot.pos (by first | rfl | trivial) (Tot.pos (by first | rfl | trivial) (Tot.neg (by simp) (Tot.pos (by first | rfl | trivial) (Tot.neg (by simp) (Tot.pos (by first | rfl | trivial) (Tot.pos (by first | rfl | trivial) ?_))))))))))))
  have hsp : spec_IsDart.f n t = some (goodD n t) := by unfold spec_IsDart.f; rw [daGood_eq]; rfl
  rw [isDart_eq, hsp]
  refine Tot.some_bind (Tot.neg (by rw [text_ok]; simp) (Tot.some_bind (Tot.some_bind ?_)))
  refine Tot.step (fun k => laws_FnDartsPlayed.j4.eq_2 _ _ _ _ _ _ _ _ _ _ _ _ _ _ _ _ _ _ _ _ _ _ _ _ _ _ _ _ _ _ _ _ _ _) (Tot.neg (by simp) ?_)
  have hw3' : w.2 = true → Tot (fun k => impl_StepsAround.f k a1 a0) (Eq (w.1, true)) ∧ 0 ≤ w.1 ∧ w.1 ≤ 10 ∧ (w.1 == 0) = (a0 == a1) := by
    intro e
    have h := hw3 e
    rw [show w = (w.1, true) by rw [← e]] at h
    exact h
  have h14 := j14_t m b.1 b.2.1 b.2.2 a0 a1 w.1 w.2 many u.1 u.2.1 u.2.2 hu3 hw3' hb3
  have h11 := j11_t s (by omega) n t z h14 (x := 0) m b.1 b.2.1 b.2.2 a0 a1 w.1 w.2 many u.1 u.2.1 u.2.2 h14
  have h10 : Tot (fun k => laws_FnDartsPlayed.j10 k list (textV list).1 (textV list).2 s (parsV s).1 (parsV s).2 (if goodD n t = true then (textD n t, true) else ((⟨#[]⟩ : ByteArray), false)).1 (if goodD n t = true then (textD n t, true) else ((⟨#[]⟩ : ByteArray), false)).2 z (pv z).2.2 m b.1 b.2.1 b.2.2 a0 a1 w.1 w.2 many u.1 u.2.1 u.2.2 n t (pv z).1 (pv z).2.1) (Eq true) := by
    refine Tot.step (fun k => laws_FnDartsPlayed.j10.eq_2 _ _ _ _ _ _ _ _ _ _ _ _ _ _ _ _ _ _ _ _ _ _ _ _ _ _ _) (Tot.ite (fun e => ?_) (fun _ => h11))
    obtain ⟨r1, r2, r3⟩ := pars_join list e
    refine Tot.bind (idarts_t _ (by omega)) ?_
    rintro _ rfl
    rw [r1]
    refine Tot.pos (by first | rfl | trivial) (Tot.bind (bDarts_t list (by omega)) ?_)
    rintro _ rfl
    exact Tot.pos (by first | rfl | trivial) h11
  have h9 : Tot (fun k => laws_FnDartsPlayed.j9 k list (scoreV list).1 (scoreV list).2 (textV list).1 (textV list).2 s (parsV s).1 (parsV s).2 (if goodD n t = true then (textD n t, true) else ((⟨#[]⟩ : ByteArray), false)).1 (if goodD n t = true then (textD n t, true) else ((⟨#[]⟩ : ByteArray), false)).2 z (pv z).2.2 m b.1 b.2.1 b.2.2 a0 a1 w.1 w.2 many u.1 u.2.1 u.2.2 n t (pv z).1 (pv z).2.1) (Eq true) := by
    refine Tot.step (fun k => laws_FnDartsPlayed.j9.eq_2 _ _ _ _ _ _ _ _ _ _ _ _ _ _ _ _ _ _ _ _ _ _ _ _ _ _ _ _ _) (Tot.ite (fun e => ?_) (fun _ => h10))
    have hsc : list.length ≤ 9 ∧ allD list = true := by
      unfold scoreV at e
      by_cases c : list.length ≤ 9 ∧ allD list = true
      · exact c
      · rw [if_neg c] at e; cases e
    refine Tot.bind (bAll_t list (by omega)) ?_
    rintro _ rfl
    rw [if_pos hsc.2]
    refine Tot.pos (by first | rfl | trivial) (Tot.pos ?_ (Tot.neg ?_ h10))
    · unfold scoreV
      rw [if_pos hsc]
    · unfold textV
      by_cases c : 1 ≤ list.length
      · rw [if_pos ⟨⟨c, hsc.1⟩, hsc.2⟩, decide_eq_true (by omega)]
        simp
      · rw [if_neg (fun h => c h.1.1), decide_eq_false (by omega)]
        simp
  refine Tot.step (fun k => laws_FnDartsPlayed.j5.eq_2 _ _ _ _ _ _ _ _ _ _ _ _ _ _ _ _ _ _ _ _ _ _ _ _ _ _ _ _ _ _ _ _ _) (Tot.ite (fun e => ?_) (fun _ => h9))
  obtain ⟨hvs, L, hL, hx⟩ := c2 e
  have hlen := legR_len vs from0 L hL
  rw [hx]
  refine Tot.pos (by rw [wrap_in (by omega) (by omega)]; simp; omega) (Tot.pos (by simp <;> omega) ?_)
  refine Tot.step (fun k => laws_FnDartsPlayed.j6.eq_2 _ _ _ _ _ _ _ _ _ _ _ _ _ _ _ _ _ _ _ _ _ _ _ _ _ _ _ _ _ _ _ _) (Tot.neg (by simp [rd]) ?_)
  refine Tot.step (fun k => laws_FnDartsPlayed.j7.eq_2 _ _ _ _ _ _ _ _ _ _ _ _ _ _ _ _ _ _ _ _ _ _ _ _ _ _ _ _ _ _ _) ?_
  have loop := walkL (P := fun pre suf => ∀ (A : List Int) (now : Int) (M : List Int), A.length = pre.length → from0 :: L = A ++ now :: M → legR now suf = some M →
      Tot (fun k => laws_FnDartsPlayed.l0 k (from0 :: L) list (scoreV list).1 (scoreV list).2 (textV list).1 (textV list).2 s (parsV s).1 (parsV s).2 (if goodD n t = true then (textD n t, true) else ((⟨#[]⟩ : ByteArray), false)).1 (if goodD n t = true then (textD n t, true) else ((⟨#[]⟩ : ByteArray), false)).2 z (pv z).2.2 m b.1 b.2.1 b.2.2 a0 a1 w.1 w.2 many u.1 u.2.1 u.2.2 vs (vs.length : Int) (pre.length : Int) n t (pv z).1 (pv z).2.1) (Eq true)) vs ?_ ?_
  · exact loop [] from0 L rfl rfl hL
  · rintro pre rfl A now M _ _ _
    exact Tot.step (fun k => laws_FnDartsPlayed.l0.eq_2 _ _ _ _ _ _ _ _ _ _ _ _ _ _ _ _ _ _ _ _ _ _ _ _ _ _ _ _ _ _ _ _ _) (Tot.neg (by omega) h9)
  · intro pre x suf h ih A now M hA hM hR
    have hn := len_mid pre suf x
    rw [← h] at hn
    have hMl := legR_len _ _ _ hR
    unfold legR at hR
    by_cases c : (leavesV now x).2.2 = true
    · rw [if_pos c] at hR
      cases hr : legR (leavesV now x).1 suf with
      | none => rw [hr] at hR; cases hR
      | some M' =>
        rw [hr] at hR
        obtain rfl := (Option.some.inj hR).symm
        have hz : ((from0 :: L).length : Int) = (A.length : Int) + 1 + ((leavesV now x).1 :: M').length := by rw [hM]; exact len_mid _ _ _
        have r0 : rd (from0 :: L) (pre.length : Int) = now := by rw [hM, ← hA]; exact rd_mid _ _ _
        have r1 : rd (from0 :: L) ((pre.length : Int) + 1) = (leavesV now x).1 := by
          rw [hM, show A ++ now :: (leavesV now x).1 :: M' = (A ++ [now]) ++ (leavesV now x).1 :: M' by simp, ← hA, ← nat_succL A now]
          exact rd_mid _ _ _
        have hf := leaves_facts now x c
        refine Tot.step (fun k => laws_FnDartsPlayed.l0.eq_2 _ _ _ _ _ _ _ _ _ _ _ _ _ _ _ _ _ _ _ _ _ _ _ _ _ _ _ _ _ _ _ _ _) (Tot.pos (by omega) (Tot.pos (by omega) (Tot.pos (by omega) (Tot.pos (by simp only [List.length_cons] at hz ⊢; omega) ?_))))
        rw [show rd_L3 vs (pre.length : Int) = x by rw [h]; exact rdL_mid pre suf x, r0, wrap_in (x := (pre.length : Int) + 1) (by omega) (by omega), r1]
        refine Tot.bind (ileft_t now x (hv x (by rw [h]; simp))) ?_
        rintro _ rfl
        refine Tot.pos c (Tot.pos (by omega) (Tot.pos (by simp only [List.length_cons] at hz ⊢; omega) (Tot.pos (by first | rfl | trivial) (Tot.neg ?_ ?_))))
        · have := hf.2.2.2.2.2.2.1
          show ¬ (leavesV now x).1 > now
          omega
        · rw [← nat_succL pre x]
          exact ih (A ++ [now]) (leavesV now x).1 M' (by simp [hA]) (by rw [hM]; simp) hr
    · rw [if_neg c] at hR
      cases hR
theorem law_t {l0 l1 : List Int} (h0 : ∀ x ∈ l0, 0 ≤ x ∧ x ≤ 255) (h1 : ∀ x ∈ l1, 0 ≤ x ∧ x ≤ 255) : Tot (fun k => laws_FnDartsPlayed.f k l0 l1) (Eq true) := by
  have h3 := j3_t h1
  unfold laws_FnDartsPlayed.f
  refine Tot.bind (P := fun _ => True) (by unfold laws_big.f; exact Tot.ite (fun _ => Tot.ret trivial) (fun _ => Tot.ret trivial)) (fun t _ => Tot.ite (fun _ => Tot.ret rfl) (fun _ => ?_))
  refine Tot.step (fun k => laws_FnDartsPlayed.j0.eq_2 _ _ _) (Tot.bind (drawVisit_t h0) ?_)
  rintro ⟨left, visit⟩ hv
  simp only at hv ⊢
  have hv : visit.length ≤ 1000000 := by omega
  refine Tot.bind (ileft_t left visit hv) ?_
  rintro _ rfl
  refine Tot.bind (sleft_t left visit hv) ?_
  rintro _ rfl
  refine Tot.bind (ibust_t left visit hv) ?_
  rintro _ rfl
  refine Tot.bind (sbust_t left visit hv) ?_
  rintro _ rfl
  refine Tot.neg (by simp) (Tot.pos rfl (Tot.neg (by simp) (Tot.neg (by simp) ?_)))
  refine Tot.step (fun k => laws_FnDartsPlayed.j1.eq_2 _ _ _ _ _ _ _ _) (Tot.neg (by simp) ?_)
  refine Tot.step (fun k => laws_FnDartsPlayed.j2.eq_2 _ _ _ _ _ _ _) (Tot.ite (fun e => ?_) (fun _ => h3))
  obtain ⟨g, f1, f2, f3, f4, f5, f6, f7, f8⟩ := leaves_facts left visit e
  have hs := sum_range visit g
  refine Tot.bind (bAll_t visit hv) ?_
  rintro _ rfl
  rw [if_pos g]
  refine Tot.pos rfl (Tot.neg (by omega) (Tot.neg (by omega) (Tot.ite (fun b => ?_) (fun b => ?_))))
  · have h7 := f7 b
    exact Tot.pos h7 (Tot.ite (fun c => Tot.pos (by rw [← h7]; exact c) h3) (fun _ => h3))
  · obtain ⟨g1, g2, g3⟩ := f8 (by simpa using b)
    refine Tot.pos (by rw [wrap_in (by simp only; omega) (by simp only; omega)]; exact g1) (Tot.neg g2 (Tot.ite (fun c => ?_) (fun _ => h3)))
    have hw : wrap64 ((visit.length : Int) - 1) = ((visit.length - 1 : Nat) : Int) := by rw [wrap_in (by omega) (by omega)]; omega
    rw [hw]
    exact Tot.pos (by omega) (Tot.pos (by omega) (Tot.pos (by rw [rd_last visit f1]; exact g3 c) h3))
theorem u8_in {l : List Int} (h : ∀ x ∈ l, (Lit.int .u8 x).wf = true) : ∀ x ∈ l, 0 ≤ x ∧ x ≤ 255 := by
  intro x hx
  have := h x hx
  simp [Lit.wf, IntKind.min, IntKind.max, IntKind.bits, IntKind.signed] at this
  omega
end Go.Proofs.YtcmlmjgoidpabaaGreatDoor.Pure

