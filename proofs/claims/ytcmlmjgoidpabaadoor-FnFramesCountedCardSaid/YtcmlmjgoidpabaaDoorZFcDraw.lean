/- What is drawn for the laws on frames is always told. -/
import Derived.Test.YtcmlmjgoidpabaaDoorZFcBase
set_option linter.unusedVariables false
set_option linter.unusedSimpArgs false
namespace Go.Proofs.YtcmlmjgoidpabaaDoor.Pure
open Go.RowKit Go.Proofs.YtcmlmjgoidpabaaDoor.MFnFramesCounted Go.Proofs.YtcmlmjgoidpabaaDoorW.PrintWords Go.Proofs.YtcmlmjgoidpabaaDoorW.PrintLast
theorem bits255 {x : Int} (h0 : 0 ≤ x) (h1 : x < 18446744073709551616) : Go.bits .and .u64 x 255 = x % 256 :=
  bits_mask .u64 64 (by decide) (fun n h0 h1 => by rw [IntKind.wrap_u64]; omega) 8 (by decide) x h0 h1
theorem next_low {x : Int} : 0 ≤ wrap64 (Go.bits .and .u64 (IntKind.u64.wrap x / 1099511627776) 255) ∧ wrap64 (Go.bits .and .u64 (IntKind.u64.wrap x / 1099511627776) 255) ≤ 255 := by
  have h : 0 ≤ IntKind.u64.wrap x ∧ IntKind.u64.wrap x < 18446744073709551616 := by rw [IntKind.wrap_u64]; omega
  rw [bits255 (by omega) (by omega), wrap_in (by omega) (by omega)]
  omega
theorem next_t {l : List Int} (hl : ∀ x ∈ l, 0 ≤ x ∧ x ≤ 255) (a s : Int) (h0 : 0 ≤ a) (h1 : a ≤ 1000000000) : Tot (fun _ => spec_l1Cur_next.f l a s) (fun v => 0 ≤ v.1 ∧ v.1 ≤ 255 ∧ v.2.1 = a + 1) := by
  have hw : wrap64 (a + 1) = a + 1 := wrap_in (by omega) (by omega)
  unfold spec_l1Cur_next.f
  refine Tot.ite (fun c => Tot.pos h0 (Tot.ite (fun _ => Tot.ret ?_) (fun _ => Tot.ret ?_))) (fun c => Tot.ite (fun _ => Tot.ret ?_) (fun _ => Tot.ret ?_))
  · obtain ⟨n, rfl⟩ : ∃ n : Nat, a = (n : Int) := ⟨a.toNat, by omega⟩
    have hn : n < l.length := by omega
    have := hl _ (List.getElem_mem hn)
    rw [rd_get l n hn, wrap_in (by omega) (by omega)]
    exact ⟨this.1, this.2, hw⟩
  · exact ⟨next_low.1, next_low.2, hw⟩
  · exact ⟨by simp only; omega, by simp only; omega, hw⟩
  · exact ⟨next_low.1, next_low.2, hw⟩
theorem pick_t {l : List Int} (hl : ∀ x ∈ l, 0 ≤ x ∧ x ≤ 255) (a s n : Int) (h0 : 0 ≤ a) (h1 : a ≤ 999999990) : Tot (fun _ => spec_l1Cur_pick.f l a s n) (fun v => 0 ≤ v.1 ∧ (v.1 < n ∨ v.1 = 0) ∧ a ≤ v.2.1 ∧ v.2.1 ≤ a + 2) := by
  unfold spec_l1Cur_pick.f
  refine Tot.ite (fun c => Tot.ret ⟨Int.le_refl _, .inr rfl, by simp only; omega, by simp only; omega⟩) (fun c => ?_)
  refine Tot.bind (next_t hl a s h0 (by omega)) ?_
  rintro ⟨x, a1, s1⟩ ⟨x0, x1, rfl⟩
  simp only at x0 x1 ⊢
  refine Tot.ite (fun c => ?_) (fun c => ?_)
  · refine Tot.bind (next_t hl (a + 1) s1 (by omega) (by omega)) ?_
    rintro ⟨y, a2, s2⟩ ⟨y0, y1, rfl⟩
    simp only at y0 y1 ⊢
    refine Tot.neg (by omega) (Tot.ret ?_)
    rw [wrap_in (x := x * 256) (by omega) (by omega), wrap_in (by omega) (by omega), tmod_in (by omega)]
    have h2 := Int.emod_nonneg (x * 256 + y) (show n ≠ 0 by omega)
    have h3 := Int.emod_lt_of_pos (x * 256 + y) (show 0 < n by omega)
    exact ⟨h2, .inl h3, by simp only; omega, by simp only; omega⟩
  · refine Tot.neg (by omega) (Tot.ret ?_)
    rw [tmod_in (by omega)]
    have h2 := Int.emod_nonneg x (show n ≠ 0 by omega)
    have h3 := Int.emod_lt_of_pos x (show 0 < n by omega)
    exact ⟨h2, .inl h3, by simp only; omega, by simp only; omega⟩
theorem one_t {l : List Int} (hl : ∀ x ∈ l, 0 ≤ x ∧ x ≤ 255) (a s n : Int) (h0 : 0 ≤ a) (h1 : a ≤ 999999990) : Tot (fun _ => spec_l1Cur_one.f l a s n) (fun v => a ≤ v.2.1 ∧ v.2.1 ≤ a + 2) := by
  unfold spec_l1Cur_one.f
  refine Tot.bind (pick_t hl a s n h0 h1) ?_
  rintro v ⟨_, _, h2, h3⟩
  exact Tot.ret ⟨h2, h3⟩
theorem among_t {l : List Int} (hl : ∀ x ∈ l, 0 ≤ x ∧ x ≤ 255) (a s : Int) (L : List Int) (hL : 0 < L.length) (h0 : 0 ≤ a) (h1 : a ≤ 999999990) : Tot (fun _ => spec_l1Cur_among.f l a s L) (fun v => a ≤ v.2.1 ∧ v.2.1 ≤ a + 2) := by
  unfold spec_l1Cur_among.f
  refine Tot.bind (pick_t hl a s _ h0 h1) ?_
  rintro v ⟨h4, h5, h2, h3⟩
  exact Tot.pos h4 (Tot.pos (by omega) (Tot.ret ⟨h2, h3⟩))
theorem sureFrame_t {l : List Int} (hl : ∀ x ∈ l, 0 ≤ x ∧ x ≤ 255) (a s : Int) (h0 : 0 ≤ a) (h1 : a ≤ 999999980) : Tot (fun _ => spec_l1Cur_sureFrame.f l a s) (fun v => a ≤ v.2.2.2.1 ∧ v.2.2.2.1 ≤ a + 4) := by
  unfold spec_l1Cur_sureFrame.f
  refine Tot.bind (pick_t hl a s _ h0 (by omega)) ?_
  rintro v ⟨_, _, h2, h3⟩
  refine Tot.ite (fun _ => ?_) (fun _ => Tot.ite (fun _ => ?_) (fun _ => Tot.ite (fun _ => ?_) (fun _ => ?_)))
  · refine Tot.bind (pick_t hl _ _ _ (by omega) (by omega)) ?_
    rintro u ⟨_, _, h4, h5⟩
    exact Tot.ret ⟨by simp only; omega, by simp only; omega⟩
  · refine Tot.bind (pick_t hl _ _ _ (by omega) (by omega)) ?_
    rintro u ⟨_, _, h4, h5⟩
    exact Tot.ret ⟨by simp only; omega, by simp only; omega⟩
  · refine Tot.bind (among_t hl _ _ _ (by decide) (by omega) (by omega)) ?_
    rintro u ⟨h4, h5⟩
    exact Tot.ret ⟨by simp only; omega, by simp only; omega⟩
  · refine Tot.bind (pick_t hl _ _ _ (by omega) (by omega)) ?_
    rintro u ⟨_, _, h4, h5⟩
    exact Tot.ret ⟨by simp only; omega, by simp only; omega⟩
theorem frame_t {l : List Int} (hl : ∀ x ∈ l, 0 ≤ x ∧ x ≤ 255) (a s : Int) (h0 : 0 ≤ a) (h1 : a ≤ 999999970) : Tot (fun _ => spec_l1Cur_frame.f l a s) (fun v => a ≤ v.2.2.2.1 ∧ v.2.2.2.1 ≤ a + 8) := by
  unfold spec_l1Cur_frame.f
  refine Tot.bind (sureFrame_t hl a s h0 (by omega)) ?_
  rintro w ⟨h8, h9⟩
  refine Tot.bind (pick_t hl _ _ _ (by omega) (by omega)) ?_
  rintro v ⟨_, _, h2, h3⟩
  refine Tot.ite (fun _ => ?_) (fun _ => Tot.ite (fun _ => ?_) (fun _ => Tot.ite (fun _ => ?_) (fun _ => ?_)))
  · refine Tot.bind (among_t hl _ _ _ (by decide) (by omega) (by omega)) ?_
    rintro u ⟨h4, h5⟩
    exact Tot.ret ⟨by simp only; omega, by simp only; omega⟩
  · refine Tot.bind (among_t hl _ _ _ (by decide) (by omega) (by omega)) ?_
    rintro u ⟨h4, h5⟩
    exact Tot.ret ⟨by simp only; omega, by simp only; omega⟩
  · exact Tot.ret ⟨by simp only; omega, by simp only; omega⟩
  · exact Tot.ret ⟨by simp only; omega, by simp only; omega⟩
theorem drawCount_t {l : List Int} (hl : ∀ x ∈ l, 0 ≤ x ∧ x ≤ 255) : Tot (fun _ => spec_DrawFirstWithPoints.f l) (fun _ => True) := by
  unfold spec_DrawFirstWithPoints.f spec_DrawCountByPoints.f
  refine Tot.bind (P := fun _ => True) (Tot.bind (one_t hl _ _ _ (by omega) (by omega)) ?_) (fun _ _ => Tot.ret trivial)
  rintro v ⟨h2, h3⟩
  refine Tot.ite (fun _ => ?_) (fun _ => ?_)
  · refine Tot.bind (frame_t hl _ _ (by omega) (by omega)) ?_
    rintro u ⟨h4, h5⟩
    refine Tot.bind (among_t hl _ _ _ (by decide) (by omega) (by omega)) ?_
    rintro _ _
    exact Tot.ret trivial
  · refine Tot.bind (frame_t hl _ _ (by omega) (by omega)) ?_
    rintro u ⟨h4, h5⟩
    refine Tot.bind (pick_t hl _ _ _ (by omega) (by omega)) ?_
    rintro _ _
    exact Tot.ret trivial
theorem drawBreaks_t {l : List Int} (hl : ∀ x ∈ l, 0 ≤ x ∧ x ≤ 255) : Tot (fun _ => spec_DrawCountBreaks.f l) (fun _ => True) := by
  unfold spec_DrawCountBreaks.f
  refine Tot.bind (frame_t hl _ _ (by omega) (by omega)) ?_
  rintro u ⟨h4, h5⟩
  refine Tot.bind (among_t hl _ _ _ (by decide) (by omega) (by omega)) ?_
  rintro _ _
  exact Tot.ret trivial
theorem drawFouls_t {l : List Int} (hl : ∀ x ∈ l, 0 ≤ x ∧ x ≤ 255) : Tot (fun _ => spec_DrawFoulsNeeded.f l) (fun _ => True) := by
  unfold spec_DrawFoulsNeeded.f spec_DrawCanStillWin.f
  refine Tot.bind (P := fun _ => True) (Tot.bind (one_t hl _ _ _ (by omega) (by omega)) ?_) (fun _ _ => Tot.ret trivial)
  rintro v ⟨h2, h3⟩
  refine Tot.ite (fun _ => ?_) (fun _ => ?_)
  · refine Tot.bind (frame_t hl _ _ (by omega) (by omega)) ?_
    rintro u ⟨h4, h5⟩
    refine Tot.bind (among_t hl _ _ _ (by decide) (by omega) (by omega)) ?_
    rintro _ _
    exact Tot.ret trivial
  · refine Tot.bind (frame_t hl _ _ (by omega) (by omega)) ?_
    rintro u ⟨h4, h5⟩
    refine Tot.bind (pick_t hl _ _ _ (by omega) (by omega)) ?_
    rintro _ _
    exact Tot.ret trivial
theorem strOne (x : Int) : (strOfNums [x]).size = 1 := rfl
theorem ext_size (b : ByteArray) (i j : Nat) (hj : j ≤ b.size) : (b.extract i j).size = j - i := by
  have : (b.extract i j).size = min j b.size - i := by simp
  omega
theorem toNat_one (p : Nat) : ((p : Int) + 1).toNat = p + 1 := by omega
theorem down_one (n : Nat) (h : n ≤ 1000) : wrap64 (((n + 1 : Nat) : Int) - 1) = (n : Int) := by rw [wrap_in (by omega) (by omega)]; omega
theorem lt_of {i n : Int} (h : i < n ∨ i = 0) (hn : 0 < n) : i < n := by omega
set_option maxHeartbeats 2000000 in
theorem spoilt_loop {l : List Int} (hl : ∀ x ∈ l, 0 ≤ x ∧ x ≤ 255) (w : ByteArray) (hw : 0 < w.size) : ∀ (n : Nat) (t : ByteArray) (a s : Int), n ≤ 2 → t.size + n ≤ 100 → 0 ≤ a → a + 6 * n ≤ 900000000 →
    Tot (fun k => spec_l1Cur_spoilt.l0 k t w (n : Int) l a s) (fun v => v.1.size ≤ t.size + n ∧ a ≤ v.2.1 ∧ v.2.1 ≤ a + 6 * n) := by
  intro n
  induction n with
  | zero =>
    intro t a s _ _ h0 h1
    refine Tot.step (fun k => spec_l1Cur_spoilt.l0.eq_2 _ _ _ _ _ _ _) (Tot.neg (by omega) (Tot.step (fun k => spec_l1Cur_spoilt.j1.eq_2 _ _ _ _ _ _ _ _) (Tot.neg (by decide) (Tot.ret ?_))))
    exact ⟨by simp only; omega, by simp only; omega, by simp only; omega⟩
  | succ n ih =>
    intro t a s hn ht h0 h1
    refine Tot.step (fun k => spec_l1Cur_spoilt.l0.eq_2 _ _ _ _ _ _ _) (Tot.pos (by omega) (Tot.step (fun k => spec_l1Cur_spoilt.j1.eq_2 _ _ _ _ _ _ _ _) (Tot.ite (fun c => ?_) (fun _ => Tot.ret ?_))))
    · have c : (t.size : Int) > 0 := by simpa using c
      refine Tot.bind (pick_t hl _ _ _ (by omega) (by omega)) ?_
      rintro ⟨i, a1, s1⟩ ⟨i0, i1, q0, q1⟩
      simp only at i0 i1 q0 q1 ⊢
      replace i1 := lt_of i1 c
      refine Tot.bind (pick_t hl _ _ _ (by omega) (by omega)) ?_
      rintro ⟨j, a2, s2⟩ ⟨j0, j1, q2, q3⟩
      simp only at j0 j1 q2 q3 ⊢
      replace j1 := lt_of j1 (by omega)
      refine Tot.pos j0 (Tot.pos j1 (Tot.some_bind ?_))
      refine Tot.bind (pick_t hl _ _ _ (by omega) (by omega)) ?_
      rintro ⟨m, a3, s3⟩ ⟨m0, m1, q4, q5⟩
      simp only at q4 q5 ⊢
      clear m0 m1
      obtain ⟨p, rfl⟩ : ∃ p : Nat, i = (p : Int) := ⟨i.toNat, by omega⟩
      have hi1 : wrap64 ((p : Int) + 1) = (p : Int) + 1 := wrap_in (by omega) (by omega)
      have hn1 := down_one n (by omega)
      have e1 := toNat_one p
      rw [hi1, hn1, e1, Int.toNat_natCast]
      have z0 := ext_size t 0 p (by omega)
      have z1 := ext_size t p t.size (by omega)
      have z2 := ext_size t (p + 1) t.size (by omega)
      have z3 := strOne (bt w j)
      clear j0 j1 hi1 hn1 e1
      refine Tot.ite (fun _ => ?_) (fun _ => Tot.ite (fun _ => ?_) (fun _ => ?_))
      · refine Tot.pos (by omega) (Tot.pos (by omega) (Tot.pos (by omega) (Tot.pos (by rw [ByteArray.size_append]; omega) ?_)))
        refine (ih _ a3 s3 (by omega) (by simp only [ByteArray.size_append]; omega) (by omega) (by omega)).mono ?_
        rintro v ⟨v0, v1, v2⟩
        simp only [ByteArray.size_append] at v0
        exact ⟨by omega, by omega, by omega⟩
      · refine Tot.pos (by omega) (Tot.pos (by omega) (Tot.pos (by omega) (Tot.pos (by omega) (Tot.pos (by omega) (Tot.pos (by rw [ByteArray.size_append]; omega) ?_)))))
        refine (ih _ a3 s3 (by omega) (by simp only [ByteArray.size_append]; omega) (by omega) (by omega)).mono ?_
        rintro v ⟨v0, v1, v2⟩
        simp only [ByteArray.size_append] at v0
        exact ⟨by omega, by omega, by omega⟩
      · refine Tot.pos (by omega) (Tot.pos (by omega) (Tot.pos (by omega) (Tot.pos (by omega) (Tot.pos (by omega) ?_))))
        refine (ih _ a3 s3 (by omega) (by simp only [ByteArray.size_append]; omega) (by omega) (by omega)).mono ?_
        rintro v ⟨v0, v1, v2⟩
        simp only [ByteArray.size_append] at v0
        exact ⟨by omega, by omega, by omega⟩
    · exact ⟨by simp only; omega, by simp only; omega, by simp only; omega⟩
theorem spoilt_t {l : List Int} (hl : ∀ x ∈ l, 0 ≤ x ∧ x ≤ 255) (t w : ByteArray) (a s : Int) (hw : 0 < w.size) (ht : t.size ≤ 90) (h0 : 0 ≤ a) (h1 : a ≤ 800000000) :
    Tot (fun k => spec_l1Cur_spoilt.f k l a s t w) (fun v => v.1.size ≤ t.size + 2 ∧ a ≤ v.2.1 ∧ v.2.1 ≤ a + 20) := by
  unfold spec_l1Cur_spoilt.f
  refine Tot.bind (pick_t hl _ _ _ (by omega) (by omega)) ?_
  rintro ⟨i, a1, s1⟩ ⟨i0, i1, q0, q1⟩
  simp only at i0 i1 q0 q1 ⊢
  obtain ⟨p, hp⟩ : ∃ p : Nat, 1 + i = (p : Int) := ⟨(1 + i).toNat, by omega⟩
  rw [wrap_in (by omega) (by omega), hp]
  refine (spoilt_loop hl w hw p t a1 s1 (by omega) (by omega) (by omega) (by omega)).mono ?_
  rintro v ⟨v0, v1, v2⟩
  exact ⟨by omega, by omega, by omega⟩
set_option maxHeartbeats 2000000 in
theorem balls_loop {l : List Int} (hl : ∀ x ∈ l, 0 ≤ x ∧ x ≤ 255) : ∀ (n : Nat) (t : ByteArray) (a s r : Int) (c : Bool) (m : Int), n ≤ 9 → t.size + n ≤ 20 → 0 ≤ a → a + 4 * n ≤ 700000000 →
    Tot (fun k => spec_l1Cur_balls.l0 k t (n : Int) l a s r c m) (fun v => a ≤ v.2.1 ∧ v.2.1 ≤ a + 4 * n + 40) := by
  have fin : ∀ (t : ByteArray) (a s : Int), t.size ≤ 20 → 0 ≤ a → a ≤ 700001000 → Tot (fun k => spec_l1Cur_balls.j2 k t l a s) (fun v => a ≤ v.2.1 ∧ v.2.1 ≤ a + 40) := by
    intro t a s ht h0 h1
    refine Tot.step (fun k => spec_l1Cur_balls.j2.eq_2 _ _ _ _ _) (Tot.bind (one_t hl _ _ _ (by omega) (by omega)) ?_)
    rintro v ⟨q0, q1⟩
    refine Tot.ite (fun _ => ?_) (fun _ => Tot.ret ⟨by simp only; omega, by simp only; omega⟩)
    refine Tot.bind (spoilt_t hl t _ _ _ (by decide) (by omega) (by omega) (by omega)) ?_
    rintro u ⟨_, q2, q3⟩
    exact Tot.ret ⟨by simp only; omega, by simp only; omega⟩
  intro n
  induction n with
  | zero =>
    intro t a s r c m _ ht h0 h1
    refine Tot.step (fun k => spec_l1Cur_balls.l0.eq_2 _ _ _ _ _ _ _ _ _) (Tot.neg (by omega) (Tot.step (fun k => spec_l1Cur_balls.j1.eq_2 _ _ _ _ _ _ _ _ _ _) (Tot.neg (by decide) ?_)))
    refine (fin t a s (by omega) h0 (by omega)).mono ?_
    rintro v ⟨v0, v1⟩
    exact ⟨v0, by omega⟩
  | succ n ih =>
    intro t a s r c m hn ht h0 h1
    refine Tot.step (fun k => spec_l1Cur_balls.l0.eq_2 _ _ _ _ _ _ _ _ _) (Tot.pos (by omega) ?_)
    rw [frGood_eq]
    refine Tot.some_bind (Tot.step (fun k => spec_l1Cur_balls.j1.eq_2 _ _ _ _ _ _ _ _ _ _) (Tot.ite (fun hg => ?_) (fun _ => ?_)))
    · obtain ⟨S, hS, hN, _, hP⟩ := next hg
      refine Tot.bind hN ?_
      rintro _ rfl
      refine Tot.ite (fun _ => ?_) (fun he => ?_)
      · refine (fin t a s (by omega) h0 (by omega)).mono ?_
        rintro v ⟨v0, v1⟩
        exact ⟨v0, by omega⟩
      · have hz : S.size ≠ 0 := fun e => he (by
          have e2 : S.data.toList = [] := List.length_eq_zero_iff.1 (by rw [← size_list]; exact e)
          rw [show S = ⟨#[]⟩ from ByteArray.ext (Array.ext' e2)]
          decide +kernel)
        refine Tot.bind (pick_t hl _ _ _ (by omega) (by omega)) ?_
        rintro ⟨i, a1, s1⟩ ⟨i0, i1, q0, q1⟩
        simp only at i0 i1 q0 q1 ⊢
        replace i1 := lt_of i1 (by omega)
        obtain ⟨p, rfl⟩ : ∃ p : Nat, i = (p : Int) := ⟨i.toNat, by omega⟩
        have hi1 : wrap64 ((p : Int) + 1) = (p : Int) + 1 := wrap_in (by omega) (by omega)
        rw [hi1, down_one n (by omega), toNat_one p, Int.toNat_natCast]
        have z0 := ext_size S p (p + 1) (by omega)
        refine Tot.pos i0 (Tot.pos (by omega) (Tot.pos (by omega) (Tot.pos (by omega) (Tot.pos (by omega) ?_))))
        refine Tot.bind (frPot_t hS hN) ?_
        rintro _ rfl
        refine (ih _ a1 s1 _ _ _ (by omega) (by rw [ByteArray.size_append]; omega) (by omega) (by omega)).mono ?_
        rintro v ⟨v1, v2⟩
        exact ⟨by omega, by omega⟩
    · refine (fin t a s (by omega) h0 (by omega)).mono ?_
      rintro v ⟨v0, v1⟩
      exact ⟨v0, by omega⟩
theorem balls_t {l : List Int} (hl : ∀ x ∈ l, 0 ≤ x ∧ x ≤ 255) (a s r : Int) (c : Bool) (m : Int) (h0 : 0 ≤ a) (h1 : a ≤ 600000000) :
    Tot (fun k => spec_l1Cur_balls.f k l a s r c m) (fun v => a ≤ v.2.1 ∧ v.2.1 ≤ a + 100) := by
  unfold spec_l1Cur_balls.f
  refine Tot.bind (pick_t hl _ _ _ (by omega) (by omega)) ?_
  rintro ⟨i, a1, s1⟩ ⟨i0, i1, q0, q1⟩
  simp only at i0 i1 q0 q1 ⊢
  obtain ⟨p, rfl⟩ : ∃ p : Nat, i = (p : Int) := ⟨i.toNat, by omega⟩
  refine (balls_loop hl p _ a1 s1 r c m (by omega) (by show 0 + p ≤ 20; omega) (by omega) (by omega)).mono ?_
  rintro v ⟨v0, v1⟩
  exact ⟨by omega, by omega⟩
theorem drawPlay_loop {l : List Int} (hl : ∀ x ∈ l, 0 ≤ x ∧ x ≤ 255) : ∀ (n : Nat) (L : List ByteArray) (a s r0 : Int) (c0 : Bool) (m0 r : Int) (c : Bool) (m : Int), n ≤ 9 → L.length + n ≤ 20 → 0 ≤ a → a + 100 * n ≤ 500000000 →
    Tot (fun k => spec_DrawPlayFrame.l0 k L (n : Int) l a s r0 c0 m0 r c m) (fun _ => True) := by
  intro n
  induction n with
  | zero =>
    intro L a s r0 c0 m0 r c m _ _ _ _
    exact Tot.step (fun k => spec_DrawPlayFrame.l0.eq_2 _ _ _ _ _ _ _ _ _ _ _ _) (Tot.neg (by omega) (Tot.ret trivial))
  | succ n ih =>
    intro L a s r0 c0 m0 r c m hn hL h0 h1
    have hn1 := down_one n (by omega)
    refine Tot.step (fun k => spec_DrawPlayFrame.l0.eq_2 _ _ _ _ _ _ _ _ _ _ _ _) (Tot.pos (by omega) ?_)
    refine Tot.bind (balls_t hl a s r c m h0 (by omega)) ?_
    rintro ⟨t, a1, s1⟩ ⟨q0, q1⟩
    simp only at q0 q1 ⊢
    refine Tot.pos (by omega) (Tot.some_bind ?_)
    rw [frGood_eq, hn1]
    refine Tot.some_bind (Tot.ite (fun hg => ?_) (fun _ => ?_))
    · obtain ⟨x, y, hx, _, _⟩ := after_t t hg
      refine Tot.bind (Tot.of hx) ?_
      rintro _ rfl
      exact ih _ _ _ _ _ _ _ _ _ (by omega) (by rw [List.length_append]; simp only [List.length_cons, List.length_nil]; omega) (by omega) (by omega)
    · exact ih _ _ _ _ _ _ _ _ _ (by omega) (by rw [List.length_append]; simp only [List.length_cons, List.length_nil]; omega) (by omega) (by omega)
theorem drawPlay_t {l : List Int} (hl : ∀ x ∈ l, 0 ≤ x ∧ x ≤ 255) : Tot (fun k => spec_DrawPlayFrame.f k l) (fun _ => True) := by
  unfold spec_DrawPlayFrame.f
  refine Tot.bind (frame_t hl _ _ (by omega) (by omega)) ?_
  rintro u ⟨h4, h5⟩
  refine Tot.bind (pick_t hl _ _ _ (by omega) (by omega)) ?_
  rintro ⟨i, a1, s1⟩ ⟨i0, i1, q0, q1⟩
  simp only at i0 i1 q0 q1 ⊢
  obtain ⟨p, rfl⟩ : ∃ p : Nat, i = (p : Int) := ⟨i.toNat, by omega⟩
  exact drawPlay_loop hl p [] _ _ _ _ _ _ _ _ (by omega) (by show 0 + p ≤ 20; omega) (by omega) (by omega)
end Go.Proofs.YtcmlmjgoidpabaaDoor.Pure

