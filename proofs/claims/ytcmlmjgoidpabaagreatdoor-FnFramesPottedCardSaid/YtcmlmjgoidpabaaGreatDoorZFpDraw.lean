/- What is drawn for the law on potted balls is always told. -/
import Derived.Test.YtcmlmjgoidpabaaGreatDoorZFpParse
set_option linter.unusedVariables false
set_option linter.unusedSimpArgs false
namespace Go.Proofs.YtcmlmjgoidpabaaGreatDoor.Pure
open Go.RowKit Go.Proofs.YtcmlmjgoidpabaaGreatDoor.MFnFramesPotted Go.Proofs.YtcmlmjgoidpabaaGreatDoorW.PrintWords Go.Proofs.YtcmlmjgoidpabaaGreatDoorW.PrintLast
theorem bits255 {x : Int} (h0 : 0 ≤ x) (h1 : x < 18446744073709551616) : Go.bits .and .u64 x 255 = x % 256 :=
  bits_mask .u64 64 (by decide) (fun n h0 h1 => by rw [IntKind.wrap_u64]; omega) 8 (by decide) x h0 h1
theorem next_low {x : Int} : 0 ≤ wrap64 (Go.bits .and .u64 (IntKind.u64.wrap x / 1099511627776) 255) ∧ wrap64 (Go.bits .and .u64 (IntKind.u64.wrap x / 1099511627776) 255) ≤ 255 := by
  have h : 0 ≤ IntKind.u64.wrap x ∧ IntKind.u64.wrap x < 18446744073709551616 := by rw [IntKind.wrap_u64]; omega
  rw [bits255 (by omega) (by omega), wrap_in (by omega) (by omega)]
  omega
theorem next_t {l : List Int} (hl : ∀ x ∈ l, 0 ≤ x ∧ x ≤ 255) (a s : Int) (h0 : 0 ≤ a) (h1 : a ≤ 1000000000) : Tot (fun _ => spec_l1Cur_next.f l a s) (fun v => 0 ≤ v.1 ∧ v.1 ≤ 255 ∧ v.2.1 = a + 1) := by
  have hw : wrap64 (a + 1) = a + 1 := wrap_in (by omega) (by omega)
  unfold spec_l1Cur_next.f
  refine Tot.ite (fun c => Tot.pos h0 (Tot.ite (fun _ => Tot.ret ?_) (fun _ => Tot.ret ?_))) (fun c => Tot.ite (fun _ => Tot.ret ?_) (fun _ => Tot.ret ?_))
  · obtain ⟨n, rfl⟩ : ∃ n : Nat, a = (n : Int) := ⟨a.toNat, by omega⟩
    have hn : n < l.length := by omega
    have := hl _ (List.getElem_mem hn)
    rw [rd_get l n hn, wrap_in (by omega) (by omega)]
    exact ⟨this.1, this.2, hw⟩
  · exact ⟨next_low.1, next_low.2, hw⟩
  · exact ⟨by simp only; omega, by simp only; omega, hw⟩
  · exact ⟨next_low.1, next_low.2, hw⟩
theorem pick_t {l : List Int} (hl : ∀ x ∈ l, 0 ≤ x ∧ x ≤ 255) (a s n : Int) (h0 : 0 ≤ a) (h1 : a ≤ 999999990) : Tot (fun _ => spec_l1Cur_pick.f l a s n) (fun v => 0 ≤ v.1 ∧ (v.1 < n ∨ v.1 = 0) ∧ a ≤ v.2.1 ∧ v.2.1 ≤ a + 2) := by
  unfold spec_l1Cur_pick.f
  refine Tot.ite (fun c => Tot.ret ⟨Int.le_refl _, .inr rfl, by simp only; omega, by simp only; omega⟩) (fun c => ?_)
  refine Tot.bind (next_t hl a s h0 (by omega)) ?_
  rintro ⟨x, a1, s1⟩ ⟨x0, x1, rfl⟩
  simp only at x0 x1 ⊢
  refine Tot.ite (fun c => ?_) (fun c => ?_)
  · refine Tot.bind (next_t hl (a + 1) s1 (by omega) (by omega)) ?_
    rintro ⟨y, a2, s2⟩ ⟨y0, y1, rfl⟩
    simp only at y0 y1 ⊢
    refine Tot.neg (by omega) (Tot.ret ?_)
    rw [wrap_in (x := x * 256) (by omega) (by omega), wrap_in (by omega) (by omega), tmod_in (by omega)]
    have h2 := Int.emod_nonneg (x * 256 + y) (show n ≠ 0 by omega)
    have h3 := Int.emod_lt_of_pos (x * 256 + y) (show 0 < n by omega)
    exact ⟨h2, .inl h3, by simp only; omega, by simp only; omega⟩
  · refine Tot.neg (by omega) (Tot.ret ?_)
    rw [tmod_in (by omega)]
    have h2 := Int.emod_nonneg x (show n ≠ 0 by omega)
    have h3 := Int.emod_lt_of_pos x (show 0 < n by omega)
    exact ⟨h2, .inl h3, by simp only; omega, by simp only; omega⟩
theorem one_t {l : List Int} (hl : ∀ x ∈ l, 0 ≤ x ∧ x ≤ 255) (a s n : Int) (h0 : 0 ≤ a) (h1 : a ≤ 999999990) : Tot (fun _ => spec_l1Cur_one.f l a s n) (fun v => a ≤ v.2.1 ∧ v.2.1 ≤ a + 2) := by
  unfold spec_l1Cur_one.f
  refine Tot.bind (pick_t hl a s n h0 h1) ?_
  rintro v ⟨_, _, h2, h3⟩
  exact Tot.ret ⟨h2, h3⟩
theorem among_t {l : List Int} (hl : ∀ x ∈ l, 0 ≤ x ∧ x ≤ 255) (a s : Int) (L : List Int) (hL : 0 < L.length) (h0 : 0 ≤ a) (h1 : a ≤ 999999990) : Tot (fun _ => spec_l1Cur_among.f l a s L) (fun v => a ≤ v.2.1 ∧ v.2.1 ≤ a + 2) := by
  unfold spec_l1Cur_among.f
  refine Tot.bind (pick_t hl a s _ h0 h1) ?_
  rintro v ⟨h4, h5, h2, h3⟩
  exact Tot.pos h4 (Tot.pos (by omega) (Tot.ret ⟨h2, h3⟩))
theorem sureFrame_t {l : List Int} (hl : ∀ x ∈ l, 0 ≤ x ∧ x ≤ 255) (a s : Int) (h0 : 0 ≤ a) (h1 : a ≤ 999999980) : Tot (fun _ => spec_l1Cur_sureFrame.f l a s) (fun v => a ≤ v.2.2.2.1 ∧ v.2.2.2.1 ≤ a + 4) := by
  unfold spec_l1Cur_sureFrame.f
  refine Tot.bind (pick_t hl a s _ h0 (by omega)) ?_
  rintro v ⟨_, _, h2, h3⟩
  refine Tot.ite (fun _ => ?_) (fun _ => Tot.ite (fun _ => ?_) (fun _ => Tot.ite (fun _ => ?_) (fun _ => ?_)))
  · refine Tot.bind (pick_t hl _ _ _ (by omega) (by omega)) ?_
    rintro u ⟨_, _, h4, h5⟩
    exact Tot.ret ⟨by simp only; omega, by simp only; omega⟩
  · refine Tot.bind (pick_t hl _ _ _ (by omega) (by omega)) ?_
    rintro u ⟨_, _, h4, h5⟩
    exact Tot.ret ⟨by simp only; omega, by simp only; omega⟩
  · refine Tot.bind (among_t hl _ _ _ (by decide) (by omega) (by omega)) ?_
    rintro u ⟨h4, h5⟩
    exact Tot.ret ⟨by simp only; omega, by simp only; omega⟩
  · refine Tot.bind (pick_t hl _ _ _ (by omega) (by omega)) ?_
    rintro u ⟨_, _, h4, h5⟩
    exact Tot.ret ⟨by simp only; omega, by simp only; omega⟩
theorem frame_t {l : List Int} (hl : ∀ x ∈ l, 0 ≤ x ∧ x ≤ 255) (a s : Int) (h0 : 0 ≤ a) (h1 : a ≤ 999999970) : Tot (fun _ => spec_l1Cur_frame.f l a s) (fun v => a ≤ v.2.2.2.1 ∧ v.2.2.2.1 ≤ a + 8) := by
  unfold spec_l1Cur_frame.f
  refine Tot.bind (sureFrame_t hl a s h0 (by omega)) ?_
  rintro w ⟨h8, h9⟩
  refine Tot.bind (pick_t hl _ _ _ (by omega) (by omega)) ?_
  rintro v ⟨_, _, h2, h3⟩
  refine Tot.ite (fun _ => ?_) (fun _ => Tot.ite (fun _ => ?_) (fun _ => Tot.ite (fun _ => ?_) (fun _ => ?_)))
  · refine Tot.bind (among_t hl _ _ _ (by decide) (by omega) (by omega)) ?_
    rintro u ⟨h4, h5⟩
    exact Tot.ret ⟨by simp only; omega, by simp only; omega⟩
  · refine Tot.bind (among_t hl _ _ _ (by decide) (by omega) (by omega)) ?_
    rintro u ⟨h4, h5⟩
    exact Tot.ret ⟨by simp only; omega, by simp only; omega⟩
  · exact Tot.ret ⟨by simp only; omega, by simp only; omega⟩
  · exact Tot.ret ⟨by simp only; omega, by simp only; omega⟩
theorem strOne (x : Int) : (strOfNums [x]).size = 1 := rfl
theorem ext_size (b : ByteArray) (i j : Nat) (hj : j ≤ b.size) : (b.extract i j).size = j - i := by
  have : (b.extract i j).size = min j b.size - i := by simp
  omega
theorem toNat_one (p : Nat) : ((p : Int) + 1).toNat = p + 1 := by omega
theorem down_one (n : Nat) (h : n ≤ 1000) : wrap64 (((n + 1 : Nat) : Int) - 1) = (n : Int) := by rw [wrap_in (by omega) (by omega)]; omega
theorem lt_of {i n : Int} (h : i < n ∨ i = 0) (hn : 0 < n) : i < n := by omega
set_option maxHeartbeats 2000000 in
theorem spoilt_loop {l : List Int} (hl : ∀ x ∈ l, 0 ≤ x ∧ x ≤ 255) (w : ByteArray) (hw : 0 < w.size) : ∀ (n : Nat) (t : ByteArray) (a s : Int), n ≤ 2 → t.size + n ≤ 100 → 0 ≤ a → a + 6 * n ≤ 900000000 →
    Tot (fun k => spec_l1Cur_spoilt.l0 k t w (n : Int) l a s) (fun v => v.1.size ≤ t.size + n ∧ a ≤ v.2.1 ∧ v.2.1 ≤ a + 6 * n) := by
  intro n
  induction n with
  | zero =>
    intro t a s _ _ h0 h1
    refine Tot.step (fun k => spec_l1Cur_spoilt.l0.eq_2 _ _ _ _ _ _ _) (Tot.neg (by omega) (Tot.step (fun k => spec_l1Cur_spoilt.j1.eq_2 _ _ _ _ _ _ _ _) (Tot.neg (by decide) (Tot.ret ?_))))
    exact ⟨by simp only; omega, by simp only; omega, by simp only; omega⟩
  | succ n ih =>
    intro t a s hn ht h0 h1
    refine Tot.step (fun k => spec_l1Cur_spoilt.l0.eq_2 _ _ _ _ _ _ _) (Tot.pos (by omega) (Tot.step (fun k => spec_l1Cur_spoilt.j1.eq_2 _ _ _ _ _ _ _ _) (Tot.ite (fun c => ?_) (fun _ => Tot.ret ?_))))
    · have c : (t.size : Int) > 0 := by simpa using c
      refine Tot.bind (pick_t hl _ _ _ (by omega) (by omega)) ?_
      rintro ⟨i, a1, s1⟩ ⟨i0, i1, q0, q1⟩
      simp only at i0 i1 q0 q1 ⊢
      replace i1 := lt_of i1 c
      refine Tot.bind (pick_t hl _ _ _ (by omega) (by omega)) ?_
      rintro ⟨j, a2, s2⟩ ⟨j0, j1, q2, q3⟩
      simp only at j0 j1 q2 q3 ⊢
      replace j1 := lt_of j1 (by omega)
      refine Tot.pos j0 (Tot.pos j1 (Tot.some_bind ?_))
      refine Tot.bind (pick_t hl _ _ _ (by omega) (by omega)) ?_
      rintro ⟨m, a3, s3⟩ ⟨m0, m1, q4, q5⟩
      simp only at q4 q5 ⊢
      clear m0 m1
      obtain ⟨p, rfl⟩ : ∃ p : Nat, i = (p : Int) := ⟨i.toNat, by omega⟩
      have hi1 : wrap64 ((p : Int) + 1) = (p : Int) + 1 := wrap_in (by omega) (by omega)
      have hn1 := down_one n (by omega)
      have e1 := toNat_one p
      rw [hi1, hn1, e1, Int.toNat_natCast]
      have z0 := ext_size t 0 p (by omega)
      have z1 := ext_size t p t.size (by omega)
      have z2 := ext_size t (p + 1) t.size (by omega)
      have z3 := strOne (bt w j)
      clear j0 j1 hi1 hn1 e1
      refine Tot.ite (fun _ => ?_) (fun _ => Tot.ite (fun _ => ?_) (fun _ => ?_))
      · refine Tot.pos (by omega) (Tot.pos (by omega) (Tot.pos (by omega) (Tot.pos (by rw [ByteArray.size_append]; omega) ?_)))
        refine (ih _ a3 s3 (by omega) (by simp only [ByteArray.size_append]; omega) (by omega) (by omega)).mono ?_
        rintro v ⟨v0, v1, v2⟩
        simp only [ByteArray.size_append] at v0
        exact ⟨by omega, by omega, by omega⟩
      · refine Tot.pos (by omega) (Tot.pos (by omega) (Tot.pos (by omega) (Tot.pos (by omega) (Tot.pos (by omega) (Tot.pos (by rw [ByteArray.size_append]; omega) ?_)))))
        refine (ih _ a3 s3 (by omega) (by simp only [ByteArray.size_append]; omega) (by omega) (by omega)).mono ?_
        rintro v ⟨v0, v1, v2⟩
        simp only [ByteArray.size_append] at v0
        exact ⟨by omega, by omega, by omega⟩
      · refine Tot.pos (by omega) (Tot.pos (by omega) (Tot.pos (by omega) (Tot.pos (by omega) (Tot.pos (by omega) ?_))))
        refine (ih _ a3 s3 (by omega) (by simp only [ByteArray.size_append]; omega) (by omega) (by omega)).mono ?_
        rintro v ⟨v0, v1, v2⟩
        simp only [ByteArray.size_append] at v0
        exact ⟨by omega, by omega, by omega⟩
    · exact ⟨by simp only; omega, by simp only; omega, by simp only; omega⟩
theorem spoilt_t {l : List Int} (hl : ∀ x ∈ l, 0 ≤ x ∧ x ≤ 255) (t w : ByteArray) (a s : Int) (hw : 0 < w.size) (ht : t.size ≤ 90) (h0 : 0 ≤ a) (h1 : a ≤ 800000000) :
    Tot (fun k => spec_l1Cur_spoilt.f k l a s t w) (fun v => v.1.size ≤ t.size + 2 ∧ a ≤ v.2.1 ∧ v.2.1 ≤ a + 20) := by
  unfold spec_l1Cur_spoilt.f
  refine Tot.bind (pick_t hl _ _ _ (by omega) (by omega)) ?_
  rintro ⟨i, a1, s1⟩ ⟨i0, i1, q0, q1⟩
  simp only at i0 i1 q0 q1 ⊢
  obtain ⟨p, hp⟩ : ∃ p : Nat, 1 + i = (p : Int) := ⟨(1 + i).toNat, by omega⟩
  rw [wrap_in (by omega) (by omega), hp]
  refine (spoilt_loop hl w hw p t a1 s1 (by omega) (by omega) (by omega) (by omega)).mono ?_
  rintro v ⟨v0, v1, v2⟩
  exact ⟨by omega, by omega, by omega⟩
set_option maxHeartbeats 2000000 in
theorem balls_loop {l : List Int} (hl : ∀ x ∈ l, 0 ≤ x ∧ x ≤ 255) : ∀ (n : Nat) (t : ByteArray) (a s r : Int) (c : Bool) (m : Int), n ≤ 9 → t.size + n ≤ 20 → 0 ≤ a → a + 4 * n ≤ 700000000 →
    Tot (fun k => spec_l1Cur_balls.l0 k t (n : Int) l a s r c m) (fun v => a ≤ v.2.1 ∧ v.2.1 ≤ a + 4 * n + 40) := by
  have fin : ∀ (t : ByteArray) (a s : Int), t.size ≤ 20 → 0 ≤ a → a ≤ 700001000 → Tot (fun k => spec_l1Cur_balls.j2 k t l a s) (fun v => a ≤ v.2.1 ∧ v.2.1 ≤ a + 40) := by
    intro t a s ht h0 h1
    refine Tot.step (fun k => spec_l1Cur_balls.j2.eq_2 _ _ _ _ _) (Tot.bind (one_t hl _ _ _ (by omega) (by omega)) ?_)
    rintro v ⟨q0, q1⟩
    refine Tot.ite (fun _ => ?_) (fun _ => Tot.ret ⟨by simp only; omega, by simp only; omega⟩)
    refine Tot.bind (spoilt_t hl t _ _ _ (by decide) (by omega) (by omega) (by omega)) ?_
    rintro u ⟨_, q2, q3⟩
    exact Tot.ret ⟨by simp only; omega, by simp only; omega⟩
  intro n
  induction n with
  | zero =>
    intro t a s r c m _ ht h0 h1
    refine Tot.step (fun k => spec_l1Cur_balls.l0.eq_2 _ _ _ _ _ _ _ _ _) (Tot.neg (by omega) (Tot.step (fun k => spec_l1Cur_balls.j1.eq_2 _ _ _ _ _ _ _ _ _ _) (Tot.neg (by decide) ?_)))
    refine (fin t a s (by omega) h0 (by omega)).mono ?_
    rintro v ⟨v0, v1⟩
    exact ⟨v0, by omega⟩
  | succ n ih =>
    intro t a s r c m hn ht h0 h1
    refine Tot.step (fun k => spec_l1Cur_balls.l0.eq_2 _ _ _ _ _ _ _ _ _) (Tot.pos (by omega) ?_)
    rw [frGood_eq]
    refine Tot.some_bind (Tot.step (fun k => spec_l1Cur_balls.j1.eq_2 _ _ _ _ _ _ _ _ _ _) (Tot.ite (fun hg => ?_) (fun _ => ?_)))
    · obtain ⟨S, hS, hN, _, hP⟩ := next hg
      refine Tot.bind hN ?_
      rintro _ rfl
      refine Tot.ite (fun _ => ?_) (fun he => ?_)
      · refine (fin t a s (by omega) h0 (by omega)).mono ?_
        rintro v ⟨v0, v1⟩
        exact ⟨v0, by omega⟩
      · have hz : S.size ≠ 0 := fun e => he (by
          have e2 : S.data.toList = [] := List.length_eq_zero_iff.1 (by rw [← size_list]; exact e)
          rw [show S = ⟨#[]⟩ from ByteArray.ext (Array.ext' e2)]
          decide +kernel)
        refine Tot.bind (pick_t hl _ _ _ (by omega) (by omega)) ?_
        rintro ⟨i, a1, s1⟩ ⟨i0, i1, q0, q1⟩
        simp only at i0 i1 q0 q1 ⊢
        replace i1 := lt_of i1 (by omega)
        obtain ⟨p, rfl⟩ : ∃ p : Nat, i = (p : Int) := ⟨i.toNat, by omega⟩
        have hi1 : wrap64 ((p : Int) + 1) = (p : Int) + 1 := wrap_in (by omega) (by omega)
        rw [hi1, down_one n (by omega), toNat_one p, Int.toNat_natCast]
        have z0 := ext_size S p (p + 1) (by omega)
        refine Tot.pos i0 (Tot.pos (by omega) (Tot.pos (by omega) (Tot.pos (by omega) (Tot.pos (by omega) ?_))))
        refine Tot.bind (frPot_t hS hN) ?_
        rintro _ rfl
        refine (ih _ a1 s1 _ _ _ (by omega) (by rw [ByteArray.size_append]; omega) (by omega) (by omega)).mono ?_
        rintro v ⟨v1, v2⟩
        exact ⟨by omega, by omega⟩
    · refine (fin t a s (by omega) h0 (by omega)).mono ?_
      rintro v ⟨v0, v1⟩
      exact ⟨v0, by omega⟩
theorem balls_t {l : List Int} (hl : ∀ x ∈ l, 0 ≤ x ∧ x ≤ 255) (a s r : Int) (c : Bool) (m : Int) (h0 : 0 ≤ a) (h1 : a ≤ 600000000) :
    Tot (fun k => spec_l1Cur_balls.f k l a s r c m) (fun v => a ≤ v.2.1 ∧ v.2.1 ≤ a + 100) := by
  unfold spec_l1Cur_balls.f
  refine Tot.bind (pick_t hl _ _ _ (by omega) (by omega)) ?_
  rintro ⟨i, a1, s1⟩ ⟨i0, i1, q0, q1⟩
  simp only at i0 i1 q0 q1 ⊢
  obtain ⟨p, rfl⟩ : ∃ p : Nat, i = (p : Int) := ⟨i.toNat, by omega⟩
  refine (balls_loop hl p _ a1 s1 r c m (by omega) (by show 0 + p ≤ 20; omega) (by omega) (by omega)).mono ?_
  rintro v ⟨v0, v1⟩
  exact ⟨by omega, by omega⟩
theorem drawBreak_t {l : List Int} (hl : ∀ x ∈ l, 0 ≤ x ∧ x ≤ 255) : Tot (fun k => spec_DrawIsBreak.f k l) (fun _ => True) := by
  unfold spec_DrawIsBreak.f
  refine Tot.bind (frame_t hl _ _ (by omega) (by omega)) ?_
  rintro u ⟨h4, h5⟩
  refine Tot.bind (balls_t hl _ _ _ _ _ (by omega) (by omega)) ?_
  rintro _ _
  exact Tot.ret trivial
theorem of_t {l : List Int} (hl : ∀ x ∈ l, 0 ≤ x ∧ x ≤ 255) (a s : Int) (L : List ByteArray) (hL : 0 < L.length) (h0 : 0 ≤ a) (h1 : a ≤ 999999990) : Tot (fun _ => spec_l1Cur_of.f l a s L) (fun _ => True) := by
  unfold spec_l1Cur_of.f
  refine Tot.bind (pick_t hl a s _ h0 h1) ?_
  rintro v ⟨h4, h5, h2, h3⟩
  exact Tot.pos h4 (Tot.pos (by omega) (Tot.ret trivial))
theorem drawPot_t {l : List Int} (hl : ∀ x ∈ l, 0 ≤ x ∧ x ≤ 255) : Tot (fun k => spec_DrawPotBall.f k l) (fun _ => True) := by
  have tail : ∀ (b : Bool) (a s r : Int) (c : Bool) (m : Int), (b = true → goodB r c m = true) → 0 ≤ a → a ≤ 1000 → Tot (fun k => spec_DrawPotBall.j0 k b l a s r c m) (fun _ => True) := by
    intro b a s r c m hg h0 h1
    refine Tot.step (fun k => spec_DrawPotBall.j0.eq_2 _ _ _ _ _ _ _ _) (Tot.ite (fun e => ?_) (fun _ => ?_))
    · obtain ⟨S, hS, hN, _, _⟩ := next (hg e)
      refine Tot.bind hN ?_
      rintro _ rfl
      refine Tot.ite (fun _ => ?_) (fun he => ?_)
      · refine Tot.bind (of_t hl _ _ _ (by decide) h0 (by omega)) ?_
        rintro _ _
        exact Tot.ret trivial
      · have hz : S.size ≠ 0 := fun e => he (by
          have e2 : S.data.toList = [] := List.length_eq_zero_iff.1 (by rw [← size_list]; exact e)
          rw [show S = ⟨#[]⟩ from ByteArray.ext (Array.ext' e2)]
          decide +kernel)
        refine Tot.bind (pick_t hl _ _ _ h0 (by omega)) ?_
        rintro ⟨i, a1, s1⟩ ⟨i0, i1, q0, q1⟩
        simp only at i0 i1 q0 q1 ⊢
        replace i1 := lt_of i1 (by omega)
        rw [wrap_in (x := i + 1) (by omega) (by omega)]
        exact Tot.pos i0 (Tot.pos (by omega) (Tot.pos (by omega) (Tot.ret trivial)))
    · refine Tot.bind (of_t hl _ _ _ (by decide) h0 (by omega)) ?_
      rintro _ _
      exact Tot.ret trivial
  unfold spec_DrawPotBall.f
  refine Tot.bind (frame_t hl _ _ (by omega) (by omega)) ?_
  rintro u ⟨h4, h5⟩
  rw [frGood_eq]
  refine Tot.some_bind (Tot.ite (fun g => ?_) (fun _ => tail false _ _ _ _ _ (fun e => by cases e) (by omega) (by omega)))
  refine Tot.bind (one_t hl _ _ _ (by omega) (by omega)) ?_
  rintro v ⟨q0, q1⟩
  exact tail _ _ _ _ _ _ (fun _ => g) (by omega) (by omega)
theorem drawFirst_t {l : List Int} (hl : ∀ x ∈ l, 0 ≤ x ∧ x ≤ 255) : Tot (fun _ => spec_DrawFirstFrame.f l) (fun _ => True) := by
  unfold spec_DrawFirstFrame.f
  refine Tot.bind (among_t hl _ _ _ (by decide) (by omega) (by omega)) ?_
  rintro _ _
  exact Tot.ret trivial
theorem sure_t {l : List Int} (hl : ∀ x ∈ l, 0 ≤ x ∧ x ≤ 255) : Tot (fun _ => spec_l1Cur_sureFrame.f l 0 0) (fun v => 0 ≤ v.1 ∧ v.1 < 100 ∧ 0 ≤ v.2.2.1 ∧ v.2.2.1 < 100 ∧ 0 ≤ v.2.2.2.1 ∧ v.2.2.2.1 ≤ 4) := by
  unfold spec_l1Cur_sureFrame.f
  refine Tot.bind (pick_t hl _ _ _ (by omega) (by omega)) ?_
  rintro v ⟨_, _, h2, h3⟩
  refine Tot.ite (fun _ => ?_) (fun _ => Tot.ite (fun _ => ?_) (fun _ => Tot.ite (fun _ => ?_) (fun _ => ?_)))
  · refine Tot.bind (pick_t hl _ _ _ (by omega) (by omega)) ?_
    rintro u ⟨u0, u1, h4, h5⟩
    rw [wrap_in (by omega) (by omega)]
    exact Tot.ret ⟨by simp only; omega, by simp only; omega, by simp only; omega, by simp only; omega, by simp only; omega, by simp only; omega⟩
  · refine Tot.bind (pick_t hl _ _ _ (by omega) (by omega)) ?_
    rintro u ⟨u0, u1, h4, h5⟩
    exact Tot.ret ⟨by simp only; omega, by simp only; omega, by simp only; omega, by simp only; omega, by simp only; omega, by simp only; omega⟩
  · have hL : ∀ i : Nat, i < 5 → 0 ≤ rd [1, 2, 3, 6, 15] (i : Int) ∧ rd [1, 2, 3, 6, 15] (i : Int) < 100 := by decide
    refine Tot.bind (P := fun u => 0 ≤ u.1 ∧ u.1 < 100 ∧ v.2.1 ≤ u.2.1 ∧ u.2.1 ≤ v.2.1 + 2) ?_ ?_
    · unfold spec_l1Cur_among.f
      refine Tot.bind (pick_t hl _ _ _ (by omega) (by omega)) ?_
      rintro ⟨i, a1, s1⟩ ⟨h4, h5, q2, q3⟩
      simp only [List.length_cons, List.length_nil] at h4 h5 q2 q3 ⊢
      have := hL i.toNat (by omega)
      rw [show ((i.toNat : Nat) : Int) = i by omega] at this
      exact Tot.pos h4 (Tot.pos (by omega) (Tot.ret ⟨this.1, this.2, q2, q3⟩))
    rintro u ⟨u0, u1, h4, h5⟩
    exact Tot.ret ⟨by simp only; omega, by simp only; omega, by simp only; omega, by simp only; omega, by simp only; omega, by simp only; omega⟩
  · refine Tot.bind (pick_t hl _ _ _ (by omega) (by omega)) ?_
    rintro u ⟨u0, u1, h4, h5⟩
    exact Tot.ret ⟨by simp only; omega, by simp only; omega, by simp only; omega, by simp only; omega, by simp only; omega, by simp only; omega⟩
theorem frText_t (r : Int) (c : Bool) (m : Int) (h0 : 0 ≤ r) (h1 : r < 100) (h2 : 0 ≤ m) (h3 : m < 100) : Tot (fun k => spec_frText.f k r c m) (fun s => s.size ≤ 5) := by
  unfold spec_frText.f
  refine Tot.ite (fun _ => ?_) (fun _ => ?_) <;>
  · refine Tot.bind (frNum_t r h0 h1) (fun a ha => Tot.pos (by omega) (Tot.bind (frNum_t m h2 h3) (fun b hb => Tot.pos ?_ (Tot.ret ?_))))
    · rw [ByteArray.size_append]
      show a.size + 1 + b.size ≤ _
      omega
    · rw [ByteArray.size_append, ByteArray.size_append]
      show a.size + 1 + b.size ≤ _
      omega
theorem drawParse_t {l : List Int} (hl : ∀ x ∈ l, 0 ≤ x ∧ x ≤ 255) : Tot (fun k => spec_DrawParseFrame.f k l) (fun _ => True) := by
  unfold spec_DrawParseFrame.f
  refine Tot.bind (sure_t hl) ?_
  rintro v ⟨h0, h1, h2, h3, h4, h5⟩
  refine Tot.bind (frText_t _ _ _ h0 h1 h2 h3) (fun t ht => ?_)
  refine Tot.bind (one_t hl _ _ _ (by omega) (by omega)) ?_
  rintro u ⟨q0, q1⟩
  refine Tot.ite (fun _ => ?_) (fun _ => Tot.ret trivial)
  refine Tot.bind (spoilt_t hl t _ _ _ (by decide) (by omega) (by omega) (by omega)) ?_
  rintro _ _
  exact Tot.ret trivial
theorem drawSevens {l : List Int} (hl : ∀ x ∈ l, 0 ≤ x ∧ x ≤ 255) : ∀ (d : Nat) (t : ByteArray) (a s : Int), 37 ≤ t.size + d → 0 ≤ a → a + 2 * d ≤ 1000000 → Tot (fun k => spec_DrawPointsOf.l0 k t l a s) (fun _ => True) := by
  intro d
  induction d with
  | zero =>
    intro t a s h h0 h1
    refine Tot.step (fun k => spec_DrawPointsOf.l0.eq_2 _ _ _ _ _) (Tot.bind (pick_t hl _ _ _ h0 (by omega)) ?_)
    rintro v ⟨v0, v1, _, _⟩
    rw [wrap_in (x := 36 + v.1) (by omega) (by omega)]
    exact Tot.neg (by omega) (Tot.ret trivial)
  | succ d ih =>
    intro t a s h h0 h1
    refine Tot.step (fun k => spec_DrawPointsOf.l0.eq_2 _ _ _ _ _) (Tot.bind (pick_t hl _ _ _ h0 (by omega)) ?_)
    rintro v ⟨v0, v1, v2, v3⟩
    rw [wrap_in (x := 36 + v.1) (by omega) (by omega)]
    refine Tot.ite (fun c => ?_) (fun _ => Tot.ret trivial)
    refine Tot.pos (by omega) (ih _ _ _ ?_ (by omega) (by omega))
    rw [ByteArray.size_append]
    show 37 ≤ t.size + 1 + d
    omega
theorem drawPoints_t {l : List Int} (hl : ∀ x ∈ l, 0 ≤ x ∧ x ≤ 255) : Tot (fun k => spec_DrawPointsOf.f k l) (fun _ => True) := by
  unfold spec_DrawPointsOf.f
  refine Tot.bind (frame_t hl _ _ (by omega) (by omega)) ?_
  rintro u ⟨h4, h5⟩
  refine Tot.bind (balls_t hl _ _ _ _ _ (by omega) (by omega)) ?_
  rintro v ⟨v0, v1⟩
  refine Tot.bind (one_t hl _ _ _ (by omega) (by omega)) ?_
  rintro w ⟨q0, q1⟩
  refine Tot.ite (fun _ => ?_) (fun _ => Tot.ret trivial)
  exact drawSevens hl 37 _ _ _ (by omega) (by omega) (by omega)
end Go.Proofs.YtcmlmjgoidpabaaGreatDoor.Pure

