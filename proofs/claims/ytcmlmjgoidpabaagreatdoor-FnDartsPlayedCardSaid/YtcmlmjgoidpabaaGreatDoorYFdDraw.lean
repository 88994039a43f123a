/- What is drawn for the law on darts is always told. -/
import Derived.Test.YtcmlmjgoidpabaaGreatDoorYFdTexts
set_option linter.unusedVariables false
set_option linter.unusedSimpArgs false
namespace Go.Proofs.YtcmlmjgoidpabaaGreatDoor.Pure
open Go.RowKit Go.Proofs.YtcmlmjgoidpabaaGreatDoor.MFnDartsPlayed Go.Proofs.YtcmlmjgoidpabaaGreatDoorW.PrintWords Go.Proofs.YtcmlmjgoidpabaaGreatDoorW.PrintLast
theorem bits255 {x : Int} (h0 : 0 ≤ x) (h1 : x < 18446744073709551616) : Go.bits .and .u64 x 255 = x % 256 :=
  bits_mask .u64 64 (by decide) (fun n h0 h1 => by rw [IntKind.wrap_u64]; omega) 8 (by decide) x h0 h1
theorem next_low {x : Int} : 0 ≤ wrap64 (Go.bits .and .u64 (IntKind.u64.wrap x / 1099511627776) 255) ∧ wrap64 (Go.bits .and .u64 (IntKind.u64.wrap x / 1099511627776) 255) ≤ 255 := by
  have h : 0 ≤ IntKind.u64.wrap x ∧ IntKind.u64.wrap x < 18446744073709551616 := by rw [IntKind.wrap_u64]; omega
  rw [bits255 (by omega) (by omega), wrap_in (by omega) (by omega)]
  omega
theorem next_t {l : List Int} (hl : ∀ x ∈ l, 0 ≤ x ∧ x ≤ 255) (a s : Int) (h0 : 0 ≤ a) (h1 : a ≤ 1000000000) : Tot (fun _ => spec_l1Cur_next.f l a s) (fun v => 0 ≤ v.1 ∧ v.1 ≤ 255 ∧ v.2.1 = a + 1) := by
  have hw : wrap64 (a + 1) = a + 1 := wrap_in (by omega) (by omega)
  unfold spec_l1Cur_next.f
  refine Tot.ite (fun c => Tot.pos h0 (Tot.ite (fun _ => Tot.ret ?_) (fun _ => Tot.ret ?_))) (fun c => Tot.ite (fun _ => Tot.ret ?_) (fun _ => Tot.ret ?_))
  · obtain ⟨n, rfl⟩ : ∃ n : Nat, a = (n : Int) := ⟨a.toNat, by omega⟩
    have hn : n < l.length := by omega
    have := hl _ (List.getElem_mem hn)
    rw [rd_get l n hn, wrap_in (by omega) (by omega)]
    exact ⟨this.1, this.2, hw⟩
  · exact ⟨next_low.1, next_low.2, hw⟩
  · exact ⟨by simp only; omega, by simp only; omega, hw⟩
  · exact ⟨next_low.1, next_low.2, hw⟩
theorem pick_t {l : List Int} (hl : ∀ x ∈ l, 0 ≤ x ∧ x ≤ 255) (a s n : Int) (h0 : 0 ≤ a) (h1 : a ≤ 999999990) : Tot (fun _ => spec_l1Cur_pick.f l a s n) (fun v => 0 ≤ v.1 ∧ (v.1 < n ∨ v.1 = 0) ∧ a ≤ v.2.1 ∧ v.2.1 ≤ a + 2) := by
  unfold spec_l1Cur_pick.f
  refine Tot.ite (fun c => Tot.ret ⟨Int.le_refl _, .inr rfl, by simp only; omega, by simp only; omega⟩) (fun c => ?_)
  refine Tot.bind (next_t hl a s h0 (by omega)) ?_
  rintro ⟨x, a1, s1⟩ ⟨x0, x1, rfl⟩
  simp only at x0 x1 ⊢
  refine Tot.ite (fun c => ?_) (fun c => ?_)
  · refine Tot.bind (next_t hl (a + 1) s1 (by omega) (by omega)) ?_
    rintro ⟨y, a2, s2⟩ ⟨y0, y1, rfl⟩
    simp only at y0 y1 ⊢
    refine Tot.neg (by omega) (Tot.ret ?_)
    rw [wrap_in (x := x * 256) (by omega) (by omega), wrap_in (by omega) (by omega), tmod_in (by omega)]
    have h2 := Int.emod_nonneg (x * 256 + y) (show n ≠ 0 by omega)
    have h3 := Int.emod_lt_of_pos (x * 256 + y) (show 0 < n by omega)
    exact ⟨h2, .inl h3, by simp only; omega, by simp only; omega⟩
  · refine Tot.neg (by omega) (Tot.ret ?_)
    rw [tmod_in (by omega)]
    have h2 := Int.emod_nonneg x (show n ≠ 0 by omega)
    have h3 := Int.emod_lt_of_pos x (show 0 < n by omega)
    exact ⟨h2, .inl h3, by simp only; omega, by simp only; omega⟩
theorem one_t {l : List Int} (hl : ∀ x ∈ l, 0 ≤ x ∧ x ≤ 255) (a s n : Int) (h0 : 0 ≤ a) (h1 : a ≤ 999999990) : Tot (fun _ => spec_l1Cur_one.f l a s n) (fun v => a ≤ v.2.1 ∧ v.2.1 ≤ a + 2) := by
  unfold spec_l1Cur_one.f
  refine Tot.bind (pick_t hl a s n h0 h1) ?_
  rintro v ⟨_, _, h2, h3⟩
  exact Tot.ret ⟨h2, h3⟩
theorem among_t {l : List Int} (hl : ∀ x ∈ l, 0 ≤ x ∧ x ≤ 255) (a s : Int) (L : List Int) (hL : 0 < L.length) (h0 : 0 ≤ a) (h1 : a ≤ 999999990) : Tot (fun _ => spec_l1Cur_among.f l a s L) (fun v => a ≤ v.2.1 ∧ v.2.1 ≤ a + 2) := by
  unfold spec_l1Cur_among.f
  refine Tot.bind (pick_t hl a s _ h0 h1) ?_
  rintro v ⟨h4, h5, h2, h3⟩
  exact Tot.pos h4 (Tot.pos (by omega) (Tot.ret ⟨h2, h3⟩))
theorem strOne (x : Int) : (strOfNums [x]).size = 1 := rfl
theorem ext_size (b : ByteArray) (i j : Nat) (hj : j ≤ b.size) : (b.extract i j).size = j - i := by
  have : (b.extract i j).size = min j b.size - i := by simp
  omega
theorem toNat_one (p : Nat) : ((p : Int) + 1).toNat = p + 1 := by omega
theorem down_one (n : Nat) (h : n ≤ 1000) : wrap64 (((n + 1 : Nat) : Int) - 1) = (n : Int) := by rw [wrap_in (by omega) (by omega)]; omega
theorem lt_of {i n : Int} (h : i < n ∨ i = 0) (hn : 0 < n) : i < n := by omega
set_option maxHeartbeats 2000000 in
theorem spoilt_loop {l : List Int} (hl : ∀ x ∈ l, 0 ≤ x ∧ x ≤ 255) (w : ByteArray) (hw : 0 < w.size) : ∀ (n : Nat) (t : ByteArray) (a s : Int), n ≤ 2 → t.size + n ≤ 100 → 0 ≤ a → a + 6 * n ≤ 900000000 →
    Tot (fun k => spec_l1Cur_spoilt.l0 k t w (n : Int) l a s) (fun v => v.1.size ≤ t.size + n ∧ a ≤ v.2.1 ∧ v.2.1 ≤ a + 6 * n) := by
  intro n
  induction n with
  | zero =>
    intro t a s _ _ h0 h1
    refine Tot.step (fun k => spec_l1Cur_spoilt.l0.eq_2 _ _ _ _ _ _ _) (Tot.neg (by omega) (Tot.step (fun k => spec_l1Cur_spoilt.j1.eq_2 _ _ _ _ _ _ _ _) (Tot.neg (by decide) (Tot.ret ?_))))
    exact ⟨by simp only; omega, by simp only; omega, by simp only; omega⟩
  | succ n ih =>
    intro t a s hn ht h0 h1
    refine Tot.step (fun k => spec_l1Cur_spoilt.l0.eq_2 _ _ _ _ _ _ _) (Tot.pos (by omega) (Tot.step (fun k => spec_l1Cur_spoilt.j1.eq_2 _ _ _ _ _ _ _ _) (Tot.ite (fun c => ?_) (fun _ => Tot.ret ?_))))
    · have c : (t.size : Int) > 0 := by simpa using c
      refine Tot.bind (pick_t hl _ _ _ (by omega) (by omega)) ?_
      rintro ⟨i, a1, s1⟩ ⟨i0, i1, q0, q1⟩
      simp only at i0 i1 q0 q1 ⊢
      replace i1 := lt_of i1 c
      refine Tot.bind (pick_t hl _ _ _ (by omega) (by omega)) ?_
      rintro ⟨j, a2, s2⟩ ⟨j0, j1, q2, q3⟩
      simp only at j0 j1 q2 q3 ⊢
      replace j1 := lt_of j1 (by omega)
      refine Tot.pos j0 (Tot.pos j1 (Tot.some_bind ?_))
      refine Tot.bind (pick_t hl _ _ _ (by omega) (by omega)) ?_
      rintro ⟨m, a3, s3⟩ ⟨m0, m1, q4, q5⟩
      simp only at q4 q5 ⊢
      clear m0 m1
      obtain ⟨p, rfl⟩ : ∃ p : Nat, i = (p : Int) := ⟨i.toNat, by omega⟩
      have hi1 : wrap64 ((p : Int) + 1) = (p : Int) + 1 := wrap_in (by omega) (by omega)
      have hn1 := down_one n (by omega)
      have e1 := toNat_one p
      rw [hi1, hn1, e1, Int.toNat_natCast]
      have z0 := ext_size t 0 p (by omega)
      have z1 := ext_size t p t.size (by omega)
      have z2 := ext_size t (p + 1) t.size (by omega)
      have z3 := strOne (bt w j)
      clear j0 j1 hi1 hn1 e1
      refine Tot.ite (fun _ => ?_) (fun _ => Tot.ite (fun _ => ?_) (fun _ => ?_))
      · refine Tot.pos (by omega) (Tot.pos (by omega) (Tot.pos (by omega) (Tot.pos (by rw [ByteArray.size_append]; omega) ?_)))
        refine (ih _ a3 s3 (by omega) (by simp only [ByteArray.size_append]; omega) (by omega) (by omega)).mono ?_
        rintro v ⟨v0, v1, v2⟩
        simp only [ByteArray.size_append] at v0
        exact ⟨by omega, by omega, by omega⟩
      · refine Tot.pos (by omega) (Tot.pos (by omega) (Tot.pos (by omega) (Tot.pos (by omega) (Tot.pos (by omega) (Tot.pos (by rw [ByteArray.size_append]; omega) ?_)))))
        refine (ih _ a3 s3 (by omega) (by simp only [ByteArray.size_append]; omega) (by omega) (by omega)).mono ?_
        rintro v ⟨v0, v1, v2⟩
        simp only [ByteArray.size_append] at v0
        exact ⟨by omega, by omega, by omega⟩
      · refine Tot.pos (by omega) (Tot.pos (by omega) (Tot.pos (by omega) (Tot.pos (by omega) (Tot.pos (by omega) ?_))))
        refine (ih _ a3 s3 (by omega) (by simp only [ByteArray.size_append]; omega) (by omega) (by omega)).mono ?_
        rintro v ⟨v0, v1, v2⟩
        simp only [ByteArray.size_append] at v0
        exact ⟨by omega, by omega, by omega⟩
    · exact ⟨by simp only; omega, by simp only; omega, by simp only; omega⟩
theorem spoilt_t {l : List Int} (hl : ∀ x ∈ l, 0 ≤ x ∧ x ≤ 255) (t w : ByteArray) (a s : Int) (hw : 0 < w.size) (ht : t.size ≤ 90) (h0 : 0 ≤ a) (h1 : a ≤ 800000000) :
    Tot (fun k => spec_l1Cur_spoilt.f k l a s t w) (fun v => v.1.size ≤ t.size + 2 ∧ a ≤ v.2.1 ∧ v.2.1 ≤ a + 20) := by
  unfold spec_l1Cur_spoilt.f
  refine Tot.bind (pick_t hl _ _ _ (by omega) (by omega)) ?_
  rintro ⟨i, a1, s1⟩ ⟨i0, i1, q0, q1⟩
  simp only at i0 i1 q0 q1 ⊢
  obtain ⟨p, hp⟩ : ∃ p : Nat, 1 + i = (p : Int) := ⟨(1 + i).toNat, by omega⟩
  rw [wrap_in (by omega) (by omega), hp]
  refine (spoilt_loop hl w hw p t a1 s1 (by omega) (by omega) (by omega) (by omega)).mono ?_
  rintro v ⟨v0, v1, v2⟩
  exact ⟨by omega, by omega, by omega⟩
theorem sureDart_t {l : List Int} (hl : ∀ x ∈ l, 0 ≤ x ∧ x ≤ 255) (a s : Int) (h0 : 0 ≤ a) (h1 : a ≤ 999999980) : Tot (fun _ => spec_l1Cur_sureDart.f l a s) (fun v => goodD v.1 v.2.1 = true ∧ a ≤ v.2.2.1 ∧ v.2.2.1 ≤ a + 6) := by
  unfold spec_l1Cur_sureDart.f
  refine Tot.bind (one_t hl a s _ h0 (by omega)) ?_
  rintro v ⟨h2, h3⟩
  refine Tot.ite (fun _ => ?_) (fun _ => ?_)
  · refine Tot.bind (pick_t hl _ _ _ (by omega) (by omega)) ?_
    rintro ⟨x, a1, s1⟩ ⟨x0, x1, q0, q1⟩
    simp only at x0 x1 q0 q1 ⊢
    rw [wrap_in (by omega) (by omega)]
    exact Tot.ret ⟨good_iff.2 (.inl ⟨rfl, by simp only; omega, by simp only; omega⟩), by simp only; omega, by simp only; omega⟩
  · refine Tot.bind (pick_t hl _ _ _ (by omega) (by omega)) ?_
    rintro ⟨x, a1, s1⟩ ⟨x0, x1, q0, q1⟩
    simp only at x0 x1 q0 q1 ⊢
    refine Tot.bind (pick_t hl _ _ _ (by omega) (by omega)) ?_
    rintro ⟨y, a2, s2⟩ ⟨y0, y1, q2, q3⟩
    simp only at y0 y1 q2 q3 ⊢
    rw [wrap_in (x := 1 + x) (by omega) (by omega), wrap_in (by omega) (by omega)]
    exact Tot.ret ⟨good_iff.2 (.inr ⟨by simp only; omega, by simp only; omega, by simp only; omega, by simp only; omega⟩), by simp only; omega, by simp only; omega⟩
theorem dart_t {l : List Int} (hl : ∀ x ∈ l, 0 ≤ x ∧ x ≤ 255) (a s : Int) (h0 : 0 ≤ a) (h1 : a ≤ 999999970) : Tot (fun _ => spec_l1Cur_dart.f l a s) (fun v => a ≤ v.2.2.1 ∧ v.2.2.1 ≤ a + 10) := by
  unfold spec_l1Cur_dart.f
  refine Tot.bind (one_t hl a s _ h0 (by omega)) ?_
  rintro v ⟨h2, h3⟩
  refine Tot.ite (fun _ => ?_) (fun _ => ?_)
  · refine Tot.bind (among_t hl _ _ _ (by decide) (by omega) (by omega)) ?_
    rintro u ⟨h4, h5⟩
    refine Tot.bind (among_t hl _ _ _ (by decide) (by omega) (by omega)) ?_
    rintro t ⟨h6, h7⟩
    exact Tot.ret ⟨by simp only; omega, by simp only; omega⟩
  · refine Tot.bind (sureDart_t hl _ _ (by omega) (by omega)) ?_
    rintro u ⟨_, h4, h5⟩
    exact Tot.ret ⟨by simp only; omega, by simp only; omega⟩
theorem drawDart_t {l : List Int} (hl : ∀ x ∈ l, 0 ≤ x ∧ x ≤ 255) : Tot (fun _ => spec_DrawIsDart.f l) (fun _ => True) := by
  unfold spec_DrawIsDart.f
  exact Tot.bind (dart_t hl _ _ (by omega) (by omega)) (fun v _ => Tot.ret trivial)
theorem darts_loop {l : List Int} (hl : ∀ x ∈ l, 0 ≤ x ∧ x ≤ 255) : ∀ (n : Nat) (x : List S52) (a s : Int), n ≤ 20 → x.length + n ≤ 20 → 0 ≤ a → a + 6 * n ≤ 900000000 →
    Tot (fun k => spec_l1Cur_darts.l0 k x (n : Int) l a s) (fun v => v.1.length ≤ x.length + n + 1) := by
  intro n
  induction n with
  | zero =>
    intro x a s _ hx h0 h1
    refine Tot.step (fun k => spec_l1Cur_darts.l0.eq_2 _ _ _ _ _ _) (Tot.neg (by omega) (Tot.bind (one_t hl _ _ _ (by omega) (by omega)) ?_))
    rintro v ⟨h2, h3⟩
    refine Tot.ite (fun _ => ?_) (fun _ => Tot.ret (by simp only; omega))
    refine Tot.bind (dart_t hl _ _ (by omega) (by omega)) ?_
    rintro u _
    exact Tot.pos (by omega) (Tot.ret (by simp))
  | succ n ih =>
    intro x a s hn hx h0 h1
    refine Tot.step (fun k => spec_l1Cur_darts.l0.eq_2 _ _ _ _ _ _) (Tot.pos (by omega) (Tot.bind (sureDart_t hl _ _ (by omega) (by omega)) ?_))
    rintro u ⟨_, h4, h5⟩
    refine Tot.pos (by omega) ?_
    rw [down_one n (by omega)]
    refine (ih _ _ _ (by omega) (by simp; omega) (by omega) (by omega)).mono (fun v hv => ?_)
    simp at hv
    omega
theorem darts_t {l : List Int} (hl : ∀ x ∈ l, 0 ≤ x ∧ x ≤ 255) (a s m : Int) (m0 : 0 ≤ m) (m1 : m ≤ 10) (h0 : 0 ≤ a) (h1 : a ≤ 800000000) : Tot (fun k => spec_l1Cur_darts.f k l a s m) (fun v => v.1.length ≤ 20) := by
  unfold spec_l1Cur_darts.f
  refine Tot.bind (pick_t hl _ _ _ h0 (by omega)) ?_
  rintro ⟨x, a1, s1⟩ ⟨x0, x1, q0, q1⟩
  simp only at x0 x1 q0 q1 ⊢
  rw [wrap_in (by omega) (by omega)] at x1
  obtain ⟨n, rfl⟩ : ∃ n : Nat, x = (n : Int) := ⟨x.toNat, by omega⟩
  exact (darts_loop hl n [] a1 s1 (by omega) (by simp; omega) (by omega) (by omega)).mono (fun v hv => by simp at hv; omega)
theorem drawScore_t {l : List Int} (hl : ∀ x ∈ l, 0 ≤ x ∧ x ≤ 255) : Tot (fun k => spec_DrawScoreOf.f k l) (fun v => v.length ≤ 20) := by
  unfold spec_DrawScoreOf.f
  exact Tot.bind (darts_t hl _ _ _ (by omega) (by omega) (by omega) (by omega)) (fun v hv => Tot.ret hv)
theorem drawBeside_t {l : List Int} (hl : ∀ x ∈ l, 0 ≤ x ∧ x ≤ 255) : Tot (fun _ => spec_DrawBesideOf.f l) (fun n => -1 ≤ n ∧ n ≤ 21) := by
  unfold spec_DrawBesideOf.f
  refine Tot.bind (pick_t hl _ _ _ (by omega) (by omega)) ?_
  rintro v ⟨v0, v1, _, _⟩
  rw [wrap_in (by omega) (by omega)]
  exact Tot.ret ⟨by omega, by omega⟩
theorem drawArc_t {l : List Int} (hl : ∀ x ∈ l, 0 ≤ x ∧ x ≤ 255) : Tot (fun _ => spec_DrawBestArc.f l) (fun n => -1 ≤ n ∧ n ≤ 21) := by
  unfold spec_DrawBestArc.f
  refine Tot.bind (pick_t hl _ _ _ (by omega) (by omega)) ?_
  rintro v ⟨v0, v1, _, _⟩
  rw [wrap_in (by omega) (by omega)]
  exact Tot.ret ⟨by omega, by omega⟩
theorem drawSteps_t {l : List Int} (hl : ∀ x ∈ l, 0 ≤ x ∧ x ≤ 255) : Tot (fun _ => spec_DrawStepsAround.f l) (fun v => 0 ≤ v.1 ∧ v.1 ≤ 21 ∧ 0 ≤ v.2 ∧ v.2 ≤ 21) := by
  unfold spec_DrawStepsAround.f
  refine Tot.bind (pick_t hl _ _ _ (by omega) (by omega)) ?_
  rintro v ⟨v0, v1, v2, v3⟩
  refine Tot.bind (pick_t hl _ _ _ (by omega) (by omega)) ?_
  rintro u ⟨u0, u1, _, _⟩
  exact Tot.ret ⟨v0, by simp only; omega, u0, by simp only; omega⟩
theorem drawText_t {l : List Int} (hl : ∀ x ∈ l, 0 ≤ x ∧ x ≤ 255) : Tot (fun k => spec_DrawParseDart.f k l) (fun _ => True) := by
  unfold spec_DrawParseDart.f
  refine Tot.bind (sureDart_t hl _ _ (by omega) (by omega)) ?_
  rintro v ⟨g, h2, h3⟩
  refine Tot.bind (textOf g).text ?_
  rintro _ rfl
  have hm := (textOf g).most
  refine Tot.bind (one_t hl _ _ _ (by omega) (by omega)) ?_
  rintro u ⟨q0, q1⟩
  refine Tot.ite (fun _ => ?_) (fun _ => Tot.ret trivial)
  exact Tot.bind (spoilt_t hl _ _ _ _ (by decide) (by omega) (by omega) (by omega)) (fun z _ => Tot.ret trivial)
theorem drawTexts_loop {l : List Int} (hl : ∀ x ∈ l, 0 ≤ x ∧ x ≤ 255) : ∀ (n : Nat) (x : List S52) (a s : Int), n ≤ 6 → 1 ≤ x.length → x.length + n ≤ 8 → allD x = true → 0 ≤ a → a + 6 * n ≤ 1000 →
    Tot (fun k => spec_DrawParseDarts.l0 k x (n : Int) l a s) (fun v => v.size ≤ 100) := by
  intro n
  induction n with
  | zero =>
    intro x a s _ hx1 hx hg h0 h1
    refine Tot.step (fun k => spec_DrawParseDarts.l0.eq_2 _ _ _ _ _ _) (Tot.neg (by omega) (Tot.bind (stexts_all x hx1 (by omega) hg) ?_))
    rintro _ rfl
    have hz := join_size x hg
    refine Tot.bind (one_t hl _ _ _ (by omega) (by omega)) ?_
    rintro v ⟨h2, h3⟩
    refine Tot.ite (fun _ => ?_) (fun _ => Tot.ret (by omega))
    refine Tot.bind (spoilt_t hl _ _ _ _ (by decide) (by omega) (by omega) (by omega)) ?_
    rintro u ⟨hu, _, _⟩
    exact Tot.ret (by omega)
  | succ n ih =>
    intro x a s hn hx1 hx hg h0 h1
    refine Tot.step (fun k => spec_DrawParseDarts.l0.eq_2 _ _ _ _ _ _) (Tot.pos (by omega) (Tot.bind (sureDart_t hl _ _ (by omega) (by omega)) ?_))
    rintro u ⟨g, h4, h5⟩
    refine Tot.pos (by omega) ?_
    rw [down_one n (by omega)]
    refine ih _ _ _ (by omega) (by simp) (by simp; omega) ?_ (by omega) (by omega)
    unfold allD at hg ⊢
    rw [List.all_append, hg]
    simp [gd, g]
theorem drawTexts_t {l : List Int} (hl : ∀ x ∈ l, 0 ≤ x ∧ x ≤ 255) : Tot (fun k => spec_DrawParseDarts.f k l) (fun v => v.size ≤ 100) := by
  unfold spec_DrawParseDarts.f
  refine Tot.bind (sureDart_t hl _ _ (by omega) (by omega)) ?_
  rintro v ⟨g, h2, h3⟩
  refine Tot.bind (pick_t hl _ _ _ (by omega) (by omega)) ?_
  rintro ⟨x, a1, s1⟩ ⟨x0, x1, q0, q1⟩
  simp only at x0 x1 q0 q1 ⊢
  obtain ⟨n, rfl⟩ : ∃ n : Nat, x = (n : Int) := ⟨x.toNat, by omega⟩
  exact drawTexts_loop hl n _ a1 s1 (by omega) (by simp) (by simp; omega) (by simp [allD, gd, g]) (by omega) (by omega)
theorem drawLeg_loop {l : List Int} (hl : ∀ x ∈ l, 0 ≤ x ∧ x ≤ 255) (m : Int) : ∀ (n : Nat) (now : Int) (vs : List (List S52)) (a s : Int), n ≤ 6 → vs.length + n ≤ 8 → (∀ v ∈ vs, v.length ≤ 20) → 0 ≤ a → a + 18 * n ≤ 1000 →
    Tot (fun k => spec_DrawPlayLeg.l0 k m now vs (n : Int) l a s) (fun r => ∀ v ∈ r.2, v.length ≤ 20) := by
  have fin : ∀ (n : Int) (now : Int) (vs : List (List S52)) (a s : Int), vs.length ≤ 8 → (∀ v ∈ vs, v.length ≤ 20) → 0 ≤ a → a ≤ 1000 → Tot (fun k => spec_DrawPlayLeg.j1 k m now vs n false l a s) (fun r => ∀ v ∈ r.2, v.length ≤ 20) := by
    intro n now vs a s hn hv h0 h1
    refine Tot.step (fun k => spec_DrawPlayLeg.j1.eq_2 _ _ _ _ _ _ _ _ _) (Tot.neg (by decide) (Tot.bind (one_t hl _ _ _ (by omega) (by omega)) ?_))
    rintro u ⟨q0, q1⟩
    refine Tot.ite (fun _ => ?_) (fun _ => Tot.ret hv)
    refine Tot.bind (darts_t hl _ _ _ (by omega) (by omega) (by omega) (by omega)) (fun w hw => Tot.pos (by omega) (Tot.ret ?_))
    intro v hm
    rcases List.mem_append.1 hm with hm | hm
    · exact hv v hm
    · rw [List.mem_singleton.1 hm]; exact hw
  intro n
  induction n with
  | zero =>
    intro now vs a s _ hn hv h0 h1
    exact Tot.step (fun k => spec_DrawPlayLeg.l0.eq_2 _ _ _ _ _ _ _ _) (Tot.neg (by omega) (fin _ _ _ _ _ (by omega) hv h0 (by omega)))
  | succ n ih =>
    intro now vs a s hn6 hn hv h0 h1
    refine Tot.step (fun k => spec_DrawPlayLeg.l0.eq_2 _ _ _ _ _ _ _ _) (Tot.pos (by omega) ?_)
    by_cases c : now > 0
    · rw [decide_eq_true c]
      refine Tot.step (fun k => spec_DrawPlayLeg.j1.eq_2 _ _ _ _ _ _ _ _ _) (Tot.pos rfl ?_)
      refine Tot.bind (sureDart_t hl _ _ (by omega) (by omega)) ?_
      rintro u1 ⟨_, a0, a1⟩
      refine Tot.bind (sureDart_t hl _ _ (by omega) (by omega)) ?_
      rintro u2 ⟨_, a2, a3⟩
      refine Tot.bind (sureDart_t hl _ _ (by omega) (by omega)) ?_
      rintro u3 ⟨_, a4, a5⟩
      refine Tot.some_bind (Tot.bind (daVisit_t _ _ (by simp)) ?_)
      rintro w _
      have more : ∀ y : List S52, y.length ≤ 20 → ∀ v ∈ vs ++ [y], v.length ≤ 20 := by
        intro y hy v hm
        rcases List.mem_append.1 hm with hm | hm
        · exact hv v hm
        · rw [List.mem_singleton.1 hm]; exact hy
      rw [down_one n (by omega)]
      refine Tot.ite (fun _ => Tot.pos (by omega) ?_) (fun _ => Tot.pos (by simp <;> omega) (Tot.some_bind (Tot.bind (daVisit_t _ _ (by simp)) ?_)))
      · exact ih _ _ _ _ (by omega) (by simp; omega) (more _ (by simp)) (by omega) (by omega)
      · rintro w2 _
        exact Tot.pos (by omega) (ih _ _ _ _ (by omega) (by simp; omega) (more _ (by simp)) (by omega) (by omega))
    · rw [decide_eq_false c]
      exact fin _ _ _ _ _ (by omega) hv h0 (by omega)
theorem drawLeg_t {l : List Int} (hl : ∀ x ∈ l, 0 ≤ x ∧ x ≤ 255) : Tot (fun k => spec_DrawPlayLeg.f k l) (fun r => ∀ v ∈ r.2, v.length ≤ 20) := by
  unfold spec_DrawPlayLeg.f
  refine Tot.bind (among_t hl _ _ _ (by decide) (by omega) (by omega)) ?_
  rintro u ⟨q0, q1⟩
  refine Tot.bind (pick_t hl _ _ _ (by omega) (by omega)) ?_
  rintro ⟨x, a1, s1⟩ ⟨x0, x1, q2, q3⟩
  simp only at x0 x1 q2 q3 ⊢
  obtain ⟨n, rfl⟩ : ∃ n : Nat, x = (n : Int) := ⟨x.toNat, by omega⟩
  exact drawLeg_loop hl _ n _ [] a1 s1 (by omega) (by simp; omega) (fun v h => by cases h) (by omega) (by omega)
def dB : Bool := match spec_daAll.f 400 with
  | none => false
  | some L => decide (L.length ≤ 100) && allD L
set_option maxRecDepth 100000 in
theorem dB_ok : dB = true := by decide +kernel
theorem daAll_t : Tot (fun k => spec_daAll.f k) (fun L => L.length ≤ 100 ∧ allD L = true) := by
  have h := dB_ok
  unfold dB at h
  split at h
  · cases h
  · rename_i L hL
    rw [Bool.and_eq_true, decide_eq_true_eq] at h
    obtain ⟨_, hr, rfl⟩ := ev_at spec_daAll.mono hL
    exact ⟨_, hr, h⟩
theorem count_row (n k most : Int) (b : Bool) (now : List Int) (all : List S52) (m0 : 0 ≤ most) (m1 : most ≤ 1001) (hnow : (now.length : Int) = most + 1) (f0 f1 : Int) (g : goodD f0 f1 = true) (L : Int) (i : Int)
    (P : List Int → Prop) (hn : ∀ nx : List Int, (nx.length : Int) = most + 1 → Tot (fun q => spec_daCount.l1 q k most b now all n nx all L (wrap64 (i + 1))) P) :
    ∀ (d : Nat) (x : Int) (nx : List Int), (nx.length : Int) = most + 1 → f0 * f1 ≤ x → x + d = most + 61 → Tot (fun q => spec_daCount.l2 q k most b now all n nx x all L i f0 f1) P := by
  obtain ⟨_, _, _, _, p0, p1⟩ := good_range g
  intro d
  induction d with
  | zero =>
    intro x nx hx h0 h1
    exact Tot.step (fun q => spec_daCount.l2.eq_2 _ _ _ _ _ _ _ _ _ _ _ _ _ _) (Tot.neg (by omega) (hn nx hx))
  | succ d ih =>
    intro x nx hx h0 h1
    refine Tot.step (fun q => spec_daCount.l2.eq_2 _ _ _ _ _ _ _ _ _ _ _ _ _ _) (Tot.ite (fun c => ?_) (fun _ => hn nx hx))
    rw [good_wrap g, wrap_in (x := x - f0 * f1) (by omega) (by omega), wrap_in (x := x + 1) (by omega) (by omega)]
    refine Tot.pos (by omega) (Tot.pos (by omega) (Tot.pos (by omega) (Tot.pos (by omega) ?_)))
    exact ih (x + 1) _ (by rw [List.length_set]; exact hx) (by omega) (by omega)
theorem count_t (k most : Int) (b : Bool) (k0 : 1 ≤ k) (k1 : k ≤ 3) (m0 : 0 ≤ most) (m1 : most ≤ 1001) : Tot (fun q => spec_daCount.f q k most b) (fun r => (r.length : Int) = most + 1) := by
  unfold spec_daCount.f
  rw [wrap_in (x := most + 1) (by omega) (by omega)]
  refine Tot.pos (by omega) (Tot.pos (by omega) (Tot.some_bind (Tot.pos (by rw [List.length_replicate]; omega) (Tot.bind daAll_t ?_))))
  rintro all ⟨ha, hg⟩
  have rows : ∀ (d : Nat) (n : Int) (now : List Int), 1 ≤ n → n + d = k + 1 → (now.length : Int) = most + 1 → Tot (fun q => spec_daCount.l0 q k most b now all n) (fun r => (r.length : Int) = most + 1) := by
    intro d
    induction d with
    | zero =>
      intro n now n1 hd hnow
      exact Tot.step (fun q => spec_daCount.l0.eq_2 _ _ _ _ _ _ _) (Tot.neg (by omega) (Tot.ret hnow))
    | succ d ihd =>
      intro n now n1 hd hnow
      refine Tot.step (fun q => spec_daCount.l0.eq_2 _ _ _ _ _ _ _) (Tot.pos (by omega) ?_)
      rw [wrap_in (x := most + 1) (by omega) (by omega)]
      refine Tot.pos (by omega) (Tot.pos (by omega) ?_)
      have := walkL (P := fun pre suf => ∀ nx : List Int, (nx.length : Int) = most + 1 → Tot (fun q => spec_daCount.l1 q k most b now all n nx all (all.length : Int) (pre.length : Int)) (fun r => (r.length : Int) = most + 1)) all ?_ ?_
      · exact this _ (by rw [List.length_replicate]; omega)
      · rintro pre rfl nx hnx
        refine Tot.step (fun q => spec_daCount.l1.eq_2 _ _ _ _ _ _ _ _ _ _ _) (Tot.neg (by omega) ?_)
        rw [wrap_in (x := n + 1) (by omega) (by omega)]
        exact ihd (n + 1) nx (by omega) (by omega) hnx
      · intro pre x suf h ih nx hnx
        have hn := len_mid pre suf x
        rw [← h] at hn
        have gx : goodD x.f0 x.f1 = true := List.all_eq_true.1 hg x (by rw [h]; simp)
        obtain ⟨_, _, _, _, p0, p1⟩ := good_range gx
        have nxt : ∀ nx : List Int, (nx.length : Int) = most + 1 → Tot (fun q => spec_daCount.l1 q k most b now all n nx all (all.length : Int) (wrap64 ((pre.length : Int) + 1))) (fun r => (r.length : Int) = most + 1) := by
          rw [wrap_in (by omega) (by omega), ← nat_succL pre x]
          exact ih
        have J : ∀ c : Bool, Tot (fun q => spec_daCount.j2 q k most b now all n nx all (all.length : Int) (pre.length : Int) c x.f0 x.f1) (fun r => (r.length : Int) = most + 1) := by
          intro c
          refine Tot.step (fun q => spec_daCount.j2.eq_2 _ _ _ _ _ _ _ _ _ _ _ _ _ _) (Tot.ite (fun _ => nxt nx hnx) (fun _ => ?_))
          rw [good_wrap gx]
          exact count_row n k most b now all m0 m1 hnow x.f0 x.f1 gx _ _ _ nxt (most + 61 - x.f0 * x.f1).toNat _ nx hnx (Int.le_refl _) (by omega)
        refine Tot.step (fun q => spec_daCount.l1.eq_2 _ _ _ _ _ _ _ _ _ _ _) (Tot.pos (by omega) (Tot.pos (by omega) (Tot.pos (by omega) ?_)))
        rw [show rd_T52 all (pre.length : Int) = x by rw [h]; exact rdT_mid pre suf x]
        exact Tot.ite (fun _ => Tot.ite (fun _ => J _) (fun _ => J _)) (fun _ => J _)
  exact rows k.toNat 1 _ (by omega) (by omega) (by rw [List.length_set, List.length_replicate]; omega)
theorem finishes_t (left k : Int) (k0 : 1 ≤ k) (k1 : k ≤ 3) (m0 : 0 ≤ left) (m1 : left ≤ 1001) : Tot (fun q => spec_daFinishes.f q left k) (fun _ => True) := by
  unfold spec_daFinishes.f
  exact Tot.bind (count_t k left true k0 k1 m0 m1) (fun r hr => Tot.pos m0 (Tot.pos (by omega) (Tot.ret trivial)))
theorem first_t : ∀ (n : Nat) (left : Int), 1 ≤ n → n ≤ 3 → 0 ≤ left → left ≤ 1001 → Tot (fun q => spec_daFirst.f q left (n : Int)) (fun r => r.length ≤ n) := by
  intro n
  induction n with
  | zero => intro left h; omega
  | succ n ihn =>
    intro left _ h3 m0 m1
    refine Tot.step (fun q => spec_daFirst.f.eq_2 _ _ _) (Tot.bind daAll_t ?_)
    rintro all ⟨ha, hg⟩
    refine walkL (P := fun pre suf => Tot (fun q => spec_daFirst.l0 q left ((n + 1 : Nat) : Int) all (all.length : Int) (pre.length : Int)) (fun r => r.length ≤ n + 1)) all ?_ ?_
    · rintro pre rfl
      exact Tot.step (fun q => spec_daFirst.l0.eq_2 _ _ _ _ _ _) (Tot.neg (by omega) (Tot.ret (by simp)))
    · intro pre x suf h ih
      have hn := len_mid pre suf x
      rw [← h] at hn
      have gx : goodD x.f0 x.f1 = true := List.all_eq_true.1 hg x (by rw [h]; simp)
      obtain ⟨_, _, _, _, p0, p1⟩ := good_range gx
      have w0 : wrap64 (left - wrap64 (x.f0 * x.f1)) = left - x.f0 * x.f1 := by rw [good_wrap gx, wrap_in (by omega) (by omega)]
      have nxt : Tot (fun q => spec_daFirst.l0 q left ((n + 1 : Nat) : Int) all (all.length : Int) (wrap64 ((pre.length : Int) + 1))) (fun r => r.length ≤ n + 1) := by
        rw [wrap_in (by omega) (by omega), ← nat_succL pre x]
        exact ih
      have J : ∀ c : Bool, Tot (fun q => spec_daFirst.j1 q left ((n + 1 : Nat) : Int) (left - x.f0 * x.f1) all (all.length : Int) (pre.length : Int) c x.f0 x.f1) (fun r => r.length ≤ n + 1) := by
        intro c
        refine Tot.step (fun q => spec_daFirst.j1.eq_2 _ _ _ _ _ _ _ _ _ _) (Tot.ite (fun _ => Tot.ret (by simp)) (fun _ => Tot.ite (fun e => Tot.ite (fun f => ?_) (fun _ => nxt)) (fun _ => nxt)))
        rw [show wrap64 (((n + 1 : Nat) : Int) - 1) = (n : Int) by rw [wrap_in (by omega) (by omega)]; omega]
        refine Tot.bind (finishes_t (left - x.f0 * x.f1) (n : Int) (by omega) (by omega) (by omega) (by omega)) (fun v _ => Tot.ite (fun _ => ?_) (fun _ => nxt))
        refine Tot.some_bind (Tot.bind (ihn (left - x.f0 * x.f1) (by omega) (by omega) (by omega) (by omega)) (fun r hr => Tot.pos ?_ (Tot.ret ?_)))
        · simp only [List.length_cons, List.length_nil]; omega
        · simp; omega
      refine Tot.step (fun q => spec_daFirst.l0.eq_2 _ _ _ _ _ _) (Tot.pos (by omega) (Tot.pos (by omega) (Tot.pos (by omega) ?_)))
      rw [show rd_T52 all (pre.length : Int) = x by rw [h]; exact rdT_mid pre suf x, w0]
      exact Tot.ite (fun _ => Tot.ite (fun _ => J _) (fun _ => J _)) (fun _ => J _)
theorem finish_t (left : Int) : Tot (fun q => spec_FirstFinish.f q left 3) (fun v => v.1.length ≤ 3) := by
  have hd : spec_daDarts.f 3 = some true := by unfold spec_daDarts.f; rw [l1In_eq]; rfl
  have no : Tot (fun q => spec_FirstFinish.j0 q left 3 true) (fun v => v.1.length ≤ 3) :=
    Tot.step (fun q => spec_FirstFinish.j0.eq_2 _ _ _ _) (Tot.pos rfl (Tot.ret (by simp)))
  unfold spec_FirstFinish.f spec_daLeft.f
  rw [l1In_eq, hd]
  refine Tot.some_bind (Tot.ite (fun c => Tot.some_bind ?_) (fun _ => no))
  have c := of_decide_eq_true c
  refine Tot.step (fun q => spec_FirstFinish.j0.eq_2 _ _ _ _) (Tot.neg (by decide) ?_)
  have loop : ∀ (d : Nat) (n : Nat), 1 ≤ n → n + d = 4 → Tot (fun q => spec_FirstFinish.l0 q left 3 (n : Int)) (fun v => v.1.length ≤ 3) := by
    intro d
    induction d with
    | zero =>
      intro n _ h
      exact Tot.step (fun q => spec_FirstFinish.l0.eq_2 _ _ _ _) (Tot.neg (by omega) (Tot.ret (by simp)))
    | succ d ih =>
      intro n h1 h
      refine Tot.step (fun q => spec_FirstFinish.l0.eq_2 _ _ _ _) (Tot.pos (by omega) (Tot.bind (finishes_t left (n : Int) (by omega) (by omega) c.1 c.2) (fun v _ => Tot.ite (fun _ => ?_) (fun _ => ?_))))
      · exact Tot.bind (first_t n left h1 (by omega) c.1 c.2) (fun r hr => Tot.ret (by simp only; omega))
      · rw [wrap_nat n (by omega)]
        exact ih (n + 1) (by omega) (by omega)
  exact loop 3 1 (by omega) (by omega)
theorem left_t {l : List Int} (hl : ∀ x ∈ l, 0 ≤ x ∧ x ≤ 255) : Tot (fun _ => spec_l1Cur_left.f l 0 0) (fun v => 0 ≤ v.2.1 ∧ v.2.1 ≤ 4) := by
  unfold spec_l1Cur_left.f
  refine Tot.bind (one_t hl _ _ _ (by omega) (by omega)) ?_
  rintro v ⟨h2, h3⟩
  refine Tot.ite (fun _ => ?_) (fun _ => ?_)
  · refine Tot.bind (among_t hl _ _ _ (by decide) (by omega) (by omega)) ?_
    rintro u ⟨h4, h5⟩
    exact Tot.ret ⟨by simp only; omega, by simp only; omega⟩
  · refine Tot.bind (pick_t hl _ _ _ (by omega) (by omega)) ?_
    rintro u ⟨_, _, h4, h5⟩
    exact Tot.ret ⟨by simp only; omega, by simp only; omega⟩
theorem leg_end {l : List Int} (hl : ∀ x ∈ l, 0 ≤ x ∧ x ≤ 255) (left : Int) (x : List S52) (a s : Int) (hx : x.length ≤ 10) (h0 : 0 ≤ a) (h1 : a ≤ 1000) : Tot (fun k => spec_l1Cur_leg.j3 k left x l a s) (fun v => v.2.1.length ≤ 20) := by
  refine Tot.step (fun k => spec_l1Cur_leg.j3.eq_2 _ _ _ _ _ _) (Tot.bind (one_t hl _ _ _ h0 (by omega)) ?_)
  rintro v ⟨h2, h3⟩
  refine Tot.ite (fun _ => ?_) (fun _ => Tot.ret (by simp only; omega))
  exact Tot.bind (dart_t hl _ _ (by omega) (by omega)) (fun u _ => Tot.pos (by omega) (Tot.ret (by simp; omega)))
theorem leg_loop {l : List Int} (hl : ∀ x ∈ l, 0 ≤ x ∧ x ≤ 255) (left : Int) : ∀ (n : Nat) (x : List S52) (now a s : Int), n ≤ 4 → x.length + n ≤ 8 → 0 ≤ a → a + 8 * n ≤ 500 →
    Tot (fun k => spec_l1Cur_leg.l0 k left x now (n : Int) l a s) (fun v => v.2.1.length ≤ 20) := by
  intro n
  induction n with
  | zero =>
    intro x now a s _ hx h0 h1
    exact Tot.step (fun k => spec_l1Cur_leg.l0.eq_2 _ _ _ _ _ _ _ _) (Tot.neg (by omega) (leg_end hl left x a s (by omega) h0 (by omega)))
  | succ n ih =>
    intro x now a s hn hx h0 h1
    refine Tot.step (fun k => spec_l1Cur_leg.l0.eq_2 _ _ _ _ _ _ _ _) (Tot.pos (by omega) (Tot.bind (sureDart_t hl _ _ (by omega) (by omega)) ?_))
    rintro u ⟨_, h4, h5⟩
    refine Tot.pos (by omega) (Tot.some_bind ?_)
    refine Tot.bind (P := fun _ => True) (by unfold spec_l1Least.f; exact Tot.ite (fun _ => Tot.ret trivial) (fun _ => Tot.ret trivial)) (fun t _ => ?_)
    rw [down_one n (by omega)]
    refine Tot.ite (fun _ => ?_) (fun _ => ih _ _ _ _ (by omega) (by simp; omega) (by omega) (by omega))
    refine Tot.bind (one_t hl _ _ _ (by omega) (by omega)) ?_
    rintro v ⟨h2, h3⟩
    exact Tot.ite (fun _ => ih _ _ _ _ (by omega) (by simp; omega) (by omega) (by omega)) (fun _ => leg_end hl left _ _ _ (by simp; omega) (by omega) (by omega))
theorem drawVisit_t {l : List Int} (hl : ∀ x ∈ l, 0 ≤ x ∧ x ≤ 255) : Tot (fun k => spec_DrawLeftAfter.f k l) (fun v => v.2.length ≤ 20) := by
  have J1 : ∀ (left a s : Int), 0 ≤ a → a ≤ 100 → Tot (fun k => spec_l1Cur_leg.j1 k left l a s) (fun v => v.2.1.length ≤ 20) := by
    intro left a s h0 h1
    refine Tot.step (fun k => spec_l1Cur_leg.j1.eq_2 _ _ _ _ _) (Tot.bind (pick_t hl _ _ _ h0 (by omega)) ?_)
    rintro ⟨x, a1, s1⟩ ⟨x0, x1, q0, q1⟩
    simp only at x0 x1 q0 q1 ⊢
    rw [wrap_in (by omega) (by omega)]
    obtain ⟨n, hn⟩ : ∃ n : Nat, 1 + x = (n : Int) := ⟨(1 + x).toNat, by omega⟩
    rw [hn]
    exact leg_loop hl left n [] left a1 s1 (by omega) (by simp; omega) (by omega) (by omega)
  have J0 : ∀ (b : Bool) (left a s : Int), 0 ≤ a → a ≤ 100 → Tot (fun k => spec_l1Cur_leg.j0 k left b l a s) (fun v => v.2.1.length ≤ 20) := by
    intro b left a s h0 h1
    refine Tot.step (fun k => spec_l1Cur_leg.j0.eq_2 _ _ _ _ _ _) (Tot.ite (fun _ => ?_) (fun _ => J1 _ _ _ h0 h1))
    exact Tot.bind (finish_t left) (fun v hv => Tot.ite (fun _ => Tot.ret (by simp only; omega)) (fun _ => J1 _ _ _ h0 h1))
  unfold spec_DrawLeftAfter.f spec_l1Cur_leg.f
  refine Tot.bind (P := fun v => v.2.1.length ≤ 20) ?_ (fun v hv => Tot.ret hv)
  refine Tot.bind (left_t hl) ?_
  rintro v ⟨h2, h3⟩
  rw [l1In_eq]
  refine Tot.some_bind (Tot.ite (fun _ => ?_) (fun _ => J0 _ _ _ _ (by omega) (by omega)))
  refine Tot.bind (one_t hl _ _ _ (by omega) (by omega)) ?_
  rintro u ⟨h4, h5⟩
  exact J0 _ _ _ _ (by omega) (by omega)
end Go.Proofs.YtcmlmjgoidpabaaGreatDoor.Pure

