/- The law on counted frames holds: for all texts of bytes. -/
import Derived.Test.YtcmlmjgoidpabaaDoorZFcCb
import Derived.Test.YtcmlmjgoidpabaaDoorZFcDraw
import Derived.Test.YtcmlmjgoidpabaaDoorZMFnFramesCountedx14
set_option linter.unusedVariables false
set_option linter.unusedSimpArgs false
namespace Go.Proofs.YtcmlmjgoidpabaaDoor.Pure
open Go.RowKit Go.Proofs.YtcmlmjgoidpabaaDoor.MFnFramesCounted Go.Proofs.YtcmlmjgoidpabaaDoorW.PrintWords Go.Proofs.YtcmlmjgoidpabaaDoorW.PrintLast
theorem play_law (l : List ByteArray) (hl : l.length ≤ 100) : ∀ (d i : Nat) (a b r : Int) (c : Bool) (m : Int), i + d = l.length → goodB r c m = true →
    ∃ v, Tot (fun k => impl_PlayFrame.l0 k [a, b] l (l.length : Int) (i : Int) r c m) (Eq v) ∧
      (v.2 = true → v.1.length = 2 ∧ Tot (fun k => laws_FnFramesCounted.l0 k v.1 a b l (l.length : Int) (i : Int) r c m) (Eq true)) := by
  intro d
  induction d with
  | zero =>
    intro i a b r c m h hg
    refine ⟨([a, b], true), ?_, fun _ => ⟨rfl, ?_⟩⟩
    · exact Tot.step (fun k => impl_PlayFrame.l0.eq_2 _ _ _ _ _ _ _ _) (Tot.neg (by omega) (Tot.ret rfl))
    · refine Tot.step (fun k => laws_FnFramesCounted.l0.eq_2 _ _ _ _ _ _ _ _ _ _) (Tot.neg (by omega) ?_)
      exact Tot.pos (by simp) (Tot.pos rfl (Tot.pos (by simp) (Tot.pos rfl (Tot.ret rfl))))
  | succ d ih =>
    intro i a b r c m h hg
    have ht : Int.tmod (i : Int) 2 = (i : Int) % 2 := tmod_in (by omega)
    have hw := wrap_nat i (by omega)
    generalize hz : rdOf ByteArray.empty l (i : Int) = z
    obtain ⟨⟨x1, x2, x3, x4⟩, ⟨y1, y2, y3, y4⟩, hx, hy, ⟨q1, q2⟩, q3⟩ := PL.after2_t z hg
    simp only at q1 q2 q3
    subst q1
    have hfa : Tot (fun k => impl_FrameAfter.f k r c m z) (Eq (y1, y2, y3, x4)) := by
      unfold impl_FrameAfter.f
      refine Tot.bind (isFrame_t r c m) ?_
      rintro _ rfl
      refine Tot.pos hg (Tot.bind (Tot.of hy) ?_)
      rintro _ rfl
      exact Tot.ret rfl
    cases x4 with
    | false =>
      refine ⟨([], false), ?_, fun e => by cases e⟩
      refine Tot.step (fun k => impl_PlayFrame.l0.eq_2 _ _ _ _ _ _ _ _) (Tot.pos (by omega) (Tot.pos (by omega) (Tot.pos (by omega) ?_)))
      rw [hz]
      refine Tot.bind hfa ?_
      rintro _ rfl
      exact Tot.neg (by simp) (Tot.ret rfl)
    | true =>
      obtain ⟨q4, q5, q6⟩ := q2 rfl
      simp only [Prod.mk.injEq, and_true] at q4
      obtain ⟨rfl, rfl, rfl⟩ := q4
      obtain ⟨u, w, _, hp, rfl⟩ := PL.points_t z (q3 rfl) (fun j hj => q6 j (by omega) hj)
      have hm : Tot (fun k => impl_MissBall.f k x1 x2 x3) (Eq (x1, false, x3, true)) := by
        unfold impl_MissBall.f
        refine Tot.bind (isFrame_t x1 x2 x3) ?_
        rintro _ rfl
        exact Tot.pos q5 (Tot.ret rfl)
      by_cases he : (i : Int) % 2 = 0
      · obtain ⟨v, v1, v2⟩ := ih (i + 1) (wrap64 (a + u)) b x1 false x3 (by omega) (PL.good_miss q5)
        refine ⟨v, ?_, fun hv => ⟨(v2 hv).1, ?_⟩⟩
        · refine Tot.step (fun k => impl_PlayFrame.l0.eq_2 _ _ _ _ _ _ _ _) (Tot.pos (by omega) (Tot.pos (by omega) (Tot.pos (by omega) ?_)))
          rw [hz, ht, hw, he]
          refine Tot.bind hfa ?_
          rintro _ rfl
          refine Tot.pos rfl (Tot.bind (Tot.of hp) ?_)
          rintro _ rfl
          refine Tot.pos (by omega) (Tot.pos (by simp) (Tot.bind hm ?_))
          rintro _ rfl
          exact v1
        · refine Tot.step (fun k => laws_FnFramesCounted.l0.eq_2 _ _ _ _ _ _ _ _ _ _) (Tot.pos (by omega) (Tot.pos (by omega) (Tot.pos (by omega) ?_)))
          rw [hz]
          refine Tot.bind (Tot.of hp) ?_
          rintro _ rfl
          refine Tot.bind hfa ?_
          rintro _ rfl
          refine Tot.bind hm ?_
          rintro _ rfl
          refine Tot.pos rfl (Tot.pos rfl (Tot.step (fun k => laws_FnFramesCounted.j8.eq_2 _ _ _ _ _ _ _ _ _ _ _ _ _) (Tot.neg (by simp) ?_)))
          rw [ht, hw]
          exact Tot.pos he (v2 hv).2
      · have he1 : (i : Int) % 2 = 1 := by omega
        obtain ⟨v, v1, v2⟩ := ih (i + 1) a (wrap64 (b + u)) x1 false x3 (by omega) (PL.good_miss q5)
        refine ⟨v, ?_, fun hv => ⟨(v2 hv).1, ?_⟩⟩
        · refine Tot.step (fun k => impl_PlayFrame.l0.eq_2 _ _ _ _ _ _ _ _) (Tot.pos (by omega) (Tot.pos (by omega) (Tot.pos (by omega) ?_)))
          rw [hz, ht, hw, he1]
          refine Tot.bind hfa ?_
          rintro _ rfl
          refine Tot.pos rfl (Tot.bind (Tot.of hp) ?_)
          rintro _ rfl
          refine Tot.pos (by omega) (Tot.pos (by simp) (Tot.bind hm ?_))
          rintro _ rfl
          exact v1
        · refine Tot.step (fun k => laws_FnFramesCounted.l0.eq_2 _ _ _ _ _ _ _ _ _ _) (Tot.pos (by omega) (Tot.pos (by omega) (Tot.pos (by omega) ?_)))
          rw [hz]
          refine Tot.bind (Tot.of hp) ?_
          rintro _ rfl
          refine Tot.bind hfa ?_
          rintro _ rfl
          refine Tot.bind hm ?_
          rintro _ rfl
          refine Tot.pos rfl (Tot.pos rfl (Tot.step (fun k => laws_FnFramesCounted.j8.eq_2 _ _ _ _ _ _ _ _ _ _ _ _ _) (Tot.neg (by simp) ?_)))
          rw [ht, hw]
          exact Tot.neg he (v2 hv).2
theorem play_t (r : Int) (c : Bool) (m : Int) (l : List ByteArray) : ∃ v, v.1.length ≤ 2 ∧ Tot (fun k => spec_PlayFrame.f k r c m l) (Eq v) ∧ Tot (fun k => impl_PlayFrame.f k r c m l) (Eq v) ∧
    (v.2 = true → v.1.length = 2 ∧ Tot (fun k => laws_FnFramesCounted.l0 k v.1 0 0 l (l.length : Int) 0 r c m) (Eq true)) := by
  obtain ⟨v, h1, h2, h3⟩ := PL.both r c m l
  refine ⟨v, h1, h2, h3, fun hv => ?_⟩
  have key : Tot (fun k => impl_PlayFrame.f k r c m l) (fun v => v.2 = true → v.1.length = 2 ∧ Tot (fun k => laws_FnFramesCounted.l0 k v.1 0 0 l (l.length : Int) 0 r c m) (Eq true)) := by
    unfold impl_PlayFrame.f
    refine Tot.bind (isFrame_t r c m) ?_
    rintro _ rfl
    by_cases h : goodB r c m = true
    · refine Tot.pos h (Tot.step (fun k => impl_PlayFrame.j0.eq_2 _ _ _ _ _ _) ?_)
      by_cases g : (l.length : Int) > 100
      · exact Tot.pos (by simpa using g) (Tot.ret (fun e => by cases e))
      · refine Tot.neg (by simpa using g) ?_
        obtain ⟨u, u1, u2⟩ := play_law l (by omega) l.length 0 0 0 r c m (by omega) h
        exact u1.mono (fun x hx => by rw [← hx]; exact u2)
    · exact Tot.neg h (Tot.step (fun k => impl_PlayFrame.j0.eq_2 _ _ _ _ _ _) (Tot.pos rfl (Tot.ret (fun e => by cases e))))
  exact key.at h3.ev hv
theorem bSame_loop (l : List Int) (hn : l.length ≤ 1000) : ∀ (suf pre : List Int), l = pre ++ suf → Tot (fun k => laws_bSame.l0 k l l (l.length : Int) (pre.length : Int)) (Eq true) := by
  intro suf
  induction suf with
  | nil =>
    intro pre h
    refine Tot.step (fun k => laws_bSame.l0.eq_2 _ _ _ _ _) ?_
    exact Tot.neg (by simp [h]) (Tot.ret rfl)
  | cons x suf ih =>
    intro pre h
    have hl : l.length = pre.length + suf.length + 1 := by simp [h]; omega
    refine Tot.step (fun k => laws_bSame.l0.eq_2 _ _ _ _ _) ?_
    refine Tot.pos (by omega) (Tot.pos (by omega) (Tot.pos (by omega) (Tot.pos (by omega) (Tot.pos rfl ?_))))
    rw [wrap_nat _ (by omega)]
    have := ih (pre ++ [x]) (by simp [h])
    simpa using this
theorem bSame_t (l : List Int) (hn : l.length ≤ 1000) : Tot (fun k => laws_bSame.f k l l) (Eq true) := by
  unfold laws_bSame.f
  exact Tot.pos rfl (bSame_loop l hn l [] rfl)
theorem j6_t (l : List ByteArray) (v : List Int × Bool) (r : Int) (c : Bool) (m : Int)
    (h : v.2 = true → v.1.length = 2 ∧ Tot (fun k => laws_FnFramesCounted.l0 k v.1 0 0 l (l.length : Int) 0 r c m) (Eq true)) : Tot (fun k => laws_FnFramesCounted.j6 k l v.1 v.2 r c m) (Eq true) := by
  refine Tot.step (fun k => laws_FnFramesCounted.j6.eq_2 _ _ _ _ _ _ _) (Tot.ite (fun hv => ?_) (fun _ => Tot.ret rfl))
  obtain ⟨h1, h2⟩ := h hv
  exact Tot.pos (by omega) h2
theorem j5_t {a : Int} {vc : Bool × Bool} {vf : Int × Bool} {l : List ByteArray} {v : List Int × Bool} {r' : Int} {c' : Bool} {m' : Int} {r : Int} {c : Bool} {m : Int}
    (hf : vf.2 = true → vc.2 = true ∧ ∃ p, Tot (fun k => impl_PointsLeft.f k r' c' m') (Eq (p, true)) ∧ vc.1 = decide (p > a) ∧ 0 ≤ p ∧ p ≤ 147 ∧ 0 ≤ a ∧ a ≤ 400 ∧ 0 ≤ vf.1 ∧ vf.1 ≤ 101 ∧ a < p + 4 * vf.1 ∧ (vf.1 = 0 ∨ p + 4 * (vf.1 - 1) ≤ a))
    (h6 : Tot (fun k => laws_FnFramesCounted.j6 k l v.1 v.2 r c m) (Eq true)) : Tot (fun k => laws_FnFramesCounted.j5 k a vc.1 vf.1 vf.2 l v.1 v.2 r' c' m' r c m) (Eq true) := by
  refine Tot.step (fun k => laws_FnFramesCounted.j5.eq_2 _ _ _ _ _ _ _ _ _ _ _ _ _ _) (Tot.ite (fun hv => ?_) (fun _ => h6))
  obtain ⟨_, p, hp, e, p0, p1, a0, a1, n0, n1, hn, hd⟩ := hf hv
  refine Tot.bind hp ?_
  rintro _ rfl
  refine Tot.pos rfl ?_
  rw [e, show wrap64 (4 * vf.1) = 4 * vf.1 from wrap_in (by omega) (by omega), show wrap64 (p + 4 * vf.1) = p + 4 * vf.1 from wrap_in (by omega) (by omega), show wrap64 (vf.1 - 1) = vf.1 - 1 from wrap_in (by omega) (by omega),
    show wrap64 (4 * (vf.1 - 1)) = 4 * (vf.1 - 1) from wrap_in (by omega) (by omega), show wrap64 (p + 4 * (vf.1 - 1)) = p + 4 * (vf.1 - 1) from wrap_in (by omega) (by omega)]
  refine Tot.neg ?_ (Tot.neg (by simp) (Tot.neg (by omega) (Tot.neg (by omega) (Tot.ite (fun g => Tot.neg (by omega) h6) (fun _ => h6)))))
  have : (decide (p > a)) = (vf.1 == 0) := by
    by_cases g : p > a
    · have : vf.1 = 0 := by omega
      rw [this]; simp [g]
    · have : vf.1 ≠ 0 := by omega
      simp [g, this]
  simp [this]
theorem j4_t {b : Int} {x : Int × Bool} {a : Int} {vc : Bool × Bool} {vf : Int × Bool} {l : List ByteArray} {v : List Int × Bool} {r'' : Int} {c'' : Bool} {m'' : Int} {r' : Int} {c' : Bool} {m' : Int} {r : Int} {c : Bool} {m : Int}
    (hb0 : 0 ≤ b) (hb1 : b ≤ 36) {z : Int × Bool} (hz : Tot (fun k => impl_CountBreaks.f k r'' c'' m'' (b - 1)) (Eq z)) (hfac : 0 < b → 0 < x.1 → z.2 = true ∧ z.1 ≤ x.1 ∧ 0 < z.1 ∧ Int.tmod x.1 z.1 = 0)
    (h5 : Tot (fun k => laws_FnFramesCounted.j5 k a vc.1 vf.1 vf.2 l v.1 v.2 r' c' m' r c m) (Eq true)) (y : Bool) (hy : y = true → 0 < b ∧ 0 < x.1) :
    Tot (fun k => laws_FnFramesCounted.j4 k b x.1 a vc.1 vf.1 vf.2 l v.1 v.2 y r'' c'' m'' r' c' m' r c m) (Eq true) := by
  refine Tot.step (fun k => laws_FnFramesCounted.j4.eq_2 _ _ _ _ _ _ _ _ _ _ _ _ _ _ _ _ _ _ _ _) (Tot.ite (fun hy' => ?_) (fun _ => h5))
  obtain ⟨y1, y2⟩ := hy hy'
  obtain ⟨z1, z2, z3, z4⟩ := hfac y1 y2
  rw [show wrap64 (b - 1) = b - 1 from wrap_in (by omega) (by omega)]
  refine Tot.bind hz ?_
  rintro _ rfl
  exact Tot.pos z1 (Tot.neg (by omega) (Tot.neg (by omega) (Tot.pos z4 h5)))
theorem j2_t {b : Int} {x : Int × Bool} {a : Int} {vc : Bool × Bool} {vf : Int × Bool} {l : List ByteArray} {v : List Int × Bool} {r'' : Int} {c'' : Bool} {m'' : Int} {r' : Int} {c' : Bool} {m' : Int} {r : Int} {c : Bool} {m : Int}
    (hb : cbR r'' c'' m'' b x) (h5 : Tot (fun k => laws_FnFramesCounted.j5 k a vc.1 vf.1 vf.2 l v.1 v.2 r' c' m' r c m) (Eq true)) :
    Tot (fun k => laws_FnFramesCounted.j2 k b x.1 x.2 a vc.1 vf.1 vf.2 l v.1 v.2 false r'' c'' m'' r' c' m' r c m) (Eq true) := by
  refine Tot.step (fun k => laws_FnFramesCounted.j2.eq_2 _ _ _ _ _ _ _ _ _ _ _ _ _ _ _ _ _ _ _ _ _) (Tot.neg (by simp) (Tot.ite (fun hx => ?_) (fun _ => h5)))
  obtain ⟨b0, b1, left, nx, z, e1, e2, e3, f1, f2, f3, f4⟩ := hb hx
  have h3 : Tot (fun k => laws_FnFramesCounted.j3 k b x.1 a vc.1 vf.1 vf.2 l v.1 v.2 false r'' c'' m'' r' c' m' r c m) (Eq true) := by
    refine Tot.step (fun k => laws_FnFramesCounted.j3.eq_2 _ _ _ _ _ _ _ _ _ _ _ _ _ _ _ _ _ _ _ _) (Tot.neg (by simp) (Tot.ite (fun g => ?_) (fun g => ?_)))
    · exact j4_t b0 b1 e3 f4 h5 _ (fun e => ⟨g, by simpa using e⟩)
    · exact j4_t b0 b1 e3 f4 h5 _ (fun e => by cases e)
  refine Tot.bind e1 ?_
  rintro _ rfl
  refine Tot.bind e2 ?_
  rintro _ rfl
  refine Tot.pos rfl (Tot.pos rfl (Tot.neg ?_ ?_))
  · have : (decide (x.1 > 0)) = (decide (b ≤ left)) := by
      by_cases g : b ≤ left
      · have := f1.2 g; simp [g, this]
      · have : ¬ x.1 > 0 := fun e => g (f1.1 e)
        simp [g, this]
    simp [this]
  · refine Tot.ite (fun g => Tot.pos (f2 g) (Tot.neg (by omega) h3)) (fun g => Tot.ite (fun g1 => ?_) (fun _ => h3))
    rw [show (x.1 != (nx.size : Int)) = false by rw [f3 g1]; simp]
    exact h3
theorem u8_in {l : List Int} (h : ∀ x ∈ l, (Lit.int .u8 x).wf = true) : ∀ x ∈ l, 0 ≤ x ∧ x ≤ 255 := by
  intro x hx
  have := h x hx
  simp [Lit.wf, IntKind.min, IntKind.max, IntKind.bits, IntKind.signed] at this
  omega
theorem j1_t {l1 : List Int} (h1 : ∀ x ∈ l1, 0 ≤ x ∧ x ≤ 255) : Tot (fun k => laws_FnFramesCounted.j1 k l1) (Eq true) := by
  refine Tot.step (fun k => laws_FnFramesCounted.j1.eq_2 _ _) ?_
  refine Tot.bind (drawBreaks_t h1) ?_
  rintro ⟨r2, c2, m2, b⟩ _
  obtain ⟨x, x1, x2, hx⟩ := breaks_t r2 c2 m2 b
  refine Tot.bind x1 ?_
  rintro _ rfl
  refine Tot.bind x2 ?_
  rintro _ rfl
  refine Tot.bind (drawFouls_t h1) ?_
  rintro ⟨r1, c1, m1, a⟩ _
  obtain ⟨vc, vf, w1, w2, w3, w4, hw⟩ := wins_t r1 c1 m1 a
  refine Tot.bind w1 ?_
  rintro _ rfl
  refine Tot.bind w2 ?_
  rintro _ rfl
  refine Tot.bind w3 ?_
  rintro _ rfl
  refine Tot.bind w4 ?_
  rintro _ rfl
  refine Tot.bind (drawPlay_t h1) ?_
  rintro ⟨r0, c0, m0, L⟩ _
  obtain ⟨v, v0, v1, v2, hv⟩ := play_t r0 c0 m0 L
  refine Tot.bind v2 ?_
  rintro _ rfl
  refine Tot.bind v1 ?_
  rintro _ rfl
  have h2 := j2_t hx (j5_t hw (j6_t L v r0 c0 m0 hv))
  refine Tot.neg (by simp) (Tot.pos rfl (Tot.neg (by simp) (Tot.neg (by simp) (Tot.neg (by simp) (Tot.pos rfl (Tot.neg (by simp) ?_))))))
  refine Tot.bind (bSame_t v.1 (by omega)) ?_
  rintro _ rfl
  refine Tot.pos rfl (Tot.ite (fun g => ?_) (fun _ => h2))
  rw [show (!vc.2) = false by rw [(hw g).1]; rfl]
  exact h2
theorem FnFramesCounted : laws_FnFramesCounted.Pure := by
  intro l0 l1 _ _ hw0 _ _ hw1
  have h0 := u8_in hw0
  have h1 := u8_in hw1
  refine Tot.rounds ?_
  unfold laws_FnFramesCounted.f
  refine Tot.bind (P := fun _ => True) (by unfold laws_big.f; exact Tot.ite (fun _ => Tot.ret trivial) (fun _ => Tot.ret trivial)) ?_
  rintro t _
  refine Tot.ite (fun _ => Tot.ret rfl) (fun _ => ?_)
  refine Tot.bind (drawCount_t h0) ?_
  rintro ⟨r, c, l, p⟩ _
  obtain ⟨a1, a2⟩ := FP.bothV r c l p
  obtain ⟨b1, b2⟩ := CP.bothV r c l p
  generalize hv : Brk.firstP (goodB r c l) (r, c, l) p = v at a1 a2
  generalize hu : Brk.byP (goodB r c l) (r, c, l) p = u at b1 b2
  replace hv := hv.symm
  replace hu := hu.symm
  refine Tot.bind a2 ?_
  rintro _ rfl
  refine Tot.bind a1 ?_
  rintro _ rfl
  refine Tot.bind b2 ?_
  rintro _ rfl
  refine Tot.bind b1 ?_
  rintro _ rfl
  have hj : Tot (fun k => laws_FnFramesCounted.j0 k l1 p v.1 v.2 false r c l) (Eq true) := by
    refine Tot.step (fun k => laws_FnFramesCounted.j0.eq_2 _ _ _ _ _ _ _ _ _) (Tot.neg (by simp) (Tot.ite (fun g => ?_) (fun _ => j1_t h1)))
    rw [hv] at g ⊢
    unfold Brk.firstP at g ⊢
    by_cases q : goodB r c l = true ∧ (0 ≤ p ∧ p ≤ 147) ∧ Brk.cnt p.toNat (r, c, l) p ≠ 0
    · rw [if_pos q]
      obtain ⟨t1, t2, s, hs, t3⟩ := first_t q.1 q.2.1.1 q.2.1.2 q.2.2
      refine Tot.bind t1 ?_
      rintro _ rfl
      refine Tot.bind t2 ?_
      rintro _ rfl
      refine Tot.bind t3 ?_
      rintro _ rfl
      exact Tot.pos rfl (Tot.pos rfl (Tot.pos rfl (Tot.pos rfl (Tot.pos rfl (Tot.neg (by omega) (j1_t h1))))))
    · rw [if_neg q] at g
      cases g
  refine Tot.neg (by simp) (Tot.pos rfl (Tot.neg (by simp) (Tot.pos rfl (Tot.ite (fun g => ?_) (fun _ => hj)))))
  rw [show (v.2 != decide (u.1 > 0)) = false from ?_]
  · exact hj
  rw [hu] at g ⊢
  rw [hv]
  unfold Brk.byP at g ⊢
  unfold Brk.firstP
  by_cases q : goodB r c l = true ∧ 0 ≤ p ∧ p ≤ 147
  · rw [if_pos q] at g ⊢
    have hin := (Brk.cnt_in p.toNat (r, c, l) p).1
    by_cases e : Brk.cnt p.toNat (r, c, l) p > 1000000000000000
    · rw [if_pos e] at g; cases g
    · rw [if_neg e]
      by_cases z : Brk.cnt p.toNat (r, c, l) p = 0
      · rw [if_neg (fun k => k.2.2 z), z]; rfl
      · rw [if_pos ⟨q.1, q.2, z⟩]
        simp only
        rw [decide_eq_true (by omega)]
        rfl
  · rw [if_neg q] at g
    cases g
end Go.Proofs.YtcmlmjgoidpabaaDoor.Pure

