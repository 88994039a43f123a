/- Breaks of so many balls, and who is too far behind. -/
import Derived.Test.YtcmlmjgoidpabaaDoorZFcBrk
set_option linter.unusedVariables false
set_option linter.unusedSimpArgs false
namespace Go.Proofs.YtcmlmjgoidpabaaDoor.Pure
open Go.RowKit Go.Proofs.YtcmlmjgoidpabaaDoor.MFnFramesCounted Go.Proofs.YtcmlmjgoidpabaaDoorW.PrintWords Go.Proofs.YtcmlmjgoidpabaaDoorW.PrintLast
def cbB (r : Int) (c : Bool) (l b : Int) : Bool :=
  match impl_CountBreaks.f 100 r c l b, spec_CountBreaks.f 100 r c l b, impl_CountBreaks.f 100 r c l (b - 1), impl_BallsLeft.f 100 r c l, impl_NextBalls.f 100 r c l with
  | some x, some y, some z, some (left, true), some (nx, true) =>
    decide (x = y ∧ (x.2 = true → (0 < x.1 ↔ b ≤ left) ∧ (b = 0 → x.1 = 1) ∧ (b = 1 → x.1 = (nx.size : Int)) ∧ (0 < b → 0 < x.1 → z.2 = true ∧ z.1 ≤ x.1 ∧ 0 < z.1 ∧ Int.tmod x.1 z.1 = 0)))
  | _, _, _, _, _ => false
set_option maxRecDepth 100000 in
theorem cb_all : ∀ r < 16, ∀ c : Bool, ∀ l < 9, goodB (r : Nat) c (l : Nat) = true → ∀ b < 37, cbB (r : Nat) c (l : Nat) (b : Nat) = true := by decide +kernel
def cbR (r : Int) (c : Bool) (l b : Int) (x : Int × Bool) : Prop := x.2 = true → 0 ≤ b ∧ b ≤ 36 ∧ ∃ left nx z, Tot (fun k => impl_BallsLeft.f k r c l) (Eq (left, true)) ∧ Tot (fun k => impl_NextBalls.f k r c l) (Eq (nx, true)) ∧
  Tot (fun k => impl_CountBreaks.f k r c l (b - 1)) (Eq z) ∧ (0 < x.1 ↔ b ≤ left) ∧ (b = 0 → x.1 = 1) ∧ (b = 1 → x.1 = (nx.size : Int)) ∧ (0 < b → 0 < x.1 → z.2 = true ∧ z.1 ≤ x.1 ∧ 0 < z.1 ∧ Int.tmod x.1 z.1 = 0)
theorem breaks_t (r : Int) (c : Bool) (l b : Int) : ∃ x, Tot (fun k => impl_CountBreaks.f k r c l b) (Eq x) ∧ Tot (fun k => spec_CountBreaks.f k r c l b) (Eq x) ∧ cbR r c l b x := by
  by_cases h : goodB r c l = true
  · by_cases g : 0 ≤ b ∧ b ≤ 36
    · obtain ⟨h1, h2, h3, h4, _⟩ := good_range h
      obtain ⟨n, rfl⟩ : ∃ n : Nat, r = (n : Int) := ⟨r.toNat, by omega⟩
      obtain ⟨m, rfl⟩ : ∃ m : Nat, l = (m : Int) := ⟨l.toNat, by omega⟩
      obtain ⟨q, rfl⟩ : ∃ q : Nat, b = (q : Int) := ⟨b.toNat, by omega⟩
      have hb := cb_all n (by omega) c m (by omega) h q (by omega)
      unfold cbB at hb
      split at hb
      · rename_i x y z left nx e1 e2 e3 e4 e5
        rw [decide_eq_true_eq] at hb
        obtain ⟨rfl, hb⟩ := hb
        refine ⟨x, Tot.of (Ev.of (fun k => impl_CountBreaks.mono _ _ _ _ k) e1), Tot.of (Ev.of (fun k => spec_CountBreaks.mono _ _ _ _ k) e2), fun hx => ⟨g.1, g.2, left, nx, z, Tot.of (Ev.of (fun k => impl_BallsLeft.mono _ _ _ k) e4), Tot.of (Ev.of (fun k => impl_NextBalls.mono _ _ _ k) e5), Tot.of (Ev.of (fun k => impl_CountBreaks.mono _ _ _ _ k) e3), hb hx⟩⟩
      · cases hb
    · refine ⟨(0, false), ?_, ?_, fun e => by cases e⟩
      · unfold impl_CountBreaks.f
        refine Tot.bind (isFrame_t r c l) ?_
        rintro _ rfl
        refine Tot.pos h ?_
        simp only [within_eq]
        refine Tot.some_bind (Tot.step (fun k => impl_CountBreaks.j0.eq_2 _ _ _ _ _ _) (Tot.pos (by simp only [g, decide_false]; rfl) (Tot.ret rfl)))
      · unfold spec_CountBreaks.f
        rw [frGood_eq]
        refine Tot.some_bind (Tot.pos h ?_)
        rw [l1In_eq]
        refine Tot.some_bind (Tot.step (fun k => spec_CountBreaks.j0.eq_2 _ _ _ _ _ _) (Tot.pos (by simp only [g, decide_false]; rfl) (Tot.ret rfl)))
  · refine ⟨(0, false), ?_, ?_, fun e => by cases e⟩
    · unfold impl_CountBreaks.f
      refine Tot.bind (isFrame_t r c l) ?_
      rintro _ rfl
      exact Tot.neg h (Tot.step (fun k => impl_CountBreaks.j0.eq_2 _ _ _ _ _ _) (Tot.pos rfl (Tot.ret rfl)))
    · unfold spec_CountBreaks.f
      rw [frGood_eq]
      exact Tot.some_bind (Tot.neg h (Tot.step (fun k => spec_CountBreaks.j0.eq_2 _ _ _ _ _ _) (Tot.pos rfl (Tot.ret rfl))))
theorem fouls_fact {a p : Int} (p0 : 0 ≤ p) (p1 : p ≤ 147) (a0 : 0 ≤ a) (a1 : a ≤ 400) : ∀ (d : Nat) (n : Int), 0 ≤ n → n + d = 101 → (n = 0 ∨ p + 4 * (n - 1) ≤ a) →
    Tot (fun k => impl_FoulsNeeded.l0 k a p n) (fun v => 0 ≤ v.1 ∧ v.1 ≤ 101 ∧ (v.2 = true → a < p + 4 * v.1 ∧ (v.1 = 0 ∨ p + 4 * (v.1 - 1) ≤ a))) := by
  intro d
  induction d with
  | zero =>
    intro n n0 hd hn
    refine Tot.step (fun k => impl_FoulsNeeded.l0.eq_2 _ _ _ _) ?_
    rw [show wrap64 (4 * n) = 4 * n from wrap_in (by omega) (by omega), show wrap64 (p + 4 * n) = p + 4 * n from wrap_in (by omega) (by omega)]
    exact Tot.neg (by omega) (Tot.pos (by omega) (Tot.ret ⟨by simp, by simp, fun e => by cases e⟩))
  | succ d ih =>
    intro n n0 hd hn
    refine Tot.step (fun k => impl_FoulsNeeded.l0.eq_2 _ _ _ _) ?_
    rw [show wrap64 (4 * n) = 4 * n from wrap_in (by omega) (by omega), show wrap64 (p + 4 * n) = p + 4 * n from wrap_in (by omega) (by omega), show wrap64 (n + 1) = n + 1 from wrap_in (by omega) (by omega)]
    by_cases g : p + 4 * n ≤ a
    · exact Tot.pos g (ih (n + 1) (by omega) (by omega) (by omega))
    · exact Tot.neg g (Tot.neg (by omega) (Tot.ret ⟨by simp only; omega, by simp only; omega, fun _ => ⟨by simp only; omega, by simp only; omega⟩⟩))
theorem wins_t (r : Int) (c : Bool) (l a : Int) : ∃ vc vf, Tot (fun k => impl_CanStillWin.f k r c l a) (Eq vc) ∧ Tot (fun k => spec_CanStillWin.f k r c l a) (Eq vc) ∧ Tot (fun k => impl_FoulsNeeded.f k r c l a) (Eq vf) ∧ Tot (fun k => spec_FoulsNeeded.f k r c l a) (Eq vf) ∧
    (vf.2 = true → vc.2 = true ∧ ∃ p, Tot (fun k => impl_PointsLeft.f k r c l) (Eq (p, true)) ∧ vc.1 = decide (p > a) ∧ 0 ≤ p ∧ p ≤ 147 ∧ 0 ≤ a ∧ a ≤ 400 ∧ 0 ≤ vf.1 ∧ vf.1 ≤ 101 ∧ a < p + 4 * vf.1 ∧ (vf.1 = 0 ∨ p + 4 * (vf.1 - 1) ≤ a)) := by
  obtain ⟨vc, c1, c2⟩ := CW.both r c l a
  obtain ⟨vf, f1, f2⟩ := FN.both r c l a
  refine ⟨vc, vf, c2, c1, f2, f1, fun hv => ?_⟩
  by_cases h : goodB r c l = true
  · obtain ⟨s, s', p, p0, p1, A, B, C⟩ := pts h
    by_cases g : 0 ≤ a ∧ a ≤ 400
    · have hF : Tot (fun k => impl_FoulsNeeded.f k r c l a) (fun v => 0 ≤ v.1 ∧ v.1 ≤ 101 ∧ (v.2 = true → a < p + 4 * v.1 ∧ (v.1 = 0 ∨ p + 4 * (v.1 - 1) ≤ a))) := by
        unfold impl_FoulsNeeded.f
        refine Tot.bind (pointsLeft_t C) ?_
        rintro _ rfl
        refine Tot.pos rfl ?_
        simp only [within_eq]
        refine Tot.some_bind (Tot.step (fun k => impl_FoulsNeeded.j0.eq_2 _ _ _ _) ?_)
        exact Tot.neg (by simpa using g) (fouls_fact p0 p1 g.1 g.2 101 0 (by omega) (by omega) (.inl rfl))
      have hC : Tot (fun k => impl_CanStillWin.f k r c l a) (Eq (decide (p > a), true)) := by
        unfold impl_CanStillWin.f
        refine Tot.bind (pointsLeft_t C) ?_
        rintro _ rfl
        refine Tot.pos rfl ?_
        simp only [within_eq]
        exact Tot.some_bind (Tot.pos (by simpa using g) (Tot.ret rfl))
      have e := hC.at c2.ev
      obtain ⟨q0, q1, q2⟩ := hF.at f2.ev
      obtain ⟨q3, q4⟩ := q2 hv
      exact ⟨by rw [← e], p, pointsLeft_t C, by rw [← e], p0, p1, g.1, g.2, q0, q1, q3, q4⟩
    · have hF : Tot (fun k => impl_FoulsNeeded.f k r c l a) (Eq (0, false)) := by
        unfold impl_FoulsNeeded.f
        refine Tot.bind (pointsLeft_t C) ?_
        rintro _ rfl
        refine Tot.pos rfl ?_
        simp only [within_eq]
        refine Tot.some_bind (Tot.step (fun k => impl_FoulsNeeded.j0.eq_2 _ _ _ _) ?_)
        exact Tot.pos (by simp only [g, decide_false]; rfl) (Tot.ret rfl)
      have e := hF.at f2.ev
      rw [← e] at hv
      cases hv
  · have hF : Tot (fun k => impl_FoulsNeeded.f k r c l a) (Eq (0, false)) := by
      unfold impl_FoulsNeeded.f
      refine Tot.bind (pointsLeft_no h) ?_
      rintro _ rfl
      refine Tot.neg (by simp) (Tot.step (fun k => impl_FoulsNeeded.j0.eq_2 _ _ _ _) ?_)
      exact Tot.pos rfl (Tot.ret rfl)
    have e := hF.at f2.ev
    rw [← e] at hv
    cases hv
end Go.Proofs.YtcmlmjgoidpabaaDoor.Pure

