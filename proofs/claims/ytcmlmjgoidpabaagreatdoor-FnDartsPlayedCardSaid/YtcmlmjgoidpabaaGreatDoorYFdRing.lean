/- The ring of numbers: both tell alike, for the numbers that are drawn. -/
import Derived.Test.YtcmlmjgoidpabaaGreatDoorYFdBase
set_option linter.unusedVariables false
set_option linter.unusedSimpArgs false
namespace Go.Proofs.YtcmlmjgoidpabaaGreatDoor.Pure
open Go.RowKit Go.Proofs.YtcmlmjgoidpabaaGreatDoor.MFnDartsPlayed Go.Proofs.YtcmlmjgoidpabaaGreatDoorW.PrintWords Go.Proofs.YtcmlmjgoidpabaaGreatDoorW.PrintLast
theorem ev_of {α : Type} {g : Nat → Option α} {r : α} (m : ∀ k, LeO (g k) (g (k + 1))) {n : Nat} (h : g n = some r) : Tot g (Eq r) := Tot.of (Ev.of m h)
def besB (n : Int) : Bool := match impl_BesideOf.f 30 n with
  | none => false
  | some v => decide (spec_BesideOf.f 30 n = some v) && (!v.2.2 || (match impl_BesideOf.f 30 v.2.1 with
    | none => false
    | some u => decide (u.2.2 = true ∧ u.1 = n ∧ u.2.1 ≠ n)) && decide (impl_StepsAround.f 30 v.1 v.2.1 = some (2, true)))
theorem bes_all : ∀ i < 23, besB ((i : Nat) - 1 : Int) = true := by decide +kernel
theorem beside_both (n : Int) (h0 : -1 ≤ n) (h1 : n ≤ 21) : ∃ v, Tot (fun k => impl_BesideOf.f k n) (Eq v) ∧ Tot (fun k => spec_BesideOf.f k n) (Eq v) ∧
    (v.2.2 = true → ∃ q, q ≠ n ∧ Tot (fun k => impl_BesideOf.f k v.2.1) (Eq (n, q, true)) ∧ Tot (fun k => impl_StepsAround.f k v.1 v.2.1) (Eq (2, true))) := by
  have h := bes_all (n + 1).toNat (by omega)
  rw [show (((n + 1).toNat : Nat) : Int) - 1 = n by omega] at h
  unfold besB at h
  split at h
  · cases h
  · rename_i v hv
    rw [Bool.and_eq_true, decide_eq_true_eq] at h
    refine ⟨v, ev_of (impl_BesideOf.mono n) hv, ev_of (spec_BesideOf.mono n) h.1, fun e => ?_⟩
    have h2 := h.2
    rw [e, Bool.not_true, Bool.false_or] at h2
    split at h2
    · cases h2
    · rename_i u hu
      rw [Bool.and_eq_true, decide_eq_true_eq, decide_eq_true_eq] at h2
      obtain ⟨⟨a, b, c⟩, d⟩ := h2
      refine ⟨u.2.1, c, ev_of (impl_BesideOf.mono v.2.1) (hu.trans ?_), ev_of (impl_StepsAround.mono v.1 v.2.1) d⟩
      rw [← a, ← b]
def stepB (a b : Int) : Bool := match impl_StepsAround.f 30 a b with
  | none => false
  | some v => decide (spec_StepsAround.f 30 a b = some v) && (!v.2 || decide (impl_StepsAround.f 30 b a = some v ∧ 0 ≤ v.1 ∧ v.1 ≤ 10 ∧ ((v.1 == 0) = (a == b))))
theorem step_all : ∀ i < 22, ∀ j < 22, stepB ((i : Nat) : Int) ((j : Nat) : Int) = true := by decide +kernel
theorem steps_both (a b : Int) (a0 : 0 ≤ a) (a1 : a ≤ 21) (b0 : 0 ≤ b) (b1 : b ≤ 21) : ∃ v, Tot (fun k => impl_StepsAround.f k a b) (Eq v) ∧ Tot (fun k => spec_StepsAround.f k a b) (Eq v) ∧
    (v.2 = true → Tot (fun k => impl_StepsAround.f k b a) (Eq v) ∧ 0 ≤ v.1 ∧ v.1 ≤ 10 ∧ (v.1 == 0) = (a == b)) := by
  have h := step_all a.toNat (by omega) b.toNat (by omega)
  rw [show ((a.toNat : Nat) : Int) = a by omega, show ((b.toNat : Nat) : Int) = b by omega] at h
  unfold stepB at h
  split at h
  · cases h
  · rename_i v hv
    rw [Bool.and_eq_true, decide_eq_true_eq] at h
    refine ⟨v, ev_of (impl_StepsAround.mono a b) hv, ev_of (spec_StepsAround.mono a b) h.1, fun e => ?_⟩
    have h2 := h.2
    rw [e, Bool.not_true, Bool.false_or, decide_eq_true_eq] at h2
    exact ⟨ev_of (impl_StepsAround.mono b a) h2.1, h2.2⟩
def arcW : Nat → Int → Int → Option Int
  | 0, s, _ => some s
  | r + 1, s, x => (impl_BesideOf.f 30 x).bind fun v => if v.2.2 = true then arcW r (wrap64 (s + x)) v.2.1 else none
def arcB (n : Int) : Bool := match impl_BestArc.f 600 n with
  | none => false
  | some v => decide (spec_BestArc.f 600 n = some v) && (!v.2.2 || (decide (0 ≤ n) && decide (arcW n.toNat 0 v.1 = some v.2.1) && (!decide (n = 20) || decide (v.2.1 = 210 ∧ v.1 = 20))))
theorem arc_all : ∀ i < 23, arcB ((i : Nat) - 1 : Int) = true := by decide +kernel
theorem arc_loop (n m x : Int) (h0 : 0 ≤ n) (h1 : n ≤ 21) (hm : n = 20 → m = 210 ∧ x = 20) : ∀ (d : Nat) (i s y : Int), 0 ≤ i → i + d = n → arcW d s y = some m → Tot (fun k => laws_FnDartsPlayed.l1 k n x m s y i) (Eq true) := by
  intro d
  induction d with
  | zero =>
    intro i s y i0 hi hw
    obtain rfl : s = m := Option.some.inj hw
    refine Tot.step (fun k => laws_FnDartsPlayed.l1.eq_2 _ _ _ _ _ _ _) (Tot.neg (by omega) (Tot.pos rfl (Tot.ite (fun c => Tot.pos (hm c).1 (Tot.pos (hm c).2 (Tot.ret rfl))) (fun _ => Tot.ret rfl))))
  | succ d ih =>
    intro i s y i0 hi hw
    unfold arcW at hw
    obtain ⟨v, hv, hw⟩ := Option.bind_eq_some_iff.mp hw
    refine Tot.step (fun k => laws_FnDartsPlayed.l1.eq_2 _ _ _ _ _ _ _) (Tot.pos (by omega) (Tot.bind (ev_of (impl_BesideOf.mono y) hv) ?_))
    rintro _ rfl
    by_cases e : v.2.2 = true
    · rw [if_pos e] at hw
      refine Tot.pos e ?_
      rw [wrap_in (x := i + 1) (by omega) (by omega)]
      exact ih (i + 1) _ _ (by omega) (by omega) hw
    · rw [if_neg e] at hw
      cases hw
theorem arc_both (n : Int) (h0 : -1 ≤ n) (h1 : n ≤ 21) : ∃ v, Tot (fun k => impl_BestArc.f k n) (Eq v) ∧ Tot (fun k => spec_BestArc.f k n) (Eq v) ∧
    (v.2.2 = true → Tot (fun k => laws_FnDartsPlayed.l1 k n v.1 v.2.1 0 v.1 0) (Eq true)) := by
  have h := arc_all (n + 1).toNat (by omega)
  rw [show (((n + 1).toNat : Nat) : Int) - 1 = n by omega] at h
  unfold arcB at h
  split at h
  · cases h
  · rename_i v hv
    rw [Bool.and_eq_true, decide_eq_true_eq] at h
    refine ⟨v, ev_of (impl_BestArc.mono n) hv, ev_of (spec_BestArc.mono n) h.1, fun e => ?_⟩
    have h2 := h.2
    rw [e, Bool.not_true, Bool.false_or, Bool.and_eq_true, Bool.and_eq_true, decide_eq_true_eq, decide_eq_true_eq] at h2
    obtain ⟨⟨n0, hw⟩, h3⟩ := h2
    refine arc_loop n v.2.1 v.1 n0 h1 (fun c => ?_) n.toNat 0 0 v.1 (by omega) (by omega) hw
    rw [c] at h3
    simpa using h3
end Go.Proofs.YtcmlmjgoidpabaaGreatDoor.Pure

