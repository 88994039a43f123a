/- Breaks, ball by ball. -/
import Derived.Test.YtcmlmjgoidpabaaGreatDoorZFpFrame
set_option linter.unusedVariables false
set_option linter.unusedSimpArgs false
namespace Go.Proofs.YtcmlmjgoidpabaaGreatDoor.Pure
open Go.RowKit Go.Proofs.YtcmlmjgoidpabaaGreatDoor.MFnFramesPotted Go.Proofs.YtcmlmjgoidpabaaGreatDoorW.PrintWords Go.Proofs.YtcmlmjgoidpabaaGreatDoorW.PrintLast
def Run (a : ByteArray) : Nat → Nat → Int → Bool → Int → (Int × Bool × Int) → Prop
  | 0, _, r, c, l, t => (r, c, l) = t
  | d + 1, i, r, c, l, t => among (bt a (i : Int)) (nextL r c l).data.toList = true ∧ Run a d (i + 1) (potS r c l).1 (potS r c l).2.1 (potS r c l).2.2 t
theorem next_is {r : Int} {c : Bool} {l : Int} (g : goodB r c l = true) : impl_Frame_next.f r c l = some (nextL r c l) := by
  obtain ⟨s, _, _, h, _⟩ := next g
  unfold nextL
  rw [h]
theorem among_mem {b : Int} {L : List UInt8} (h : among b L = true) : ∃ x ∈ L, (x.toNat : Int) = b := by
  unfold among at h
  obtain ⟨x, hx, he⟩ := List.any_eq_true.1 h
  exact ⟨x, hx, of_decide_eq_true he⟩
theorem ball_of {r : Int} {c : Bool} {l b : Int} (g : goodB r c l = true) (h : among b (nextL r c l).data.toList = true) :
    49 ≤ b ∧ b ≤ 55 ∧ goodB (potS r c l).1 (potS r c l).2.1 (potS r c l).2.2 = true ∧ cntL (potS r c l).1 (potS r c l).2.1 (potS r c l).2.2 = cntL r c l - 1 ∧ b - 48 + highL (potS r c l).1 (potS r c l).2.1 (potS r c l).2.2 ≤ highL r c l := by
  obtain ⟨x, hx, rfl⟩ := among_mem h
  obtain ⟨h1, h2, h3, h4, h5⟩ := (holdsF g).ball x hx
  exact ⟨by omega, by omega, h3, h4, h5⟩
theorem contains_one (a : ByteArray) (i : Nat) (h : i < a.size) (s : ByteArray) : strings_Contains.f s (a.extract i (i + 1)) = some (among (bt a (i : Int)) s.data.toList) := by
  have hb := bt_range a (i : Int)
  obtain ⟨e1, e2⟩ := extract_one a i h
  unfold strings_Contains.f
  rw [if_pos e1, contains_among _ (by rw [e2]; exact hb.1) (by rw [e2]; exact hb.2), e2]
theorem behind_run (a : ByteArray) (ha : a.size ≤ 36) : ∀ (d i : Nat) (r : Int) (c : Bool) (l : Int), i + d = a.size → goodB r c l = true →
    Tot (fun k => impl_Frame_behind.l0 k a (a.size : Int) (i : Int) r c l) (fun v => v.2.2.2 = true → Run a d i r c l (v.1, v.2.1, v.2.2.1)) := by
  intro d
  induction d with
  | zero =>
    intro i r c l hd g
    exact Tot.step (fun k => impl_Frame_behind.l0.eq_2 _ _ _ _ _ _ _) (Tot.neg (by omega) (Tot.ret (fun _ => rfl)))
  | succ d ih =>
    intro i r c l hd g
    refine Tot.step (fun k => impl_Frame_behind.l0.eq_2 _ _ _ _ _ _ _) (Tot.pos (by omega) ?_)
    simp only [next_is g, pot_eq]
    rw [wrap_nat i (by omega)]
    simp only [Int.toNat_natCast]
    refine Tot.some_bind (Tot.pos (by omega) (Tot.pos (by omega) (Tot.pos (by omega) ?_)))
    rw [contains_one a i (by omega)]
    refine Tot.some_bind ?_
    refine Tot.ite (fun h => Tot.some_bind ?_) (fun _ => Tot.ret (fun e => by cases e))
    exact (ih (i + 1) _ _ _ (by omega) (ball_of g h).2.2.1).mono (fun v hv e => ⟨h, hv e⟩)
theorem run_good (a : ByteArray) : ∀ (d i : Nat) (r : Int) (c : Bool) (l : Int) (t : Int × Bool × Int), goodB r c l = true → Run a d i r c l t → goodB t.1 t.2.1 t.2.2 = true ∧ cntL t.1 t.2.1 t.2.2 = cntL r c l - d := by
  intro d
  induction d with
  | zero =>
    intro i r c l t g h
    have h : (r, c, l) = t := h
    subst h
    exact ⟨g, by simp⟩
  | succ d ih =>
    intro i r c l t g h
    obtain ⟨h1, h2⟩ := h
    obtain ⟨_, _, h3, h4, _⟩ := ball_of g h1
    obtain ⟨k1, k2⟩ := ih (i + 1) _ _ _ t h3 h2
    exact ⟨k1, by omega⟩
theorem run_bytes (a : ByteArray) : ∀ (d i : Nat) (r : Int) (c : Bool) (l : Int) (t : Int × Bool × Int), goodB r c l = true → Run a d i r c l t → ∀ j : Nat, i ≤ j → j < i + d → 49 ≤ bt a (j : Int) ∧ bt a (j : Int) ≤ 55 := by
  intro d
  induction d with
  | zero => intro i r c l t _ _ j h1 h2; omega
  | succ d ih =>
    intro i r c l t g h j h1 h2
    obtain ⟨k1, k2⟩ := h
    obtain ⟨b1, b2, b3, _⟩ := ball_of g k1
    by_cases e : j = i
    · subst e; exact ⟨b1, b2⟩
    · exact ih (i + 1) _ _ _ t b3 k2 j (by omega) (by omega)
def ptsL (a : ByteArray) : Nat → Nat → Int
  | 0, _ => 0
  | d + 1, i => bt a (i : Int) - 48 + ptsL a d (i + 1)
theorem run_points (a : ByteArray) : ∀ (d i : Nat) (r : Int) (c : Bool) (l : Int) (t : Int × Bool × Int), goodB r c l = true → Run a d i r c l t → 0 ≤ ptsL a d i ∧ ptsL a d i + highL t.1 t.2.1 t.2.2 ≤ highL r c l := by
  intro d
  induction d with
  | zero =>
    intro i r c l t _ h
    have h : (r, c, l) = t := h
    subst h
    exact ⟨Int.le_refl _, by simp [ptsL]⟩
  | succ d ih =>
    intro i r c l t g h
    obtain ⟨k1, k2⟩ := h
    obtain ⟨b1, b2, b3, _, b5⟩ := ball_of g k1
    obtain ⟨q1, q2⟩ := ih (i + 1) _ _ _ t b3 k2
    unfold ptsL
    exact ⟨by omega, by omega⟩
theorem points_loop (a : ByteArray) : ∀ (d i : Nat) (x : Int), i + d = a.size → a.size ≤ 36 → (∀ j : Nat, i ≤ j → j < a.size → 49 ≤ bt a (j : Int) ∧ bt a (j : Int) ≤ 55) → 0 ≤ x → x ≤ 7 * i →
    Tot (fun k => impl_PointsOf.l0 k a x (a.size : Int) (i : Int)) (Eq (x + ptsL a d i, true)) := by
  intro d
  induction d with
  | zero =>
    intro i x h _ _ _ _
    exact Tot.step (fun k => impl_PointsOf.l0.eq_2 _ _ _ _ _) (Tot.neg (by omega) (Tot.ret (by simp [ptsL])))
  | succ d ih =>
    intro i x h hs hb h0 h1
    have := hb i (by omega) (by omega)
    refine Tot.step (fun k => impl_PointsOf.l0.eq_2 _ _ _ _ _) (Tot.pos (by omega) (Tot.pos (by omega) (Tot.pos (by omega) ?_)))
    rw [wrap_nat i (by omega), Int.emod_eq_of_lt (by omega) (by omega), wrap_in (by omega) (by omega)]
    refine (ih (i + 1) _ (by omega) hs (fun j q1 q2 => hb j (by omega) q2) (by omega) (by omega)).mono ?_
    rintro _ rfl
    rw [show ptsL a (d + 1) i = bt a (i : Int) - 48 + ptsL a d (i + 1) from rfl]
    rw [Prod.mk.injEq]
    exact ⟨by omega, rfl⟩
theorem potBall_t {r : Int} {c : Bool} {l : Int} (a : ByteArray) (i : Nat) (hi : i < a.size) (g : goodB r c l = true) (h : among (bt a (i : Int)) (nextL r c l).data.toList = true) :
    Tot (fun k => impl_PotBall.f k r c l (a.extract i (i + 1))) (Eq ((potS r c l).1, (potS r c l).2.1, (potS r c l).2.2, true)) := by
  obtain ⟨e1, e2⟩ := extract_one a i hi
  unfold impl_PotBall.f
  refine Tot.bind (isFrame_t r c l) ?_
  rintro _ rfl
  refine Tot.pos g (Tot.pos (by rw [e1]; rfl) ?_)
  simp only [next_is g, pot_eq]
  refine Tot.some_bind ?_
  rw [contains_one a i hi, h]
  exact Tot.some_bind (Tot.pos rfl (Tot.some_bind (Tot.ret rfl)))
theorem itoa_in {b : Int} (h0 : 0 ≤ b) (h1 : b < 100) : ∃ t, strconv_Itoa_85.f (wrap64 b) = some t := by
  rw [wrap_in (by omega) (by omega)]
  unfold strconv_Itoa_85.f
  rw [if_pos h0, if_pos h1]
  exact ⟨_, rfl⟩
end Go.Proofs.YtcmlmjgoidpabaaGreatDoor.Pure

