/- What both tell alike on frames. -/
import Derived.Test.YtcmlmjgoidpabaaDoorZFcBase
set_option linter.unusedVariables false
set_option linter.unusedSimpArgs false
namespace Go.Proofs.YtcmlmjgoidpabaaDoor.Pure
open Go.RowKit Go.Proofs.YtcmlmjgoidpabaaDoor.MFnFramesCounted Go.Proofs.YtcmlmjgoidpabaaDoorW.PrintWords Go.Proofs.YtcmlmjgoidpabaaDoorW.PrintLast
namespace CP
theorem bothV (r : Int) (c : Bool) (l p : Int) : Tot (fun k => spec_CountByPoints.f k r c l p) (Eq (Brk.byP (goodB r c l) (r, c, l) p)) ∧ Tot (fun k => impl_CountByPoints.f k r c l p) (Eq (Brk.byP (goodB r c l) (r, c, l) p)) := by
  refine ⟨?_, ?_⟩
  · unfold spec_CountByPoints.f
    rw [frGood_eq]
    refine Tot.some_bind ?_
    by_cases h : goodB r c l = true
    · rw [l1In_eq]
      refine Tot.pos h (Tot.some_bind (Tot.step (fun k => spec_CountByPoints.j0.eq_2 _ _ _ _ _ _) ?_))
      by_cases hp : 0 ≤ p ∧ p ≤ 147
      · refine Tot.neg (by simp; omega) ?_
        obtain ⟨n, rfl⟩ : ∃ n : Nat, p = (n : Int) := ⟨p.toNat, by omega⟩
        have e : Brk.byP (goodB r c l) (r, c, l) (n : Int) = if Brk.cnt n (r, c, l) (n : Int) > 1000000000000000 then (0, false) else (Brk.cnt n (r, c, l) (n : Int), true) := by
          unfold Brk.byP
          rw [if_pos ⟨h, hp⟩, Int.toNat_natCast]
        rw [e]
        refine Tot.bind (ways_at n (by omega) r c l h) ?_
        rintro t ⟨ht, hv⟩
        refine Tot.pos (by omega) (Tot.pos (by omega) ?_)
        rw [hv]
        refine Tot.ite (fun hx => Tot.ret ?_) (fun hx => Tot.ret ?_)
        · rw [if_pos hx]
        · rw [if_neg hx]
      · refine Tot.pos (by simp; omega) (Tot.ret ?_)
        unfold Brk.byP
        rw [if_neg (fun e => hp e.2)]
    · refine Tot.neg h (Tot.step (fun k => spec_CountByPoints.j0.eq_2 _ _ _ _ _ _) (Tot.pos rfl (Tot.ret ?_)))
      unfold Brk.byP
      rw [if_neg (fun e => h e.1)]
  · unfold impl_CountByPoints.f
    refine Tot.bind (isFrame_t r c l) ?_
    rintro _ rfl
    have e : Brk.byO (r, c, l) p (goodB r c l) = some (Brk.byP (goodB r c l) (r, c, l) p) := by
      unfold Brk.byO
      rw [if_neg]
      rintro ⟨h1, h2⟩
      have := good_ok h1
      unfold Brk.okB at h2
      rw [decide_eq_false_iff_not] at h2
      exact h2 this
    rw [e]
    exact Tot.ret rfl
end CP
namespace FP
theorem enc_one {b : Int} (h : 1 ≤ b ∧ b ≤ 7) : Utf8.encode (b + 48) = (⟨#[(b + 48).toNat.toUInt8]⟩ : ByteArray) := by
  obtain ⟨h1, h2⟩ := h
  have : b = 1 ∨ b = 2 ∨ b = 3 ∨ b = 4 ∨ b = 5 ∨ b = 6 ∨ b = 7 := by omega
  rcases this with rfl | rfl | rfl | rfl | rfl | rfl | rfl <;> decide +kernel
theorem cut_one (f : Brk.Fr) (i : Nat) (hi : i < (Brk.ballsF f).length) : (Brk.nextS f).extract i (i + 1) = (⟨#[((Brk.ballsF f)[i] + 48).toNat.toUInt8]⟩ : ByteArray) := by
  apply ByteArray.ext
  rw [ByteArray.data_extract]
  apply Array.ext'
  simp only [Array.toList_extract, List.extract_eq_take_drop, Nat.add_sub_cancel_left]
  have hl : i < ((Brk.ballsF f).map fun b => (b + 48).toNat.toUInt8).length := by simpa using hi
  show List.take 1 (List.drop i ((Brk.ballsF f).map fun b => (b + 48).toNat.toUInt8)) = _
  rw [List.drop_eq_getElem_cons hl]
  simp
theorem inner_t {P : ByteArray × Bool → Prop} {r : Int} {c : Bool} {l : Int} (hg : goodB r c l = true) (q : Int) (hq : 0 < q) (hq1 : q ≤ 147) (out : ByteArray) (ho : out.size ≤ 1000) (b : Int)
    (H : Tot (fun k => spec_FirstWithPoints.l0 k (q - b) (out ++ Utf8.encode (b + 48)) (Brk.potF (r, c, l)).1 (Brk.potF (r, c, l)).2.1 (Brk.potF (r, c, l)).2.2) P) :
    ∀ (d i : Nat), i + d = (Brk.ballsF (r, c, l)).length → ((Brk.ballsF (r, c, l)).drop i).find? (Brk.posB (r, c, l) q) = some b → Tot (fun k => spec_FirstWithPoints.l1 k q out (Brk.nextS (r, c, l)) (i : Int) r c l) P := by
  have hok := good_ok hg
  have hz := Brk.nextS_size (r, c, l)
  have hl6 := Brk.balls_len (r, c, l)
  intro d
  induction d with
  | zero =>
    intro i hi hf
    rw [List.drop_of_length_le (by omega)] at hf
    cases hf
  | succ d ih =>
    intro i hi hf
    have hil : i < (Brk.ballsF (r, c, l)).length := by omega
    have hbb := Brk.balls_in hok _ (List.getElem_mem hil)
    have hne := List.ne_nil_of_mem (List.getElem_mem hil)
    obtain ⟨s, es, _, _, _, _, _, hgp⟩ := nx hg
    have hg' := hgp hne
    rw [List.drop_eq_getElem_cons hil, List.find?_cons] at hf
    refine Tot.step (fun k => spec_FirstWithPoints.l1.eq_2 _ _ _ _ _ _ _ _) ?_
    refine Tot.pos (by omega) (Tot.pos (by omega) ?_)
    have hpt := frPot_at hg _ (List.getElem_mem hil)
    have hcut := cut_one (r, c, l) i hil
    rw [bt_next hok i hil, wrap_nat i (by omega)]
    have nxt := ih (i + 1) (by omega)
    generalize (Brk.ballsF (r, c, l))[i] = x at *
    rw [show (x + 48 - 48) % 256 = x by omega, show wrap64 (q - x) = q - x from wrap_in (by omega) (by omega)]
    refine Tot.bind hpt ?_
    rintro _ rfl
    by_cases hx : q - x ≥ 0
    · refine Tot.pos hx ?_
      obtain ⟨m, hm⟩ : ∃ m : Nat, q - x = (m : Int) := ⟨(q - x).toNat, by omega⟩
      have hpx : Brk.posB (r, c, l) q x = decide (0 < Brk.cnt m (Brk.potF (r, c, l)) (m : Int)) := by
        unfold Brk.posB
        rw [hm, Int.toNat_natCast]
      rw [hpx] at hf
      have hway := ways_at m (by omega) _ _ _ hg'
      rw [← hm] at hway
      refine Tot.bind hway ?_
      rintro t ⟨ht, hv⟩
      refine Tot.pos hx (Tot.pos (by omega) ?_)
      rw [hv]
      by_cases hp : 0 < Brk.cnt m (Brk.potF (r, c, l)) (m : Int)
      · rw [decide_eq_true hp] at hf
        have hxb : x = b := Option.some.inj hf
        subst hxb
        refine Tot.pos (by rw [hm]; exact hp) (Tot.pos (by omega) (Tot.pos (by omega) ?_))
        rw [Int.toNat_natCast, Int.toNat_natCast, hcut, ← enc_one hbb]
        refine Tot.pos (by rw [Brk.enc_size hbb]; omega) ?_
        exact H
      · rw [decide_eq_false hp] at hf
        refine Tot.neg (by rw [hm]; exact hp) ?_
        exact nxt hf
    · refine Tot.neg hx ?_
      have hpx : Brk.posB (r, c, l) q x = false := by
        unfold Brk.posB
        rw [Brk.cnt_neg (by omega)]
        rfl
      rw [hpx] at hf
      exact nxt hf
theorem outer_t : ∀ (n : Nat) (q : Int) (out : ByteArray) (r : Int) (c : Bool) (l : Int), q.toNat ≤ n → 0 ≤ q → q ≤ 147 → out.size + q.toNat ≤ 147 → goodB r c l = true → Brk.cnt q.toNat (r, c, l) q ≠ 0 →
    Tot (fun k => spec_FirstWithPoints.l0 k q out r c l) (Eq (Brk.firstS q.toNat (r, c, l) q out, true)) := by
  intro n
  induction n with
  | zero =>
    intro q out r c l hn h0 h1 hs hg hc
    obtain rfl : q = 0 := by omega
    refine Tot.step (fun k => spec_FirstWithPoints.l0.eq_2 _ _ _ _ _ _) ?_
    exact Tot.neg (by omega) (Tot.ret rfl)
  | succ n ih =>
    intro q out r c l hn h0 h1 hs hg hc
    by_cases hq : 0 < q
    · obtain ⟨b, hfind, hmem, hpos⟩ := Brk.has_ball (good_ok hg) hq hc
      have hbb := Brk.balls_in (good_ok hg) b hmem
      obtain ⟨s, es, hnx, _, _, _, _, hgp⟩ := nx hg
      have hg' := hgp (List.ne_nil_of_mem hmem)
      have hqb : 0 ≤ q - b := by
        by_cases h : q - b < 0
        · rw [Brk.cnt_neg h] at hpos; omega
        · omega
      refine Tot.step (fun k => spec_FirstWithPoints.l0.eq_2 _ _ _ _ _ _) ?_
      refine Tot.pos hq (Tot.bind hnx ?_)
      rintro _ rfl
      rw [es, Brk.firstS_step out (good_ok hg) hq hfind]
      refine inner_t hg q hq h1 out (by omega) b ?_ (Brk.ballsF (r, c, l)).length 0 (by omega) hfind
      exact ih (q - b) _ _ _ _ (by omega) hqb (by omega) (by rw [ByteArray.size_append, Brk.enc_size hbb]; omega) hg' (fun e => absurd (show Brk.cnt (q - b).toNat (Brk.potF (r, c, l)) (q - b) = 0 from e) (by omega))
    · obtain rfl : q = 0 := by omega
      refine Tot.step (fun k => spec_FirstWithPoints.l0.eq_2 _ _ _ _ _ _) ?_
      exact Tot.neg (by omega) (Tot.ret rfl)
theorem bothV (r : Int) (c : Bool) (l p : Int) : Tot (fun k => spec_FirstWithPoints.f k r c l p) (Eq (Brk.firstP (goodB r c l) (r, c, l) p)) ∧ Tot (fun k => impl_FirstWithPoints.f k r c l p) (Eq (Brk.firstP (goodB r c l) (r, c, l) p)) := by
  refine ⟨?_, ?_⟩
  · unfold spec_FirstWithPoints.f
    rw [frGood_eq]
    refine Tot.some_bind ?_
    by_cases h : goodB r c l = true
    · rw [l1In_eq]
      refine Tot.pos h (Tot.some_bind ?_)
      by_cases hp : 0 ≤ p ∧ p ≤ 147
      · refine Tot.pos (by simpa using hp) ?_
        obtain ⟨n, rfl⟩ : ∃ n : Nat, p = (n : Int) := ⟨p.toNat, by omega⟩
        refine Tot.bind (ways_at n (by omega) r c l h) ?_
        rintro t ⟨ht, hv⟩
        refine Tot.pos (by omega) (Tot.pos (by omega) (Tot.step (fun k => spec_FirstWithPoints.j0.eq_2 _ _ _ _ _ _) ?_))
        rw [hv]
        by_cases hz : Brk.cnt n (r, c, l) (n : Int) = 0
        · refine Tot.pos (by rw [hz]; rfl) (Tot.ret ?_)
          unfold Brk.firstP
          rw [if_neg]
          rintro ⟨_, _, h3⟩
          rw [Int.toNat_natCast] at h3
          exact h3 hz
        · refine Tot.neg (by simpa using hz) ?_
          have e : Brk.firstP (goodB r c l) (r, c, l) (n : Int) = (Brk.firstS (n : Int).toNat (r, c, l) (n : Int) ⟨#[]⟩, true) := if_pos ⟨h, hp, by rw [Int.toNat_natCast]; exact hz⟩
          rw [e]
          exact outer_t n (n : Int) ⟨#[]⟩ r c l (by omega) (by omega) (by omega) (by have e0 : (⟨#[]⟩ : ByteArray).size = 0 := rfl; omega) h (by rw [Int.toNat_natCast]; exact hz)
      · refine Tot.neg (by simpa using hp) (Tot.step (fun k => spec_FirstWithPoints.j0.eq_2 _ _ _ _ _ _) (Tot.pos rfl (Tot.ret ?_)))
        unfold Brk.firstP
        rw [if_neg (fun e => hp e.2.1)]
    · refine Tot.neg h (Tot.step (fun k => spec_FirstWithPoints.j0.eq_2 _ _ _ _ _ _) (Tot.pos rfl (Tot.ret ?_)))
      unfold Brk.firstP
      rw [if_neg (fun e => h e.1)]
  · unfold impl_FirstWithPoints.f
    refine Tot.bind (isFrame_t r c l) ?_
    rintro _ rfl
    have e : Brk.firstO (r, c, l) p (goodB r c l) = some (Brk.firstP (goodB r c l) (r, c, l) p) := by
      unfold Brk.firstO
      rw [if_neg]
      rintro ⟨h1, h2⟩
      have := good_ok h1
      unfold Brk.okB at h2
      rw [decide_eq_false_iff_not] at h2
      exact h2 this
    rw [e]
    exact Tot.ret rfl
end FP
namespace CW
theorem both (r : Int) (c : Bool) (l a : Int) : ∃ v, Tot (fun k => spec_CanStillWin.f k r c l a) (Eq v) ∧ Tot (fun k => impl_CanStillWin.f k r c l a) (Eq v) := by
  by_cases h : goodB r c l = true
  · obtain ⟨s, s', p, p0, p1, A, B, C⟩ := pts h
    refine ⟨if 0 ≤ a ∧ a ≤ 400 then (decide (p > a), true) else (false, false), ?_, ?_⟩
    · unfold spec_CanStillWin.f
      rw [frBehind_eq, h, Bool.true_and]
      refine Tot.some_bind (Tot.ite (fun g => ?_) (fun g => Tot.ret (by rw [if_neg (by simpa using g)])))
      refine Tot.bind A ?_
      rintro _ rfl
      refine Tot.bind B ?_
      rintro _ rfl
      exact Tot.ret (by rw [if_pos (by simpa using g)])
    · unfold impl_CanStillWin.f
      refine Tot.bind (pointsLeft_t C) ?_
      rintro _ rfl
      refine Tot.pos rfl ?_
      simp only [within_eq]
      refine Tot.some_bind (Tot.ite (fun g => Tot.ret ?_) (fun g => Tot.ret ?_))
      · rw [if_pos (by simpa using g)]
      · rw [if_neg (by simpa using g)]
  · refine ⟨(false, false), ?_, ?_⟩
    · unfold spec_CanStillWin.f
      rw [frBehind_eq, Bool.eq_false_iff.2 h, Bool.false_and]
      exact Tot.some_bind (Tot.neg (by simp) (Tot.ret rfl))
    · unfold impl_CanStillWin.f
      refine Tot.bind (pointsLeft_no h) ?_
      rintro _ rfl
      exact Tot.neg (by simp) (Tot.ret rfl)
end CW
namespace FN
theorem fouls_two {r : Int} {c : Bool} {l a : Int} {s : ByteArray} {p : Int} (p0 : 0 ≤ p) (p1 : p ≤ 147) (a0 : 0 ≤ a) (a1 : a ≤ 400) (A : Tot (fun k => spec_frAll.f k r c l 55) (Eq s)) (B : Tot (fun k => spec_frPoints.f k s) (Eq p)) :
    ∀ (d : Nat) (n : Int), 0 ≤ n → n + d = 101 → Two (fun k => spec_FoulsNeeded.l0 k a n r c l) (fun k => impl_FoulsNeeded.l0 k a p n) Eq := by
  intro d
  induction d with
  | zero =>
    intro n n0 hd
    refine Two.lstep (fun k => spec_FoulsNeeded.l0.eq_2 _ _ _ _ _ _) (Two.rstep (fun k => impl_FoulsNeeded.l0.eq_2 _ _ _ _) ?_)
    refine Two.lbind A ?_
    rintro _ rfl
    refine Two.lbind B ?_
    rintro _ rfl
    rw [show wrap64 (4 * n) = 4 * n from wrap_in (by omega) (by omega), show wrap64 (p + 4 * n) = p + 4 * n from wrap_in (by omega) (by omega)]
    exact Two.lneg (by omega) (Two.rneg (by omega) (Two.lpos (by omega) (Two.rpos (by omega) (Two.ret rfl))))
  | succ d ih =>
    intro n n0 hd
    refine Two.lstep (fun k => spec_FoulsNeeded.l0.eq_2 _ _ _ _ _ _) (Two.rstep (fun k => impl_FoulsNeeded.l0.eq_2 _ _ _ _) ?_)
    refine Two.lbind A ?_
    rintro _ rfl
    refine Two.lbind B ?_
    rintro _ rfl
    rw [show wrap64 (4 * n) = 4 * n from wrap_in (by omega) (by omega), show wrap64 (p + 4 * n) = p + 4 * n from wrap_in (by omega) (by omega), show wrap64 (n + 1) = n + 1 from wrap_in (by omega) (by omega)]
    by_cases g : p + 4 * n ≤ a
    · exact Two.lpos g (Two.rpos g (ih (n + 1) (by omega) (by omega)))
    · exact Two.lneg g (Two.rneg g (Two.lneg (by omega) (Two.rneg (by omega) (Two.ret rfl))))
theorem both (r : Int) (c : Bool) (l a : Int) : ∃ v, Tot (fun k => spec_FoulsNeeded.f k r c l a) (Eq v) ∧ Tot (fun k => impl_FoulsNeeded.f k r c l a) (Eq v) := by
  by_cases h : goodB r c l = true
  · obtain ⟨s, s', p, p0, p1, A, B, C⟩ := pts h
    by_cases g : 0 ≤ a ∧ a ≤ 400
    · obtain ⟨v, hv1, hv2⟩ := (fouls_two p0 p1 g.1 g.2 A B 101 0 (by omega) (by omega)).eqs
      refine ⟨v, ?_, ?_⟩
      · unfold spec_FoulsNeeded.f
        rw [frBehind_eq, h, Bool.true_and]
        exact Tot.some_bind (Tot.pos (by simpa using g) hv1)
      · unfold impl_FoulsNeeded.f
        refine Tot.bind (pointsLeft_t C) ?_
        rintro _ rfl
        refine Tot.pos rfl ?_
        simp only [within_eq]
        refine Tot.some_bind ?_
        refine Tot.step (fun k => impl_FoulsNeeded.j0.eq_2 _ _ _ _) ?_
        exact Tot.neg (by simpa using g) hv2
    · refine ⟨(0, false), ?_, ?_⟩
      · unfold spec_FoulsNeeded.f
        rw [frBehind_eq, h, Bool.true_and]
        exact Tot.some_bind (Tot.neg (by simpa using g) (Tot.ret rfl))
      · unfold impl_FoulsNeeded.f
        refine Tot.bind (pointsLeft_t C) ?_
        rintro _ rfl
        refine Tot.pos rfl ?_
        simp only [within_eq]
        refine Tot.some_bind ?_
        refine Tot.step (fun k => impl_FoulsNeeded.j0.eq_2 _ _ _ _) ?_
        exact Tot.pos (by simp only [g, decide_false]; rfl) (Tot.ret rfl)
  · refine ⟨(0, false), ?_, ?_⟩
    · unfold spec_FoulsNeeded.f
      rw [frBehind_eq, Bool.eq_false_iff.2 h, Bool.false_and]
      exact Tot.some_bind (Tot.neg (by simp) (Tot.ret rfl))
    · unfold impl_FoulsNeeded.f
      refine Tot.bind (pointsLeft_no h) ?_
      rintro _ rfl
      refine Tot.neg (by simp) ?_
      refine Tot.step (fun k => impl_FoulsNeeded.j0.eq_2 _ _ _ _) ?_
      exact Tot.pos rfl (Tot.ret rfl)
end FN
namespace PL
def inB (r : Int) (c : Bool) (l : Int) : Bool :=
  match impl_Frame_next.f r c l with
  | some t => t.data.toList.all fun b => decide (49 ≤ b.toNat ∧ b.toNat ≤ 55)
  | none => false
set_option maxRecDepth 100000 in
theorem in_all : ∀ r < 16, ∀ c : Bool, ∀ l < 9, goodB (r : Nat) c (l : Nat) = true → inB (r : Nat) c (l : Nat) = true := by decide +kernel
theorem in_balls {r : Int} {c : Bool} {l b : Int} {s : ByteArray} (h : goodB r c l = true) (hs : impl_Frame_next.f r c l = some s) (hb : among b s.data.toList = true) : 49 ≤ b ∧ b ≤ 55 := by
  obtain ⟨h1, h2, h3, h4, _⟩ := good_range h
  obtain ⟨n, rfl⟩ : ∃ n : Nat, r = (n : Int) := ⟨r.toNat, by omega⟩
  obtain ⟨m, rfl⟩ : ∃ m : Nat, l = (m : Int) := ⟨l.toNat, by omega⟩
  have hi := in_all n (by omega) c m (by omega) h
  unfold inB at hi
  rw [hs] at hi
  unfold among at hb
  obtain ⟨x, hx, he⟩ := List.any_eq_true.1 hb
  have := List.all_eq_true.1 hi x hx
  simp only [decide_eq_true_eq] at he this
  omega
def aftR2 (a : ByteArray) (i : Nat) (x y : Int × Bool × Int × Bool) : Prop := x.2.2.2 = y.2.2.2 ∧ (x.2.2.2 = true → x = y ∧ goodB x.1 x.2.1 x.2.2.1 = true ∧ ∀ j : Nat, i ≤ j → j < a.size → 49 ≤ bt a (j : Int) ∧ bt a (j : Int) ≤ 55)
theorem after2_loop (a : ByteArray) (ha : a.size ≤ 36) : ∀ (d i : Nat) (r : Int) (c : Bool) (l : Int), i + d = a.size → goodB r c l = true → Two (fun k => spec_frAfter.l0 k a (i : Int) r c l) (fun k => impl_Frame_behind.l0 k a (a.size : Int) (i : Int) r c l) (aftR2 a i) := by
  intro d
  induction d with
  | zero =>
    intro i r c l hd h
    refine Two.lstep (fun k => spec_frAfter.l0.eq_2 _ _ _ _ _ _) (Two.rstep (fun k => impl_Frame_behind.l0.eq_2 _ _ _ _ _ _ _) ?_)
    exact Two.lneg (by omega) (Two.rneg (by omega) (Two.ret ⟨rfl, fun _ => ⟨rfl, h, fun j h1 h2 => absurd h2 (by omega)⟩⟩))
  | succ d ih =>
    intro i r c l hd h
    obtain ⟨s, hs, hn, hi, hg⟩ := next h
    have hb := bt_range a (i : Int)
    obtain ⟨e1, e2⟩ := extract_one a i (by omega)
    refine Two.lstep (fun k => spec_frAfter.l0.eq_2 _ _ _ _ _ _) (Two.rstep (fun k => impl_Frame_behind.l0.eq_2 _ _ _ _ _ _ _) ?_)
    refine Two.lpos (by omega) (Two.lpos (by omega) (Two.lbind (frPot_t hs hn) ?_))
    rintro _ rfl
    rw [wrap_nat i (by omega)]
    refine Two.rpos (by omega) ?_
    have hcont : strings_Contains.f s (a.extract i (i + 1)) = some (among (bt a (i : Int)) s.data.toList) := by
      unfold strings_Contains.f
      rw [if_pos e1, contains_among _ (by rw [e2]; exact hb.1) (by rw [e2]; exact hb.2), e2]
    simp only [hi, pot_eq, Int.toNat_natCast]
    refine Two.rsome (Two.rpos (by omega) (Two.rpos (by omega) (Two.rpos (by omega) ?_)))
    rw [hcont]
    refine Two.rsome ?_
    by_cases g : among (bt a (i : Int)) s.data.toList = true
    · rw [if_pos g]
      refine Two.lpos rfl (Two.rpos g (Two.rsome ((ih (i + 1) _ _ _ (by omega) (hg _ g)).mono ?_)))
      rintro x y ⟨q1, q2⟩
      refine ⟨q1, fun e => ?_⟩
      obtain ⟨q3, q4, q5⟩ := q2 e
      refine ⟨q3, q4, fun j h1 h2 => ?_⟩
      by_cases hj : j = i
      · subst hj; exact in_balls h hi g
      · exact q5 j (by omega) h2
    · rw [if_neg g]
      exact Two.lneg (by simp) (Two.rneg g (Two.ret ⟨rfl, fun e => by cases e⟩))
theorem after2_t {r : Int} {c : Bool} {l : Int} (a : ByteArray) (h : goodB r c l = true) : Two (fun k => spec_frAfter.f k r c l a) (fun k => impl_Frame_behind.f k r c l a) (fun x y => aftR2 a 0 x y ∧ (x.2.2.2 = true → a.size ≤ 36)) := by
  unfold spec_frAfter.f impl_Frame_behind.f
  by_cases g : (a.size : Int) > 36
  · exact Two.lpos g (Two.rpos g (Two.ret ⟨⟨rfl, fun e => by cases e⟩, fun e => by cases e⟩))
  · exact Two.lneg g (Two.rneg g ((after2_loop a (by omega) a.size 0 r c l (by omega) h).mono (fun x y q => ⟨q, fun _ => by omega⟩)))
theorem points_two (a : ByteArray) (ha : a.size ≤ 36) : ∀ (d i : Nat) (x : Int), i + d = a.size → Two (fun k => spec_frPoints.l0 k a x (i : Int)) (fun k => impl_PointsOf.l0 k a x (a.size : Int) (i : Int)) (fun u v => v = (u, true)) := by
  intro d
  induction d with
  | zero =>
    intro i x h
    refine Two.lstep (fun k => spec_frPoints.l0.eq_2 _ _ _ _) (Two.rstep (fun k => impl_PointsOf.l0.eq_2 _ _ _ _ _) ?_)
    exact Two.lneg (by omega) (Two.rneg (by omega) (Two.ret rfl))
  | succ d ih =>
    intro i x h
    refine Two.lstep (fun k => spec_frPoints.l0.eq_2 _ _ _ _) (Two.rstep (fun k => impl_PointsOf.l0.eq_2 _ _ _ _ _) ?_)
    refine Two.lpos (by omega) (Two.lpos (by omega) (Two.rpos (by omega) (Two.rpos (by omega) (Two.rpos (by omega) ?_))))
    rw [wrap_nat i (by omega)]
    exact ih (i + 1) _ (by omega)
theorem dropWhile_nil {p : UInt8 → Bool} : ∀ (l : List UInt8), (∀ b ∈ l, p b = true) → l.dropWhile p = []
  | [], _ => rfl
  | x :: l, h => by
    rw [List.dropWhile_cons, if_pos (h x (List.mem_cons_self ..))]
    exact dropWhile_nil l (fun b hb => h b (List.mem_cons_of_mem _ hb))
theorem trim_none {l cs : List UInt8} (h : ∀ b ∈ l, cs.contains b = true) : Lib.trimS l cs = [] := by
  unfold Lib.trimS Lib.trimRightS Lib.trimLeftS
  have e : l.reverse.dropWhile (cs.contains ·) = [] := by
    refine dropWhile_nil _ (fun b hb => ?_)
    exact h b (by simpa using hb)
  rw [e]
  rfl
theorem bytes_of {a : ByteArray} (h : ∀ j : Nat, j < a.size → 49 ≤ bt a (j : Int) ∧ bt a (j : Int) ≤ 55) : ∀ b ∈ a.data.toList, ([49, 50, 51, 52, 53, 54, 55] : List UInt8).contains b = true := by
  intro b hb
  obtain ⟨j, hj, rfl⟩ := List.getElem_of_mem hb
  have hj' : j < a.size := by rw [size_list]; exact hj
  have hh := h j hj'
  have e : bt a (j : Int) = ((a.data.toList[j]).toNat : Int) := by
    unfold bt
    simp only [Int.toNat_natCast]
    rw [dif_pos hj']
    rfl
  rw [e] at hh
  generalize a.data.toList[j] = b at *
  have h1 : 49 ≤ b.toNat ∧ b.toNat ≤ 55 := by omega
  have : b = 49 ∨ b = 50 ∨ b = 51 ∨ b = 52 ∨ b = 53 ∨ b = 54 ∨ b = 55 := by
    have e2 : ∀ n : Nat, n < 256 → b.toNat = n → b = UInt8.ofNat n := fun n hn e => by
      apply UInt8.toNat_inj.1
      rw [UInt8.toNat_ofNat', e]
      omega
    have h3 : b.toNat = 49 ∨ b.toNat = 50 ∨ b.toNat = 51 ∨ b.toNat = 52 ∨ b.toNat = 53 ∨ b.toNat = 54 ∨ b.toNat = 55 := by omega
    rcases h3 with h | h | h | h | h | h | h <;> have := e2 _ (by omega) h <;> simp [this]
  rcases this with rfl | rfl | rfl | rfl | rfl | rfl | rfl <;> decide
theorem points_t (a : ByteArray) (ha : a.size ≤ 36) (h : ∀ j : Nat, j < a.size → 49 ≤ bt a (j : Int) ∧ bt a (j : Int) ≤ 55) : Two (fun k => spec_frPoints.f k a) (fun k => impl_PointsOf.f k a) (fun u v => v = (u, true)) := by
  unfold spec_frPoints.f impl_PointsOf.f
  refine Two.rneg (by omega) ?_
  have e : strings_Trim.f a (⟨#[49, 50, 51, 52, 53, 54, 55]⟩ : ByteArray) = some ⟨#[]⟩ := by
    unfold strings_Trim.f
    rw [if_pos ⟨by omega, by decide, by decide⟩]
    rw [show (⟨#[49, 50, 51, 52, 53, 54, 55]⟩ : ByteArray).data.toList = [49, 50, 51, 52, 53, 54, 55] from rfl, trim_none (bytes_of h)]
  rw [e]
  refine Two.rsome (Two.rstep (fun k => impl_PointsOf.j0.eq_2 _ _ _) ?_)
  refine Two.rneg (by decide +kernel) ?_
  exact points_two a ha a.size 0 0 (by omega)
theorem good_miss {r : Int} {c : Bool} {l : Int} (h : goodB r c l = true) : goodB r false l = true := by
  rw [goodB, decide_eq_true_eq] at h ⊢
  obtain ⟨h1, h2, h3, h4, h5, h6⟩ := h
  refine ⟨h1, h2, h3, h4, (fun e => by cases e), ?_⟩
  rcases h6 with h6 | ⟨h6, _⟩
  · exact .inl h6
  · exact .inr ⟨h6, rfl⟩
theorem play_two (l : List ByteArray) (hl : l.length ≤ 100) : ∀ (d i : Nat) (o : List Int) (r : Int) (c : Bool) (m : Int), i + d = l.length → o.length = 2 → goodB r c m = true →
    Two (fun k => spec_PlayFrame.l0 k o l (l.length : Int) (i : Int) r c m) (fun k => impl_PlayFrame.l0 k o l (l.length : Int) (i : Int) r c m) (fun x y => x = y ∧ x.1.length ≤ 2) := by
  intro d
  induction d with
  | zero =>
    intro i o r c m h ho hg
    refine Two.lstep (fun k => spec_PlayFrame.l0.eq_2 _ _ _ _ _ _ _ _) (Two.rstep (fun k => impl_PlayFrame.l0.eq_2 _ _ _ _ _ _ _ _) ?_)
    exact Two.lneg (by omega) (Two.rneg (by omega) (Two.ret ⟨rfl, by simp only; omega⟩))
  | succ d ih =>
    intro i o r c m h ho hg
    refine Two.lstep (fun k => spec_PlayFrame.l0.eq_2 _ _ _ _ _ _ _ _) (Two.rstep (fun k => impl_PlayFrame.l0.eq_2 _ _ _ _ _ _ _ _) ?_)
    refine Two.lpos (by omega) (Two.lpos (by omega) (Two.lpos (by omega) (Two.rpos (by omega) (Two.rpos (by omega) (Two.rpos (by omega) ?_)))))
    generalize rdOf ByteArray.empty l (i : Int) = a
    have ht : Int.tmod (i : Int) 2 = (i : Int) % 2 := tmod_in (by omega)
    rw [ht, wrap_nat i (by omega)]
    have hfa : ∀ k, impl_FrameAfter.f k r c m a = (impl_IsFrame.f k r c m).bind fun t => if t = true then (impl_Frame_behind.f k r c m a) else some (0, false, 0, false) := by
      intro k
      unfold impl_FrameAfter.f
      cases impl_IsFrame.f k r c m with
      | none => rfl
      | some t =>
        simp only [Option.bind_some]
        split
        · cases impl_Frame_behind.f k r c m a <;> rfl
        · rfl
    simp only [hfa]
    have hT : Two (fun k => spec_frAfter.f k r c m a) (fun k => (impl_IsFrame.f k r c m).bind fun t => if t = true then (impl_Frame_behind.f k r c m a) else some (0, false, 0, false)) (fun x y => aftR2 a 0 x y ∧ (x.2.2.2 = true → a.size ≤ 36)) := by
      refine Two.rbind (isFrame_t r c m) ?_
      rintro _ rfl
      exact Two.rpos hg (after2_t a hg)
    refine Two.bind hT ?_
    rintro ⟨x1, x2, x3, x4⟩ ⟨y1, y2, y3, y4⟩ ⟨⟨q1, q2⟩, q3⟩
    simp only at q1 q2 q3 ⊢
    subst q1
    cases x4 with
    | false => exact Two.lneg (by simp) (Two.rneg (by simp) (Two.ret ⟨rfl, by simp⟩))
    | true =>
      obtain ⟨q4, q5, q6⟩ := q2 rfl
      simp only [Prod.mk.injEq, and_true] at q4
      obtain ⟨rfl, rfl, rfl⟩ := q4
      refine Two.lpos rfl (Two.rpos rfl (Two.lpos (by omega) (Two.lpos (by omega) ?_)))
      refine Two.bind (points_t a (q3 rfl) (fun j hj => q6 j (by omega) hj)) ?_
      rintro u _ rfl
      refine Two.rpos (by omega) (Two.rpos (by omega) ?_)
      have hm : Tot (fun k => impl_MissBall.f k x1 x2 x3) (Eq (x1, false, x3, true)) := by
        unfold impl_MissBall.f
        refine Tot.bind (isFrame_t x1 x2 x3) ?_
        rintro _ rfl
        exact Tot.pos q5 (Tot.ret rfl)
      refine Two.rbind hm ?_
      rintro _ rfl
      exact ih (i + 1) _ _ _ _ (by omega) (by rw [List.length_set]; exact ho) (good_miss q5)
theorem both (r : Int) (c : Bool) (m : Int) (l : List ByteArray) : ∃ v, v.1.length ≤ 2 ∧ Tot (fun k => spec_PlayFrame.f k r c m l) (Eq v) ∧ Tot (fun k => impl_PlayFrame.f k r c m l) (Eq v) := by
  have key : Two (fun k => spec_PlayFrame.f k r c m l) (fun k => impl_PlayFrame.f k r c m l) (fun x y => x = y ∧ x.1.length ≤ 2) := by
    unfold spec_PlayFrame.f impl_PlayFrame.f
    rw [frGood_eq]
    refine Two.lsome (Two.rbind (isFrame_t r c m) ?_)
    rintro _ rfl
    by_cases h : goodB r c m = true
    · refine Two.lpos h (Two.rpos h (Two.lstep (fun k => spec_PlayFrame.j0.eq_2 _ _ _ _ _ _) (Two.rstep (fun k => impl_PlayFrame.j0.eq_2 _ _ _ _ _ _) ?_)))
      by_cases g : (l.length : Int) > 100
      · exact Two.lpos (by simpa using g) (Two.rpos (by simpa using g) (Two.ret ⟨rfl, by simp⟩))
      · refine Two.lneg (by simpa using g) (Two.rneg (by simpa using g) ?_)
        exact play_two l (by omega) l.length 0 _ r c m (by omega) rfl h
    · refine Two.lneg h (Two.rneg h (Two.lstep (fun k => spec_PlayFrame.j0.eq_2 _ _ _ _ _ _) (Two.rstep (fun k => impl_PlayFrame.j0.eq_2 _ _ _ _ _ _) ?_)))
      exact Two.lpos rfl (Two.rpos rfl (Two.ret ⟨rfl, by simp⟩))
  obtain ⟨x, y, hx, hy, rfl, hl⟩ := key
  exact ⟨x, hl, Tot.of hx, Tot.of hy⟩
end PL
end Go.Proofs.YtcmlmjgoidpabaaDoor.Pure

