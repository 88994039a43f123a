/- The first break with so many points is a break with these points, and none has more than the points that are left. -/
import Derived.Test.YtcmlmjgoidpabaaDoorZFcPair
set_option linter.unusedVariables false
set_option linter.unusedSimpArgs false
namespace Go.Proofs.YtcmlmjgoidpabaaDoor.Pure
open Go.RowKit Go.Proofs.YtcmlmjgoidpabaaDoor.MFnFramesCounted Go.Proofs.YtcmlmjgoidpabaaDoorW.PrintWords Go.Proofs.YtcmlmjgoidpabaaDoorW.PrintLast
theorem Ev.uniq {α : Type} {g : Nat → Option α} {r s : α} (h : Ev g r) (k : Ev g s) : r = s := by
  obtain ⟨K, hK⟩ := h
  obtain ⟨J, hJ⟩ := k
  have h1 := hK (max K J) (Nat.le_max_left _ _)
  have h2 := hJ (max K J) (Nat.le_max_right _ _)
  rw [h1] at h2
  exact Option.some.inj h2
theorem Tot.at {α : Type} {g : Nat → Option α} {P : α → Prop} {r : α} (h : Tot g P) (k : Ev g r) : P r := by
  obtain ⟨s, hs, hp⟩ := h
  rw [Ev.uniq k hs]
  exact hp
def highF : Nat → Brk.Fr → Int
  | 0, _ => 0
  | n + 1, f => (Brk.ballsF f).foldl max 0 + highF n (Brk.potF f)
theorem le_fold : ∀ (L : List Int) (a : Int), a ≤ L.foldl max a ∧ ∀ b ∈ L, b ≤ L.foldl max a
  | [], a => ⟨Int.le_refl _, fun b h => by cases h⟩
  | x :: L, a => by
    obtain ⟨h1, h2⟩ := le_fold L (max a x)
    rw [List.foldl_cons]
    refine ⟨by omega, fun b hb => ?_⟩
    rcases List.mem_cons.1 hb with rfl | hb
    · omega
    · exact h2 b hb
theorem high_pos : ∀ (n : Nat) (f : Brk.Fr), 0 ≤ highF n f
  | 0, _ => Int.le_refl _
  | n + 1, f => by
    have h1 := (le_fold (Brk.ballsF f) 0).1
    have h2 := high_pos n (Brk.potF f)
    unfold highF
    omega
theorem high_most : ∀ (n : Nat) (f : Brk.Fr) (p : Int), Brk.okFr f → p.toNat ≤ n → Brk.cnt p.toNat f p ≠ 0 → p ≤ highF n f := by
  intro n
  induction n with
  | zero => intro f p _ hn _; unfold highF; omega
  | succ n ih =>
    intro f p hf hn hc
    by_cases hp : 0 < p
    · obtain ⟨b, _, hmem, hpos⟩ := Brk.has_ball hf hp hc
      have hbb := Brk.balls_in hf b hmem
      have := ih (Brk.potF f) (p - b) (Brk.pot_ok hf (List.ne_nil_of_mem hmem)) (by omega) (by omega)
      have h2 := (le_fold (Brk.ballsF f) 0).2 b hmem
      unfold highF
      omega
    · have := high_pos (n + 1) f
      omega
def hiB (r : Int) (c : Bool) (l : Int) : Bool :=
  endsIn 36 (r, c, l) && match impl_PointsLeft.f 100 r c l with
  | some (p, true) => decide (p = highF 147 (r, c, l))
  | _ => false
set_option maxRecDepth 100000 in
theorem hi_all : ∀ r < 16, ∀ c : Bool, ∀ l < 9, goodB (r : Nat) c (l : Nat) = true → hiB (r : Nat) c (l : Nat) = true := by decide +kernel
theorem hi_good {r : Int} {c : Bool} {l : Int} (h : goodB r c l = true) : endsIn 36 (r, c, l) = true ∧ Tot (fun k => impl_PointsLeft.f k r c l) (Eq (highF 147 (r, c, l), true)) := by
  obtain ⟨h1, h2, h3, h4, _⟩ := good_range h
  obtain ⟨n, rfl⟩ : ∃ n : Nat, r = (n : Int) := ⟨r.toNat, by omega⟩
  obtain ⟨m, rfl⟩ : ∃ m : Nat, l = (m : Int) := ⟨l.toNat, by omega⟩
  have hb := hi_all n (by omega) c m (by omega) h
  unfold hiB at hb
  rw [Bool.and_eq_true] at hb
  obtain ⟨hb1, hb⟩ := hb
  refine ⟨hb1, ?_⟩
  split at hb
  · rename_i p hp
    rw [decide_eq_true_eq] at hb
    subst hb
    exact Tot.of (Ev.of (fun k => impl_PointsLeft.mono _ _ _ k) hp)
  · cases hb
def runs : List Int → Brk.Fr → Prop
  | [], _ => True
  | b :: L, f => b ∈ Brk.ballsF f ∧ runs L (Brk.potF f)
def ballB (b : Int) : UInt8 := (b + 48).toNat.toUInt8
theorem runs_len : ∀ (L : List Int) (n : Nat) (f : Brk.Fr), runs L f → endsIn n f = true → L.length ≤ n
  | [], n, f, _, _ => Nat.zero_le _
  | b :: L, 0, f, h, he => by
    have : Brk.ballsF f = [] := by unfold endsIn at he; exact List.isEmpty_iff.1 he
    have h1 := h.1
    rw [this] at h1
    cases h1
  | b :: L, n + 1, f, h, he => by
    unfold endsIn at he
    rw [Bool.or_eq_true] at he
    rcases he with he | he
    · have h1 := h.1
      rw [List.isEmpty_iff.1 he] at h1
      cases h1
    · have := runs_len L n _ h.2 he
      simp only [List.length_cons]
      omega
theorem first_runs : ∀ (n : Nat) (f : Brk.Fr) (p : Int) (out : ByteArray), Brk.okFr f → p.toNat ≤ n → 0 ≤ p → Brk.cnt p.toNat f p ≠ 0 →
    ∃ L, (Brk.firstS p.toNat f p out).data.toList = out.data.toList ++ L.map ballB ∧ runs L f ∧ L.sum = p := by
  intro n
  induction n with
  | zero =>
    intro f p out _ hn h0 _
    obtain rfl : p = 0 := by omega
    exact ⟨[], by rw [List.map_nil, List.append_nil]; rfl, trivial, rfl⟩
  | succ n ih =>
    intro f p out hf hn h0 hc
    by_cases hp : 0 < p
    · obtain ⟨b, hfind, hmem, hpos⟩ := Brk.has_ball hf hp hc
      have hbb := Brk.balls_in hf b hmem
      have hqb : 0 ≤ p - b := by
        by_cases h : p - b < 0
        · rw [Brk.cnt_neg h] at hpos; omega
        · omega
      rw [Brk.firstS_step out hf hp hfind]
      obtain ⟨L, h1, h2, h3⟩ := ih (Brk.potF f) (p - b) (out ++ Utf8.encode (b + 48)) (Brk.pot_ok hf (List.ne_nil_of_mem hmem)) (by omega) hqb (by omega)
      refine ⟨b :: L, ?_, ⟨hmem, h2⟩, by rw [List.sum_cons, h3]; omega⟩
      rw [h1, FP.enc_one hbb]
      simp [ballB]
    · obtain rfl : p = 0 := by omega
      exact ⟨[], by rw [List.map_nil, List.append_nil]; rfl, trivial, rfl⟩
theorem ball_num {b : Int} (h : 1 ≤ b ∧ b ≤ 7) : ((ballB b).toNat : Int) = b + 48 := by
  unfold ballB
  rw [Nat.toUInt8, UInt8.toNat_ofNat']
  omega
theorem runs_after (a : ByteArray) (ha : a.size ≤ 36) : ∀ (L pre : List Int) (r : Int) (c : Bool) (l : Int), goodB r c l = true → runs L (r, c, l) → a.data.toList = (pre ++ L).map ballB →
    Tot (fun k => spec_frAfter.l0 k a (pre.length : Int) r c l) (fun x => x.2.2.2 = true) := by
  intro L
  induction L with
  | nil =>
    intro pre r c l hg _ hd
    have hz : a.size = pre.length := by rw [size_list, hd]; simp
    exact Tot.step (fun k => spec_frAfter.l0.eq_2 _ _ _ _ _ _) (Tot.neg (by omega) (Tot.ret rfl))
  | cons b L ih =>
    intro pre r c l hg hr hd
    have hz : a.size = pre.length + L.length + 1 := by rw [size_list, hd]; simp; omega
    have hbb := Brk.balls_in (good_ok hg) b hr.1
    obtain ⟨s, _, _, _, _, _, _, hgp⟩ := nx hg
    have hbt : bt a (pre.length : Int) = b + 48 := by
      have := bt_mid (s := a) (pre := pre.map ballB) (suf := L.map ballB) (x := ballB b) (by rw [hd]; simp)
      rw [List.length_map] at this
      rw [this, ball_num hbb]
    refine Tot.step (fun k => spec_frAfter.l0.eq_2 _ _ _ _ _ _) (Tot.pos (by omega) (Tot.pos (by omega) ?_))
    rw [hbt, wrap_nat _ (by omega)]
    refine Tot.bind (frPot_at hg b hr.1) ?_
    rintro _ rfl
    refine Tot.pos rfl ?_
    have := ih (pre ++ [b]) _ _ _ (hgp (List.ne_nil_of_mem hr.1)) hr.2 (by rw [hd]; simp)
    rw [List.length_append] at this
    exact this
theorem runs_points (a : ByteArray) (ha : a.size ≤ 36) : ∀ (L pre : List Int) (f : Brk.Fr) (x : Int), (∀ b ∈ L, 1 ≤ b ∧ b ≤ 7) → a.data.toList = (pre ++ L).map ballB → 0 ≤ x → x ≤ 7 * pre.length →
    Tot (fun k => spec_frPoints.l0 k a x (pre.length : Int)) (Eq (x + L.sum)) := by
  intro L
  induction L with
  | nil =>
    intro pre f x _ hd _ _
    have hz : a.size = pre.length := by rw [size_list, hd]; simp
    exact Tot.step (fun k => spec_frPoints.l0.eq_2 _ _ _ _) (Tot.neg (by omega) (Tot.ret (by simp)))
  | cons b L ih =>
    intro pre f x hb hd h0 h1
    have hz : a.size = pre.length + L.length + 1 := by rw [size_list, hd]; simp; omega
    have hbb := hb b (List.mem_cons_self ..)
    have hbt : bt a (pre.length : Int) = b + 48 := by
      have := bt_mid (s := a) (pre := pre.map ballB) (suf := L.map ballB) (x := ballB b) (by rw [hd]; simp)
      rw [List.length_map] at this
      rw [this, ball_num hbb]
    refine Tot.step (fun k => spec_frPoints.l0.eq_2 _ _ _ _) (Tot.pos (by omega) (Tot.pos (by omega) ?_))
    rw [hbt, wrap_nat _ (by omega), show (b + 48 - 48) % 256 = b by omega, show wrap64 (x + b) = x + b from wrap_in (by omega) (by omega)]
    have := ih (pre ++ [b]) f (x + b) (fun b hb' => hb b (List.mem_cons_of_mem _ hb')) (by rw [hd]; simp) (by omega) (by simp only [List.length_append, List.length_cons, List.length_nil]; omega)
    rw [List.length_append] at this
    rw [List.sum_cons, ← Int.add_assoc]
    exact this
theorem runs_in : ∀ (L : List Int) (r : Int) (c : Bool) (l : Int), goodB r c l = true → runs L (r, c, l) → ∀ b ∈ L, 1 ≤ b ∧ b ≤ 7
  | [], _, _, _, _, _, b, hb => by cases hb
  | x :: L, r, c, l, hg, hr, b, hb => by
    obtain ⟨s, _, _, _, _, _, _, hgp⟩ := nx hg
    rcases List.mem_cons.1 hb with rfl | hb
    · exact Brk.balls_in (good_ok hg) _ hr.1
    · exact runs_in L _ _ _ (hgp (List.ne_nil_of_mem hr.1)) hr.2 b hb
theorem first_t {r : Int} {c : Bool} {l p : Int} (hg : goodB r c l = true) (p0 : 0 ≤ p) (p1 : p ≤ 147) (hc : Brk.cnt p.toNat (r, c, l) p ≠ 0) :
    Tot (fun k => impl_IsBreak.f k r c l (Brk.firstS p.toNat (r, c, l) p ⟨#[]⟩)) (Eq (true, true)) ∧ Tot (fun k => impl_PointsOf.f k (Brk.firstS p.toNat (r, c, l) p ⟨#[]⟩)) (Eq (p, true)) ∧
    ∃ q, p ≤ q ∧ Tot (fun k => impl_PointsLeft.f k r c l) (Eq (q, true)) := by
  obtain ⟨he, hq⟩ := hi_good hg
  obtain ⟨L, h1, h2, h3⟩ := first_runs p.toNat (r, c, l) p ⟨#[]⟩ (good_ok hg) (Nat.le_refl _) p0 hc
  have hlen := runs_len L 36 _ h2 he
  generalize Brk.firstS p.toNat (r, c, l) p ⟨#[]⟩ = a at *
  have hd : a.data.toList = ([] ++ L).map ballB := by rw [h1]; rfl
  have hz : a.size ≤ 36 := by rw [size_list, hd]; simp; omega
  have hA : Tot (fun k => spec_frAfter.f k r c l a) (fun x => x.2.2.2 = true) := by
    unfold spec_frAfter.f
    exact Tot.neg (by omega) (runs_after a hz L [] r c l hg h2 hd)
  obtain ⟨x, y, hx, hy, ⟨q1, q2⟩, _⟩ := PL.after2_t a hg
  have hxt := hA.at hx
  obtain ⟨q3, q4, q5⟩ := q2 hxt
  have hP : Tot (fun k => spec_frPoints.f k a) (Eq p) := by
    unfold spec_frPoints.f
    have := runs_points a hz L [] (r, c, l) 0 (runs_in L _ _ _ hg h2) hd (by omega) (by simp)
    rw [h3, Int.zero_add] at this
    exact this
  refine ⟨?_, ?_, _, high_most 147 (r, c, l) p (good_ok hg) (by omega) hc, hq⟩
  · unfold impl_IsBreak.f
    refine Tot.bind (isFrame_t r c l) ?_
    rintro _ rfl
    refine Tot.pos hg (Tot.bind (Tot.of hy) ?_)
    rintro _ rfl
    exact Tot.ret (by rw [← q1, hxt])
  · obtain ⟨u, v, hu, hv, rfl⟩ := PL.points_t a hz (fun j hj => q5 j (by omega) hj)
    have : p = u := hP.at hu
    subst this
    exact Tot.of hv
end Go.Proofs.YtcmlmjgoidpabaaDoor.Pure

