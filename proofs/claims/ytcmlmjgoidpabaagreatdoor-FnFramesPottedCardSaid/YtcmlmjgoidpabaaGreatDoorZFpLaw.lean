/- The law on potted balls holds of what it computes: for all texts of bytes. -/
import Derived.Test.YtcmlmjgoidpabaaGreatDoorZFpDraw
import Derived.Test.YtcmlmjgoidpabaaGreatDoorZFpRuns
import Derived.Test.YtcmlmjgoidpabaaGreatDoorZFpPoints
set_option linter.unusedVariables false
set_option linter.unusedSimpArgs false
namespace Go.Proofs.YtcmlmjgoidpabaaGreatDoor.Pure
open Go.RowKit Go.Proofs.YtcmlmjgoidpabaaGreatDoor.MFnFramesPotted Go.Proofs.YtcmlmjgoidpabaaGreatDoorW.PrintWords Go.Proofs.YtcmlmjgoidpabaaGreatDoorW.PrintLast
namespace PB
theorem both (r : Int) (c : Bool) (l : Int) (a : ByteArray) : ∃ v, Tot (fun k => spec_PotBall.f k r c l a) (Eq v) ∧ Tot (fun k => impl_PotBall.f k r c l a) (Eq v) := by
  by_cases h : goodB r c l = true
  case neg =>
    refine ⟨(0, false, 0, false), ?_, ?_⟩
    · unfold spec_PotBall.f
      rw [frGood_eq]
      refine Tot.some_bind (Tot.neg h ?_)
      refine Tot.step (fun k => spec_PotBall.j0.eq_2 _ _ _ _ _ _) ?_
      exact Tot.pos rfl (Tot.ret rfl)
    · unfold impl_PotBall.f
      refine Tot.bind (isFrame_t r c l) ?_
      rintro _ rfl
      exact Tot.neg h (Tot.ret rfl)
  obtain ⟨s, hs, hn, hi, _⟩ := next h
  by_cases ha : (a.size : Int) = 1
  case neg =>
    refine ⟨(0, false, 0, false), ?_, ?_⟩
    · unfold spec_PotBall.f
      rw [frGood_eq]
      refine Tot.some_bind (Tot.pos h ?_)
      refine Tot.step (fun k => spec_PotBall.j0.eq_2 _ _ _ _ _ _) ?_
      exact Tot.pos (by simpa using ha) (Tot.ret rfl)
    · unfold impl_PotBall.f
      refine Tot.bind (isFrame_t r c l) ?_
      rintro _ rfl
      exact Tot.pos h (Tot.neg ha (Tot.ret rfl))
  have hb := bt_range a 0
  refine ⟨if among (bt a 0) s.data.toList then ((potS r c l).1, (potS r c l).2.1, (potS r c l).2.2, true) else (0, false, 0, false), ?_, ?_⟩
  · unfold spec_PotBall.f
    rw [frGood_eq]
    refine Tot.some_bind (Tot.pos h ?_)
    refine Tot.step (fun k => spec_PotBall.j0.eq_2 _ _ _ _ _ _) ?_
    refine Tot.neg (by simpa using ha) (Tot.pos (by omega) ?_)
    refine Tot.bind (frPot_t hs hn) ?_
    rintro _ rfl
    by_cases g : among (bt a 0) s.data.toList = true
    · rw [if_pos g, if_pos g]
      exact Tot.pos rfl (Tot.ret rfl)
    · rw [if_neg g, if_neg g]
      exact Tot.neg (by simp) (Tot.ret rfl)
  · unfold impl_PotBall.f
    refine Tot.bind (isFrame_t r c l) ?_
    rintro _ rfl
    refine Tot.pos h (Tot.pos ha ?_)
    simp only [hi, pot_eq, strings_Contains.f]
    refine Tot.some_bind ?_
    rw [if_pos (show a.size = 1 by omega), contains_among _ hb.1 hb.2]
    refine Tot.some_bind ?_
    refine Tot.ite (fun g => Tot.some_bind (Tot.ret ?_)) (fun g => Tot.ret ?_)
    · rw [if_pos g]
    · rw [if_neg g]
end PB
theorem isF_eq (r : Int) (c : Bool) (l : Int) : spec_IsFrame.f r c l = some (goodB r c l) := by
  unfold spec_IsFrame.f
  rw [frGood_eq]
  try rfl
theorem cnt_first : ∀ n < 16, cntL (n : Nat) false 2 = 2 * (n : Nat) + 6 ∧ highL (n : Nat) false 2 = 8 * (n : Nat) + 27 := by decide +kernel
theorem first_both (x : Int) : ∃ v, Tot (fun k => impl_FirstFrame.f k x) (Eq v) ∧ spec_FirstFrame.f x = some v ∧ (v.2.2.2 = true → v = (x, false, 2, true) ∧ 0 ≤ x ∧ x ≤ 15) := by
  have hg : goodB x false 2 = decide (0 ≤ x ∧ x ≤ 15) := by
    rw [Bool.eq_iff_iff, goodB, decide_eq_true_eq, decide_eq_true_eq]
    constructor
    · rintro ⟨a, b, _⟩; exact ⟨a, b⟩
    · rintro ⟨a, b⟩; exact ⟨a, b, by omega, by omega, (fun e => by cases e), .inl rfl⟩
  by_cases h : 0 ≤ x ∧ x ≤ 15
  · refine ⟨(x, false, 2, true), ?_, ?_, fun _ => ⟨rfl, h⟩⟩
    · unfold impl_FirstFrame.f
      refine Tot.bind (isFrame_t x false 2) ?_
      rintro _ rfl
      exact Tot.pos (by rw [hg]; exact decide_eq_true h) (Tot.ret rfl)
    · unfold spec_FirstFrame.f
      rw [l1In_eq, Option.bind_some, if_pos (decide_eq_true h)]
  · refine ⟨(0, false, 0, false), ?_, ?_, fun e => by cases e⟩
    · unfold impl_FirstFrame.f
      refine Tot.bind (isFrame_t x false 2) ?_
      rintro _ rfl
      exact Tot.neg (by rw [hg]; simpa using h) (Tot.ret rfl)
    · unfold spec_FirstFrame.f
      rw [l1In_eq, Option.bind_some, if_neg (by simpa using h)]
theorem text_back {s : ByteArray} {v : Int × Bool × Int × Bool} (h : v.2.2.2 = true → goodB v.1 v.2.1 v.2.2.1 = true ∧ textL v.1 v.2.1 v.2.2.1 = s) :
    Tot (fun k => if v.2.2.2 = true then ((impl_FrameText.f k v.1 v.2.1 v.2.2.1).bind fun b => (if b.2 = true then (some (b.1.toList == s.toList)) else (some false))) else (some true)) (Eq true) := by
  refine Tot.ite (fun e => ?_) (fun _ => Tot.ret rfl)
  obtain ⟨g, rfl⟩ := h e
  refine Tot.bind (told g).itext ?_
  rintro _ rfl
  exact Tot.pos rfl (Tot.ret (by simp))
theorem j11_t {l : List Int} (hl : ∀ x ∈ l, 0 ≤ x ∧ x ≤ 255) : Tot (fun k => laws_FnFramesPotted.j11 k l) (Eq true) := by
  refine Tot.step (fun k => laws_FnFramesPotted.j11.eq_2 _ _) (Tot.bind (drawPot_t hl) ?_)
  rintro ⟨r, c, m, z⟩ _
  obtain ⟨v, hv1, hv2⟩ := PB.both r c m z
  refine Tot.bind hv2 ?_
  rintro _ rfl
  refine Tot.bind hv1 ?_
  rintro _ rfl
  refine Tot.bind (drawFirst_t hl) ?_
  rintro x _
  obtain ⟨u, hu1, hu2, hu3⟩ := first_both x
  refine Tot.bind hu1 ?_
  rintro _ rfl
  rw [hu2]
  refine Tot.some_bind (Tot.bind (drawParse_t hl) ?_)
  rintro s _
  obtain ⟨q, hq1, hq2, hq3⟩ := parse_both s
  refine Tot.bind hq1 ?_
  rintro _ rfl
  refine Tot.bind hq2 ?_
  rintro _ rfl
  refine Tot.bind (drawPoints_t hl) ?_
  rintro p _
  obtain ⟨t, ht1, ht2⟩ := points_both p
  refine Tot.bind ht1 ?_
  rintro _ rfl
  refine Tot.bind ht2 ?_
  rintro _ rfl
  iterate 7 refine Tot.neg (by simp) ?_
  refine Tot.step (fun k => laws_FnFramesPotted.j12.eq_2 _ _ _ _ _ _ _ _ _ _ _ _) (Tot.neg (by simp) ?_)
  refine Tot.step (fun k => laws_FnFramesPotted.j13.eq_2 _ _ _ _ _ _ _ _ _ _ _) (Tot.ite (fun e => ?_) (fun _ => text_back hq3))
  obtain ⟨he, x0, x1⟩ := hu3 e
  have g : goodB x false 2 = true := by
    rw [goodB, decide_eq_true_eq]
    exact ⟨x0, x1, by omega, by omega, (fun e => by cases e), .inl rfl⟩
  rw [he]
  obtain ⟨n, rfl⟩ : ∃ n : Nat, x = (n : Int) := ⟨x.toNat, by omega⟩
  obtain ⟨f1, f2⟩ := cnt_first n (by omega)
  refine Tot.bind (told g).iballs ?_
  rintro _ rfl
  refine Tot.bind (told g).ileft ?_
  rintro _ rfl
  have w1 : wrap64 (wrap64 (2 * (n : Int)) + 6) = 2 * (n : Int) + 6 := by rw [wrap_in (x := 2 * (n : Int)) (by omega) (by omega), wrap_in (by omega) (by omega)]
  have w2 : wrap64 (wrap64 (8 * (n : Int)) + 27) = 8 * (n : Int) + 27 := by rw [wrap_in (x := 8 * (n : Int)) (by omega) (by omega), wrap_in (by omega) (by omega)]
  rw [w1, w2, f1, f2]
  refine Tot.pos rfl (Tot.pos rfl (Tot.pos rfl (Tot.pos rfl ?_)))
  exact Tot.step (fun k => laws_FnFramesPotted.j14.eq_2 _ _ _ _ _ _ _) (Tot.neg (by simp) (text_back hq3))
theorem l1_t {l : List Int} (hl : ∀ x ∈ l, 0 ≤ x ∧ x ≤ 255) (z : ByteArray) (hz : z.size ≤ 36) (r0 : Int) (c0 : Bool) (m0 : Int) (t : Int × Bool × Int) : ∀ (d i : Nat) (r : Int) (c : Bool) (m : Int), i + d = z.size → goodB r c m = true → Run z d i r c m t →
    Tot (fun k => laws_FnFramesPotted.l1 k l z (z.size : Int) t.1 t.2.1 t.2.2 r c m (i : Int) false 0) (Eq true) := by
  intro d
  induction d with
  | zero =>
    intro i r c m h g hr
    have hr : (r, c, m) = t := hr
    subst hr
    refine Tot.step (fun k => laws_FnFramesPotted.l1.eq_2 _ _ _ _ _ _ _ _ _ _ _ _ _) (Tot.neg (by omega) (Tot.neg (by simp) (j11_t hl)))
  | succ d ih =>
    intro i r c m h g hr
    obtain ⟨h1, h2⟩ := hr
    obtain ⟨b1, b2, b3, _⟩ := ball_of g h1
    obtain ⟨q, hq⟩ := itoa_in (b := bt z (i : Int)) (by omega) (by omega)
    refine Tot.step (fun k => laws_FnFramesPotted.l1.eq_2 _ _ _ _ _ _ _ _ _ _ _ _ _) (Tot.pos (by omega) (Tot.pos (by omega) (Tot.pos (by omega) ?_)))
    rw [hq, wrap_nat i (by omega)]
    simp only [Int.toNat_natCast]
    refine Tot.some_bind (Tot.pos (by omega) (Tot.pos (by omega) (Tot.bind (potBall_t z i (by omega) g h1) ?_)))
    rintro _ rfl
    exact Tot.pos rfl (ih (i + 1) _ _ _ (by omega) b3 h2)
theorem behind_f {r : Int} {c : Bool} {m : Int} (z : ByteArray) (g : goodB r c m = true) : Tot (fun k => impl_Frame_behind.f k r c m z) (fun v => v.2.2.2 = true → z.size ≤ 36 ∧ Run z z.size 0 r c m (v.1, v.2.1, v.2.2.1)) := by
  unfold impl_Frame_behind.f
  refine Tot.ite (fun _ => Tot.ret (fun e => by cases e)) (fun c => ?_)
  exact (behind_run z (by omega) z.size 0 _ _ _ (by omega) g).mono (fun v hv e => ⟨by omega, hv e⟩)
theorem brk_vals {r : Int} {c : Bool} {m : Int} (z : ByteArray) (h : goodB r c m = true) : ∃ y, Tot (fun k => impl_IsBreak.f k r c m z) (Eq (y.2.2.2, true)) ∧ Tot (fun k => spec_IsBreak.f k r c m z) (Eq (y.2.2.2, true)) ∧
    Tot (fun k => impl_FrameAfter.f k r c m z) (Eq y) ∧ Tot (fun k => spec_FrameAfter.f k r c m z) (Eq y) ∧ (y.2.2.2 = true → z.size ≤ 36 ∧ Run z z.size 0 r c m (y.1, y.2.1, y.2.2.1)) := by
  obtain ⟨x, y, hx, hy, hR, hR2, hR3⟩ := after_t z h
  refine ⟨y, ?_, ?_, ?_, ?_, (behind_f z h).at hy⟩
  · unfold impl_IsBreak.f
    refine Tot.bind (isFrame_t r c m) ?_
    rintro _ rfl
    refine Tot.pos h (Tot.bind (Tot.of hy) ?_)
    rintro _ rfl
    exact Tot.ret rfl
  · unfold spec_IsBreak.f
    rw [frGood_eq]
    refine Tot.some_bind (Tot.pos h (Tot.bind (Tot.of hx) ?_))
    rintro _ rfl
    exact Tot.ret (by rw [hR])
  · unfold impl_FrameAfter.f
    refine Tot.bind (isFrame_t r c m) ?_
    rintro _ rfl
    refine Tot.pos h (Tot.bind (Tot.of hy) ?_)
    rintro _ rfl
    exact Tot.ret rfl
  · unfold spec_FrameAfter.f
    rw [frGood_eq]
    refine Tot.some_bind (Tot.pos h (Tot.bind (Tot.of hx) ?_))
    rintro _ rfl
    refine Tot.ite (fun g => Tot.ret ?_) (fun g => Tot.ret ?_)
    · rw [← hR2 g]
      obtain ⟨x1, x2, x3, x4⟩ := x
      simp only at g
      rw [g]
    · exact hR3 (by simpa using g)
theorem j7_t {l : List Int} (hl : ∀ x ∈ l, 0 ≤ x ∧ x ≤ 255) {r : Int} {c : Bool} {m : Int} (z : ByteArray) (g : goodB r c m = true) (y : Int × Bool × Int × Bool) (hy : y.2.2.2 = true → z.size ≤ 36 ∧ Run z z.size 0 r c m (y.1, y.2.1, y.2.2.1)) :
    Tot (fun k => laws_FnFramesPotted.j7 k l z y.2.2.2 (highL r c m) (cntL r c m) r c m y.1 y.2.1 y.2.2.1) (Eq true) := by
  refine Tot.step (fun k => laws_FnFramesPotted.j7.eq_2 _ _ _ _ _ _ _ _ _ _ _ _) (Tot.ite (fun e => ?_) (fun _ => j11_t hl))
  obtain ⟨hz, hr⟩ := hy e
  obtain ⟨g2, hc⟩ := run_good z _ _ _ _ _ _ g hr
  obtain ⟨p0, p1⟩ := run_points z _ _ _ _ _ _ g hr
  have hb := run_bytes z _ _ _ _ _ _ g hr
  simp only at g2 hc p0 p1
  have hR := (holdsF g).range
  have hR2 := (holdsF g2).range
  refine Tot.bind (told g2).iballs ?_
  rintro _ rfl
  have hp : Tot (fun k => impl_PointsOf.f k z) (Eq (ptsL z z.size 0, true)) := by
    unfold impl_PointsOf.f
    refine Tot.neg (by omega) ?_
    unfold strings_Trim.f
    rw [if_pos ⟨by omega, by decide, by decide⟩]
    rw [show (⟨#[49, 50, 51, 52, 53, 54, 55]⟩ : ByteArray).data.toList = [49, 50, 51, 52, 53, 54, 55] from rfl, PL.trim_none (PL.bytes_of (fun j hj => hb j (by omega) (by omega)))]
    refine Tot.some_bind (Tot.step (fun k => impl_PointsOf.j0.eq_2 _ _ _) (Tot.neg (by decide +kernel) ?_))
    have := points_loop z z.size 0 0 (by omega) hz (fun j _ hj => hb j (by omega) (by omega)) (by omega) (by omega)
    rw [Int.zero_add] at this
    exact this
  refine Tot.bind hp ?_
  rintro _ rfl
  refine Tot.bind (told g2).ileft ?_
  rintro _ rfl
  refine Tot.pos rfl (Tot.pos ?_ (Tot.pos rfl (Tot.pos rfl ?_)))
  · rw [wrap_in (by omega) (by omega)]
    exact hc
  refine Tot.step (fun k => laws_FnFramesPotted.j8.eq_2 _ _ _ _ _ _ _ _ _ _) (Tot.neg ?_ ?_)
  · rw [wrap_in (by omega) (by omega), decide_eq_true_eq]
    omega
  refine Tot.step (fun k => laws_FnFramesPotted.j9.eq_2 _ _ _ _ _ _ _ _ _) ?_
  exact l1_t hl z hz r c m (y.1, y.2.1, y.2.2.1) z.size 0 r c m (by omega) g hr
theorem bt_get (s : ByteArray) (i : Nat) (h : i < s.data.toList.length) : bt s (i : Int) = ((s.data.toList[i]).toNat : Int) := by
  have hj : i < s.size := by rw [size_list]; exact h
  unfold bt
  simp only [Int.toNat_natCast]
  rw [dif_pos hj]
  rfl
theorem l0_t {l : List Int} (hl : ∀ x ∈ l, 0 ≤ x ∧ x ≤ 255) {r : Int} {c : Bool} {m : Int} (z : ByteArray) (g : goodB r c m = true) (y : Int × Bool × Int × Bool) (hy : y.2.2.2 = true → z.size ≤ 36 ∧ Run z z.size 0 r c m (y.1, y.2.1, y.2.2.1)) : ∀ (d i : Nat), i + d = (nextL r c m).size →
    Tot (fun k => laws_FnFramesPotted.l0 k l z y.2.2.2 (nextL r c m) (highL r c m) (cntL r c m) ((nextL r c m).size : Int) r c m y.1 y.2.1 y.2.2.1 (i : Int) false 0) (Eq true) := by
  have hH := holdsF g
  have hR := hH.range
  have hs := hH.few
  intro d
  induction d with
  | zero =>
    intro i h
    exact Tot.step (fun k => laws_FnFramesPotted.l0.eq_2 _ _ _ _ _ _ _ _ _ _ _ _ _ _ _ _ _) (Tot.neg (by omega) (j7_t hl z g y hy))
  | succ d ih =>
    intro i h
    have hi : i < (nextL r c m).data.toList.length := by rw [← size_list]; omega
    have hbt := bt_get (nextL r c m) i hi
    have hm : among (bt (nextL r c m) (i : Int)) (nextL r c m).data.toList = true := by
      rw [hbt]
      unfold among
      exact List.any_eq_true.2 ⟨_, List.getElem_mem hi, decide_eq_true rfl⟩
    obtain ⟨b1, b2, b3, b4, _⟩ := ball_of g hm
    obtain ⟨q, hq⟩ := itoa_in (b := bt (nextL r c m) (i : Int)) (by omega) (by omega)
    have hR3 := (holdsF b3).range
    have rest : Tot (fun k => (impl_IsFrame.f k (potS r c m).1 (potS r c m).2.1 (potS r c m).2.2).bind fun t => laws_FnFramesPotted.j6 k l z y.2.2.2 (nextL r c m) (highL r c m) (cntL r c m) ((nextL r c m).size : Int) (!t) r c m y.1 y.2.1 y.2.2.1 ((i + 1 : Nat) : Int) false 0 (potS r c m).1 (potS r c m).2.1 (potS r c m).2.2) (Eq true) := by
      refine Tot.bind (isFrame_t _ _ _) ?_
      rintro _ rfl
      rw [b3]
      refine Tot.step (fun k => laws_FnFramesPotted.j6.eq_2 _ _ _ _ _ _ _ _ _ _ _ _ _ _ _ _ _ _ _ _ _) (Tot.neg (by simp) (Tot.bind (told b3).iballs ?_))
      rintro _ rfl
      refine Tot.pos rfl (Tot.pos ?_ (ih (i + 1) (by omega)))
      rw [wrap_in (by omega) (by omega)]
      exact b4
    refine Tot.step (fun k => laws_FnFramesPotted.l0.eq_2 _ _ _ _ _ _ _ _ _ _ _ _ _ _ _ _ _) (Tot.pos (by omega) (Tot.pos (by omega) (Tot.pos (by omega) ?_)))
    rw [hq, wrap_nat i (by omega)]
    simp only [Int.toNat_natCast]
    refine Tot.some_bind (Tot.pos (by omega) (Tot.pos (by omega) (Tot.bind (potBall_t _ i (by omega) g hm) ?_)))
    rintro _ rfl
    refine Tot.ite (fun k0 => ?_) (fun _ => Tot.pos rfl rest)
    obtain ⟨j, rfl⟩ : ∃ j : Nat, i = j + 1 := ⟨i - 1, by omega⟩
    have wj : wrap64 (((j + 1 : Nat) : Int) - 1) = (j : Int) := by rw [wrap_in (by omega) (by omega)]; omega
    rw [wj]
    refine Tot.pos (by omega) (Tot.pos (by omega) (Tot.neg ?_ (Tot.pos rfl rest)))
    have hj : j < (nextL r c m).data.toList.length := by omega
    rw [hbt, bt_get _ j hj]
    have := List.pairwise_iff_getElem.1 hH.rising j (j + 1) hj hi (by omega)
    have := UInt8.lt_iff_toNat_lt.1 this
    omega
theorem good_missF {r : Int} {c : Bool} {l : Int} (h : goodB r c l = true) : goodB r false l = true := by
  rw [goodB, decide_eq_true_eq] at h ⊢
  obtain ⟨h1, h2, h3, h4, h5, h6⟩ := h
  refine ⟨h1, h2, h3, h4, (fun e => by cases e), ?_⟩
  rcases h6 with h6 | ⟨h6, _⟩
  · exact .inl h6
  · exact .inr ⟨h6, rfl⟩
theorem empty_next {r : Int} {c : Bool} {m : Int} (g : goodB r c m = true) : (((nextL r c m).toList == ([] : List UInt8)) != (m == 8)) = false := by
  have h := (holdsF g).over
  rw [ByteArray.toList_eq]
  cases hd : (nextL r c m).data.toList with
  | nil =>
    rw [hd] at h
    simp only [List.isEmpty_nil] at h
    have : m = 8 := of_decide_eq_true h.symm
    subst this
    rfl
  | cons x L =>
    rw [hd] at h
    simp only [List.isEmpty_cons] at h
    have : ¬ m = 8 := of_decide_eq_false h.symm
    simp [this]
theorem j0_good {l l0 : List Int} (hl : ∀ x ∈ l, 0 ≤ x ∧ x ≤ 255) {r : Int} {c : Bool} {m : Int} (z : ByteArray) (g : goodB r c m = true) (h : Tot (fun k => spec_DrawIsBreak.f k l0) (Eq (r, c, m, z))) : Tot (fun k => laws_FnFramesPotted.j0 k l0 l) (Eq true) := by
  have T := told g
  have hH := holdsF g
  obtain ⟨y, y1, y2, y3, y4, hy⟩ := brk_vals z g
  refine Tot.step (fun k => laws_FnFramesPotted.j0.eq_2 _ _ _) (Tot.bind h ?_)
  rintro _ rfl
  have hM : Tot (fun k => impl_MissBall.f k r c m) (Eq (r, false, m, true)) := by
    unfold impl_MissBall.f
    refine Tot.bind (isFrame_t r c m) ?_
    rintro _ rfl
    exact Tot.pos g (Tot.ret rfl)
  have hM2 : spec_MissBall.f r c m = some (r, false, m, true) := by
    unfold spec_MissBall.f
    rw [frGood_eq, Option.bind_some, if_pos g]
  refine Tot.bind y1 ?_
  rintro _ rfl
  refine Tot.bind y2 ?_
  rintro _ rfl
  refine Tot.bind y3 ?_
  rintro _ rfl
  refine Tot.bind y4 ?_
  rintro _ rfl
  refine Tot.bind T.inext ?_
  rintro _ rfl
  refine Tot.bind T.snext ?_
  rintro _ rfl
  refine Tot.bind T.ihigh ?_
  rintro _ rfl
  refine Tot.bind T.shigh ?_
  rintro _ rfl
  refine Tot.bind T.ileast ?_
  rintro _ rfl
  refine Tot.bind T.sleast ?_
  rintro _ rfl
  refine Tot.bind T.ileft ?_
  rintro _ rfl
  refine Tot.bind T.sleft ?_
  rintro _ rfl
  refine Tot.bind T.iballs ?_
  rintro _ rfl
  refine Tot.bind T.sballs ?_
  rintro _ rfl
  refine Tot.bind hM ?_
  rintro _ rfl
  rw [hM2]
  refine Tot.some_bind (Tot.bind T.itext ?_)
  rintro _ rfl
  refine Tot.bind T.stext ?_
  rintro _ rfl
  have j2 : Tot (fun k => laws_FnFramesPotted.j2 k l z true y.2.2.2 (nextL r c m) (breakL r c m) (highL r c m) (leastL r c m) (highL r c m) (cntL r c m) (textL r c m) r c m y.1 y.2.1 y.2.2.1 r false m) (Eq true) := by
    refine Tot.step (fun k => laws_FnFramesPotted.j2.eq_2 _ _ _ _ _ _ _ _ _ _ _ _ _ _ _ _ _ _ _ _ _) (Tot.pos rfl ?_)
    obtain ⟨a, b, hab⟩ := hH.after
    refine Tot.bind hab ?_
    rintro _ rfl
    refine Tot.bind hH.points ?_
    rintro _ rfl
    refine Tot.bind (parse_text g) ?_
    rintro _ rfl
    refine Tot.pos hH.size (Tot.pos rfl (Tot.pos rfl (Tot.pos rfl (Tot.pos rfl (Tot.pos rfl (Tot.neg (by have := hH.least; omega) (Tot.pos rfl (Tot.neg (by simp) (Tot.neg (by simp) (Tot.bind (isFrame_t r false m) ?_))))))))))
    rintro _ rfl
    refine Tot.pos (good_missF g) ?_
    rw [empty_next g]
    refine Tot.step (fun k => laws_FnFramesPotted.j3.eq_2 _ _ _ _ _ _ _ _ _ _ _ _ _ _) (Tot.neg (by simp) ?_)
    refine Tot.step (fun k => laws_FnFramesPotted.j4.eq_2 _ _ _ _ _ _ _ _ _ _ _ _ _) ?_
    exact l0_t hl z g y hy (nextL r c m).size 0 (by omega)
  have tail : ∀ b, b = false → Tot (fun k => laws_FnFramesPotted.j1 k l z true y.2.2.2 (nextL r c m) (breakL r c m) (highL r c m) (leastL r c m) (highL r c m) (cntL r c m) (textL r c m) b r c m y.1 y.2.1 y.2.2.1 r false m) (Eq true) := by
    rintro _ rfl
    exact Tot.step (fun k => laws_FnFramesPotted.j1.eq_2 _ _ _ _ _ _ _ _ _ _ _ _ _ _ _ _ _ _ _ _ _ _) (Tot.neg (by simp) j2)
  refine Tot.neg (by simp) (Tot.neg (by simp) (Tot.neg (by simp) (Tot.neg (by simp) (Tot.neg (by simp) (Tot.pos rfl (Tot.neg (by simp) (Tot.pos rfl (Tot.pos rfl (Tot.neg (by simp) (Tot.pos rfl (Tot.neg (by simp) (Tot.pos rfl (Tot.neg (by simp) (Tot.pos rfl (Tot.neg (by simp) (Tot.neg (by simp) (Tot.neg (by simp) (Tot.pos rfl (Tot.bind (isFrame_t r c m) ?_)))))))))))))))))))
  rintro _ rfl
  rw [g]
  refine Tot.neg (by simp) (Tot.bind (isFrame_t r c m) ?_)
  rintro _ rfl
  rw [isF_eq, g]
  refine Tot.some_bind (Tot.neg (by simp) (Tot.pos rfl (Tot.neg (by simp) (Tot.neg (by simp) (Tot.neg (by simp) (Tot.neg (by simp) (Tot.neg (by simp) (Tot.neg (by simp) (Tot.neg (by simp) ?_)))))))))
  exact tail _ rfl
theorem j0_bad {l l0 : List Int} (hl : ∀ x ∈ l, 0 ≤ x ∧ x ≤ 255) {r : Int} {c : Bool} {m : Int} (z : ByteArray) (g : ¬ goodB r c m = true) (h : Tot (fun k => spec_DrawIsBreak.f k l0) (Eq (r, c, m, z))) : Tot (fun k => laws_FnFramesPotted.j0 k l0 l) (Eq true) := by
  refine Tot.step (fun k => laws_FnFramesPotted.j0.eq_2 _ _ _) (Tot.bind h ?_)
  rintro _ rfl
  have I : ∀ {α : Type} {f : Nat → Option α} {x : α}, Tot (fun k => (impl_IsFrame.f k r c m).bind fun t => if t = true then f k else some x) (Eq x) := by
    intro α f x
    refine Tot.bind (isFrame_t r c m) ?_
    rintro _ rfl
    exact Tot.neg g (Tot.ret rfl)
  have S : ∀ {α : Type} {f : Nat → Option α} {x : α}, Tot (fun k => (spec_frGood.f r c m).bind fun t => if t = true then f k else some x) (Eq x) := by
    intro α f x
    rw [frGood_eq]
    exact Tot.some_bind (Tot.neg g (Tot.ret rfl))
  have hB : Tot (fun k => impl_HighestBreak.f k r c m) (Eq ((⟨#[]⟩ : ByteArray), (0 : Int), false)) := by unfold impl_HighestBreak.f; exact I
  refine Tot.bind (P := Eq (false, false)) (by unfold impl_IsBreak.f; exact I) ?_
  rintro _ rfl
  refine Tot.bind (P := Eq (false, false)) (by unfold spec_IsBreak.f; exact S) ?_
  rintro _ rfl
  refine Tot.bind (P := Eq (0, false, 0, false)) (by unfold impl_FrameAfter.f; exact I) ?_
  rintro _ rfl
  refine Tot.bind (P := Eq (0, false, 0, false)) (by unfold spec_FrameAfter.f; exact S) ?_
  rintro _ rfl
  refine Tot.bind (P := Eq ((⟨#[]⟩ : ByteArray), false)) (by unfold impl_NextBalls.f; exact I) ?_
  rintro _ rfl
  refine Tot.bind (P := Eq ((⟨#[]⟩ : ByteArray), false)) (by unfold spec_NextBalls.f; exact S) ?_
  rintro _ rfl
  refine Tot.bind hB ?_
  rintro _ rfl
  refine Tot.bind (P := Eq ((⟨#[]⟩ : ByteArray), (0 : Int), false)) (by unfold spec_HighestBreak.f; exact S) ?_
  rintro _ rfl
  refine Tot.bind (P := Eq ((0 : Int), false)) (by unfold impl_LeastBreak.f; exact I) ?_
  rintro _ rfl
  refine Tot.bind (P := Eq ((0 : Int), false)) (by unfold spec_LeastBreak.f; exact S) ?_
  rintro _ rfl
  refine Tot.bind (P := Eq ((0 : Int), false)) (by
    unfold impl_PointsLeft.f
    refine Tot.bind hB ?_
    rintro _ rfl
    exact Tot.ret rfl) ?_
  rintro _ rfl
  refine Tot.bind (P := Eq ((0 : Int), false)) (by unfold spec_PointsLeft.f; exact S) ?_
  rintro _ rfl
  refine Tot.bind (P := Eq ((0 : Int), false)) (by
    unfold impl_BallsLeft.f
    refine Tot.bind hB ?_
    rintro _ rfl
    exact Tot.ret rfl) ?_
  rintro _ rfl
  refine Tot.bind (P := Eq ((0 : Int), false)) (by unfold spec_BallsLeft.f; exact S) ?_
  rintro _ rfl
  refine Tot.bind (P := Eq (0, false, 0, false)) (by unfold impl_MissBall.f; exact I) ?_
  rintro _ rfl
  refine Tot.bind (P := Eq (0, false, 0, false)) (by unfold spec_MissBall.f; exact S) ?_
  rintro _ rfl
  refine Tot.bind (P := Eq ((⟨#[]⟩ : ByteArray), false)) (by unfold impl_FrameText.f; exact I) ?_
  rintro _ rfl
  refine Tot.bind (P := Eq ((⟨#[]⟩ : ByteArray), false)) (by unfold spec_FrameText.f; exact S) ?_
  rintro _ rfl
  refine Tot.neg (by simp) (Tot.neg (by simp) (Tot.neg (by simp) (Tot.neg (by simp) (Tot.neg (by simp) (Tot.pos rfl (Tot.neg (by simp) (Tot.pos rfl (Tot.pos rfl (Tot.neg (by simp) (Tot.pos rfl (Tot.neg (by simp) (Tot.pos rfl (Tot.neg (by simp) (Tot.pos rfl (Tot.neg (by simp) (Tot.neg (by simp) (Tot.neg (by simp) (Tot.pos rfl (Tot.bind (isFrame_t r c m) ?_)))))))))))))))))))
  rintro _ rfl
  rw [Bool.eq_false_iff.mpr g]
  refine Tot.neg (by simp) (Tot.bind (isFrame_t r c m) ?_)
  rintro _ rfl
  rw [isF_eq, Bool.eq_false_iff.mpr g]
  refine Tot.some_bind (Tot.neg (by simp) (Tot.neg (by simp) (Tot.neg (by simp) (Tot.neg (by simp) (Tot.neg (by simp) (Tot.neg (by simp) (Tot.neg (by simp) (Tot.neg (by simp) (Tot.neg (by simp) ?_)))))))))
  refine Tot.step (fun k => laws_FnFramesPotted.j1.eq_2 _ _ _ _ _ _ _ _ _ _ _ _ _ _ _ _ _ _ _ _ _ _) (Tot.neg (by simp) ?_)
  refine Tot.step (fun k => laws_FnFramesPotted.j2.eq_2 _ _ _ _ _ _ _ _ _ _ _ _ _ _ _ _ _ _ _ _ _) (Tot.neg (by simp) ?_)
  exact Tot.step (fun k => laws_FnFramesPotted.j7.eq_2 _ _ _ _ _ _ _ _ _ _ _ _) (Tot.neg (by simp) (j11_t hl))
theorem u8_in {l : List Int} (h : ∀ x ∈ l, (Lit.int .u8 x).wf = true) : ∀ x ∈ l, 0 ≤ x ∧ x ≤ 255 := by
  intro x hx
  have := h x hx
  simp [Lit.wf, IntKind.min, IntKind.max, IntKind.bits, IntKind.signed] at this
  omega
theorem law_t {l0 l1 : List Int} (h0 : ∀ x ∈ l0, 0 ≤ x ∧ x ≤ 255) (h1 : ∀ x ∈ l1, 0 ≤ x ∧ x ≤ 255) : Tot (fun k => laws_FnFramesPotted.f k l0 l1) (Eq true) := by
  unfold laws_FnFramesPotted.f
  refine Tot.bind (P := fun _ => True) (by unfold laws_big.f; exact Tot.ite (fun _ => Tot.ret trivial) (fun _ => Tot.ret trivial)) ?_
  rintro t _
  refine Tot.ite (fun _ => Tot.ret rfl) (fun _ => ?_)
  obtain ⟨⟨r, c, m, z⟩, hd, _⟩ := drawBreak_t h0
  by_cases g : goodB r c m = true
  · exact j0_good h1 z g (Tot.of hd)
  · exact j0_bad h1 z g (Tot.of hd)
end Go.Proofs.YtcmlmjgoidpabaaGreatDoor.Pure

