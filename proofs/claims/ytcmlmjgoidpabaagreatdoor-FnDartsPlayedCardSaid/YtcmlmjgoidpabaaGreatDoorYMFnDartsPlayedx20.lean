/- Walks of the functions that the law reaches: each comes to just what the function that is told of it tells, for all arguments. -/
import Derived.Test.YtcmlmjgoidpabaaGreatDoorYMFnDartsPlayedx19
namespace Go.Proofs.YtcmlmjgoidpabaaGreatDoor.MFnDartsPlayed
open Go.RowKit Go.Proofs.YtcmlmjgoidpabaaGreatDoorW.PrintWords Go.Proofs.YtcmlmjgoidpabaaGreatDoorW.PrintLast Go.Proofs.YtcmlmjgoidpabaaGreatDoorW.PrintMore
attribute [local go_sem] max2_int min2_int max_two min_two max_three min_three max_four min_four
set_option linter.unusedVariables false
set_option linter.unusedSimpArgs false
def spec_daPlace.l0 : Nat → Int → Int → Option (Int)
 | 0, _, _ => none
 | k + 1, x0, x3 => (spec_daRing.f).bind fun t648 => (if 0 ≤ x3 then (if x3 < (t648.length : Int) then (if (rd t648 x3) = x0 then (some x3) else (spec_daPlace.l0 k x0 (wrap64 (x3 + 1)))) else (none)) else (none))
def spec_daPlace.f (k : Nat) (a0 : Int) : Option (Int) := spec_daPlace.l0 k a0 0
theorem spec_daPlace.mono_l : ∀ k, (∀ y0 y1, LeO (spec_daPlace.l0 k y0 y1) (spec_daPlace.l0 (k + 1) y0 y1))
 | 0 => fun _ _ r h => by simp [spec_daPlace.l0] at h
 | k + 1 => by
  have ih0 := spec_daPlace.mono_l k
  all_goals intros
  all_goals first | unfold spec_daPlace.l0
  all_goals repeat' first
  | (with_reducible exact ih0 _ _)
  | (with_reducible exact LeO.refl _)
  | (with_reducible exact LeO.none _)
  | (with_reducible refine LeO.ite ?_ ?_)
  | (with_reducible refine LeO.bind ?_ (fun _ => ?_))
theorem spec_daPlace.mono : ∀ a0 k, LeO (spec_daPlace.f k a0) (spec_daPlace.f (k + 1) a0) := by
 intro a0 k
 have ih0 := spec_daPlace.mono_l k
 unfold spec_daPlace.f
 repeat' first
   | (with_reducible exact ih0 _ _)
   | (with_reducible exact LeO.refl _)
   | (with_reducible exact LeO.none _)
   | (with_reducible refine LeO.ite ?_ ?_)
   | (with_reducible refine LeO.bind ?_ (fun _ => ?_))
set_option maxHeartbeats 8000000 in
set_option maxRecDepth 100000 in
theorem spec_daPlace.calls (k : Nat) (a0 : Int) (r : Int) (w : World) (h : spec_daPlace.f k a0 = some r) :
  Calls Tryz.prog 122 #[.int .i64 a0] w fun e w' => e = .returned (.int .i64 r) ∧ Below w.heap.size w w' := by
 have HB := aU (Below.refl w.heap.size w)
 have H : (spec_daPlace.l0 k a0 0) = some r := h
 clear h
 have H' := aU H
 clear H
 go_enter Tryz.func122, Tryz.ntmps122
 go_wp2
 go_loopg [3] k (fun kq v3 w' => ∃ (x3_1 : Int), v3 = .int .i64 x3_1 ∧ Aside0 (spec_daPlace.l0 kq a0 x3_1 = some r) ∧ Aside0 (kq ≤ k) ∧ Aside0 (Below w.heap.size w w'))
 case atStart => exact ⟨(0), eqU, H', ⟨Nat.le_refl _⟩, ⟨hbU⟩⟩
 case round =>
  clear H'
  obtain ⟨x3_1, rfl, HA, HK1, HB⟩ := hrel
  cases gk with
  | zero => exact absurd HA.out (by simp [spec_daPlace.l0])
  | succ k1 =>
   have H := HA.out
   clear HA
   simp only [spec_daPlace.l0] at H
   replace H := bindS H
   obtain ⟨t648, A2, H⟩ := H
   (try dsimp only at H)
   replace H := ifS H
   obtain ⟨c3, H⟩ := H
   have c3b0 : decide (0 ≤ x3_1) = true := decide_eq_true c3
   clear c3
   replace H := ifS H
   obtain ⟨c4, H⟩ := H
   have c4b0 : decide (x3_1 < (t648.length : Int)) = true := decide_eq_true c4
   clear c4
   by_cases c5 : (rd t648 x3_1) = a0
   ·rw [if_pos c5] at H
    have c5b0 : ((rd t648 x3_1) == a0) = true := beq_iff_eq.mpr c5
    have c5b1 : ((rd t648 x3_1) != a0) = false := bne_eq_false_iff_eq.mpr c5
    clear c5
    obtain rfl := Option.some.inj H
    go_wp2_with (first | ((with_reducible refine gcU 123 rfl ?_); refine goU (some 4) Tryz.func123 #[] ?_; (with_reducible refine (spec_daRing.calls  t648 _ A2.out).mono ?_); rintro e w6 ⟨v649, rfl, ho0, hb⟩; refine ⟨_, rfl, ?_⟩; have HO650 := aU (Kd.R_lower ho0 (below_size hbU)); replace HB := bsU hb; (try clear ho0 hb); obtain ⟨Ao7, co7, eo7⟩ := Kd.R_slice HO650.out; subst eo7; have p651 : 0 ≤ (x3_1 : Int) := dU; have q651 : x3_1 < (t648.length : Int) := dU; obtain ⟨ad651, e651, hx651_0⟩ := Kd.at_int (Kd.R_reads' HO650.out).2.2 x3_1 p651 q651; cases e651; replace p651 := eq_true p651; replace q651 := eq_true q651))
    go_ret
    exact ⟨errU, hbU⟩
   ·rw [if_neg c5] at H
    have c5b0 : ((rd t648 x3_1) == a0) = false := beq_eq_false_iff_ne.mpr c5
    have c5b1 : ((rd t648 x3_1) != a0) = true := bne_iff_ne.mpr c5
    have H' := aU H
    clear H
    go_wp2_with (first | ((with_reducible refine gcU 123 rfl ?_); refine goU (some 4) Tryz.func123 #[] ?_; (with_reducible refine (spec_daRing.calls  t648 _ A2.out).mono ?_); rintro e w8 ⟨v649, rfl, ho0, hb⟩; refine ⟨_, rfl, ?_⟩; have HO650 := aU (Kd.R_lower ho0 (below_size hbU)); replace HB := bsU hb; (try clear ho0 hb); obtain ⟨Ao9, co9, eo9⟩ := Kd.R_slice HO650.out; subst eo9; have p651 : 0 ≤ (x3_1 : Int) := dU; have q651 : x3_1 < (t648.length : Int) := dU; obtain ⟨ad651, e651, hx651_0⟩ := Kd.at_int (Kd.R_reads' HO650.out).2.2 x3_1 p651 q651; cases e651; replace p651 := eq_true p651; replace q651 := eq_true q651))
    go_roundg k1
    case measure => have := HK1.out; omega
    case rel => exact ⟨(wrap64 (x3_1 + 1)), eqU, H', ⟨by have := HK1.out; omega⟩, ⟨hbU⟩⟩
def spec_BesideOf.f (k : Nat) (a0 : Int) : Option (Int × Int × Bool) := (spec_l1In.f a0 1 20).bind fun t652 => (if t652 = true then ((spec_daPlace.f k a0).bind fun t653 => ((spec_daRing.f).bind fun t654 => (if 0 ≤ (Int.tmod (wrap64 (t653 + 19)) 20) then (if (Int.tmod (wrap64 (t653 + 19)) 20) < (t654.length : Int) then ((spec_daRing.f).bind fun t658 => (if 0 ≤ (Int.tmod (wrap64 (t653 + 1)) 20) then (if (Int.tmod (wrap64 (t653 + 1)) 20) < (t658.length : Int) then (some (rd t654 (Int.tmod (wrap64 (t653 + 19)) 20), rd t658 (Int.tmod (wrap64 (t653 + 1)) 20), true)) else (none)) else (none))) else (none)) else (none)))) else (some (0, 0, false)))
theorem spec_BesideOf.mono : ∀ a0 k, LeO (spec_BesideOf.f k a0) (spec_BesideOf.f (k + 1) a0) := by
 intro a0 k
 unfold spec_BesideOf.f
 repeat' first
   | (with_reducible exact spec_daPlace.mono _ _)
   | (with_reducible exact LeO.refl _)
   | (with_reducible exact LeO.none _)
   | (with_reducible refine LeO.ite ?_ ?_)
   | (with_reducible refine LeO.bind ?_ (fun _ => ?_))
def spec_BesideOf.T4 : Bool × List (List Nat × List Nat) := (true, [([], []), ([], []), ([1], [1]), ([2], [2]), ([0, 3], [0, 3]), ([4], [4]), ([0], []), ([], []), ([7], [7]), ([8], [8]), ([6, 9], [6, 9]), ([10], [10]), ([5, 6, 0, 1, 2, 3, 4, 5], [5]), ([11, 12, 0, 1, 2, 3, 4, 5, 6, 7, 8, 9, 10, 11, 12], [11]), ([13, 0, 1, 2, 3, 4, 5, 6, 7, 8, 9, 10, 11, 12, 13], [])])
def spec_BesideOf.B4 : List Nat := [0, 0, 2, 6, 15, 31, 1, 0, 128, 384, 961, 1985, 127, 8191, 16383]
theorem spec_BesideOf.tab4 : rtab .any (opsOf Tryz.f64 4) = spec_BesideOf.T4 := by kernel_rfl
theorem spec_BesideOf.bits4 : waitsOk spec_BesideOf.T4.2 spec_BesideOf.B4 = true := by kernel_rfl
set_option maxHeartbeats 8000000 in
set_option maxRecDepth 100000 in
theorem spec_BesideOf.calls (k : Nat) (a0 : Int) (r1 : Int) (r2 : Int) (r3 : Bool) (w : World) (h : spec_BesideOf.f k a0 = some (r1, r2, r3)) :
  Calls Tryz.prog 64 #[.int .i64 a0] w fun e w' => e = .returned (.tuple #[.int .i64 r1, .int .i64 r2, .bool r3]) ∧ Below w.heap.size w w' := by
 have HB := aU (Below.refl w.heap.size w)
 have H : ((spec_l1In.f a0 1 20).bind fun t652 => (if t652 = true then ((spec_daPlace.f k a0).bind fun t653 => ((spec_daRing.f).bind fun t654 => (if 0 ≤ (Int.tmod (wrap64 (t653 + 19)) 20) then (if (Int.tmod (wrap64 (t653 + 19)) 20) < (t654.length : Int) then ((spec_daRing.f).bind fun t658 => (if 0 ≤ (Int.tmod (wrap64 (t653 + 1)) 20) then (if (Int.tmod (wrap64 (t653 + 1)) 20) < (t658.length : Int) then (some (rd t654 (Int.tmod (wrap64 (t653 + 19)) 20), rd t658 (Int.tmod (wrap64 (t653 + 1)) 20), true)) else (none)) else (none))) else (none)) else (none)))) else (some (0, 0, false)))) = some (r1, r2, r3) := h
 clear h
 replace H := bindS H
 obtain ⟨t652, A2, H⟩ := H
 (try dsimp only at H)
 by_cases c3 : t652 = true
 ·subst c3
  rw [if_pos rfl] at H
  replace H := bindS H
  obtain ⟨t653, A4, H⟩ := H
  (try dsimp only at H)
  replace H := bindS H
  obtain ⟨t654, A5, H⟩ := H
  (try dsimp only at H)
  obtain ⟨ji6, hji6⟩ : ∃ j_ : Int, (Int.tmod (wrap64 (t653 + 19)) 20) = j_ := ⟨_, rfl⟩
  replace H : (if 0 ≤ (ji6) then (if (ji6) < (t654.length : Int) then ((spec_daRing.f).bind fun t658 => (if 0 ≤ (Int.tmod (wrap64 (t653 + 1)) 20) then (if (Int.tmod (wrap64 (t653 + 1)) 20) < (t658.length : Int) then (some (rd t654 (ji6), rd t658 (Int.tmod (wrap64 (t653 + 1)) 20), true)) else (none)) else (none))) else (none)) else (none)) = some (r1, r2, r3) := by first | (rw [hji6] at H; exact H) | (simp only [hji6] at H ⊢; exact H)
  (try rw [hji6] at A2)
  (try rw [hji6] at A4)
  (try rw [hji6] at A5)
  replace H := ifS H
  obtain ⟨c7, H⟩ := H
  have c7b0 : decide (0 ≤ (ji6)) = true := decide_eq_true c7
  clear c7
  replace H := ifS H
  obtain ⟨c8, H⟩ := H
  have c8b0 : decide ((ji6) < (t654.length : Int)) = true := decide_eq_true c8
  clear c8
  replace H := bindS H
  obtain ⟨t658, A9, H⟩ := H
  (try dsimp only at H)
  obtain ⟨ji10, hji10⟩ : ∃ j_ : Int, (Int.tmod (wrap64 (t653 + 1)) 20) = j_ := ⟨_, rfl⟩
  replace H : (if 0 ≤ (ji10) then (if (ji10) < (t658.length : Int) then (some (rd t654 (ji6), rd t658 (ji10), true)) else (none)) else (none)) = some (r1, r2, r3) := by first | (rw [hji10] at H; exact H) | (simp only [hji10] at H ⊢; exact H)
  (try rw [hji10] at A2)
  (try rw [hji10] at A4)
  (try rw [hji10] at A5)
  (try rw [hji10] at A9)
  replace H := ifS H
  obtain ⟨c11, H⟩ := H
  have c11b0 : decide (0 ≤ (ji10)) = true := decide_eq_true c11
  clear c11
  replace H := ifS H
  obtain ⟨c12, H⟩ := H
  have c12b0 : decide ((ji10) < (t658.length : Int)) = true := decide_eq_true c12
  clear c12
  simp only [Option.some.injEq, Prod.mk.injEq] at H
  obtain ⟨rfl, rfl, rfl⟩ := H
  go_enter Tryz.func64, Tryz.ntmps64
  try go_wp2_with (first | ((with_reducible refine gcU 96 rfl ?_); refine goU (some 7) Tryz.func96 #[.int .i64 a0, .int .i64 1, .int .i64 20] ?_; (with_reducible refine (spec_l1In.calls a0 1 20 true _ A2.out).mono ?_); rintro e w' ⟨rfl, ⟨nd, rfl⟩⟩; refine ⟨_, rfl, ?_⟩) | ((with_reducible refine gcU 122 rfl ?_); refine goU (some 10) Tryz.func122 #[.int .i64 a0] ?_; (with_reducible refine (spec_daPlace.calls k a0 t653 _ A4.out).mono ?_); rintro e w13 ⟨rfl, hb⟩; refine ⟨_, rfl, ?_⟩; replace HB := bsU hb; (try clear hb)))
  replace HB := aU (below_drew1 HB.out)
  refine start_ (n := 15) (S := fun _ => True) (ds := []) #[false, false, false, false, false, false, false, false, false, false, false, false, false, false, false] (by kernel_rfl) rfl rfl trivial (fun hHeld => ?_); refine with_tabW spec_BesideOf.tab4 spec_BesideOf.bits4 (fun HT_ HW_ => ?_)
  generalize w13.drew = w14 at HB hHeld ⊢
  refine puU 1 12 HT_ ?_
  refine puU 2 13 HT_ ?_
  refine puU 3 14 HT_ ?_
  refine puU 7 18 HT_ ?_
  refine puU 8 19 HT_ ?_
  refine puU 9 20 HT_ ?_
  refine onU 0 (some 11) HT_ (fun K hK => ?_)
  refine goes_ Tryz.func123 (by kernel_rfl) rfl #[] (by rfl) rfl rfl arU ?_
  with_reducible refine (spec_daRing.calls  t654 _ A5.out).mono ?_
  rintro e w15 ⟨v655, rfl, ho0, hb⟩
  refine ⟨_, rfl, ?_⟩
  have HO656 := aU (Kd.R_lower ho0 (below_size hbU))
  replace HB := bsU hb
  (try clear hb); (try clear ho0 ho0)
  obtain ⟨Ao16, co16, eo16⟩ := Kd.R_slice HO656.out
  (first | subst eo16 | (injection eo16 with f1_ f2_ f3_; have f4_ := f1_.symm; have f5_ := f3_.symm; clear f1_ f2_ f3_; subst f4_; subst f5_))
  have p657 : 0 ≤ ((ji6) : Int) := dU
  have q657 : (ji6) < (t654.length : Int) := dU
  obtain ⟨ad657, e657, hx657_0⟩ := Kd.at_int (Kd.R_reads' HO656.out).2.2 (ji6) p657 q657
  cases e657
  replace p657 := eq_true p657
  replace q657 := eq_true q657
  refine hK.out _ _ trivial (fun hHeld => ?_)
  clear hK K
  refine nmU 11 ?_
  refine puU 4 15 HT_ ?_
  refine two_ (i := 5) (j := 6) (Ni := some 16) (Nj := some 17) #[true, true, true, true, true, true, false, true, true, true, false, false, false, false, false] #[true, true, true, true, true, false, true, true, true, true, false, false, false, false, false] rfl rfl rfl rfl (two_of HT_.out (by kernel_rfl)) (by decide) (by decide) (fun K hK => ?_) (fun K hK => ?_)
  ·refine value_ (by rfl) rfl (by go_simp; first | exact ⟨rfl, rfl⟩ | rfl) ?_
   refine hK.out _ _ trivial (fun hHeld => ?_)
   clear hK K
   refine nmU 16 ?_
   refine onU 6 (some 17) HT_ (fun K hK => ?_)
   refine goes_ Tryz.func123 (by kernel_rfl) rfl #[] (by rfl) rfl rfl arU ?_
   with_reducible refine (spec_daRing.calls  t658 _ A9.out).mono ?_
   rintro e w17 ⟨v659, rfl, ho0, hb⟩
   replace hx657_0 := (hb.cell (World.block_lt_of_cell? _ _ hx657_0)).trans hx657_0
   refine ⟨_, rfl, ?_⟩
   have HO660 := aU (Kd.R_lower (Kd.R_new' ho0 (Kd.R_lt (roU HO656))) (below_size hbU))
   replace HO656 := aU (Kd.R_elder' (roU HO656) (Kd.R_base ho0) hb)
   replace HB := bsU hb
   (try clear hb); (try clear ho0 ho0 ho0)
   obtain ⟨Ao18, co18, eo18⟩ := Kd.R_slice HO660.out
   (first | subst eo18 | (injection eo18 with f1_ f2_ f3_; have f4_ := f1_.symm; have f5_ := f3_.symm; clear f1_ f2_ f3_; subst f4_; subst f5_))
   have p661 : 0 ≤ ((ji10) : Int) := dU
   have q661 : (ji10) < (t658.length : Int) := dU
   obtain ⟨ad661, e661, hx661_0⟩ := Kd.at_int (Kd.R_reads' HO660.out).2.2 (ji10) p661 q661
   cases e661
   replace p661 := eq_true p661
   replace q661 := eq_true q661
   refine hK.out _ _ trivial (fun hHeld => ?_)
   clear hK K
   refine nmU 17 ?_
   refine puU 10 21 HT_ ?_
   refine puU 12 2 HT_ ?_
   refine onU 11 (some 22) HT_ (fun K hK => ?_)
   refine value_ (by rfl) rfl (by go_simp; first | exact ⟨rfl, rfl⟩ | rfl) ?_
   refine hK.out _ _ trivial (fun hHeld => ?_)
   clear hK K
   refine nmU 22 ?_
   refine puU 13 3 HT_ ?_
   refine puU 14 4 HT_ ?_
   refine dnU HT_ ?_
   try go_wp2
   go_ret3
   exact ⟨by first | rfl | (simp [errW_none, errW_some] <;> rfl) | (simp only [← hji6, ← hji10]; first | rfl | (simp [errW_none, errW_some] <;> rfl)) | (simp [*, errW_none, errW_some] <;> rfl), hbU⟩
  ·refine goes_ Tryz.func123 (by kernel_rfl) rfl #[] (by rfl) rfl rfl arU ?_
   with_reducible refine (spec_daRing.calls  t658 _ A9.out).mono ?_
   rintro e w17 ⟨v659, rfl, ho0, hb⟩
   replace hx657_0 := (hb.cell (World.block_lt_of_cell? _ _ hx657_0)).trans hx657_0
   refine ⟨_, rfl, ?_⟩
   have HO660 := aU (Kd.R_lower (Kd.R_new' ho0 (Kd.R_lt (roU HO656))) (below_size hbU))
   replace HO656 := aU (Kd.R_elder' (roU HO656) (Kd.R_base ho0) hb)
   replace HB := bsU hb
   (try clear hb); (try clear ho0 ho0 ho0)
   obtain ⟨Ao18, co18, eo18⟩ := Kd.R_slice HO660.out
   (first | subst eo18 | (injection eo18 with f1_ f2_ f3_; have f4_ := f1_.symm; have f5_ := f3_.symm; clear f1_ f2_ f3_; subst f4_; subst f5_))
   have p661 : 0 ≤ ((ji10) : Int) := dU
   have q661 : (ji10) < (t658.length : Int) := dU
   obtain ⟨ad661, e661, hx661_0⟩ := Kd.at_int (Kd.R_reads' HO660.out).2.2 (ji10) p661 q661
   cases e661
   replace p661 := eq_true p661
   replace q661 := eq_true q661
   refine hK.out _ _ trivial (fun hHeld => ?_)
   clear hK K
   refine nmU 17 ?_
   refine puU 10 21 HT_ ?_
   refine two_ (i := 5) (j := 11) (Ni := some 16) (Nj := some 22) #[true, true, true, true, true, true, true, true, true, true, true, false, false, false, false] #[true, true, true, true, true, false, true, true, true, true, true, true, false, false, false] rfl rfl rfl rfl (two_of HT_.out (by kernel_rfl)) (by decide) (by decide) (fun K hK => ?_) (fun K hK => ?_)
   ·refine value_ (by rfl) rfl (by go_simp; first | exact ⟨rfl, rfl⟩ | rfl) ?_
    refine hK.out _ _ trivial (fun hHeld => ?_)
    clear hK K
    refine nmU 16 ?_
    refine puU 12 2 HT_ ?_
    refine onU 11 (some 22) HT_ (fun K hK => ?_)
    refine value_ (by rfl) rfl (by go_simp; first | exact ⟨rfl, rfl⟩ | rfl) ?_
    refine hK.out _ _ trivial (fun hHeld => ?_)
    clear hK K
    refine nmU 22 ?_
    refine puU 13 3 HT_ ?_
    refine puU 14 4 HT_ ?_
    refine dnU HT_ ?_
    try go_wp2
    go_ret3
    exact ⟨by first | rfl | (simp [errW_none, errW_some] <;> rfl) | (simp only [← hji6, ← hji10]; first | rfl | (simp [errW_none, errW_some] <;> rfl)) | (simp [*, errW_none, errW_some] <;> rfl), hbU⟩
   ·refine value_ (by rfl) rfl (by go_simp; first | exact ⟨rfl, rfl⟩ | rfl) ?_
    refine hK.out _ _ trivial (fun hHeld => ?_)
    clear hK K
    refine nmU 22 ?_
    refine onU 5 (some 16) HT_ (fun K hK => ?_)
    refine value_ (by rfl) rfl (by go_simp; first | exact ⟨rfl, rfl⟩ | rfl) ?_
    refine hK.out _ _ trivial (fun hHeld => ?_)
    clear hK K
    refine nmU 16 ?_
    refine puU 12 2 HT_ ?_
    refine puU 13 3 HT_ ?_
    refine puU 14 4 HT_ ?_
    refine dnU HT_ ?_
    try go_wp2
    go_ret3
    exact ⟨by first | rfl | (simp [errW_none, errW_some] <;> rfl) | (simp only [← hji6, ← hji10]; first | rfl | (simp [errW_none, errW_some] <;> rfl)) | (simp [*, errW_none, errW_some] <;> rfl), hbU⟩
 ·replace c3 := Bool.eq_false_iff.mpr c3
  subst c3
  rw [if_neg (show ¬ (false = true) by decide)] at H
  simp only [Option.some.injEq, Prod.mk.injEq] at H
  obtain ⟨rfl, rfl, rfl⟩ := H
  go_enter Tryz.func64, Tryz.ntmps64
  go_wp2_with (first | ((with_reducible refine gcU 96 rfl ?_); refine goU (some 7) Tryz.func96 #[.int .i64 a0, .int .i64 1, .int .i64 20] ?_; (with_reducible refine (spec_l1In.calls a0 1 20 false _ A2.out).mono ?_); rintro e w' ⟨rfl, ⟨nd, rfl⟩⟩; refine ⟨_, rfl, ?_⟩))
  go_ret3
  exact ⟨errU, hbU⟩
def spec_DrawStepsAround.f (l0 : List Int) : Option (Int × Int) := (spec_l1Cur_pick.f l0 0 0 22).bind fun bt663 => ((spec_l1Cur_pick.f l0 bt663.2.1 bt663.2.2 22).bind fun bt666 => (some (bt663.1, bt666.1)))
set_option maxHeartbeats 8000000 in
set_option maxRecDepth 100000 in
theorem spec_DrawStepsAround.calls (A0 : Option Addr) (c0 : Nat) (l0 : List Int) (r1 : Int) (r2 : Int) (w : World) (hr0 : Kd.C (Kd.int .u8) w A0 l0.length l0) (hc0 : l0.length ≤ c0) (h : spec_DrawStepsAround.f l0 = some (r1, r2)) :
  Calls Tryz.prog 65 #[.slice A0 l0.length c0] w fun e w' => e = .returned (.tuple #[.int .i64 r1, .int .i64 r2]) ∧ Below w.heap.size w w' := by
 have hu78 := Tryz.underlying78
 have HR0 := aU hr0
 have HC0 := aU hc0
 clear hr0 hc0
 have HB := aU (Below.refl w.heap.size w)
 have H : ((spec_l1Cur_pick.f l0 0 0 22).bind fun bt663 => ((spec_l1Cur_pick.f l0 bt663.2.1 bt663.2.2 22).bind fun bt666 => (some (bt663.1, bt666.1)))) = some (r1, r2) := h
 clear h
 replace H := bindS H
 obtain ⟨⟨t663, t664, t665⟩, A2, H⟩ := H
 (try dsimp only at H)
 replace H := bindS H
 obtain ⟨⟨t666, t667, t668⟩, A3, H⟩ := H
 (try dsimp only at H)
 simp only [Option.some.injEq, Prod.mk.injEq] at H
 obtain ⟨rfl, rfl⟩ := H
 go_enter Tryz.func65, Tryz.ntmps65
 go_wp2_with (first | ((with_reducible refine gdU 7 rfl ?_); refine bxU (cs := #[.slice A0 l0.length c0, .int .i64 0, .int .u64 0]) (t := 78) ?_; intro gb662 hg w4 hbox hb; have HI662 := aU ((⟨_, _, hbox, (by rw [hg]; exact (below_size hbU) : w.heap.size ≤ gb662), HR0.out⟩ : IsS78 w w4 gb662 l0 0 0)); have GW662 := geU hg; have GE662 := geU hg; replace HB := bsU hb; clear hb hbox hg) | ((with_reducible refine gcU 92 rfl ?_); refine goU (some 9) Tryz.func92 #[.pointer (some ⟨gb662, 0, none⟩), .int .i64 22] ?_; (with_reducible refine (spec_l1Cur_pick.calls gb662 l0 0 0 22 t663 t664 t665 w _ ?side1 ?side2 A2.out).mono ?_); (case side1 => exact isU HI662); (case side2 => exact hbU); rintro e w5 ⟨rfl, hi, hb, hk⟩; refine ⟨_, rfl, ?_⟩; replace HB := aU (hb); replace HI662 := aU (hi); (try clear hi hb hk)) | ((with_reducible refine gcU 92 rfl ?_); refine goU (some 11) Tryz.func92 #[.pointer (some ⟨gb662, 0, none⟩), .int .i64 22] ?_; (with_reducible refine (spec_l1Cur_pick.calls gb662 l0 t664 t665 22 t666 t667 t668 w _ ?side1 ?side2 A3.out).mono ?_); (case side1 => exact isU HI662); (case side2 => exact hbU); rintro e w6 ⟨rfl, hi, hb, hk⟩; refine ⟨_, rfl, ?_⟩; replace HB := aU (hb); replace HI662 := aU (hi); (try clear hi hb hk)))
 go_ret2
 exact ⟨errU, hbU⟩
def impl_StepsAround.f (k : Nat) (a0 : Int) (a1 : Int) : Option (Int × Bool) := (impl_ring.f).bind fun t669 => ((slices_Index_int_int.f k t669 a0).bind fun t672 => ((impl_ring.f).bind fun t673 => ((slices_Index_int_int.f k t673 a1).bind fun t676 => (if t672 < 0 then (some (0, false)) else (if t676 < 0 then (some (0, false)) else (some (mn (Int.tmod (wrap64 ((wrap64 (t672 - t676)) + 20)) 20) (wrap64 (20 - (Int.tmod (wrap64 ((wrap64 (t672 - t676)) + 20)) 20))), true)))))))
theorem impl_StepsAround.mono : ∀ a0 a1 k, LeO (impl_StepsAround.f k a0 a1) (impl_StepsAround.f (k + 1) a0 a1) := by
 intro a0 a1 k
 unfold impl_StepsAround.f
 repeat' first
   | (with_reducible exact slices_Index_int_int.mono _ _ _)
   | (with_reducible exact LeO.refl _)
   | (with_reducible exact LeO.none _)
   | (with_reducible refine LeO.ite ?_ ?_)
   | (with_reducible refine LeO.bind ?_ (fun _ => ?_))
set_option maxHeartbeats 8000000 in
set_option maxRecDepth 100000 in
theorem impl_StepsAround.calls (k : Nat) (a0 : Int) (a1 : Int) (r1 : Int) (r2 : Bool) (w : World) (h : impl_StepsAround.f k a0 a1 = some (r1, r2)) :
  Calls Tryz.prog 66 #[.int .i64 a0, .int .i64 a1] w fun e w' => e = .returned (.tuple #[.int .i64 r1, .bool r2]) ∧ Below w.heap.size w w' := by
 have HB := aU (Below.refl w.heap.size w)
 have H : ((impl_ring.f).bind fun t669 => ((slices_Index_int_int.f k t669 a0).bind fun t672 => ((impl_ring.f).bind fun t673 => ((slices_Index_int_int.f k t673 a1).bind fun t676 => (if t672 < 0 then (some (0, false)) else (if t676 < 0 then (some (0, false)) else (some (mn (Int.tmod (wrap64 ((wrap64 (t672 - t676)) + 20)) 20) (wrap64 (20 - (Int.tmod (wrap64 ((wrap64 (t672 - t676)) + 20)) 20))), true)))))))) = some (r1, r2) := h
 clear h
 replace H := bindS H
 obtain ⟨t669, A3, H⟩ := H
 (try dsimp only at H)
 replace H := bindS H
 obtain ⟨t672, A4, H⟩ := H
 (try dsimp only at H)
 replace H := bindS H
 obtain ⟨t673, A5, H⟩ := H
 (try dsimp only at H)
 replace H := bindS H
 obtain ⟨t676, A6, H⟩ := H
 (try dsimp only at H)
 by_cases c7 : t672 < 0
 ·rw [if_pos c7] at H
  have c7b0 : decide (t672 < 0) = true := decide_eq_true c7
  clear c7
  simp only [Option.some.injEq, Prod.mk.injEq] at H
  obtain ⟨rfl, rfl⟩ := H
  go_enter Tryz.func66, Tryz.ntmps66
  go_wp2_with (first | ((with_reducible refine gcU 121 rfl ?_); refine goU (some 9) Tryz.func121 #[] ?_; (with_reducible refine (impl_ring.calls  t669 _ A3.out).mono ?_); rintro e w8 ⟨v670, rfl, ho0, hb⟩; refine ⟨_, rfl, ?_⟩; have HO671 := aU (Kd.R_lower ho0 (below_size hbU)); replace HB := bsU hb; (try clear ho0 hb); obtain ⟨Ao9, co9, eo9⟩ := Kd.R_slice HO671.out; subst eo9) | ((with_reducible refine gcU 120 rfl ?_); refine goU (some 11) Tryz.func120 #[.slice Ao9 t669.length co9, .int .i64 a0] ?_; (with_reducible refine (slices_Index_int_int.calls k _ _ t669 a0 t672 _ ?side1 ?side2 A4.out).mono ?_); (case side1 => exact rcU HO671); (case side2 => exact (Kd.R_reads' HO671.out).2.1); rintro e w' ⟨rfl, ⟨nd, rfl⟩⟩; refine ⟨_, rfl, ?_⟩) | ((with_reducible refine gcU 121 rfl ?_); refine goU (some 12) Tryz.func121 #[] ?_; (with_reducible refine (impl_ring.calls  t673 _ A5.out).mono ?_); rintro e w10 ⟨v674, rfl, ho0, hb⟩; refine ⟨_, rfl, ?_⟩; have HO675 := aU (Kd.R_lower (Kd.R_new' ho0 (Kd.R_lt (roU HO671))) (below_size hbU)); replace HO671 := aU (Kd.R_elder' (roU HO671) (Kd.R_base ho0) hb); replace HB := bsU hb; (try clear ho0 hb); obtain ⟨Ao11, co11, eo11⟩ := Kd.R_slice HO675.out; subst eo11) | ((with_reducible refine gcU 120 rfl ?_); refine goU (some 14) Tryz.func120 #[.slice Ao11 t673.length co11, .int .i64 a1] ?_; (with_reducible refine (slices_Index_int_int.calls k _ _ t673 a1 t676 _ ?side1 ?side2 A6.out).mono ?_); (case side1 => exact rcU HO675); (case side2 => exact (Kd.R_reads' HO675.out).2.1); rintro e w' ⟨rfl, ⟨nd, rfl⟩⟩; refine ⟨_, rfl, ?_⟩))
  go_ret2
  exact ⟨errU, hbU⟩
 ·rw [if_neg c7] at H
  have c7b0 : decide (t672 < 0) = false := decide_eq_false c7
  clear c7
  by_cases c12 : t676 < 0
  ·rw [if_pos c12] at H
   have c12b0 : decide (t676 < 0) = true := decide_eq_true c12
   clear c12
   simp only [Option.some.injEq, Prod.mk.injEq] at H
   obtain ⟨rfl, rfl⟩ := H
   go_enter Tryz.func66, Tryz.ntmps66
   go_wp2_with (first | ((with_reducible refine gcU 121 rfl ?_); refine goU (some 9) Tryz.func121 #[] ?_; (with_reducible refine (impl_ring.calls  t669 _ A3.out).mono ?_); rintro e w13 ⟨v670, rfl, ho0, hb⟩; refine ⟨_, rfl, ?_⟩; have HO671 := aU (Kd.R_lower ho0 (below_size hbU)); replace HB := bsU hb; (try clear ho0 hb); obtain ⟨Ao14, co14, eo14⟩ := Kd.R_slice HO671.out; subst eo14) | ((with_reducible refine gcU 120 rfl ?_); refine goU (some 11) Tryz.func120 #[.slice Ao14 t669.length co14, .int .i64 a0] ?_; (with_reducible refine (slices_Index_int_int.calls k _ _ t669 a0 t672 _ ?side1 ?side2 A4.out).mono ?_); (case side1 => exact rcU HO671); (case side2 => exact (Kd.R_reads' HO671.out).2.1); rintro e w' ⟨rfl, ⟨nd, rfl⟩⟩; refine ⟨_, rfl, ?_⟩) | ((with_reducible refine gcU 121 rfl ?_); refine goU (some 12) Tryz.func121 #[] ?_; (with_reducible refine (impl_ring.calls  t673 _ A5.out).mono ?_); rintro e w15 ⟨v674, rfl, ho0, hb⟩; refine ⟨_, rfl, ?_⟩; have HO675 := aU (Kd.R_lower (Kd.R_new' ho0 (Kd.R_lt (roU HO671))) (below_size hbU)); replace HO671 := aU (Kd.R_elder' (roU HO671) (Kd.R_base ho0) hb); replace HB := bsU hb; (try clear ho0 hb); obtain ⟨Ao16, co16, eo16⟩ := Kd.R_slice HO675.out; subst eo16) | ((with_reducible refine gcU 120 rfl ?_); refine goU (some 14) Tryz.func120 #[.slice Ao16 t673.length co16, .int .i64 a1] ?_; (with_reducible refine (slices_Index_int_int.calls k _ _ t673 a1 t676 _ ?side1 ?side2 A6.out).mono ?_); (case side1 => exact rcU HO675); (case side2 => exact (Kd.R_reads' HO675.out).2.1); rintro e w' ⟨rfl, ⟨nd, rfl⟩⟩; refine ⟨_, rfl, ?_⟩))
   go_ret2
   exact ⟨errU, hbU⟩
  ·rw [if_neg c12] at H
   have c12b0 : decide (t676 < 0) = false := decide_eq_false c12
   clear c12
   obtain ⟨ji17, hji17⟩ : ∃ j_ : Int, (mn (Int.tmod (wrap64 ((wrap64 (t672 - t676)) + 20)) 20) (wrap64 (20 - (Int.tmod (wrap64 ((wrap64 (t672 - t676)) + 20)) 20)))) = j_ := ⟨_, rfl⟩
   replace H : (some (ji17, true)) = some (r1, r2) := by first | (rw [hji17] at H; exact H) | (simp only [hji17] at H ⊢; exact H)
   (try rw [hji17] at A3)
   (try rw [hji17] at A4)
   (try rw [hji17] at A5)
   (try rw [hji17] at A6)
   have hji17_ : (if (wrap64 (20 - (Int.tmod (wrap64 ((wrap64 (t672 - t676)) + 20)) 20))) < (Int.tmod (wrap64 ((wrap64 (t672 - t676)) + 20)) 20) then (wrap64 (20 - (Int.tmod (wrap64 ((wrap64 (t672 - t676)) + 20)) 20))) else (Int.tmod (wrap64 ((wrap64 (t672 - t676)) + 20)) 20)) = ji17 := hji17
   simp only [Option.some.injEq, Prod.mk.injEq] at H
   obtain ⟨rfl, rfl⟩ := H
   go_enter Tryz.func66, Tryz.ntmps66
   go_wp2_with (first | ((with_reducible refine gcU 121 rfl ?_); refine goU (some 9) Tryz.func121 #[] ?_; (with_reducible refine (impl_ring.calls  t669 _ A3.out).mono ?_); rintro e w18 ⟨v670, rfl, ho0, hb⟩; refine ⟨_, rfl, ?_⟩; have HO671 := aU (Kd.R_lower ho0 (below_size hbU)); replace HB := bsU hb; (try clear ho0 hb); obtain ⟨Ao19, co19, eo19⟩ := Kd.R_slice HO671.out; subst eo19) | ((with_reducible refine gcU 120 rfl ?_); refine goU (some 11) Tryz.func120 #[.slice Ao19 t669.length co19, .int .i64 a0] ?_; (with_reducible refine (slices_Index_int_int.calls k _ _ t669 a0 t672 _ ?side1 ?side2 A4.out).mono ?_); (case side1 => exact rcU HO671); (case side2 => exact (Kd.R_reads' HO671.out).2.1); rintro e w' ⟨rfl, ⟨nd, rfl⟩⟩; refine ⟨_, rfl, ?_⟩) | ((with_reducible refine gcU 121 rfl ?_); refine goU (some 12) Tryz.func121 #[] ?_; (with_reducible refine (impl_ring.calls  t673 _ A5.out).mono ?_); rintro e w20 ⟨v674, rfl, ho0, hb⟩; refine ⟨_, rfl, ?_⟩; have HO675 := aU (Kd.R_lower (Kd.R_new' ho0 (Kd.R_lt (roU HO671))) (below_size hbU)); replace HO671 := aU (Kd.R_elder' (roU HO671) (Kd.R_base ho0) hb); replace HB := bsU hb; (try clear ho0 hb); obtain ⟨Ao21, co21, eo21⟩ := Kd.R_slice HO675.out; subst eo21) | ((with_reducible refine gcU 120 rfl ?_); refine goU (some 14) Tryz.func120 #[.slice Ao21 t673.length co21, .int .i64 a1] ?_; (with_reducible refine (slices_Index_int_int.calls k _ _ t673 a1 t676 _ ?side1 ?side2 A6.out).mono ?_); (case side1 => exact rcU HO675); (case side2 => exact (Kd.R_reads' HO675.out).2.1); rintro e w' ⟨rfl, ⟨nd, rfl⟩⟩; refine ⟨_, rfl, ?_⟩))
   go_ret2
   exact ⟨by first | rfl | (simp [errW_none, errW_some] <;> rfl) | (simp only [← hji17]; first | rfl | (simp [errW_none, errW_some] <;> rfl)) | (simp [*, errW_none, errW_some] <;> rfl), hbU⟩
def spec_l1Most.f (a0 : Int) (a1 : Int) : Option (Int) := if a0 > a1 then (some a0) else (some a1)
set_option maxHeartbeats 8000000 in
set_option maxRecDepth 100000 in
theorem spec_l1Most.calls (a0 : Int) (a1 : Int) (r : Int) (w : World) (h : spec_l1Most.f a0 a1 = some r) :
  Calls Tryz.prog 148 #[.int .i64 a0, .int .i64 a1] w fun e w' => e = .returned (.int .i64 r) ∧ Drawn0 w w' := by
 have H : (if a0 > a1 then (some a0) else (some a1)) = some r := h
 clear h
 by_cases c3 : a0 > a1
 ·rw [if_pos c3] at H
  have c3b0 : decide (a1 < a0) = true := decide_eq_true c3
  clear c3
  obtain rfl := Option.some.inj H
  go_enter Tryz.func148, Tryz.ntmps148
  go_wp2
  go_ret
  exact ⟨by first | rfl | (simp; done) | (simp [*]; done), by repeat (first | exact Drawn0.refl _ | apply Drawn0.step)⟩
 ·rw [if_neg c3] at H
  have c3b0 : decide (a1 < a0) = false := decide_eq_false c3
  clear c3
  obtain rfl := Option.some.inj H
  go_enter Tryz.func148, Tryz.ntmps148
  go_wp2
  go_ret
  exact ⟨by first | rfl | (simp; done) | (simp [*]; done), by repeat (first | exact Drawn0.refl _ | apply Drawn0.step)⟩
def spec_l1Abs.f (a0 : Int) : Option (Int) := (spec_l1Most.f a0 (wrap64 (-a0))).bind fun t677 => (some t677)
set_option maxHeartbeats 8000000 in
set_option maxRecDepth 100000 in
theorem spec_l1Abs.calls (a0 : Int) (r : Int) (w : World) (h : spec_l1Abs.f a0 = some r) :
  Calls Tryz.prog 124 #[.int .i64 a0] w fun e w' => e = .returned (.int .i64 r) ∧ Drawn0 w w' := by
 have H : ((spec_l1Most.f a0 (wrap64 (-a0))).bind fun t677 => (some t677)) = some r := h
 clear h
 replace H := bindS H
 obtain ⟨t677, A2, H⟩ := H
 (try dsimp only at H)
 obtain rfl := Option.some.inj H
 go_enter Tryz.func124, Tryz.ntmps124
 go_wp2_with (first | ((with_reducible refine gcU 148 rfl ?_); refine goU (some 6) Tryz.func148 #[.int .i64 a0, .int .i64 (wrap64 (-a0))] ?_; (with_reducible refine (spec_l1Most.calls a0 (wrap64 (-a0)) t677 _ A2.out).mono ?_); rintro e w' ⟨rfl, ⟨nd, rfl⟩⟩; refine ⟨_, rfl, ?_⟩))
 go_ret
 exact ⟨by first | rfl | (simp; done) | (simp [*]; done), by repeat (first | exact Drawn0.refl _ | apply Drawn0.step)⟩
def spec_StepsAround.j0 : Nat → Int → Int → Bool → Option (Int × Bool)
 | 0, _, _, _ => none
 | k + 1, x0, x1, x14 => if x14 = true then (some (0, false)) else ((spec_daPlace.f k x0).bind fun t680 => ((spec_daPlace.f k x1).bind fun t681 => ((spec_l1Abs.f (wrap64 (t680 - t681))).bind fun t682 => ((spec_l1Least.f t682 (wrap64 (20 - t682))).bind fun t683 => (some (t683, true))))))
def spec_StepsAround.f (k : Nat) (a0 : Int) (a1 : Int) : Option (Int × Bool) := (spec_l1In.f a0 1 20).bind fun t678 => (if t678 = true then ((spec_l1In.f a1 1 20).bind fun t679 => (spec_StepsAround.j0 k a0 a1 (!t679))) else (spec_StepsAround.j0 k a0 a1 true))
theorem spec_StepsAround.mono_l : ∀ k, (∀ y0 y1 y2, LeO (spec_StepsAround.j0 k y0 y1 y2) (spec_StepsAround.j0 (k + 1) y0 y1 y2))
 | 0 => fun _ _ _ r h => by simp [spec_StepsAround.j0] at h
 | k + 1 => by
  have ih0 := spec_StepsAround.mono_l k
  all_goals intros
  all_goals first | unfold spec_StepsAround.j0
  all_goals repeat' first
  | (with_reducible exact ih0 _ _ _)
  | (with_reducible exact spec_daPlace.mono _ _)
  | (with_reducible exact LeO.refl _)
  | (with_reducible exact LeO.none _)
  | (with_reducible refine LeO.ite ?_ ?_)
  | (with_reducible refine LeO.bind ?_ (fun _ => ?_))
theorem spec_StepsAround.mono : ∀ a0 a1 k, LeO (spec_StepsAround.f k a0 a1) (spec_StepsAround.f (k + 1) a0 a1) := by
 intro a0 a1 k
 have ih0 := spec_StepsAround.mono_l k
 unfold spec_StepsAround.f
 repeat' first
   | (with_reducible exact ih0 _ _ _)
   | (with_reducible exact spec_daPlace.mono _ _)
   | (with_reducible exact LeO.refl _)
   | (with_reducible exact LeO.none _)
   | (with_reducible refine LeO.ite ?_ ?_)
   | (with_reducible refine LeO.bind ?_ (fun _ => ?_))
set_option maxHeartbeats 8000000 in
set_option maxRecDepth 100000 in
theorem spec_StepsAround.calls (k : Nat) (a0 : Int) (a1 : Int) (r1 : Int) (r2 : Bool) (w : World) (h : spec_StepsAround.f k a0 a1 = some (r1, r2)) :
  Calls Tryz.prog 67 #[.int .i64 a0, .int .i64 a1] w fun e w' => e = .returned (.tuple #[.int .i64 r1, .bool r2]) ∧ Below w.heap.size w w' := by
 have HB := aU (Below.refl w.heap.size w)
 have H : ((spec_l1In.f a0 1 20).bind fun t678 => (if t678 = true then ((spec_l1In.f a1 1 20).bind fun t679 => (spec_StepsAround.j0 k a0 a1 (!t679))) else (spec_StepsAround.j0 k a0 a1 true))) = some (r1, r2) := h
 clear h
 have HC3 := aU H
 clear H
 go_enter Tryz.func67, Tryz.ntmps67
 go_upto_region 1 with (fail)
 go_cut [14] (fun v14 wc => ∃ (kq : Nat) (x14_2 : Bool), v14 = .bool x14_2 ∧ Aside0 (spec_StepsAround.j0 kq a0 a1 x14_2 = some (r1, r2)) ∧ Aside0 (kq ≤ k) ∧ Aside0 (Below w.heap.size w wc))
 case first =>
  have H := HC3.out
  clear HC3
  replace H := bindS H
  obtain ⟨t678, A4, H⟩ := H
  (try dsimp only at H)
  by_cases c5 : t678 = true
  ·subst c5
   rw [if_pos rfl] at H
   replace H := bindS H
   obtain ⟨t679, A6, H⟩ := H
   (try dsimp only at H)
   have H' := aU H
   clear H
   go_wp2_with (first | ((with_reducible refine gcU 96 rfl ?_); refine goU (some 8) Tryz.func96 #[.int .i64 a0, .int .i64 1, .int .i64 20] ?_; (with_reducible refine (spec_l1In.calls a0 1 20 true _ A4.out).mono ?_); rintro e w' ⟨rfl, ⟨nd, rfl⟩⟩; refine ⟨_, rfl, ?_⟩) | (go_at_call 96; (with_reducible refine (spec_l1In.calls a1 1 20 t679 _ A6.out).mono ?_); rintro e w' ⟨rfl, ⟨nd, rfl⟩⟩))
   go_meet
   case rel => exact ⟨_, (!t679), eqU, H', ⟨by first | omega | exact Nat.le_refl _⟩, ⟨hbU⟩⟩
  ·replace c5 := Bool.eq_false_iff.mpr c5
   subst c5
   rw [if_neg (show ¬ (false = true) by decide)] at H
   have H' := aU H
   clear H
   go_wp2_with (first | ((with_reducible refine gcU 96 rfl ?_); refine goU (some 8) Tryz.func96 #[.int .i64 a0, .int .i64 1, .int .i64 20] ?_; (with_reducible refine (spec_l1In.calls a0 1 20 false _ A4.out).mono ?_); rintro e w' ⟨rfl, ⟨nd, rfl⟩⟩; refine ⟨_, rfl, ?_⟩))
   go_meet
   case rel => exact ⟨_, (true), eqU, H', ⟨by first | omega | exact Nat.le_refl _⟩, ⟨hbU⟩⟩
 case rest =>
  clear HC3
  obtain ⟨kq, x14_2, rfl, HA, HJ2, HB⟩ := hcut
  cases kq with
  | zero => exact absurd HA.out (by simp [spec_StepsAround.j0])
  | succ kj2 =>
   have H := HA.out
   clear HA
   simp only [spec_StepsAround.j0] at H
   by_cases c7 : x14_2 = true
   ·subst c7
    rw [if_pos rfl] at H
    simp only [Option.some.injEq, Prod.mk.injEq] at H
    obtain ⟨rfl, rfl⟩ := H
    go_wp2
    go_ret2
    exact ⟨errU, hbU⟩
   ·replace c7 := Bool.eq_false_iff.mpr c7
    subst c7
    rw [if_neg (show ¬ (false = true) by decide)] at H
    replace H := bindS H
    obtain ⟨t680, A8, H⟩ := H
    (try dsimp only at H)
    replace H := bindS H
    obtain ⟨t681, A9, H⟩ := H
    (try dsimp only at H)
    replace H := bindS H
    obtain ⟨t682, A10, H⟩ := H
    (try dsimp only at H)
    replace H := bindS H
    obtain ⟨t683, A11, H⟩ := H
    (try dsimp only at H)
    simp only [Option.some.injEq, Prod.mk.injEq] at H
    obtain ⟨rfl, rfl⟩ := H
    go_wp2_with (first | ((with_reducible refine gcU 122 rfl ?_); refine goU (some 16) Tryz.func122 #[.int .i64 a0] ?_; (with_reducible refine (spec_daPlace.calls kj2 a0 t680 _ A8.out).mono ?_); rintro e w12 ⟨rfl, hb⟩; refine ⟨_, rfl, ?_⟩; replace HB := bsU hb; (try clear hb)) | ((with_reducible refine gcU 122 rfl ?_); refine goU (some 18) Tryz.func122 #[.int .i64 a1] ?_; (with_reducible refine (spec_daPlace.calls kj2 a1 t681 _ A9.out).mono ?_); rintro e w13 ⟨rfl, hb⟩; refine ⟨_, rfl, ?_⟩; replace HB := bsU hb; (try clear hb)) | ((with_reducible refine gcU 124 rfl ?_); refine goU (some 20) Tryz.func124 #[.int .i64 (wrap64 (t680 - t681))] ?_; (with_reducible refine (spec_l1Abs.calls (wrap64 (t680 - t681)) t682 _ A10.out).mono ?_); rintro e w' ⟨rfl, ⟨nd, rfl⟩⟩; refine ⟨_, rfl, ?_⟩) | ((with_reducible refine gcU 125 rfl ?_); refine goU (some 24) Tryz.func125 #[.int .i64 t682, .int .i64 (wrap64 (20 - t682))] ?_; (with_reducible refine (spec_l1Least.calls t682 (wrap64 (20 - t682)) t683 _ A11.out).mono ?_); rintro e w' ⟨rfl, ⟨nd, rfl⟩⟩; refine ⟨_, rfl, ?_⟩))
    go_ret2
    exact ⟨errU, hbU⟩
def spec_DrawBestArc.f (l0 : List Int) : Option (Int) := (spec_l1Cur_pick.f l0 0 0 23).bind fun bt685 => (some (wrap64 (bt685.1 - 1)))
set_option maxHeartbeats 8000000 in
set_option maxRecDepth 100000 in
theorem spec_DrawBestArc.calls (A0 : Option Addr) (c0 : Nat) (l0 : List Int) (r : Int) (w : World) (hr0 : Kd.C (Kd.int .u8) w A0 l0.length l0) (hc0 : l0.length ≤ c0) (h : spec_DrawBestArc.f l0 = some r) :
  Calls Tryz.prog 68 #[.slice A0 l0.length c0] w fun e w' => e = .returned (.int .i64 r) ∧ Below w.heap.size w w' := by
 have hu78 := Tryz.underlying78
 have HR0 := aU hr0
 have HC0 := aU hc0
 clear hr0 hc0
 have HB := aU (Below.refl w.heap.size w)
 have H : ((spec_l1Cur_pick.f l0 0 0 23).bind fun bt685 => (some (wrap64 (bt685.1 - 1)))) = some r := h
 clear h
 replace H := bindS H
 obtain ⟨⟨t685, t686, t687⟩, A2, H⟩ := H
 (try dsimp only at H)
 obtain rfl := Option.some.inj H
 go_enter Tryz.func68, Tryz.ntmps68
 go_wp2_with (first | ((with_reducible refine gdU 6 rfl ?_); refine bxU (cs := #[.slice A0 l0.length c0, .int .i64 0, .int .u64 0]) (t := 78) ?_; intro gb684 hg w3 hbox hb; have HI684 := aU ((⟨_, _, hbox, (by rw [hg]; exact (below_size hbU) : w.heap.size ≤ gb684), HR0.out⟩ : IsS78 w w3 gb684 l0 0 0)); have GW684 := geU hg; have GE684 := geU hg; replace HB := bsU hb; clear hb hbox hg) | ((with_reducible refine gcU 92 rfl ?_); refine goU (some 8) Tryz.func92 #[.pointer (some ⟨gb684, 0, none⟩), .int .i64 23] ?_; (with_reducible refine (spec_l1Cur_pick.calls gb684 l0 0 0 23 t685 t686 t687 w _ ?side1 ?side2 A2.out).mono ?_); (case side1 => exact isU HI684); (case side2 => exact hbU); rintro e w4 ⟨rfl, hi, hb, hk⟩; refine ⟨_, rfl, ?_⟩; replace HB := aU (hb); replace HI684 := aU (hi); (try clear hi hb hk)))
 go_ret
 exact ⟨errU, hbU⟩
end Go.Proofs.YtcmlmjgoidpabaaGreatDoor.MFnDartsPlayed

