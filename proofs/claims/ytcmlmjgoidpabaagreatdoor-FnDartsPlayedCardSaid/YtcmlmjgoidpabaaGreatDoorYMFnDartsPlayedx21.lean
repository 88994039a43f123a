/- Walks of the functions that the law reaches: each comes to just what the function that is told of it tells, for all arguments. -/
import Derived.Test.YtcmlmjgoidpabaaGreatDoorYMFnDartsPlayedx1
import Derived.Test.YtcmlmjgoidpabaaGreatDoorYMFnDartsPlayedx19
namespace Go.Proofs.YtcmlmjgoidpabaaGreatDoor.MFnDartsPlayed
open Go.RowKit Go.Proofs.YtcmlmjgoidpabaaGreatDoorW.PrintWords Go.Proofs.YtcmlmjgoidpabaaGreatDoorW.PrintLast Go.Proofs.YtcmlmjgoidpabaaGreatDoorW.PrintMore
attribute [local go_sem] max2_int min2_int max_two min_two max_three min_three max_four min_four
set_option linter.unusedVariables false
set_option linter.unusedSimpArgs false
attribute [local go_sem high] eqA52
mutual
def impl_BestArc.l0 : Nat → Int → Int → Int → List Int → Int → Int → Option (Int × Int × Bool)
 | 0, _, _, _, _, _, _ => none
 | k + 1, x0, x5, x6, x14, x15, x16 => if x16 < x15 then (if 0 ≤ x16 then (if x16 < (x14.length : Int) then (impl_BestArc.l1 k x0 x5 x6 x16 (rd x14 x16) 0 x14 x15 x16 x0 0) else (none)) else (none)) else (some (x5, x6, true))
def impl_BestArc.l1 : Nat → Int → Int → Int → Int → Int → Int → List Int → Int → Int → Int → Int → Option (Int × Int × Bool)
 | 0, _, _, _, _, _, _, _, _, _, _, _ => none
 | k + 1, x0, x5, x6, x7, x8, x9, x14, x15, x16, x21, x22 => if x22 < x21 then ((impl_ring.f).bind fun t693 => (if 0 ≤ (Int.tmod (wrap64 (x7 + x22)) 20) then (if (Int.tmod (wrap64 (x7 + x22)) 20) < (t693.length : Int) then (impl_BestArc.l1 k x0 x5 x6 x7 x8 (wrap64 (x9 + (rd t693 (Int.tmod (wrap64 (x7 + x22)) 20)))) x14 x15 x16 x21 (wrap64 (x22 + 1))) else (none)) else (none))) else (if x9 > x6 then (impl_BestArc.l0 k x0 x8 x9 x14 x15 (wrap64 (x16 + 1))) else (impl_BestArc.l0 k x0 x5 x6 x14 x15 (wrap64 (x16 + 1))))
end
def impl_BestArc.f (k : Nat) (a0 : Int) : Option (Int × Int × Bool) := (impl_within.f a0 1 20).bind fun t688 => (if t688 = true then ((impl_ring.f).bind fun t689 => (impl_BestArc.l0 k a0 0 (-1) t689 (t689.length : Int) 0)) else (some (0, 0, false)))
theorem impl_BestArc.mono_l : ∀ k, (∀ y0 y1 y2 y3 y4 y5, LeO (impl_BestArc.l0 k y0 y1 y2 y3 y4 y5) (impl_BestArc.l0 (k + 1) y0 y1 y2 y3 y4 y5)) ∧ (∀ y0 y1 y2 y3 y4 y5 y6 y7 y8 y9 y10, LeO (impl_BestArc.l1 k y0 y1 y2 y3 y4 y5 y6 y7 y8 y9 y10) (impl_BestArc.l1 (k + 1) y0 y1 y2 y3 y4 y5 y6 y7 y8 y9 y10))
 | 0 => ⟨fun _ _ _ _ _ _ r h => by simp [impl_BestArc.l0] at h, fun _ _ _ _ _ _ _ _ _ _ _ r h => by simp [impl_BestArc.l1] at h⟩
 | k + 1 => by
  obtain ⟨ih0, ih1⟩ := impl_BestArc.mono_l k
  refine ⟨?_, ?_⟩
  all_goals intros
  all_goals first | unfold impl_BestArc.l0 | unfold impl_BestArc.l1
  all_goals repeat' first
  | (with_reducible exact ih0 _ _ _ _ _ _)
  | (with_reducible exact ih1 _ _ _ _ _ _ _ _ _ _ _)
  | (with_reducible exact LeO.refl _)
  | (with_reducible exact LeO.none _)
  | (with_reducible refine LeO.ite ?_ ?_)
  | (with_reducible refine LeO.bind ?_ (fun _ => ?_))
theorem impl_BestArc.mono : ∀ a0 k, LeO (impl_BestArc.f k a0) (impl_BestArc.f (k + 1) a0) := by
 intro a0 k
 obtain ⟨ih0, ih1⟩ := impl_BestArc.mono_l k
 unfold impl_BestArc.f
 repeat' first
   | (with_reducible exact ih0 _ _ _ _ _ _)
   | (with_reducible exact ih1 _ _ _ _ _ _ _ _ _ _ _)
   | (with_reducible exact LeO.refl _)
   | (with_reducible exact LeO.none _)
   | (with_reducible refine LeO.ite ?_ ?_)
   | (with_reducible refine LeO.bind ?_ (fun _ => ?_))
set_option maxHeartbeats 8000000 in
set_option maxRecDepth 100000 in
theorem impl_BestArc.calls (k : Nat) (a0 : Int) (r1 : Int) (r2 : Int) (r3 : Bool) (w : World) (h : impl_BestArc.f k a0 = some (r1, r2, r3)) :
  Calls Tryz.prog 69 #[.int .i64 a0] w fun e w' => e = .returned (.tuple #[.int .i64 r1, .int .i64 r2, .bool r3]) ∧ Below w.heap.size w w' := by
 have HB := aU (Below.refl w.heap.size w)
 have H : ((impl_within.f a0 1 20).bind fun t688 => (if t688 = true then ((impl_ring.f).bind fun t689 => (impl_BestArc.l0 k a0 0 (-1) t689 (t689.length : Int) 0)) else (some (0, 0, false)))) = some (r1, r2, r3) := h
 clear h
 replace H := bindS H
 obtain ⟨t688, A2, H⟩ := H
 (try dsimp only at H)
 by_cases c3 : t688 = true
 ·subst c3
  rw [if_pos rfl] at H
  replace H := bindS H
  obtain ⟨t689, A4, H⟩ := H
  (try dsimp only at H)
  have H' := aU H
  clear H
  go_enter Tryz.func69, Tryz.ntmps69
  go_wp2_with (first | ((with_reducible refine gcU 87 rfl ?_); refine goU (some 12) Tryz.func87 #[.int .i64 a0, .int .i64 1, .int .i64 20] ?_; (with_reducible refine (impl_within.calls a0 1 20 true _ A2.out).mono ?_); rintro e w' ⟨rfl, ⟨nd, rfl⟩⟩; refine ⟨_, rfl, ?_⟩) | ((with_reducible refine gcU 121 rfl ?_); refine goU (some 14) Tryz.func121 #[] ?_; (with_reducible refine (impl_ring.calls  t689 _ A4.out).mono ?_); rintro e w5 ⟨v690, rfl, ho0, hb⟩; refine ⟨_, rfl, ?_⟩; have HO691 := aU (Kd.R_lower ho0 (below_size hbU)); replace HB := bsU hb; (try clear ho0 hb); obtain ⟨Ao6, co6, eo6⟩ := Kd.R_slice HO691.out; subst eo6))
  go_loopg [5, 6, 16] k (fun kq v5 v6 v16 w' => ∃ (x5_1 : Int) (x6_1 : Int) (x16_1 : Int), v5 = .int .i64 x5_1 ∧ v6 = .int .i64 x6_1 ∧ v16 = .int .i64 x16_1 ∧ Aside0 (impl_BestArc.l0 kq a0 x5_1 x6_1 t689 (t689.length : Int) x16_1 = some (r1, r2, r3)) ∧ Aside0 (kq ≤ k) ∧ Aside0 (Kd.R (Kd.int .i64) 3 w' w.heap.size (fun _ => True) (.slice Ao6 t689.length co6) t689) ∧ Aside0 (Below w.heap.size w w'))
  case atStart => exact ⟨(0), ((-1)), (0), eqU, eqU, eqU, H', ⟨Nat.le_refl _⟩, ⟨roU HO691⟩, ⟨hbU⟩⟩
  case round =>
   clear H'
   (try clear c3)
   obtain ⟨x5_1, x6_1, x16_1, rfl, rfl, rfl, HA, HK1, HO_14, HB⟩ := hrel
   cases gk with
   | zero => exact absurd HA.out (by simp [impl_BestArc.l0])
   | succ k1 =>
    have H := HA.out
    clear HA
    simp only [impl_BestArc.l0] at H
    by_cases c7 : x16_1 < (t689.length : Int)
    ·rw [if_pos c7] at H
     have c7b0 : decide (x16_1 < (t689.length : Int)) = true := decide_eq_true c7
     clear c7
     replace H := ifS H
     obtain ⟨c8, H⟩ := H
     have c8b0 : decide (0 ≤ x16_1) = true := decide_eq_true c8
     clear c8
     replace H := ifS H
     obtain ⟨c9, H⟩ := H
     have c9b0 : decide (x16_1 < (t689.length : Int)) = true := decide_eq_true c9
     clear c9
     have H' := aU H
     clear H
     have p692 : 0 ≤ (x16_1 : Int) := dU
     have q692 : x16_1 < (t689.length : Int) := dU
     obtain ⟨ad692, e692, hx692_0⟩ := Kd.at_int (Kd.R_reads' HO_14.out).2.2 x16_1 p692 q692
     cases e692
     replace p692 := eq_true p692
     replace q692 := eq_true q692
     go_wp2
     go_loopg [9, 22] k1 (fun kq v9 v22 w' => ∃ (x9_2 : Int) (x22_2 : Int), v9 = .int .i64 x9_2 ∧ v22 = .int .i64 x22_2 ∧ Aside0 (impl_BestArc.l1 kq a0 x5_1 x6_1 x16_1 (rd t689 x16_1) x9_2 t689 (t689.length : Int) x16_1 a0 x22_2 = some (r1, r2, r3)) ∧ Aside0 (kq ≤ k1) ∧ Aside0 (Kd.R (Kd.int .i64) 3 w' w.heap.size (fun _ => True) (.slice (some ad692) t689.length co6) t689) ∧ Aside0 (Below w.heap.size w w'))
     case atStart => exact ⟨(0), (0), eqU, eqU, H', ⟨Nat.le_refl _⟩, ⟨roU HO_14⟩, ⟨hbU⟩⟩
     case round =>
      clear H'
      (try clear c7b0); (try clear c8b0); (try clear c9b0); (try clear hx692_0); (try clear p692); (try clear q692)
      obtain ⟨x9_2, x22_2, rfl, rfl, HA, HK2, HO_14, HB⟩ := hrel
      cases gk with
      | zero => exact absurd HA.out (by simp [impl_BestArc.l1])
      | succ k2 =>
       have H := HA.out
       clear HA
       simp only [impl_BestArc.l1] at H
       by_cases c10 : x22_2 < a0
       ·rw [if_pos c10] at H
        have c10b0 : decide (x22_2 < a0) = true := decide_eq_true c10
        clear c10
        replace H := bindS H
        obtain ⟨t693, A11, H⟩ := H
        (try dsimp only at H)
        obtain ⟨ji12, hji12⟩ : ∃ j_ : Int, (Int.tmod (wrap64 (x16_1 + x22_2)) 20) = j_ := ⟨_, rfl⟩
        replace H : (if 0 ≤ (ji12) then (if (ji12) < (t693.length : Int) then (impl_BestArc.l1 k2 a0 x5_1 x6_1 x16_1 (rd t689 x16_1) (wrap64 (x9_2 + (rd t693 (ji12)))) t689 (t689.length : Int) x16_1 a0 (wrap64 (x22_2 + 1))) else (none)) else (none)) = some (r1, r2, r3) := by first | (rw [hji12] at H; exact H) | (simp only [hji12] at H ⊢; exact H)
        (try rw [hji12] at A11)
        replace H := ifS H
        obtain ⟨c13, H⟩ := H
        have c13b0 : decide (0 ≤ (ji12)) = true := decide_eq_true c13
        clear c13
        replace H := ifS H
        obtain ⟨c14, H⟩ := H
        have c14b0 : decide ((ji12) < (t693.length : Int)) = true := decide_eq_true c14
        clear c14
        have H' := aU H
        clear H
        go_wp2_with (first | ((with_reducible refine gcU 121 rfl ?_); refine goU (some 26) Tryz.func121 #[] ?_; (with_reducible refine (impl_ring.calls  t693 _ A11.out).mono ?_); rintro e w15 ⟨v694, rfl, ho0, hb⟩; refine ⟨_, rfl, ?_⟩; have HO695 := aU (Kd.R_lower (Kd.R_new' ho0 (Kd.R_lt (roU HO_14))) (below_size hbU)); replace HO_14 := aU (Kd.R_elder' (roU HO_14) (Kd.R_base ho0) hb); replace HB := bsU hb; (try clear ho0 hb); obtain ⟨Ao16, co16, eo16⟩ := Kd.R_slice HO695.out; subst eo16; have p696 : 0 ≤ ((ji12) : Int) := dU; have q696 : (ji12) < (t693.length : Int) := dU; obtain ⟨ad696, e696, hx696_0⟩ := Kd.at_int (Kd.R_reads' HO695.out).2.2 (ji12) p696 q696; cases e696; replace p696 := eq_true p696; replace q696 := eq_true q696))
        go_roundg k2
        case measure => have := HK1.out; have := HK2.out; omega
        case rel => exact ⟨(wrap64 (x9_2 + (rd t693 (ji12)))), (wrap64 (x22_2 + 1)), (by first | rfl | (simp; done) | (simp only [← hji12] <;> (first | rfl | simp)) | (simp [*]; done)), eqU, H', ⟨by have := HK1.out; have := HK2.out; omega⟩, ⟨by (with_reducible repeat (first | apply Kd.R_alloc | apply Kd.R_drewN | apply Kd.R_drew)); exact Kd.R_mono HO_14.out (fun _ hk => trivial)⟩, ⟨hbU⟩⟩
       ·rw [if_neg c10] at H
        have c10b0 : decide (x22_2 < a0) = false := decide_eq_false c10
        clear c10
        by_cases c17 : x9_2 > x6_1
        ·rw [if_pos c17] at H
         have c17b0 : decide (x6_1 < x9_2) = true := decide_eq_true c17
         clear c17
         have H' := aU H
         clear H
         go_wp2
         go_roundg k2
         case measure => have := HK1.out; have := HK2.out; omega
         case rel => exact ⟨((rd t689 x16_1)), (x9_2), (wrap64 (x16_1 + 1)), eqU, eqU, eqU, H', ⟨by have := HK1.out; have := HK2.out; omega⟩, ⟨roU HO_14⟩, ⟨hbU⟩⟩
        ·rw [if_neg c17] at H
         have c17b0 : decide (x6_1 < x9_2) = false := decide_eq_false c17
         clear c17
         have H' := aU H
         clear H
         go_wp2
         go_roundg k2
         case measure => have := HK1.out; have := HK2.out; omega
         case rel => exact ⟨(x5_1), (x6_1), (wrap64 (x16_1 + 1)), eqU, eqU, eqU, H', ⟨by have := HK1.out; have := HK2.out; omega⟩, ⟨roU HO_14⟩, ⟨hbU⟩⟩
    ·rw [if_neg c7] at H
     have c7b0 : decide (x16_1 < (t689.length : Int)) = false := decide_eq_false c7
     clear c7
     simp only [Option.some.injEq, Prod.mk.injEq] at H
     obtain ⟨rfl, rfl, rfl⟩ := H
     go_wp2
     go_ret3
     exact ⟨errU, hbU⟩
 ·replace c3 := Bool.eq_false_iff.mpr c3
  subst c3
  rw [if_neg (show ¬ (false = true) by decide)] at H
  simp only [Option.some.injEq, Prod.mk.injEq] at H
  obtain ⟨rfl, rfl, rfl⟩ := H
  go_enter Tryz.func69, Tryz.ntmps69
  go_wp2_with (first | ((with_reducible refine gcU 87 rfl ?_); refine goU (some 12) Tryz.func87 #[.int .i64 a0, .int .i64 1, .int .i64 20] ?_; (with_reducible refine (impl_within.calls a0 1 20 false _ A2.out).mono ?_); rintro e w' ⟨rfl, ⟨nd, rfl⟩⟩; refine ⟨_, rfl, ?_⟩))
  go_ret3
  exact ⟨errU, hbU⟩
mutual
def spec_BestArc.l0 : Nat → Int → Int → Int → List Int → Int → Int → Option (Int × Int × Bool)
 | 0, _, _, _, _, _, _ => none
 | k + 1, x0, x5, x6, x7, x16, x17 => if x17 < x16 then (spec_BestArc.l1 k x0 x5 x6 x7 x17 0 0 x16 x17) else (some (x5, x6, true))
def spec_BestArc.l1 : Nat → Int → Int → Int → List Int → Int → Int → Int → Int → Int → Option (Int × Int × Bool)
 | 0, _, _, _, _, _, _, _, _, _ => none
 | k + 1, x0, x5, x6, x7, x8, x9, x10, x16, x17 => if x10 < x0 then (if 0 ≤ (Int.tmod (wrap64 (x8 + x10)) 20) then (if (Int.tmod (wrap64 (x8 + x10)) 20) < (x7.length : Int) then (spec_BestArc.l1 k x0 x5 x6 x7 x8 (wrap64 (x9 + (rd x7 (Int.tmod (wrap64 (x8 + x10)) 20)))) (wrap64 (x10 + 1)) x16 x17) else (none)) else (none)) else (if x9 > x6 then (if 0 ≤ x8 then (if x8 < (x7.length : Int) then (spec_BestArc.l0 k x0 (rd x7 x8) x9 x7 x16 (wrap64 (x17 + 1))) else (none)) else (none)) else (spec_BestArc.l0 k x0 x5 x6 x7 x16 (wrap64 (x17 + 1))))
end
def spec_BestArc.f (k : Nat) (a0 : Int) : Option (Int × Int × Bool) := (spec_l1In.f a0 1 20).bind fun t697 => (if t697 = true then ((spec_daRing.f).bind fun t698 => (spec_BestArc.l0 k a0 0 0 t698 (t698.length : Int) 0)) else (some (0, 0, false)))
theorem spec_BestArc.mono_l : ∀ k, (∀ y0 y1 y2 y3 y4 y5, LeO (spec_BestArc.l0 k y0 y1 y2 y3 y4 y5) (spec_BestArc.l0 (k + 1) y0 y1 y2 y3 y4 y5)) ∧ (∀ y0 y1 y2 y3 y4 y5 y6 y7 y8, LeO (spec_BestArc.l1 k y0 y1 y2 y3 y4 y5 y6 y7 y8) (spec_BestArc.l1 (k + 1) y0 y1 y2 y3 y4 y5 y6 y7 y8))
 | 0 => ⟨fun _ _ _ _ _ _ r h => by simp [spec_BestArc.l0] at h, fun _ _ _ _ _ _ _ _ _ r h => by simp [spec_BestArc.l1] at h⟩
 | k + 1 => by
  obtain ⟨ih0, ih1⟩ := spec_BestArc.mono_l k
  refine ⟨?_, ?_⟩
  all_goals intros
  all_goals first | unfold spec_BestArc.l0 | unfold spec_BestArc.l1
  all_goals repeat' first
  | (with_reducible exact ih0 _ _ _ _ _ _)
  | (with_reducible exact ih1 _ _ _ _ _ _ _ _ _)
  | (with_reducible exact LeO.refl _)
  | (with_reducible exact LeO.none _)
  | (with_reducible refine LeO.ite ?_ ?_)
  | (with_reducible refine LeO.bind ?_ (fun _ => ?_))
theorem spec_BestArc.mono : ∀ a0 k, LeO (spec_BestArc.f k a0) (spec_BestArc.f (k + 1) a0) := by
 intro a0 k
 obtain ⟨ih0, ih1⟩ := spec_BestArc.mono_l k
 unfold spec_BestArc.f
 repeat' first
   | (with_reducible exact ih0 _ _ _ _ _ _)
   | (with_reducible exact ih1 _ _ _ _ _ _ _ _ _)
   | (with_reducible exact LeO.refl _)
   | (with_reducible exact LeO.none _)
   | (with_reducible refine LeO.ite ?_ ?_)
   | (with_reducible refine LeO.bind ?_ (fun _ => ?_))
set_option maxHeartbeats 8000000 in
set_option maxRecDepth 100000 in
theorem spec_BestArc.calls (k : Nat) (a0 : Int) (r1 : Int) (r2 : Int) (r3 : Bool) (w : World) (h : spec_BestArc.f k a0 = some (r1, r2, r3)) :
  Calls Tryz.prog 70 #[.int .i64 a0] w fun e w' => e = .returned (.tuple #[.int .i64 r1, .int .i64 r2, .bool r3]) ∧ Below w.heap.size w w' := by
 have HB := aU (Below.refl w.heap.size w)
 have H : ((spec_l1In.f a0 1 20).bind fun t697 => (if t697 = true then ((spec_daRing.f).bind fun t698 => (spec_BestArc.l0 k a0 0 0 t698 (t698.length : Int) 0)) else (some (0, 0, false)))) = some (r1, r2, r3) := h
 clear h
 replace H := bindS H
 obtain ⟨t697, A2, H⟩ := H
 (try dsimp only at H)
 by_cases c3 : t697 = true
 ·subst c3
  rw [if_pos rfl] at H
  replace H := bindS H
  obtain ⟨t698, A4, H⟩ := H
  (try dsimp only at H)
  have H' := aU H
  clear H
  go_enter Tryz.func70, Tryz.ntmps70
  go_wp2_with (first | ((with_reducible refine gcU 96 rfl ?_); refine goU (some 12) Tryz.func96 #[.int .i64 a0, .int .i64 1, .int .i64 20] ?_; (with_reducible refine (spec_l1In.calls a0 1 20 true _ A2.out).mono ?_); rintro e w' ⟨rfl, ⟨nd, rfl⟩⟩; refine ⟨_, rfl, ?_⟩) | ((with_reducible refine gcU 123 rfl ?_); refine goU (some 14) Tryz.func123 #[] ?_; (with_reducible refine (spec_daRing.calls  t698 _ A4.out).mono ?_); rintro e w5 ⟨v699, rfl, ho0, hb⟩; refine ⟨_, rfl, ?_⟩; have HO700 := aU (Kd.R_lower ho0 (below_size hbU)); replace HB := bsU hb; (try clear ho0 hb); obtain ⟨Ao6, co6, eo6⟩ := Kd.R_slice HO700.out; subst eo6))
  go_loopg [5, 6, 17] k (fun kq v5 v6 v17 w' => ∃ (x5_1 : Int) (x6_1 : Int) (x17_1 : Int), v5 = .int .i64 x5_1 ∧ v6 = .int .i64 x6_1 ∧ v17 = .int .i64 x17_1 ∧ Aside0 (spec_BestArc.l0 kq a0 x5_1 x6_1 t698 (t698.length : Int) x17_1 = some (r1, r2, r3)) ∧ Aside0 (kq ≤ k) ∧ Aside0 (Kd.R (Kd.int .i64) 3 w' w.heap.size (fun _ => True) (.slice Ao6 t698.length co6) t698) ∧ Aside0 (Below w.heap.size w w'))
  case atStart => exact ⟨(0), (0), (0), eqU, eqU, eqU, H', ⟨Nat.le_refl _⟩, ⟨roU HO700⟩, ⟨hbU⟩⟩
  case round =>
   clear H'
   (try clear c3)
   obtain ⟨x5_1, x6_1, x17_1, rfl, rfl, rfl, HA, HK1, HO_7, HB⟩ := hrel
   cases gk with
   | zero => exact absurd HA.out (by simp [spec_BestArc.l0])
   | succ k1 =>
    have H := HA.out
    clear HA
    simp only [spec_BestArc.l0] at H
    by_cases c7 : x17_1 < (t698.length : Int)
    ·rw [if_pos c7] at H
     have c7b0 : decide (x17_1 < (t698.length : Int)) = true := decide_eq_true c7
     clear c7
     have H' := aU H
     clear H
     go_wp2
     go_loopg [9, 10] k1 (fun kq v9 v10 w' => ∃ (x9_2 : Int) (x10_2 : Int), v9 = .int .i64 x9_2 ∧ v10 = .int .i64 x10_2 ∧ Aside0 (spec_BestArc.l1 kq a0 x5_1 x6_1 t698 x17_1 x9_2 x10_2 (t698.length : Int) x17_1 = some (r1, r2, r3)) ∧ Aside0 (kq ≤ k1) ∧ Aside0 (Kd.R (Kd.int .i64) 3 w' w.heap.size (fun _ => True) (.slice Ao6 t698.length co6) t698) ∧ Aside0 (Below w.heap.size w w'))
     case atStart => exact ⟨(0), (0), eqU, eqU, H', ⟨Nat.le_refl _⟩, ⟨roU HO_7⟩, ⟨hbU⟩⟩
     case round =>
      clear H'
      (try clear c7b0)
      obtain ⟨x9_2, x10_2, rfl, rfl, HA, HK2, HO_7, HB⟩ := hrel
      cases gk with
      | zero => exact absurd HA.out (by simp [spec_BestArc.l1])
      | succ k2 =>
       have H := HA.out
       clear HA
       simp only [spec_BestArc.l1] at H
       by_cases c8 : x10_2 < a0
       ·rw [if_pos c8] at H
        have c8b0 : decide (x10_2 < a0) = true := decide_eq_true c8
        clear c8
        obtain ⟨ji9, hji9⟩ : ∃ j_ : Int, (Int.tmod (wrap64 (x17_1 + x10_2)) 20) = j_ := ⟨_, rfl⟩
        replace H : (if 0 ≤ (ji9) then (if (ji9) < (t698.length : Int) then (spec_BestArc.l1 k2 a0 x5_1 x6_1 t698 x17_1 (wrap64 (x9_2 + (rd t698 (ji9)))) (wrap64 (x10_2 + 1)) (t698.length : Int) x17_1) else (none)) else (none)) = some (r1, r2, r3) := by first | (rw [hji9] at H; exact H) | (simp only [hji9] at H ⊢; exact H)
        replace H := ifS H
        obtain ⟨c10, H⟩ := H
        have c10b0 : decide (0 ≤ (ji9)) = true := decide_eq_true c10
        clear c10
        replace H := ifS H
        obtain ⟨c11, H⟩ := H
        have c11b0 : decide ((ji9) < (t698.length : Int)) = true := decide_eq_true c11
        clear c11
        have H' := aU H
        clear H
        have p701 : 0 ≤ ((ji9) : Int) := dU
        have q701 : (ji9) < (t698.length : Int) := dU
        obtain ⟨ad701, e701, hx701_0⟩ := Kd.at_int (Kd.R_reads' HO_7.out).2.2 (ji9) p701 q701
        cases e701
        replace p701 := eq_true p701
        replace q701 := eq_true q701
        go_wp2
        go_roundg k2
        case measure => have := HK1.out; have := HK2.out; omega
        case rel => exact ⟨(wrap64 (x9_2 + (rd t698 (ji9)))), (wrap64 (x10_2 + 1)), (by first | rfl | (simp; done) | (simp only [← hji9] <;> (first | rfl | simp)) | (simp [*]; done)), eqU, H', ⟨by have := HK1.out; have := HK2.out; omega⟩, ⟨roU HO_7⟩, ⟨hbU⟩⟩
       ·rw [if_neg c8] at H
        have c8b0 : decide (x10_2 < a0) = false := decide_eq_false c8
        clear c8
        by_cases c12 : x9_2 > x6_1
        ·rw [if_pos c12] at H
         have c12b0 : decide (x6_1 < x9_2) = true := decide_eq_true c12
         clear c12
         replace H := ifS H
         obtain ⟨c13, H⟩ := H
         have c13b0 : decide (0 ≤ x17_1) = true := decide_eq_true c13
         clear c13
         replace H := ifS H
         obtain ⟨c14, H⟩ := H
         have c14b0 : decide (x17_1 < (t698.length : Int)) = true := decide_eq_true c14
         clear c14
         have H' := aU H
         clear H
         have p702 : 0 ≤ (x17_1 : Int) := dU
         have q702 : x17_1 < (t698.length : Int) := dU
         obtain ⟨ad702, e702, hx702_0⟩ := Kd.at_int (Kd.R_reads' HO_7.out).2.2 x17_1 p702 q702
         cases e702
         replace p702 := eq_true p702
         replace q702 := eq_true q702
         go_wp2
         go_roundg k2
         case measure => have := HK1.out; have := HK2.out; omega
         case rel => exact ⟨(rd t698 x17_1), (x9_2), (wrap64 (x17_1 + 1)), eqU, eqU, eqU, H', ⟨by have := HK1.out; have := HK2.out; omega⟩, ⟨roU HO_7⟩, ⟨hbU⟩⟩
        ·rw [if_neg c12] at H
         have c12b0 : decide (x6_1 < x9_2) = false := decide_eq_false c12
         clear c12
         have H' := aU H
         clear H
         go_wp2
         go_roundg k2
         case measure => have := HK1.out; have := HK2.out; omega
         case rel => exact ⟨(x5_1), (x6_1), (wrap64 (x17_1 + 1)), eqU, eqU, eqU, H', ⟨by have := HK1.out; have := HK2.out; omega⟩, ⟨roU HO_7⟩, ⟨hbU⟩⟩
    ·rw [if_neg c7] at H
     have c7b0 : decide (x17_1 < (t698.length : Int)) = false := decide_eq_false c7
     clear c7
     simp only [Option.some.injEq, Prod.mk.injEq] at H
     obtain ⟨rfl, rfl, rfl⟩ := H
     go_wp2
     go_ret3
     exact ⟨errU, hbU⟩
 ·replace c3 := Bool.eq_false_iff.mpr c3
  subst c3
  rw [if_neg (show ¬ (false = true) by decide)] at H
  simp only [Option.some.injEq, Prod.mk.injEq] at H
  obtain ⟨rfl, rfl, rfl⟩ := H
  go_enter Tryz.func70, Tryz.ntmps70
  go_wp2_with (first | ((with_reducible refine gcU 96 rfl ?_); refine goU (some 12) Tryz.func96 #[.int .i64 a0, .int .i64 1, .int .i64 20] ?_; (with_reducible refine (spec_l1In.calls a0 1 20 false _ A2.out).mono ?_); rintro e w' ⟨rfl, ⟨nd, rfl⟩⟩; refine ⟨_, rfl, ?_⟩))
  go_ret3
  exact ⟨errU, hbU⟩
def laws_bSame.l0 : Nat → List Int → List Int → Int → Int → Option (Bool)
 | 0, _, _, _, _ => none
 | k + 1, x0, x1, x12, x13 => if x13 < x12 then (if 0 ≤ x13 then (if x13 < (x0.length : Int) then (if x13 < (x1.length : Int) then (if (rd x0 x13) = (rd x1 x13) then (laws_bSame.l0 k x0 x1 x12 (wrap64 (x13 + 1))) else (some false)) else (none)) else (none)) else (none)) else (some true)
def laws_bSame.f (k : Nat) (l0 : List Int) (l1 : List Int) : Option (Bool) := if (l0.length : Int) = (l1.length : Int) then (laws_bSame.l0 k l0 l1 (l0.length : Int) 0) else (some false)
theorem laws_bSame.mono_l : ∀ k, (∀ y0 y1 y2 y3, LeO (laws_bSame.l0 k y0 y1 y2 y3) (laws_bSame.l0 (k + 1) y0 y1 y2 y3))
 | 0 => fun _ _ _ _ r h => by simp [laws_bSame.l0] at h
 | k + 1 => by
  have ih0 := laws_bSame.mono_l k
  all_goals intros
  all_goals first | unfold laws_bSame.l0
  all_goals repeat' first
  | (with_reducible exact ih0 _ _ _ _)
  | (with_reducible exact LeO.refl _)
  | (with_reducible exact LeO.none _)
  | (with_reducible refine LeO.ite ?_ ?_)
  | (with_reducible refine LeO.bind ?_ (fun _ => ?_))
theorem laws_bSame.mono : ∀ a0 a1 k, LeO (laws_bSame.f k a0 a1) (laws_bSame.f (k + 1) a0 a1) := by
 intro a0 a1 k
 have ih0 := laws_bSame.mono_l k
 unfold laws_bSame.f
 repeat' first
   | (with_reducible exact ih0 _ _ _ _)
   | (with_reducible exact LeO.refl _)
   | (with_reducible exact LeO.none _)
   | (with_reducible refine LeO.ite ?_ ?_)
   | (with_reducible refine LeO.bind ?_ (fun _ => ?_))
set_option maxHeartbeats 8000000 in
set_option maxRecDepth 100000 in
theorem laws_bSame.calls (k : Nat) (A0 : Option Addr) (c0 : Nat) (l0 : List Int) (A1 : Option Addr) (c1 : Nat) (l1 : List Int) (r : Bool) (w : World) (hr0 : Kd.C (Kd.int .i64) w A0 l0.length l0) (hc0 : l0.length ≤ c0) (hr1 : Kd.C (Kd.int .i64) w A1 l1.length l1) (hc1 : l1.length ≤ c1) (h : laws_bSame.f k l0 l1 = some r) :
  Calls Tryz.prog 71 #[.slice A0 l0.length c0, .slice A1 l1.length c1] w fun e w' => e = .returned (.bool r) ∧ Drawn0 w w' := by
 have HR0 := aU hr0
 have HC0 := aU hc0
 clear hr0 hc0
 have HR1 := aU hr1
 have HC1 := aU hc1
 clear hr1 hc1
 have H : (if (l0.length : Int) = (l1.length : Int) then (laws_bSame.l0 k l0 l1 (l0.length : Int) 0) else (some false)) = some r := h
 clear h
 by_cases c3 : (l0.length : Int) = (l1.length : Int)
 ·rw [if_pos c3] at H
  have c3b0 : ((l0.length : Int) == (l1.length : Int)) = true := beq_iff_eq.mpr c3
  have c3b1 : ((l0.length : Int) != (l1.length : Int)) = false := bne_eq_false_iff_eq.mpr c3
  have c3b2 : (l0.length == l1.length) = true := by first | simpa using c3 | (simp at c3 ⊢; omega)
  clear c3
  have H' := aU H
  clear H
  go_enter Tryz.func71, Tryz.ntmps71
  go_wp2
  repeat (go_quiet (fail); try go_wp2)
  go_loopg [13] k (fun kq v13 w' => ∃ (x13_1 : Int), v13 = .int .i64 x13_1 ∧ Aside0 (laws_bSame.l0 kq l0 l1 (l0.length : Int) x13_1 = some r) ∧ Aside0 (kq ≤ k) ∧ Drawn0 w w')
  case atStart => exact ⟨(0), eqU, H', ⟨Nat.le_refl _⟩, by repeat (first | exact Drawn0.refl _ | apply Drawn0.step)⟩
  case round =>
   clear H'
   (try clear c3b0 c3b1); (try clear c3b2)
   obtain ⟨x13_1, rfl, HA, HK1, ⟨m1, rfl⟩⟩ := hrel
   cases gk with
   | zero => exact absurd HA.out (by simp [laws_bSame.l0])
   | succ k1 =>
    have H := HA.out
    clear HA
    simp only [laws_bSame.l0] at H
    by_cases c4 : x13_1 < (l0.length : Int)
    ·rw [if_pos c4] at H
     have c4b0 : decide (x13_1 < (l0.length : Int)) = true := decide_eq_true c4
     clear c4
     replace H := ifS H
     obtain ⟨c5, H⟩ := H
     have c5b0 : decide (0 ≤ x13_1) = true := decide_eq_true c5
     clear c5
     replace H := ifS H
     obtain ⟨c6, H⟩ := H
     have c6b0 : decide (x13_1 < (l0.length : Int)) = true := decide_eq_true c6
     clear c6
     replace H := ifS H
     obtain ⟨c7, H⟩ := H
     have c7b0 : decide (x13_1 < (l1.length : Int)) = true := decide_eq_true c7
     clear c7
     by_cases c8 : (rd l0 x13_1) = (rd l1 x13_1)
     ·rw [if_pos c8] at H
      have c8b0 : ((rd l0 x13_1) == (rd l1 x13_1)) = true := beq_iff_eq.mpr c8
      have c8b1 : ((rd l0 x13_1) != (rd l1 x13_1)) = false := bne_eq_false_iff_eq.mpr c8
      clear c8
      have H' := aU H
      clear H
      have p703 : 0 ≤ (x13_1 : Int) := dU
      have q703 : x13_1 < (l0.length : Int) := dU
      obtain ⟨ad703, e703, hx703_0⟩ := Kd.at_int HR0.out x13_1 p703 q703
      cases e703
      replace p703 := eq_true p703
      replace q703 := eq_true q703
      have p704 : 0 ≤ (x13_1 : Int) := dU
      have q704 : x13_1 < (l1.length : Int) := dU
      obtain ⟨ad704, e704, hx704_0⟩ := Kd.at_int HR1.out x13_1 p704 q704
      cases e704
      replace p704 := eq_true p704
      replace q704 := eq_true q704
      go_wp2
      repeat (go_quiet (fail); try go_wp2)
      go_roundg k1
      case measure => have := HK1.out; omega
      case rel => exact ⟨(wrap64 (x13_1 + 1)), eqU, H', ⟨by have := HK1.out; omega⟩, by repeat (first | exact Drawn0.refl _ | apply Drawn0.step)⟩
     ·rw [if_neg c8] at H
      have c8b0 : ((rd l0 x13_1) == (rd l1 x13_1)) = false := beq_eq_false_iff_ne.mpr c8
      have c8b1 : ((rd l0 x13_1) != (rd l1 x13_1)) = true := bne_iff_ne.mpr c8
      obtain rfl := Option.some.inj H
      have p703 : 0 ≤ (x13_1 : Int) := dU
      have q703 : x13_1 < (l0.length : Int) := dU
      obtain ⟨ad703, e703, hx703_0⟩ := Kd.at_int HR0.out x13_1 p703 q703
      cases e703
      replace p703 := eq_true p703
      replace q703 := eq_true q703
      have p704 : 0 ≤ (x13_1 : Int) := dU
      have q704 : x13_1 < (l1.length : Int) := dU
      obtain ⟨ad704, e704, hx704_0⟩ := Kd.at_int HR1.out x13_1 p704 q704
      cases e704
      replace p704 := eq_true p704
      replace q704 := eq_true q704
      go_wp2
      repeat (go_quiet (fail); try go_wp2)
      go_ret
      exact ⟨by first | rfl | (simp; done) | (simp [*]; done), by repeat (first | exact Drawn0.refl _ | apply Drawn0.step)⟩
    ·rw [if_neg c4] at H
     have c4b0 : decide (x13_1 < (l0.length : Int)) = false := decide_eq_false c4
     clear c4
     obtain rfl := Option.some.inj H
     go_wp2
     repeat (go_quiet (fail); try go_wp2)
     go_ret
     exact ⟨by first | rfl | (simp; done) | (simp [*]; done), by repeat (first | exact Drawn0.refl _ | apply Drawn0.step)⟩
 ·rw [if_neg c3] at H
  have c3b0 : ((l0.length : Int) == (l1.length : Int)) = false := beq_eq_false_iff_ne.mpr c3
  have c3b1 : ((l0.length : Int) != (l1.length : Int)) = true := bne_iff_ne.mpr c3
  have c3b2 : (l0.length == l1.length) = false := by first | simpa using c3 | (simp at c3 ⊢; omega)
  obtain rfl := Option.some.inj H
  go_enter Tryz.func71, Tryz.ntmps71
  go_wp2
  repeat (go_quiet (fail); try go_wp2)
  go_ret
  exact ⟨by first | rfl | (simp; done) | (simp [*]; done), by repeat (first | exact Drawn0.refl _ | apply Drawn0.step)⟩
def laws_bDarts.l0 : Nat → List (S52) → List (S52) → Int → Int → Option (Bool)
 | 0, _, _, _, _ => none
 | k + 1, x0, x1, x12, x13 => if x13 < x12 then (if 0 ≤ x13 then (if x13 < (x0.length : Int) then (if x13 < (x1.length : Int) then (if (!(((rd_T52 x0 x13).f0) == ((rd_T52 x1 x13).f0)) || (!(((rd_T52 x0 x13).f1) == ((rd_T52 x1 x13).f1)))) = true then (some false) else (laws_bDarts.l0 k x0 x1 x12 (wrap64 (x13 + 1)))) else (none)) else (none)) else (none)) else (some true)
def laws_bDarts.f (k : Nat) (l0 : List (S52)) (l1 : List (S52)) : Option (Bool) := if (l0.length : Int) = (l1.length : Int) then (laws_bDarts.l0 k l0 l1 (l0.length : Int) 0) else (some false)
theorem laws_bDarts.mono_l : ∀ k, (∀ y0 y1 y2 y3, LeO (laws_bDarts.l0 k y0 y1 y2 y3) (laws_bDarts.l0 (k + 1) y0 y1 y2 y3))
 | 0 => fun _ _ _ _ r h => by simp [laws_bDarts.l0] at h
 | k + 1 => by
  have ih0 := laws_bDarts.mono_l k
  all_goals intros
  all_goals first | unfold laws_bDarts.l0
  all_goals repeat' first
  | (with_reducible exact ih0 _ _ _ _)
  | (with_reducible exact LeO.refl _)
  | (with_reducible exact LeO.none _)
  | (with_reducible refine LeO.ite ?_ ?_)
  | (with_reducible refine LeO.bind ?_ (fun _ => ?_))
theorem laws_bDarts.mono : ∀ a0 a1 k, LeO (laws_bDarts.f k a0 a1) (laws_bDarts.f (k + 1) a0 a1) := by
 intro a0 a1 k
 have ih0 := laws_bDarts.mono_l k
 unfold laws_bDarts.f
 repeat' first
   | (with_reducible exact ih0 _ _ _ _)
   | (with_reducible exact LeO.refl _)
   | (with_reducible exact LeO.none _)
   | (with_reducible refine LeO.ite ?_ ?_)
   | (with_reducible refine LeO.bind ?_ (fun _ => ?_))
set_option maxHeartbeats 8000000 in
set_option maxRecDepth 100000 in
theorem laws_bDarts.calls (k : Nat) (A0 : Option Addr) (c0 : Nat) (l0 : List (S52)) (A1 : Option Addr) (c1 : Nat) (l1 : List (S52)) (r : Bool) (w : World) (hr0 : Kd.C k52 w A0 l0.length l0) (hc0 : l0.length ≤ c0) (hr1 : Kd.C k52 w A1 l1.length l1) (hc1 : l1.length ≤ c1) (h : laws_bDarts.f k l0 l1 = some r) :
  Calls Tryz.prog 72 #[.slice A0 l0.length c0, .slice A1 l1.length c1] w fun e w' => e = .returned (.bool r) ∧ Drawn0 w w' := by
 have hu52 := Tryz.underlying52
 have HR0 := aU hr0
 have HC0 := aU hc0
 clear hr0 hc0
 have HR1 := aU hr1
 have HC1 := aU hc1
 clear hr1 hc1
 have H : (if (l0.length : Int) = (l1.length : Int) then (laws_bDarts.l0 k l0 l1 (l0.length : Int) 0) else (some false)) = some r := h
 clear h
 by_cases c3 : (l0.length : Int) = (l1.length : Int)
 ·rw [if_pos c3] at H
  have c3b0 : ((l0.length : Int) == (l1.length : Int)) = true := beq_iff_eq.mpr c3
  have c3b1 : ((l0.length : Int) != (l1.length : Int)) = false := bne_eq_false_iff_eq.mpr c3
  have c3b2 : (l0.length == l1.length) = true := by first | simpa using c3 | (simp at c3 ⊢; omega)
  clear c3
  have H' := aU H
  clear H
  go_enter Tryz.func72, Tryz.ntmps72
  go_wp2
  repeat (go_quiet (fail); try go_wp2)
  go_loopg [13] k (fun kq v13 w' => ∃ (x13_1 : Int), v13 = .int .i64 x13_1 ∧ Aside0 (laws_bDarts.l0 kq l0 l1 (l0.length : Int) x13_1 = some r) ∧ Aside0 (kq ≤ k) ∧ Drawn0 w w')
  case atStart => exact ⟨(0), eqU, H', ⟨Nat.le_refl _⟩, by repeat (first | exact Drawn0.refl _ | apply Drawn0.step)⟩
  case round =>
   clear H'
   (try clear c3b0 c3b1); (try clear c3b2)
   obtain ⟨x13_1, rfl, HA, HK1, ⟨m1, rfl⟩⟩ := hrel
   cases gk with
   | zero => exact absurd HA.out (by simp [laws_bDarts.l0])
   | succ k1 =>
    have H := HA.out
    clear HA
    simp only [laws_bDarts.l0] at H
    by_cases c4 : x13_1 < (l0.length : Int)
    ·rw [if_pos c4] at H
     have c4b0 : decide (x13_1 < (l0.length : Int)) = true := decide_eq_true c4
     clear c4
     replace H := ifS H
     obtain ⟨c5, H⟩ := H
     have c5b0 : decide (0 ≤ x13_1) = true := decide_eq_true c5
     clear c5
     replace H := ifS H
     obtain ⟨c6, H⟩ := H
     have c6b0 : decide (x13_1 < (l0.length : Int)) = true := decide_eq_true c6
     clear c6
     replace H := ifS H
     obtain ⟨c7, H⟩ := H
     have c7b0 : decide (x13_1 < (l1.length : Int)) = true := decide_eq_true c7
     clear c7
     by_cases c8 : (!(((rd_T52 l0 x13_1).f0) == ((rd_T52 l1 x13_1).f0)) || (!(((rd_T52 l0 x13_1).f1) == ((rd_T52 l1 x13_1).f1)))) = true
     ·rw [if_pos c8] at H
      have c8b0 : (!(((rd_T52 l0 x13_1).f0) == ((rd_T52 l1 x13_1).f0)) || (!(((rd_T52 l0 x13_1).f1) == ((rd_T52 l1 x13_1).f1)))) = true := c8
      clear c8
      obtain rfl := Option.some.inj H
      have p705 : 0 ≤ (x13_1 : Int) := dU
      have q705 : x13_1 < (l0.length : Int) := dU
      obtain ⟨ad705, e705, hx705_0, hx705_1⟩ := at_T52 HR0.out x13_1 p705 q705
      cases e705
      replace p705 := eq_true p705
      replace q705 := eq_true q705
      have p706 : 0 ≤ (x13_1 : Int) := dU
      have q706 : x13_1 < (l1.length : Int) := dU
      obtain ⟨ad706, e706, hx706_0, hx706_1⟩ := at_T52 HR1.out x13_1 p706 q706
      cases e706
      replace p706 := eq_true p706
      replace q706 := eq_true q706
      go_wp2
      repeat (go_quiet (fail); try go_wp2)
      go_ret
      exact ⟨by first | rfl | (simp; done) | (simp [*]; done), by repeat (first | exact Drawn0.refl _ | apply Drawn0.step)⟩
     ·rw [if_neg c8] at H
      have c8b0 : (!(((rd_T52 l0 x13_1).f0) == ((rd_T52 l1 x13_1).f0)) || (!(((rd_T52 l0 x13_1).f1) == ((rd_T52 l1 x13_1).f1)))) = false := by simpa using c8
      clear c8
      have H' := aU H
      clear H
      have p705 : 0 ≤ (x13_1 : Int) := dU
      have q705 : x13_1 < (l0.length : Int) := dU
      obtain ⟨ad705, e705, hx705_0, hx705_1⟩ := at_T52 HR0.out x13_1 p705 q705
      cases e705
      replace p705 := eq_true p705
      replace q705 := eq_true q705
      have p706 : 0 ≤ (x13_1 : Int) := dU
      have q706 : x13_1 < (l1.length : Int) := dU
      obtain ⟨ad706, e706, hx706_0, hx706_1⟩ := at_T52 HR1.out x13_1 p706 q706
      cases e706
      replace p706 := eq_true p706
      replace q706 := eq_true q706
      go_wp2
      repeat (go_quiet (fail); try go_wp2)
      go_roundg k1
      case measure => have := HK1.out; omega
      case rel => exact ⟨(wrap64 (x13_1 + 1)), eqU, H', ⟨by have := HK1.out; omega⟩, by repeat (first | exact Drawn0.refl _ | apply Drawn0.step)⟩
    ·rw [if_neg c4] at H
     have c4b0 : decide (x13_1 < (l0.length : Int)) = false := decide_eq_false c4
     clear c4
     obtain rfl := Option.some.inj H
     go_wp2
     repeat (go_quiet (fail); try go_wp2)
     go_ret
     exact ⟨by first | rfl | (simp; done) | (simp [*]; done), by repeat (first | exact Drawn0.refl _ | apply Drawn0.step)⟩
 ·rw [if_neg c3] at H
  have c3b0 : ((l0.length : Int) == (l1.length : Int)) = false := beq_eq_false_iff_ne.mpr c3
  have c3b1 : ((l0.length : Int) != (l1.length : Int)) = true := bne_iff_ne.mpr c3
  have c3b2 : (l0.length == l1.length) = false := by first | simpa using c3 | (simp at c3 ⊢; omega)
  obtain rfl := Option.some.inj H
  go_enter Tryz.func72, Tryz.ntmps72
  go_wp2
  repeat (go_quiet (fail); try go_wp2)
  go_ret
  exact ⟨by first | rfl | (simp; done) | (simp [*]; done), by repeat (first | exact Drawn0.refl _ | apply Drawn0.step)⟩
def spec_IsDart.f (a0_0 : Int) (a0_1 : Int) : Option (Bool) := (spec_daGood.f a0_0 a0_1).bind fun t708 => (some t708)
set_option maxHeartbeats 8000000 in
set_option maxRecDepth 100000 in
theorem spec_IsDart.calls (a0_0 : Int) (a0_1 : Int) (r : Bool) (w : World) (h : spec_IsDart.f a0_0 a0_1 = some r) :
  Calls Tryz.prog 74 #[.agg #[.int .i64 a0_0, .int .i64 a0_1]] w fun e w' => e = .returned (.bool r) ∧ Below w.heap.size w w' := by
 have hu52 := Tryz.underlying52
 have HB := aU (Below.refl w.heap.size w)
 have H : ((spec_daGood.f a0_0 a0_1).bind fun t708 => (some t708)) = some r := h
 clear h
 replace H := bindS H
 obtain ⟨t708, A2, H⟩ := H
 (try dsimp only at H)
 obtain rfl := Option.some.inj H
 go_enter Tryz.func74, Tryz.ntmps74
 go_wp2_with (first | ((with_reducible refine gdU 1 rfl ?_); refine bxU (cs := #[.int .i64 a0_0, .int .i64 a0_1]) (t := 52) ?_; intro gb707 hg w3 hbox hb; have BK707 := aU (hbox); have GW707 := geU hg; have GE707 := geU hg; replace HB := bsU hb; clear hb hbox hg; obtain ⟨hcz4_0, hcz4_1, hfz4_0, hfz4_1⟩ := b2U BK707) | ((with_reducible refine gcU 117 rfl ?_); refine goU (some 4) Tryz.func117 #[.agg #[.int .i64 a0_0, .int .i64 a0_1]] ?_; (with_reducible refine (spec_daGood.calls a0_0 a0_1 t708 _ A2.out).mono ?_); rintro e w5 ⟨rfl, hb⟩; refine ⟨_, rfl, ?_⟩; replace BK707 := bbU BK707 hb; replace HB := bsU hb; (try clear hb)))
 go_ret
 exact ⟨errU, hbU⟩
end Go.Proofs.YtcmlmjgoidpabaaGreatDoor.MFnDartsPlayed

