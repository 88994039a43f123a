/- Walks of the functions that the law reaches: each comes to just what the function that is told of it tells, for all arguments. -/
import Derived.Test.YtcmlmjgoidpabaaGreatDoorYMFnDartsPlayedx3
namespace Go.Proofs.YtcmlmjgoidpabaaGreatDoor.MFnDartsPlayed
open Go.RowKit Go.Proofs.YtcmlmjgoidpabaaGreatDoorW.PrintWords Go.Proofs.YtcmlmjgoidpabaaGreatDoorW.PrintLast Go.Proofs.YtcmlmjgoidpabaaGreatDoorW.PrintMore
attribute [local go_sem] max2_int min2_int max_two min_two max_three min_three max_four min_four
set_option linter.unusedVariables false
set_option linter.unusedSimpArgs false
mutual
def spec_daFirst.l0 : Nat → Int → Int → List (S52) → Int → Int → Option ((List (S52)))
 | 0, _, _, _, _, _ => none
 | k + 1, x0, x1, x8, x9, x10 => if x10 < x9 then (if 0 ≤ x10 then (if x10 < (x8.length : Int) then (if x1 = 1 then (if (wrap64 (x0 - (wrap64 (((rd_T52 x8 x10).f0) * ((rd_T52 x8 x10).f1))))) = 0 then (spec_daFirst.j1 k x0 x1 (wrap64 (x0 - (wrap64 (((rd_T52 x8 x10).f0) * ((rd_T52 x8 x10).f1))))) x8 x9 x10 (((rd_T52 x8 x10).f1) == 2) ((rd_T52 x8 x10).f0) ((rd_T52 x8 x10).f1)) else (spec_daFirst.j1 k x0 x1 (wrap64 (x0 - (wrap64 (((rd_T52 x8 x10).f0) * ((rd_T52 x8 x10).f1))))) x8 x9 x10 false ((rd_T52 x8 x10).f0) ((rd_T52 x8 x10).f1))) else (spec_daFirst.j1 k x0 x1 (wrap64 (x0 - (wrap64 (((rd_T52 x8 x10).f0) * ((rd_T52 x8 x10).f1))))) x8 x9 x10 false ((rd_T52 x8 x10).f0) ((rd_T52 x8 x10).f1))) else (none)) else (none)) else (some ([] : List (S52)))
def spec_daFirst.j1 : Nat → Int → Int → Int → List (S52) → Int → Int → Bool → Int → Int → Option ((List (S52)))
 | 0, _, _, _, _, _, _, _, _, _ => none
 | k + 1, x0, x1, x7, x8, x9, x10, x31, x195000, x195001 => if x31 = true then (some (([(⟨x195000, x195001⟩ : S52)] : List (S52)))) else (if x1 > 1 then (if x7 > 0 then ((spec_daFinishes.f k x7 (wrap64 (x1 - 1))).bind fun t198 => (if t198 > 0 then ((some (([(⟨x195000, x195001⟩ : S52)] : List (S52)) : List (S52))).bind fun y199 => ((spec_daFirst.f k x7 (wrap64 (x1 - 1))).bind fun t202 => (if y199.length + t202.length < 8796093022208 then (some (y199 ++ t202)) else (none)))) else (spec_daFirst.l0 k x0 x1 x8 x9 (wrap64 (x10 + 1))))) else (spec_daFirst.l0 k x0 x1 x8 x9 (wrap64 (x10 + 1)))) else (spec_daFirst.l0 k x0 x1 x8 x9 (wrap64 (x10 + 1))))
def spec_daFirst.f : Nat → Int → Int → Option ((List (S52)))
 | 0, _, _ => none
 | k + 1, a0, a1 => (spec_daAll.f k).bind fun t190 => (spec_daFirst.l0 k a0 a1 t190 (t190.length : Int) 0)
end
theorem spec_daFirst.mono_l : ∀ k, (∀ y0 y1, LeO (spec_daFirst.f k y0 y1) (spec_daFirst.f (k + 1) y0 y1)) ∧ (∀ y0 y1 y2 y3 y4, LeO (spec_daFirst.l0 k y0 y1 y2 y3 y4) (spec_daFirst.l0 (k + 1) y0 y1 y2 y3 y4)) ∧ (∀ y0 y1 y2 y3 y4 y5 y6 y7 y8, LeO (spec_daFirst.j1 k y0 y1 y2 y3 y4 y5 y6 y7 y8) (spec_daFirst.j1 (k + 1) y0 y1 y2 y3 y4 y5 y6 y7 y8))
 | 0 => ⟨fun _ _ r h => by simp [spec_daFirst.f] at h, fun _ _ _ _ _ r h => by simp [spec_daFirst.l0] at h, fun _ _ _ _ _ _ _ _ _ r h => by simp [spec_daFirst.j1] at h⟩
 | k + 1 => by
  obtain ⟨ih0, ih1, ih2⟩ := spec_daFirst.mono_l k
  refine ⟨?_, ?_, ?_⟩
  all_goals intros
  all_goals first | unfold spec_daFirst.f | unfold spec_daFirst.l0 | unfold spec_daFirst.j1
  all_goals repeat' first
  | (with_reducible exact ih0 _ _)
  | (with_reducible exact ih1 _ _ _ _ _)
  | (with_reducible exact ih2 _ _ _ _ _ _ _ _ _)
  | (with_reducible exact spec_daAll.mono _)
  | (with_reducible exact spec_daFinishes.mono _ _ _)
  | (with_reducible exact LeO.refl _)
  | (with_reducible exact LeO.none _)
  | (with_reducible refine LeO.ite ?_ ?_)
  | (with_reducible refine LeO.bind ?_ (fun _ => ?_))
theorem spec_daFirst.mono : ∀ a0 a1 k, LeO (spec_daFirst.f k a0 a1) (spec_daFirst.f (k + 1) a0 a1) := by
 intro a0 a1 k
 obtain ⟨ih0, ih1, ih2⟩ := spec_daFirst.mono_l k
 exact ih0 a0 a1
def spec_daFirst.T8 : Bool × List (List Nat × List Nat) := (true, [([], []), ([0], [0]), ([], []), ([], []), ([3], [3]), ([2, 4], [2, 4]), ([1, 5, 5], [1, 5]), ([6, 6, 0, 1, 2, 3, 4, 5, 6], [6])])
def spec_daFirst.B8 : List Nat := [0, 1, 0, 0, 8, 28, 63, 127]
theorem spec_daFirst.tab8 : rtab .any (opsOf Tryz.f157 8) = spec_daFirst.T8 := by kernel_rfl
theorem spec_daFirst.bits8 : waitsOk spec_daFirst.T8.2 spec_daFirst.B8 = true := by kernel_rfl
set_option maxHeartbeats 8000000 in
set_option maxRecDepth 100000 in
theorem spec_daFirst.calls (k : Nat) : ∀ (a0 : Int) (a1 : Int) (r : List (S52)) (w : World) (h : spec_daFirst.f k a0 a1 = some r),
  Calls Tryz.prog 157 #[.int .i64 a0, .int .i64 a1] w fun e w' => ∃ v0_ : Value, e = .returned (v0_) ∧ Kd.R k52 52 w' w.heap.size (fun _ => True) v0_ r ∧ Below w.heap.size w w' := by
 induction k using Nat.strongRecOn with
 | _ k ih =>
 intro a0 a1 r w h
 cases k with
 | zero => exact absurd h (by simp [spec_daFirst.f])
 | succ k =>
 simp only [spec_daFirst.f] at h
 have hu52 := Tryz.underlying52
 have HB := aU (Below.refl w.heap.size w)
 have H : ((spec_daAll.f k).bind fun t190 => (spec_daFirst.l0 k a0 a1 t190 (t190.length : Int) 0)) = some r := h
 clear h
 replace H := bindS H
 obtain ⟨t190, A3, H⟩ := H
 (try dsimp only at H)
 have H' := aU H
 clear H
 go_enter Tryz.func157, Tryz.ntmps157
 go_wp2_with (first | ((with_reducible refine gcU 176 rfl ?_); refine goU (some 8) Tryz.func176 #[] ?_; (with_reducible refine (spec_daAll.calls k  t190 _ A3.out).mono ?_); rintro e w4 ⟨v191, rfl, ho0, hb⟩; refine ⟨_, rfl, ?_⟩; have HO192 := aU (Kd.R_lower ho0 (below_size hbU)); replace HB := bsU hb; (try clear ho0 hb); obtain ⟨Ao5, co5, eo5⟩ := Kd.R_slice HO192.out; subst eo5))
 go_loopg [10] k (fun kq v10 w' => ∃ (x10_1 : Int), v10 = .int .i64 x10_1 ∧ Aside0 (spec_daFirst.l0 kq a0 a1 t190 (t190.length : Int) x10_1 = some r) ∧ Aside0 (kq ≤ k) ∧ Aside0 (Kd.R k52 52 w' w.heap.size (fun _ => True) (.slice Ao5 t190.length co5) t190) ∧ Aside0 (Below w.heap.size w w'))
 case atStart => exact ⟨(0), eqU, H', ⟨Nat.le_refl _⟩, ⟨roU HO192⟩, ⟨hbU⟩⟩
 case round =>
  clear H'
  obtain ⟨x10_1, rfl, HA, HK1, HO_8, HB⟩ := hrel
  cases gk with
  | zero => exact absurd HA.out (by simp [spec_daFirst.l0])
  | succ k1 =>
   have H := HA.out
   clear HA
   simp only [spec_daFirst.l0] at H
   by_cases c6 : x10_1 < (t190.length : Int)
   ·rw [if_pos c6] at H
    have c6b0 : decide (x10_1 < (t190.length : Int)) = true := decide_eq_true c6
    clear c6
    replace H := ifS H
    obtain ⟨c7, H⟩ := H
    have c7b0 : decide (0 ≤ x10_1) = true := decide_eq_true c7
    clear c7
    replace H := ifS H
    obtain ⟨c8, H⟩ := H
    have c8b0 : decide (x10_1 < (t190.length : Int)) = true := decide_eq_true c8
    clear c8
    have HC9 := aU H
    clear H
    have p193 : 0 ≤ (x10_1 : Int) := dU
    have q193 : x10_1 < (t190.length : Int) := dU
    obtain ⟨ad193, e193, hx193_0, hx193_1⟩ := at_T52 (Kd.R_reads' HO_8.out).2.2 x10_1 p193 q193
    cases e193
    replace p193 := eq_true p193
    replace q193 := eq_true q193
    go_upto_region 5 with (first | ((with_reducible refine gdU 6 rfl ?_); refine bxU (cs := #[.int .i64 0, .int .i64 0]) (t := 52) ?_; intro gb194 hg w10 hbox hb; replace HO_8 := aU (Kd.R_below (Kd.R_elderB (roU HO_8) gb194 (Nat.le_of_eq hg.symm)) hb); have BK194 := aU (hbox); have GW194 := geU hg; have GE194 := geU hg; replace HB := bsU hb; clear hb hbox hg; obtain ⟨hcz11_0, hcz11_1, hfz11_0, hfz11_1⟩ := b2U BK194))
    (try simp only [Act.put, List.setIfInBounds_toArray, List.set_cons_zero, List.set_cons_succ])
    go_cut [31] (fun v31 wc => ∃ (kq : Nat) (x31_8 : Bool), v31 = .bool x31_8 ∧ Aside0 (spec_daFirst.j1 kq a0 a1 (wrap64 (a0 - (wrap64 (((rd_T52 t190 x10_1).f0) * ((rd_T52 t190 x10_1).f1))))) t190 (t190.length : Int) x10_1 x31_8 ((rd_T52 t190 x10_1).f0) ((rd_T52 t190 x10_1).f1) = some r) ∧ Aside0 (kq ≤ k1) ∧ Aside0 (Kd.R k52 52 wc w.heap.size (fun k_ => k_ ≠ gb194) (.slice (some ad193) t190.length co5) t190) ∧ Aside0 (wc.heap[gb194]? = some (.cells #[.int .i64 ((rd_T52 t190 x10_1).f0), .int .i64 ((rd_T52 t190 x10_1).f1)] 52 (0, 0))) ∧ Aside0 (Below w.heap.size w wc))
    case first =>
     have H := HC9.out
     clear HC9
     by_cases c12 : a1 = 1
     ·rw [if_pos c12] at H
      have c12b0 : (a1 == 1) = true := beq_iff_eq.mpr c12
      have c12b1 : (a1 != 1) = false := bne_eq_false_iff_eq.mpr c12
      clear c12
      (first | rw [c12b0] | (simp only [i64_w, i32_w]; rw [c12b0]) | skip)
      by_cases c13 : (wrap64 (a0 - (wrap64 (((rd_T52 t190 x10_1).f0) * ((rd_T52 t190 x10_1).f1))))) = 0
      ·rw [if_pos c13] at H
       have c13b0 : ((wrap64 (a0 - (wrap64 (((rd_T52 t190 x10_1).f0) * ((rd_T52 t190 x10_1).f1))))) == 0) = true := beq_iff_eq.mpr c13
       have c13b1 : ((wrap64 (a0 - (wrap64 (((rd_T52 t190 x10_1).f0) * ((rd_T52 t190 x10_1).f1))))) != 0) = false := bne_eq_false_iff_eq.mpr c13
       clear c13
       have H' := aU H
       clear H
       have hcz14_0 : w10.cell? ⟨gb194, 0, none⟩ = some (.int .i64 0) := (blk_cell BK194.out 0).trans rfl
       have hcz14_1 : w10.cell? ⟨gb194, 1, none⟩ = some (.int .i64 0) := (blk_cell BK194.out 1).trans rfl
       have hfz14_0 := blk_frozen BK194.out 0
       have hfz14_1 := blk_frozen BK194.out 1
       go_wp2
       go_meet
       case rel => exact ⟨_, ((((rd_T52 t190 x10_1).f1) == 2)), eqU, H', ⟨by have := HK1.out; first | omega | exact Nat.le_refl _⟩, ⟨by (with_reducible repeat (first | apply Kd.R_alloc | apply Kd.R_drewN | apply Kd.R_drew)); exact Kd.R_mono (Kd.R_far (p := ⟨gb194, 1, none⟩) (Kd.R_far (p := ⟨gb194, 0, none⟩) (Kd.R_mono HO_8.out (fun k_ hk => (⟨hk, hk.2⟩ : _ ∧ k_ ≠ gb194))) (fun _ hk => hk.2) (.int .i64 ((rd_T52 t190 x10_1).f0))) (fun _ hk => hk.2) (.int .i64 ((rd_T52 t190 x10_1).f1))) (fun _ hk => hk.1.2)⟩, ⟨bkU⟩, ⟨hbU⟩⟩
      ·rw [if_neg c13] at H
       have c13b0 : ((wrap64 (a0 - (wrap64 (((rd_T52 t190 x10_1).f0) * ((rd_T52 t190 x10_1).f1))))) == 0) = false := beq_eq_false_iff_ne.mpr c13
       have c13b1 : ((wrap64 (a0 - (wrap64 (((rd_T52 t190 x10_1).f0) * ((rd_T52 t190 x10_1).f1))))) != 0) = true := bne_iff_ne.mpr c13
       have H' := aU H
       clear H
       go_wp2
       go_meet
       case rel => exact ⟨_, (false), eqU, H', ⟨by have := HK1.out; first | omega | exact Nat.le_refl _⟩, ⟨by (with_reducible repeat (first | apply Kd.R_alloc | apply Kd.R_drewN | apply Kd.R_drew)); exact Kd.R_mono (Kd.R_far (p := ⟨gb194, 1, none⟩) (Kd.R_far (p := ⟨gb194, 0, none⟩) (Kd.R_mono HO_8.out (fun k_ hk => (⟨hk, hk.2⟩ : _ ∧ k_ ≠ gb194))) (fun _ hk => hk.2) (.int .i64 ((rd_T52 t190 x10_1).f0))) (fun _ hk => hk.2) (.int .i64 ((rd_T52 t190 x10_1).f1))) (fun _ hk => hk.1.2)⟩, ⟨bkU⟩, ⟨hbU⟩⟩
     ·rw [if_neg c12] at H
      have c12b0 : (a1 == 1) = false := beq_eq_false_iff_ne.mpr c12
      have c12b1 : (a1 != 1) = true := bne_iff_ne.mpr c12
      (first | rw [c12b0] | (simp only [i64_w, i32_w]; rw [c12b0]) | skip)
      have H' := aU H
      clear H
      go_wp2
      go_meet
      case rel => exact ⟨_, (false), eqU, H', ⟨by have := HK1.out; first | omega | exact Nat.le_refl _⟩, ⟨by (with_reducible repeat (first | apply Kd.R_alloc | apply Kd.R_drewN | apply Kd.R_drew)); exact Kd.R_mono (Kd.R_far (p := ⟨gb194, 1, none⟩) (Kd.R_far (p := ⟨gb194, 0, none⟩) (Kd.R_mono HO_8.out (fun k_ hk => (⟨hk, hk.2⟩ : _ ∧ k_ ≠ gb194))) (fun _ hk => hk.2) (.int .i64 ((rd_T52 t190 x10_1).f0))) (fun _ hk => hk.2) (.int .i64 ((rd_T52 t190 x10_1).f1))) (fun _ hk => hk.1.2)⟩, ⟨bkU⟩, ⟨hbU⟩⟩
    case rest =>
     clear HC9
     (try clear c6b0); (try clear c7b0); (try clear c8b0); (try clear hcz11_0); (try clear hcz11_1); (try clear hfz11_0); (try clear hfz11_1); (try clear hx193_0); (try clear hx193_1); (try clear p193); (try clear q193)
     obtain ⟨kq, x31_8, rfl, HA, HJ8, HO_8, BK194, HB⟩ := hcut
     cases kq with
     | zero => exact absurd HA.out (by simp [spec_daFirst.j1])
     | succ kj8 =>
      have H := HA.out
      clear HA
      simp only [spec_daFirst.j1] at H
      by_cases c15 : x31_8 = true
      ·subst c15
       rw [if_pos rfl] at H
       obtain ⟨y195, hy195⟩ : ∃ y_ : List (S52), y_ = (([(⟨((rd_T52 t190 x10_1).f0), ((rd_T52 t190 x10_1).f1)⟩ : S52)] : List (S52))) := ⟨_, rfl⟩
       replace H : (some y195) = some r := by first | (rw [hy195]; with_reducible exact H) | (have H2_ := (Option.bind_some _ _).symm.trans H; rw [hy195]; with_reducible exact H2_) | (have H2_ := (Option.bind_some _ _).symm.trans H; with_reducible exact H2_) | with_reducible exact H | (rw [hy195]; exact H) | exact H
       have Ny195 := aU hy195
       clear hy195
       obtain rfl := Option.some.inj H
       have hcz16_0 : wc.cell? ⟨gb194, 0, none⟩ = some (.int .i64 ((rd_T52 t190 x10_1).f0)) := (blk_cell BK194.out 0).trans rfl
       have hcz16_1 : wc.cell? ⟨gb194, 1, none⟩ = some (.int .i64 ((rd_T52 t190 x10_1).f1)) := (blk_cell BK194.out 1).trans rfl
       have hfz16_0 := blk_frozen BK194.out 0
       have hfz16_1 := blk_frozen BK194.out 1
       go_wp2_with (first | ((with_reducible refine gdU 33 rfl ?_); refine Kd.R_lit k52 _ 52 ?hg (N := 33) ?hd (xs := ([(⟨((rd_T52 t190 x10_1).f0), ((rd_T52 t190 x10_1).f1)⟩ : S52)] : List (S52))) (inner := [.int .i64 ((rd_T52 t190 x10_1).f0), .int .i64 ((rd_T52 t190 x10_1).f1)]) (ok := fun _ => True) (okp := fun _ => True) ?hr ?hp (fun _ hk => hk) trivial (Below.refl _ _) (Nat.le_refl _) (by simp) ?_; (case hd => rfl); (case hg => rfl); (case hr => first | (go_simp; done) | (go_simp; rfl)); (case hp => exact (Reps.c2 (show Kd.M k52 _ _ _ (⟨((rd_T52 t190 x10_1).f0), ((rd_T52 t190 x10_1).f1)⟩ : S52) [.int .i64 ((rd_T52 t190 x10_1).f0), .int .i64 ((rd_T52 t190 x10_1).f1)] from (k52_mkM _ _ _ (⟨((rd_T52 t190 x10_1).f0), ((rd_T52 t190 x10_1).f1)⟩ : S52) )) (Reps.none _ _))); intro v196 w17 ho18 hb hg_ hnew_; clear hg_ hnew_; (first | rw [← Ny195.out] at ho18 | (simp only [Int.reduceToNat] at ho18; rw [← Ny195.out] at ho18)); have HO197 := aU (Kd.R_lower (Kd.R_newB (Kd.R_new' ho18 (Kd.R_lt (roU HO_8))) (g := gb194) (o := .cells #[.int .i64 ((rd_T52 t190 x10_1).f0), .int .i64 ((rd_T52 t190 x10_1).f1)] 52 (0, 0)) bkU) (below_size hbU)); replace HO_8 := aU (Kd.R_elder' (roU HO_8) (Kd.R_base ho18) hb); replace BK194 := aU (blk_below (g := gb194) (o := .cells #[.int .i64 ((rd_T52 t190 x10_1).f0), .int .i64 ((rd_T52 t190 x10_1).f1)] 52 (0, 0)) bkU hb); replace HB := bsU hb; clear hb ho18))
       go_ret
       exact ⟨_, errU, by (with_reducible repeat (first | apply Kd.R_alloc | apply Kd.R_drewN | apply Kd.R_drew)); exact Kd.R_mono HO197.out (fun _ hk => trivial), hbU⟩
      ·replace c15 := Bool.eq_false_iff.mpr c15
       subst c15
       rw [if_neg (show ¬ (false = true) by decide)] at H
       by_cases c19 : a1 > 1
       ·rw [if_pos c19] at H
        have c19b0 : decide (1 < a1) = true := decide_eq_true c19
        clear c19
        by_cases c20 : (wrap64 (a0 - (wrap64 (((rd_T52 t190 x10_1).f0) * ((rd_T52 t190 x10_1).f1))))) > 0
        ·rw [if_pos c20] at H
         have c20b0 : decide (0 < (wrap64 (a0 - (wrap64 (((rd_T52 t190 x10_1).f0) * ((rd_T52 t190 x10_1).f1)))))) = true := decide_eq_true c20
         clear c20
         replace H := bindS H
         obtain ⟨t198, A21, H⟩ := H
         (try dsimp only at H)
         by_cases c22 : t198 > 0
         ·rw [if_pos c22] at H
          have c22b0 : decide (0 < t198) = true := decide_eq_true c22
          clear c22
          obtain ⟨y199, hy199⟩ : ∃ y_ : List (S52), y_ = (([(⟨((rd_T52 t190 x10_1).f0), ((rd_T52 t190 x10_1).f1)⟩ : S52)] : List (S52))) := ⟨_, rfl⟩
          replace H : ((spec_daFirst.f kj8 (wrap64 (a0 - (wrap64 (((rd_T52 t190 x10_1).f0) * ((rd_T52 t190 x10_1).f1))))) (wrap64 (a1 - 1))).bind fun t202 => (if y199.length + t202.length < 8796093022208 then (some (y199 ++ t202)) else (none))) = some r := by first | (rw [hy199]; with_reducible exact H) | (have H2_ := (Option.bind_some _ _).symm.trans H; rw [hy199]; with_reducible exact H2_) | (have H2_ := (Option.bind_some _ _).symm.trans H; with_reducible exact H2_) | with_reducible exact H | (rw [hy199]; exact H) | exact H
          have Ny199 := aU hy199
          clear hy199
          replace H := bindS H
          obtain ⟨t202, A23, H⟩ := H
          (try dsimp only at H)
          replace H := ifS H
          obtain ⟨c24, H⟩ := H
          have LMc24 := aU c24
          clear c24
          obtain ⟨y205, hy205⟩ : ∃ y_ : List (S52), y_ = (y199 ++ t202) := ⟨_, rfl⟩
          replace H : (some y205) = some r := by first | (rw [hy205]; with_reducible exact H) | (have H2_ := (Option.bind_some _ _).symm.trans H; rw [hy205]; with_reducible exact H2_) | (have H2_ := (Option.bind_some _ _).symm.trans H; with_reducible exact H2_) | with_reducible exact H | (rw [hy205]; exact H) | exact H
          have Ny205 := aU hy205
          clear hy205
          obtain rfl := Option.some.inj H
          try go_wp2_with (first | (go_at_call 156; (with_reducible refine (spec_daFinishes.calls kj8 (wrap64 (a0 - (wrap64 (((rd_T52 t190 x10_1).f0) * ((rd_T52 t190 x10_1).f1))))) (wrap64 (a1 - 1)) t198 _ A21.out).mono ?_); rintro e w25 ⟨rfl, hb⟩; replace HO_8 := aU (Kd.R_below (roU HO_8) hb); replace BK194 := aU (blk_below (g := gb194) (o := .cells #[.int .i64 ((rd_T52 t190 x10_1).f0), .int .i64 ((rd_T52 t190 x10_1).f1)] 52 (0, 0)) bkU hb); replace HB := bsU hb; (try clear hb)))
          replace HO_8 := aU (Kd.R_drew HO_8.out)
          replace BK194 := aU (blk_drew BK194.out)
          replace HB := aU (below_drew1 HB.out)
          refine start_ (n := 8) (S := fun w' => w'.cell? ⟨gb194, 0, none⟩ = some (.int .i64 ((rd_T52 t190 x10_1).f0)) ∧ w'.cell? ⟨gb194, 1, none⟩ = some (.int .i64 ((rd_T52 t190 x10_1).f1))) (ds := []) #[false, false, false, false, false, false, false, false] (by kernel_rfl) rfl rfl ⟨(blk_cell BK194.out 0).trans rfl, (blk_cell BK194.out 1).trans rfl⟩ (fun hHeld => ?_); refine with_tabW spec_daFirst.tab8 spec_daFirst.bits8 (fun HT_ HW_ => ?_)
          generalize w25.drew = w26 at HO_8 BK194 HB hHeld ⊢
          refine puU 2 49 HT_ ?_
          refine puU 3 50 HT_ ?_
          refine puU 4 51 HT_ ?_
          refine tkU 0 47 HT_ HW_ hHeld ?_
          refine join_ (σ := Value × Value) 2 #[true, true, true, true, true, true, false, false] (fun s_ => [(48, s_.1), (52, s_.2)]) (fun s_ w' => (w'.cell? ⟨gb194, 0, none⟩ = some (.int .i64 ((rd_T52 t190 x10_1).f0)) ∧ w'.cell? ⟨gb194, 1, none⟩ = some (.int .i64 ((rd_T52 t190 x10_1).f1))) ∧ (Kd.R k52 52 w' w.heap.size (fun k_ => some k_ ≠ (s_.2 : Value).ownBlock ∧ some k_ ≠ (.slice (some ad193) t190.length co5 : Value).ownBlock ∧ k_ ≠ gb194) s_.1 y199) ∧ (Kd.R k52 52 w' w.heap.size (fun k_ => some k_ ≠ (s_.1 : Value).ownBlock ∧ some k_ ≠ (.slice (some ad193) t190.length co5 : Value).ownBlock ∧ k_ ≠ gb194) s_.2 t202) ∧ (Kd.R k52 52 w' w.heap.size (fun k_ => some k_ ≠ (s_.1 : Value).ownBlock ∧ some k_ ≠ (s_.2 : Value).ownBlock ∧ k_ ≠ gb194) (.slice (some ad193) t190.length co5) t190) ∧ (w'.heap[gb194]? = some (.cells #[.int .i64 ((rd_T52 t190 x10_1).f0), .int .i64 ((rd_T52 t190 x10_1).f1)] 52 (0, 0))) ∧ (Below w.heap.size w w')) ?_ ?_
          rotate_left
          ·intro hCont
           refine two_ (i := 1) (j := 5) (Ni := some 48) (Nj := some 52) #[true, true, true, true, true, false, false, false] #[true, false, true, true, true, true, false, false] rfl rfl rfl rfl (two_of HT_.out (by kernel_rfl)) (by decide) (by decide) (fun K hK => ?_) (fun K hK => ?_)
           ·skip
            refine Kd.R_lit_step k52 _ 52 ?hg (N := 48) ?hd (xs := ([(⟨((rd_T52 t190 x10_1).f0), ((rd_T52 t190 x10_1).f1)⟩ : S52)] : List (S52))) (inner := [.int .i64 ((rd_T52 t190 x10_1).f0), .int .i64 ((rd_T52 t190 x10_1).f1)]) (ok := fun _ => True) (okp := fun _ => True) ?hr ?hp (fun _ hk => hk) trivial (Below.refl _ _) (Nat.le_refl _) (by simp) ?_; (case hd => rfl); (case hg => rfl); (case hr => first | (go_simp; done) | (go_simp; rfl)); (case hp => exact (Reps.c2 (show Kd.M k52 _ _ _ (⟨((rd_T52 t190 x10_1).f0), ((rd_T52 t190 x10_1).f1)⟩ : S52) [.int .i64 ((rd_T52 t190 x10_1).f0), .int .i64 ((rd_T52 t190 x10_1).f1)] from (k52_mkM _ _ _ (⟨((rd_T52 t190 x10_1).f0), ((rd_T52 t190 x10_1).f1)⟩ : S52) )) (Reps.none _ _)))
            intro v200 w27 ho28 hb hg_ hnew_
            clear hg_ hnew_
            (first | rw [← Ny199.out] at ho28 | (simp only [Int.reduceToNat] at ho28; rw [← Ny199.out] at ho28))
            have HO201 := aU (Kd.R_lower (Kd.R_newB (Kd.R_new' ho28 (Kd.R_lt (roU HO_8))) (g := gb194) (o := .cells #[.int .i64 ((rd_T52 t190 x10_1).f0), .int .i64 ((rd_T52 t190 x10_1).f1)] 52 (0, 0)) bkU) (below_size hbU))
            replace HO_8 := aU (Kd.R_elder' (roU HO_8) (Kd.R_base ho28) hb)
            replace BK194 := aU (blk_below (g := gb194) (o := .cells #[.int .i64 ((rd_T52 t190 x10_1).f0), .int .i64 ((rd_T52 t190 x10_1).f1)] 52 (0, 0)) bkU hb)
            replace HB := bsU hb
            clear hb ho28
            refine hK.out _ _ ⟨(blk_cell BK194.out 0).trans rfl, (blk_cell BK194.out 1).trans rfl⟩ (fun hHeld => ?_)
            clear hK K
            refine nmU 48 ?_
            refine onU 5 (some 52) HT_ (fun K hK => ?_)
            refine goes_ Tryz.func157 (by kernel_rfl) rfl #[.int .i64 (wrap64 (a0 - (wrap64 (((rd_T52 t190 x10_1).f0) * ((rd_T52 t190 x10_1).f1))))), .int .i64 (wrap64 (a1 - 1))] (by rfl) rfl rfl arU ?_
            with_reducible refine (ih kj8 (by have := HK1.out; have := HJ8.out; omega) (wrap64 (a0 - (wrap64 (((rd_T52 t190 x10_1).f0) * ((rd_T52 t190 x10_1).f1))))) (wrap64 (a1 - 1)) t202 _ A23.out).mono ?_
            rintro e w29 ⟨v203, rfl, ho0, hb⟩
            refine ⟨_, rfl, ?_⟩
            have HO204 := aU (Kd.R_lower (Kd.R_newB (Kd.R_new' (Kd.R_new' ho0 (Kd.R_lt (roU HO_8))) (Kd.R_lt (roU HO201))) (g := gb194) (o := .cells #[.int .i64 ((rd_T52 t190 x10_1).f0), .int .i64 ((rd_T52 t190 x10_1).f1)] 52 (0, 0)) bkU) (below_size hbU))
            replace HO_8 := aU (Kd.R_elder' (roU HO_8) (Kd.R_base ho0) hb)
            replace HO201 := aU (Kd.R_elder' (roU HO201) (Kd.R_base ho0) hb)
            replace BK194 := aU (blk_below (g := gb194) (o := .cells #[.int .i64 ((rd_T52 t190 x10_1).f0), .int .i64 ((rd_T52 t190 x10_1).f1)] 52 (0, 0)) bkU hb)
            replace HB := bsU hb
            (try clear hb); (try clear ho0 ho0 ho0 ho0)
            refine hK.out _ _ ⟨(blk_cell BK194.out 0).trans rfl, (blk_cell BK194.out 1).trans rfl⟩ (fun hHeld => ?_)
            clear hK K
            refine nmU 52 ?_
            exact norm_ (by simp only [putAll, Act.put, List.setIfInBounds_toArray, List.set_cons_zero, List.set_cons_succ]) (hCont (v200, v203) _ ⟨hHeld, (by (with_reducible repeat (first | apply Kd.R_alloc | apply Kd.R_drewN | apply Kd.R_drew)); exact Kd.R_mono HO201.out (fun _ hk => ⟨hk.2, ⟨hk.1.1.2, hk.1.2⟩⟩)), (by (with_reducible repeat (first | apply Kd.R_alloc | apply Kd.R_drewN | apply Kd.R_drew)); exact Kd.R_mono HO204.out (fun _ hk => ⟨hk.1.2, ⟨hk.1.1.2, hk.2⟩⟩)), (by (with_reducible repeat (first | apply Kd.R_alloc | apply Kd.R_drewN | apply Kd.R_drew)); exact Kd.R_mono HO_8.out (fun _ hk => ⟨hk.1.2, ⟨hk.2, hk.1.1⟩⟩)), bkU, hbU⟩)
           ·skip
            refine goes_ Tryz.func157 (by kernel_rfl) rfl #[.int .i64 (wrap64 (a0 - (wrap64 (((rd_T52 t190 x10_1).f0) * ((rd_T52 t190 x10_1).f1))))), .int .i64 (wrap64 (a1 - 1))] (by rfl) rfl rfl arU ?_
            with_reducible refine (ih kj8 (by have := HK1.out; have := HJ8.out; omega) (wrap64 (a0 - (wrap64 (((rd_T52 t190 x10_1).f0) * ((rd_T52 t190 x10_1).f1))))) (wrap64 (a1 - 1)) t202 _ A23.out).mono ?_
            rintro e w27 ⟨v203, rfl, ho0, hb⟩
            refine ⟨_, rfl, ?_⟩
            have HO204 := aU (Kd.R_lower (Kd.R_newB (Kd.R_new' ho0 (Kd.R_lt (roU HO_8))) (g := gb194) (o := .cells #[.int .i64 ((rd_T52 t190 x10_1).f0), .int .i64 ((rd_T52 t190 x10_1).f1)] 52 (0, 0)) bkU) (below_size hbU))
            replace HO_8 := aU (Kd.R_elder' (roU HO_8) (Kd.R_base ho0) hb)
            replace BK194 := aU (blk_below (g := gb194) (o := .cells #[.int .i64 ((rd_T52 t190 x10_1).f0), .int .i64 ((rd_T52 t190 x10_1).f1)] 52 (0, 0)) bkU hb)
            replace HB := bsU hb
            (try clear hb); (try clear ho0 ho0 ho0)
            refine hK.out _ _ ⟨(blk_cell BK194.out 0).trans rfl, (blk_cell BK194.out 1).trans rfl⟩ (fun hHeld => ?_)
            clear hK K
            refine nmU 52 ?_
            refine onU 1 (some 48) HT_ (fun K hK => ?_)
            refine Kd.R_lit_step k52 _ 52 ?hg (N := 48) ?hd (xs := ([(⟨((rd_T52 t190 x10_1).f0), ((rd_T52 t190 x10_1).f1)⟩ : S52)] : List (S52))) (inner := [.int .i64 ((rd_T52 t190 x10_1).f0), .int .i64 ((rd_T52 t190 x10_1).f1)]) (ok := fun _ => True) (okp := fun _ => True) ?hr ?hp (fun _ hk => hk) trivial (Below.refl _ _) (Nat.le_refl _) (by simp) ?_; (case hd => rfl); (case hg => rfl); (case hr => first | (go_simp; done) | (go_simp; rfl)); (case hp => exact (Reps.c2 (show Kd.M k52 _ _ _ (⟨((rd_T52 t190 x10_1).f0), ((rd_T52 t190 x10_1).f1)⟩ : S52) [.int .i64 ((rd_T52 t190 x10_1).f0), .int .i64 ((rd_T52 t190 x10_1).f1)] from (k52_mkM _ _ _ (⟨((rd_T52 t190 x10_1).f0), ((rd_T52 t190 x10_1).f1)⟩ : S52) )) (Reps.none _ _)))
            intro v200 w28 ho29 hb hg_ hnew_
            clear hg_ hnew_
            (first | rw [← Ny199.out] at ho29 | (simp only [Int.reduceToNat] at ho29; rw [← Ny199.out] at ho29))
            have HO201 := aU (Kd.R_lower (Kd.R_newB (Kd.R_new' (Kd.R_new' ho29 (Kd.R_lt (roU HO_8))) (Kd.R_lt (roU HO204))) (g := gb194) (o := .cells #[.int .i64 ((rd_T52 t190 x10_1).f0), .int .i64 ((rd_T52 t190 x10_1).f1)] 52 (0, 0)) bkU) (below_size hbU))
            replace HO_8 := aU (Kd.R_elder' (roU HO_8) (Kd.R_base ho29) hb)
            replace HO204 := aU (Kd.R_elder' (roU HO204) (Kd.R_base ho29) hb)
            replace BK194 := aU (blk_below (g := gb194) (o := .cells #[.int .i64 ((rd_T52 t190 x10_1).f0), .int .i64 ((rd_T52 t190 x10_1).f1)] 52 (0, 0)) bkU hb)
            replace HB := bsU hb
            clear hb ho29
            refine hK.out _ _ ⟨(blk_cell BK194.out 0).trans rfl, (blk_cell BK194.out 1).trans rfl⟩ (fun hHeld => ?_)
            clear hK K
            refine nmU 48 ?_
            exact norm_ (by simp only [putAll, Act.put, List.setIfInBounds_toArray, List.set_cons_zero, List.set_cons_succ]) (hCont (v200, v203) _ ⟨hHeld, (by (with_reducible repeat (first | apply Kd.R_alloc | apply Kd.R_drewN | apply Kd.R_drew)); exact Kd.R_mono HO201.out (fun _ hk => ⟨hk.1.2, ⟨hk.1.1.2, hk.2⟩⟩)), (by (with_reducible repeat (first | apply Kd.R_alloc | apply Kd.R_drewN | apply Kd.R_drew)); exact Kd.R_mono HO204.out (fun _ hk => ⟨hk.2, ⟨hk.1.1.2, hk.1.2⟩⟩)), (by (with_reducible repeat (first | apply Kd.R_alloc | apply Kd.R_drewN | apply Kd.R_drew)); exact Kd.R_mono HO_8.out (fun _ hk => ⟨hk.2, ⟨hk.1.2, hk.1.1⟩⟩)), bkU, hbU⟩)
          rintro ⟨v200, v203⟩ w30 ⟨hS_, h0_, h1_, h2_, h3_, h4_⟩
          have n0_ : Aside0 (Kd.R k52 52 w30 w.heap.size (fun k_ => some k_ ≠ (v203 : Value).ownBlock ∧ some k_ ≠ (.slice (some ad193) t190.length co5 : Value).ownBlock ∧ k_ ≠ gb194) v200 y199) := ⟨h0_⟩
          have n1_ : Aside0 (Kd.R k52 52 w30 w.heap.size (fun k_ => some k_ ≠ (v200 : Value).ownBlock ∧ some k_ ≠ (.slice (some ad193) t190.length co5 : Value).ownBlock ∧ k_ ≠ gb194) v203 t202) := ⟨h1_⟩
          have n2_ : Aside0 (Kd.R k52 52 w30 w.heap.size (fun k_ => some k_ ≠ (v200 : Value).ownBlock ∧ some k_ ≠ (v203 : Value).ownBlock ∧ k_ ≠ gb194) (.slice (some ad193) t190.length co5) t190) := ⟨h2_⟩
          have n3_ : Aside0 (w30.heap[gb194]? = some (.cells #[.int .i64 ((rd_T52 t190 x10_1).f0), .int .i64 ((rd_T52 t190 x10_1).f1)] 52 (0, 0))) := ⟨h3_⟩
          have n4_ : Aside0 (Below w.heap.size w w30) := ⟨h4_⟩
          clear HO_8
          clear BK194
          clear HB
          clear h0_ h1_ h2_ h3_ h4_
          have HO201 := n0_
          have HO204 := n1_
          have HO_8 := n2_
          have BK194 := n3_
          have HB := n4_
          clear n0_ n1_ n2_ n3_ n4_
          have hHeld : w30.cell? ⟨gb194, 0, none⟩ = some (.int .i64 ((rd_T52 t190 x10_1).f0)) ∧ w30.cell? ⟨gb194, 1, none⟩ = some (.int .i64 ((rd_T52 t190 x10_1).f1)) := hS_
          obtain ⟨Ao32, co32, eo32⟩ := Kd.R_slice HO204.out
          (first | subst eo32 | (injection eo32 with f1_ f2_ f3_; have f4_ := f1_.symm; have f5_ := f3_.symm; clear f1_ f2_ f3_; subst f4_; subst f5_))
          refine norm_ (a' := ?_) ?_ ?_
          rotate_left
          ·simp only [putAll, Act.put, List.setIfInBounds_toArray, List.set_cons_zero, List.set_cons_succ]
           rfl
          refine onU 6 (some 53) HT_ (fun K hK => ?_)
          refine Kd.R_append_rows_step k52 (w0 := w) w.heap.size (by rfl) (.tmp 48) (.tmp 52) 45 52 (.agg #[(.int .i64 0), (.int .i64 0)]) 16 rfl Tryz.underlying45 info52 rfl (by decide) (by omega) v200 y199 t202 _ _ _ (fun k_ => some k_ ≠ (.slice (some ad193) t190.length co5 : Value).ownBlock ∧ some k_ ≠ (.slice Ao32 t202.length co32 : Value).ownBlock ∧ k_ ≠ gb194) (fun _ => False) rfl rfl ?aO ?aR (fun _ _ h => h) (fun _ h => h.elim) ?aF ?aB ?aS ?aL ?_
          (case aR => exact rcU HO204)
          (case aB => exact hbU)
          (case aF => exact (fun k_ hk => ⟨Kd.fresh' (Kd.R_lt (roU HO_8)) k_ hk, Kd.fresh' (Kd.R_lt (roU HO204)) k_ hk, Kd.freshB (g := gb194) (o := .cells #[.int .i64 ((rd_T52 t190 x10_1).f0), .int .i64 ((rd_T52 t190 x10_1).f1)] 52 (0, 0)) bkU k_ hk⟩))
          (case aO => exact (by (with_reducible repeat (first | apply Kd.R_alloc | apply Kd.R_drewN | apply Kd.R_drew)); exact Kd.R_mono HO201.out (fun _ hk => ⟨hk.2.1, ⟨hk.1, hk.2.2⟩⟩)))
          (case aS => exact (below_size hbU))
          (case aL => have := LMc24.out; omega)
          intro v206 w31 ho hb hg hat
          rw [← Ny205.out] at ho
          replace HO_8 := aU (Kd.R_after (ok := (fun k_ => some k_ ≠ (.slice Ao32 t202.length co32 : Value).ownBlock ∧ k_ ≠ gb194)) (by (with_reducible repeat (first | apply Kd.R_alloc | apply Kd.R_drewN | apply Kd.R_drew)); exact Kd.R_mono HO_8.out (fun _ hk => ⟨⟨hk.2.1, hk.2.2⟩, hk.1⟩)) hg hat)
          replace BK194 := aU (blk_grown (g := gb194) (o := .cells #[.int .i64 ((rd_T52 t190 x10_1).f0), .int .i64 ((rd_T52 t190 x10_1).f1)] 52 (0, 0)) bkU hg (Kd.R_away HO201.out (fun _ hk => hk.2.2)))
          replace HO204 := aU (Kd.R_after (ok := (fun k_ => some k_ ≠ (.slice (some ad193) t190.length co5 : Value).ownBlock ∧ k_ ≠ gb194)) (by (with_reducible repeat (first | apply Kd.R_alloc | apply Kd.R_drewN | apply Kd.R_drew)); exact Kd.R_mono HO204.out (fun _ hk => ⟨⟨hk.2.1, hk.2.2⟩, hk.1⟩)) hg hat)
          replace HB := aU (hb)
          have HO207 := aU (ho)
          clear HO201
          clear ho hb hg hat
          refine hK.out _ _ ⟨(blk_cell BK194.out 0).trans rfl, (blk_cell BK194.out 1).trans rfl⟩ (fun hHeld => ?_)
          clear hK K
          refine nmU 53 ?_
          refine puU 7 4 HT_ ?_
          refine dnU HT_ ?_
          try go_wp2
          go_ret
          exact ⟨_, errU, by (with_reducible repeat (first | apply Kd.R_alloc | apply Kd.R_drewN | apply Kd.R_drew)); exact Kd.R_mono HO207.out (fun _ hk => trivial), hbU⟩
         ·rw [if_neg c22] at H
          have c22b0 : decide (0 < t198) = false := decide_eq_false c22
          clear c22
          have H' := aU H
          clear H
          go_wp2_with (first | (go_at_call 156; (with_reducible refine (spec_daFinishes.calls kj8 (wrap64 (a0 - (wrap64 (((rd_T52 t190 x10_1).f0) * ((rd_T52 t190 x10_1).f1))))) (wrap64 (a1 - 1)) t198 _ A21.out).mono ?_); rintro e w33 ⟨rfl, hb⟩; replace HO_8 := aU (Kd.R_below (roU HO_8) hb); replace BK194 := aU (blk_below (g := gb194) (o := .cells #[.int .i64 ((rd_T52 t190 x10_1).f0), .int .i64 ((rd_T52 t190 x10_1).f1)] 52 (0, 0)) bkU hb); replace HB := bsU hb; (try clear hb)))
          go_roundg kj8
          case measure => have := HK1.out; have := HJ8.out; omega
          case rel => exact ⟨(wrap64 (x10_1 + 1)), eqU, H', ⟨by have := HK1.out; have := HJ8.out; omega⟩, ⟨by (with_reducible repeat (first | apply Kd.R_alloc | apply Kd.R_drewN | apply Kd.R_drew)); exact Kd.R_mono HO_8.out (fun _ hk => trivial)⟩, ⟨hbU⟩⟩
        ·rw [if_neg c20] at H
         have c20b0 : decide (0 < (wrap64 (a0 - (wrap64 (((rd_T52 t190 x10_1).f0) * ((rd_T52 t190 x10_1).f1)))))) = false := decide_eq_false c20
         clear c20
         have H' := aU H
         clear H
         go_wp2
         go_roundg kj8
         case measure => have := HK1.out; have := HJ8.out; omega
         case rel => exact ⟨(wrap64 (x10_1 + 1)), eqU, H', ⟨by have := HK1.out; have := HJ8.out; omega⟩, ⟨by (with_reducible repeat (first | apply Kd.R_alloc | apply Kd.R_drewN | apply Kd.R_drew)); exact Kd.R_mono HO_8.out (fun _ hk => trivial)⟩, ⟨hbU⟩⟩
       ·rw [if_neg c19] at H
        have c19b0 : decide (1 < a1) = false := decide_eq_false c19
        clear c19
        have H' := aU H
        clear H
        go_wp2
        go_roundg kj8
        case measure => have := HK1.out; have := HJ8.out; omega
        case rel => exact ⟨(wrap64 (x10_1 + 1)), eqU, H', ⟨by have := HK1.out; have := HJ8.out; omega⟩, ⟨by (with_reducible repeat (first | apply Kd.R_alloc | apply Kd.R_drewN | apply Kd.R_drew)); exact Kd.R_mono HO_8.out (fun _ hk => trivial)⟩, ⟨hbU⟩⟩
   ·rw [if_neg c6] at H
    have c6b0 : decide (x10_1 < (t190.length : Int)) = false := decide_eq_false c6
    clear c6
    obtain rfl := Option.some.inj H
    go_wp2
    go_ret
    exact ⟨_, errU, by first | exact Kd.R_nil _ _ _ _ _ | exact Kd.N_nil _ _ _ _ _ | exact Kd.V_nil _ _ _ _ _ | exact Kd.Q_nil _ _ _ _ _ | exact Kd.S_nil _ _ _ _ _, hbU⟩
mutual
def spec_FirstFinish.j0 : Nat → Int → Int → Bool → Option ((List (S52)) × Bool)
 | 0, _, _, _ => none
 | k + 1, x0, x1, x14 => if x14 = true then (some (([] : List (S52)), false)) else (spec_FirstFinish.l0 k x0 x1 1)
def spec_FirstFinish.l0 : Nat → Int → Int → Int → Option ((List (S52)) × Bool)
 | 0, _, _, _ => none
 | k + 1, x0, x1, x6 => if x6 ≤ x1 then ((spec_daFinishes.f k x0 x6).bind fun t210 => (if t210 > 0 then ((spec_daFirst.f k x0 x6).bind fun t211 => (some (t211, true))) else (spec_FirstFinish.l0 k x0 x1 (wrap64 (x6 + 1))))) else (some (([] : List (S52)), false))
end
def spec_FirstFinish.f (k : Nat) (a0 : Int) (a1 : Int) : Option ((List (S52)) × Bool) := (spec_daLeft.f a0).bind fun t208 => (if t208 = true then ((spec_daDarts.f a1).bind fun t209 => (spec_FirstFinish.j0 k a0 a1 (!t209))) else (spec_FirstFinish.j0 k a0 a1 true))
theorem spec_FirstFinish.mono_l : ∀ k, (∀ y0 y1 y2, LeO (spec_FirstFinish.j0 k y0 y1 y2) (spec_FirstFinish.j0 (k + 1) y0 y1 y2)) ∧ (∀ y0 y1 y2, LeO (spec_FirstFinish.l0 k y0 y1 y2) (spec_FirstFinish.l0 (k + 1) y0 y1 y2))
 | 0 => ⟨fun _ _ _ r h => by simp [spec_FirstFinish.j0] at h, fun _ _ _ r h => by simp [spec_FirstFinish.l0] at h⟩
 | k + 1 => by
  obtain ⟨ih0, ih1⟩ := spec_FirstFinish.mono_l k
  refine ⟨?_, ?_⟩
  all_goals intros
  all_goals first | unfold spec_FirstFinish.j0 | unfold spec_FirstFinish.l0
  all_goals repeat' first
  | (with_reducible exact ih0 _ _ _)
  | (with_reducible exact ih1 _ _ _)
  | (with_reducible exact spec_daFinishes.mono _ _ _)
  | (with_reducible exact spec_daFirst.mono _ _ _)
  | (with_reducible exact LeO.refl _)
  | (with_reducible exact LeO.none _)
  | (with_reducible refine LeO.ite ?_ ?_)
  | (with_reducible refine LeO.bind ?_ (fun _ => ?_))
theorem spec_FirstFinish.mono : ∀ a0 a1 k, LeO (spec_FirstFinish.f k a0 a1) (spec_FirstFinish.f (k + 1) a0 a1) := by
 intro a0 a1 k
 obtain ⟨ih0, ih1⟩ := spec_FirstFinish.mono_l k
 unfold spec_FirstFinish.f
 repeat' first
   | (with_reducible exact ih0 _ _ _)
   | (with_reducible exact ih1 _ _ _)
   | (with_reducible exact spec_daFinishes.mono _ _ _)
   | (with_reducible exact spec_daFirst.mono _ _ _)
   | (with_reducible exact LeO.refl _)
   | (with_reducible exact LeO.none _)
   | (with_reducible refine LeO.ite ?_ ?_)
   | (with_reducible refine LeO.bind ?_ (fun _ => ?_))
set_option maxHeartbeats 8000000 in
set_option maxRecDepth 100000 in
theorem spec_FirstFinish.calls (k : Nat) (a0 : Int) (a1 : Int) (r1 : List (S52)) (r2 : Bool) (w : World) (h : spec_FirstFinish.f k a0 a1 = some (r1, r2)) :
  Calls Tryz.prog 139 #[.int .i64 a0, .int .i64 a1] w fun e w' => ∃ v0_ : Value, e = .returned (.tuple #[v0_, .bool r2]) ∧ Kd.R k52 52 w' w.heap.size (fun _ => True) v0_ r1 ∧ Below w.heap.size w w' := by
 have HB := aU (Below.refl w.heap.size w)
 have H : ((spec_daLeft.f a0).bind fun t208 => (if t208 = true then ((spec_daDarts.f a1).bind fun t209 => (spec_FirstFinish.j0 k a0 a1 (!t209))) else (spec_FirstFinish.j0 k a0 a1 true))) = some (r1, r2) := h
 clear h
 have HC3 := aU H
 clear H
 go_enter Tryz.func139, Tryz.ntmps139
 go_upto_region 1 with (fail)
 go_cut [14] (fun v14 wc => ∃ (kq : Nat) (x14_2 : Bool), v14 = .bool x14_2 ∧ Aside0 (spec_FirstFinish.j0 kq a0 a1 x14_2 = some (r1, r2)) ∧ Aside0 (kq ≤ k) ∧ Aside0 (Below w.heap.size w wc))
 case first =>
  have H := HC3.out
  clear HC3
  replace H := bindS H
  obtain ⟨t208, A4, H⟩ := H
  (try dsimp only at H)
  by_cases c5 : t208 = true
  ·subst c5
   rw [if_pos rfl] at H
   replace H := bindS H
   obtain ⟨t209, A6, H⟩ := H
   (try dsimp only at H)
   have H' := aU H
   clear H
   go_wp2_with (first | ((with_reducible refine gcU 106 rfl ?_); refine goU (some 8) Tryz.func106 #[.int .i64 a0] ?_; (with_reducible refine (spec_daLeft.calls a0 true _ A4.out).mono ?_); rintro e w' ⟨rfl, ⟨nd, rfl⟩⟩; refine ⟨_, rfl, ?_⟩) | (go_at_call 155; (with_reducible refine (spec_daDarts.calls a1 t209 _ A6.out).mono ?_); rintro e w' ⟨rfl, ⟨nd, rfl⟩⟩))
   go_meet
   case rel => exact ⟨_, (!t209), eqU, H', ⟨by first | omega | exact Nat.le_refl _⟩, ⟨hbU⟩⟩
  ·replace c5 := Bool.eq_false_iff.mpr c5
   subst c5
   rw [if_neg (show ¬ (false = true) by decide)] at H
   have H' := aU H
   clear H
   go_wp2_with (first | ((with_reducible refine gcU 106 rfl ?_); refine goU (some 8) Tryz.func106 #[.int .i64 a0] ?_; (with_reducible refine (spec_daLeft.calls a0 false _ A4.out).mono ?_); rintro e w' ⟨rfl, ⟨nd, rfl⟩⟩; refine ⟨_, rfl, ?_⟩))
   go_meet
   case rel => exact ⟨_, (true), eqU, H', ⟨by first | omega | exact Nat.le_refl _⟩, ⟨hbU⟩⟩
 case rest =>
  clear HC3
  obtain ⟨kq, x14_2, rfl, HA, HJ2, HB⟩ := hcut
  cases kq with
  | zero => exact absurd HA.out (by simp [spec_FirstFinish.j0])
  | succ kj2 =>
   have H := HA.out
   clear HA
   simp only [spec_FirstFinish.j0] at H
   by_cases c7 : x14_2 = true
   ·subst c7
    rw [if_pos rfl] at H
    simp only [Option.some.injEq, Prod.mk.injEq] at H
    obtain ⟨rfl, rfl⟩ := H
    go_wp2
    go_ret2
    exact ⟨_, errU, by first | exact Kd.R_nil _ _ _ _ _ | exact Kd.N_nil _ _ _ _ _ | exact Kd.V_nil _ _ _ _ _ | exact Kd.Q_nil _ _ _ _ _ | exact Kd.S_nil _ _ _ _ _, hbU⟩
   ·replace c7 := Bool.eq_false_iff.mpr c7
    subst c7
    rw [if_neg (show ¬ (false = true) by decide)] at H
    have H' := aU H
    clear H
    go_wp2
    go_loopg [6] kj2 (fun kq v6 w' => ∃ (x6_2 : Int), v6 = .int .i64 x6_2 ∧ Aside0 (spec_FirstFinish.l0 kq a0 a1 x6_2 = some (r1, r2)) ∧ Aside0 (kq ≤ kj2) ∧ Aside0 (Below w.heap.size w w'))
    case atStart => exact ⟨(1), eqU, H', ⟨Nat.le_refl _⟩, ⟨hbU⟩⟩
    case round =>
     clear H'
     (try clear c7)
     obtain ⟨x6_2, rfl, HA, HK2, HB⟩ := hrel
     cases gk with
     | zero => exact absurd HA.out (by simp [spec_FirstFinish.l0])
     | succ k2 =>
      have H := HA.out
      clear HA
      simp only [spec_FirstFinish.l0] at H
      by_cases c8 : x6_2 ≤ a1
      ·rw [if_pos c8] at H
       have c8b0 : decide (x6_2 ≤ a1) = true := decide_eq_true c8
       clear c8
       replace H := bindS H
       obtain ⟨t210, A9, H⟩ := H
       (try dsimp only at H)
       by_cases c10 : t210 > 0
       ·rw [if_pos c10] at H
        have c10b0 : decide (0 < t210) = true := decide_eq_true c10
        clear c10
        replace H := bindS H
        obtain ⟨t211, A11, H⟩ := H
        (try dsimp only at H)
        simp only [Option.some.injEq, Prod.mk.injEq] at H
        obtain ⟨rfl, rfl⟩ := H
        go_wp2_with (first | ((with_reducible refine gcU 156 rfl ?_); refine goU (some 22) Tryz.func156 #[.int .i64 a0, .int .i64 x6_2] ?_; (with_reducible refine (spec_daFinishes.calls k2 a0 x6_2 t210 _ A9.out).mono ?_); rintro e w12 ⟨rfl, hb⟩; refine ⟨_, rfl, ?_⟩; replace HB := bsU hb; (try clear hb)) | ((with_reducible refine gcU 157 rfl ?_); refine goU (some 26) Tryz.func157 #[.int .i64 a0, .int .i64 x6_2] ?_; (with_reducible refine (spec_daFirst.calls k2 a0 x6_2 t211 _ A11.out).mono ?_); rintro e w13 ⟨v212, rfl, ho0, hb⟩; refine ⟨_, rfl, ?_⟩; have HO213 := aU (Kd.R_lower ho0 (below_size hbU)); replace HB := bsU hb; (try clear ho0 hb)))
        go_ret2
        exact ⟨_, errU, by (with_reducible repeat (first | apply Kd.R_alloc | apply Kd.R_drewN | apply Kd.R_drew)); exact HO213.out, hbU⟩
       ·rw [if_neg c10] at H
        have c10b0 : decide (0 < t210) = false := decide_eq_false c10
        clear c10
        have H' := aU H
        clear H
        go_wp2_with (first | ((with_reducible refine gcU 156 rfl ?_); refine goU (some 22) Tryz.func156 #[.int .i64 a0, .int .i64 x6_2] ?_; (with_reducible refine (spec_daFinishes.calls k2 a0 x6_2 t210 _ A9.out).mono ?_); rintro e w14 ⟨rfl, hb⟩; refine ⟨_, rfl, ?_⟩; replace HB := bsU hb; (try clear hb)))
        go_roundg k2
        case measure => have := HJ2.out; have := HK2.out; omega
        case rel => exact ⟨(wrap64 (x6_2 + 1)), eqU, H', ⟨by have := HJ2.out; have := HK2.out; omega⟩, ⟨hbU⟩⟩
      ·rw [if_neg c8] at H
       have c8b0 : decide (x6_2 ≤ a1) = false := decide_eq_false c8
       clear c8
       simp only [Option.some.injEq, Prod.mk.injEq] at H
       obtain ⟨rfl, rfl⟩ := H
       go_wp2
       go_ret2
       exact ⟨_, errU, by first | exact Kd.R_nil _ _ _ _ _ | exact Kd.N_nil _ _ _ _ _ | exact Kd.V_nil _ _ _ _ _ | exact Kd.Q_nil _ _ _ _ _ | exact Kd.S_nil _ _ _ _ _, hbU⟩
end Go.Proofs.YtcmlmjgoidpabaaGreatDoor.MFnDartsPlayed

