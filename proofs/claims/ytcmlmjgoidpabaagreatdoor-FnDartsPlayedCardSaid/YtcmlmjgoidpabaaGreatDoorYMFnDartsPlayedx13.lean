/- Walks of the functions that the law reaches: each comes to just what the function that is told of it tells, for all arguments. -/
import Derived.Test.YtcmlmjgoidpabaaGreatDoorYMFnDartsPlayedx12
namespace Go.Proofs.YtcmlmjgoidpabaaGreatDoor.MFnDartsPlayed
open Go.RowKit Go.Proofs.YtcmlmjgoidpabaaGreatDoorW.PrintWords Go.Proofs.YtcmlmjgoidpabaaGreatDoorW.PrintLast Go.Proofs.YtcmlmjgoidpabaaGreatDoorW.PrintMore
attribute [local go_sem] max2_int min2_int max_two min_two max_three min_three max_four min_four
set_option linter.unusedVariables false
set_option linter.unusedSimpArgs false
mutual
def impl_Dart_181.l0 : Nat → List (S52) → Int → Int → Int → Option ((List (S52)))
 | 0, _, _, _, _ => none
 | k + 1, x0, x1, x2, x8 => if x8 < x2 then (impl_Dart_181.l1 k x0 x1 x2 x8 x8) else (some x0)
def impl_Dart_181.l1 : Nat → List (S52) → Int → Int → Int → Int → Option ((List (S52)))
 | 0, _, _, _, _, _ => none
 | k + 1, x0, x1, x2, x8, x9 => if x9 > x1 then (if 0 ≤ x9 then (if x9 < (x0.length : Int) then (if 0 ≤ (wrap64 (x9 - 1)) then (if (wrap64 (x9 - 1)) < (x0.length : Int) then ((impl_board_1.f ((rd_T52 x0 x9).f0) ((rd_T52 x0 x9).f1) ((rd_T52 x0 (wrap64 (x9 - 1))).f0) ((rd_T52 x0 (wrap64 (x9 - 1))).f1)).bind fun t497 => (if t497 < 0 then (impl_Dart_181.l1 k ((x0.set (x9 : Int).toNat (⟨(rd_T52 x0 (wrap64 (x9 - 1))).f0, (rd_T52 x0 (wrap64 (x9 - 1))).f1⟩ : S52)).set ((wrap64 (x9 - 1)) : Int).toNat (⟨(rd_T52 x0 x9).f0, (rd_T52 x0 x9).f1⟩ : S52)) x1 x2 x8 (wrap64 (x9 - 1))) else (impl_Dart_181.l0 k x0 x1 x2 (wrap64 (x8 + 1))))) else (none)) else (none)) else (none)) else (none)) else (impl_Dart_181.l0 k x0 x1 x2 (wrap64 (x8 + 1)))
end
def impl_Dart_181.f (k : Nat) (l0 : List (S52)) (a1 : Int) (a2 : Int) (a3 : Int) : Option ((List (S52))) := impl_Dart_181.l0 k l0 a1 a2 (wrap64 (a1 + 1))
theorem impl_Dart_181.mono_l : ∀ k, (∀ y0 y1 y2 y3, LeO (impl_Dart_181.l0 k y0 y1 y2 y3) (impl_Dart_181.l0 (k + 1) y0 y1 y2 y3)) ∧ (∀ y0 y1 y2 y3 y4, LeO (impl_Dart_181.l1 k y0 y1 y2 y3 y4) (impl_Dart_181.l1 (k + 1) y0 y1 y2 y3 y4))
 | 0 => ⟨fun _ _ _ _ r h => by simp [impl_Dart_181.l0] at h, fun _ _ _ _ _ r h => by simp [impl_Dart_181.l1] at h⟩
 | k + 1 => by
  obtain ⟨ih0, ih1⟩ := impl_Dart_181.mono_l k
  refine ⟨?_, ?_⟩
  all_goals intros
  all_goals first | unfold impl_Dart_181.l0 | unfold impl_Dart_181.l1
  all_goals repeat' first
  | (with_reducible exact ih0 _ _ _ _)
  | (with_reducible exact ih1 _ _ _ _ _)
  | (with_reducible exact LeO.refl _)
  | (with_reducible exact LeO.none _)
  | (with_reducible refine LeO.ite ?_ ?_)
  | (with_reducible refine LeO.bind ?_ (fun _ => ?_))
theorem impl_Dart_181.mono : ∀ a0 a1 a2 a3 k, LeO (impl_Dart_181.f k a0 a1 a2 a3) (impl_Dart_181.f (k + 1) a0 a1 a2 a3) := by
 intro a0 a1 a2 a3 k
 obtain ⟨ih0, ih1⟩ := impl_Dart_181.mono_l k
 unfold impl_Dart_181.f
 repeat' first
   | (with_reducible exact ih0 _ _ _ _)
   | (with_reducible exact ih1 _ _ _ _ _)
   | (with_reducible exact LeO.refl _)
   | (with_reducible exact LeO.none _)
   | (with_reducible refine LeO.ite ?_ ?_)
   | (with_reducible refine LeO.bind ?_ (fun _ => ?_))
def impl_Dart_181.T4 : Bool × List (List Nat × List Nat) := (true, [([], []), ([], []), ([0, 1], [0, 1]), ([2], [2]), ([3], [3]), ([3], [3]), ([3], [3]), ([5, 6, 3], [3, 5, 6]), ([7, 3], [3, 7]), ([3], [3]), ([3], [3]), ([10, 3], [3, 10]), ([9, 11, 3], [3, 9, 11]), ([12, 3], [3, 12]), ([4, 8, 13, 3, 3], [3, 4, 8, 13]), ([14, 3], [3, 14]), ([3, 15], [3, 15])])
def impl_Dart_181.B4 : List Nat := [0, 0, 3, 7, 15, 15, 15, 111, 239, 15, 15, 1039, 3599, 7695, 16383, 32767, 65535]
theorem impl_Dart_181.tab4 : rtab .any (opsOf Tryz.f181 4) = impl_Dart_181.T4 := by kernel_rfl
theorem impl_Dart_181.bits4 : waitsOk impl_Dart_181.T4.2 impl_Dart_181.B4 = true := by kernel_rfl
def impl_Dart_181.T6 : Bool × List (List Nat × List Nat) := (true, [([], []), ([], []), ([], []), ([], []), ([3], [3]), ([], []), ([], []), ([6], [6]), ([5, 7], [5, 7]), ([8], [8]), ([], []), ([], []), ([10, 11], [10, 11]), ([12], [12]), ([0, 1, 0, 1, 5, 6, 7, 8, 9, 13], [0, 1]), ([14, 9, 0, 1, 5, 6, 7, 8, 9, 13], [9, 14]), ([2, 4, 0, 1, 2, 3, 4, 5, 6, 7, 8, 9, 10, 11, 12, 13, 14, 15], [2, 4]), ([16, 13, 15, 0, 1, 2, 3, 4, 5, 6, 7, 8, 9, 10, 11, 12, 13, 14, 15], [13, 16])])
def impl_Dart_181.B6 : List Nat := [0, 0, 0, 0, 8, 0, 0, 64, 224, 480, 0, 0, 3072, 7168, 16355, 32739, 65535, 131071]
theorem impl_Dart_181.tab6 : rtab .any (opsOf Tryz.f181 6) = impl_Dart_181.T6 := by kernel_rfl
theorem impl_Dart_181.bits6 : waitsOk impl_Dart_181.T6.2 impl_Dart_181.B6 = true := by kernel_rfl
set_option maxHeartbeats 8000000 in
set_option maxRecDepth 100000 in
theorem impl_Dart_181.calls (k : Nat) (P0_ : Nat → Prop) (u9000_ : Value) (l0 : List (S52)) (a1 : Int) (a2 : Int) (a3 : Int) (r : List (S52)) (w0 w : World) (hB : Below w0.heap.size w0 w) (ho0 : Kd.R k52 52 w w0.heap.size P0_ u9000_ l0) (h : impl_Dart_181.f k l0 a1 a2 a3 = some r) :
  Calls Tryz.prog 181 #[u9000_, .int .i64 a1, .int .i64 a2, (.func (.func 147) #[] #[])] w fun e w' => e = .returned (.tuple #[]) ∧ Kd.R k52 52 w' w0.heap.size (fun k_ => (P0_ k_ ∨ w.heap.size ≤ k_)) u9000_ r ∧ Below w0.heap.size w0 w' ∧ Kept w w' (fun k_ => P0_ k_) := by
 have hu52 := Tryz.underlying52
 have HO0 := aU (show Kd.R k52 52 w w0.heap.size (fun k_ => (P0_ k_ ∨ w.heap.size ≤ k_)) u9000_ l0 from Kd.R_mono ho0 (fun k_ hk => (.inl hk)))
 have HK := aU (Kept.refl w (fun k_ => P0_ k_))
 have HW0 := aU hB.size
 have HB := aU hB
 clear hB
 have H : (impl_Dart_181.l0 k l0 a1 a2 (wrap64 (a1 + 1))) = some r := h
 clear h
 have H' := aU H
 clear H
 go_enter Tryz.func181, Tryz.ntmps181
 go_wp2
 go_loopg [8] k (fun kq v8 w' => ∃ (x0_1 : List (S52)) (x8_1 : Int), v8 = .int .i64 x8_1 ∧ Aside0 (impl_Dart_181.l0 kq x0_1 a1 a2 x8_1 = some r) ∧ Aside0 (kq ≤ k) ∧ Aside0 (Kd.R k52 52 w' w0.heap.size (fun k_ => (P0_ k_ ∨ w.heap.size ≤ k_)) u9000_ x0_1) ∧ Aside0 (Kept w w' (fun k_ => P0_ k_)) ∧ Aside0 (Below w0.heap.size w0 w'))
 case atStart => exact ⟨(l0), (wrap64 (a1 + 1)), eqU, H', ⟨Nat.le_refl _⟩, ⟨roU HO0⟩, ⟨by repeat (first | (with_reducible first | exact HK.out | apply Kept.alloc | apply Kept.drewN | apply Kept.drew) | exact HK.out)⟩, ⟨hbU⟩⟩
 case round =>
  clear H'
  obtain ⟨x0_1, x8_1, rfl, HA, HK1, HO_0, HK, HB⟩ := hrel
  cases gk with
  | zero => exact absurd HA.out (by simp [impl_Dart_181.l0])
  | succ k1 =>
   have H := HA.out
   clear HA
   simp only [impl_Dart_181.l0] at H
   by_cases c5 : x8_1 < a2
   ·rw [if_pos c5] at H
    have c5b0 : decide (x8_1 < a2) = true := decide_eq_true c5
    clear c5
    have H' := aU H
    clear H
    go_wp2
    go_loopg [9] k1 (fun kq v9 w' => ∃ (x0_2 : List (S52)) (x9_2 : Int), v9 = .int .i64 x9_2 ∧ Aside0 (impl_Dart_181.l1 kq x0_2 a1 a2 x8_1 x9_2 = some r) ∧ Aside0 (kq ≤ k1) ∧ Aside0 (Kd.R k52 52 w' w0.heap.size (fun k_ => (P0_ k_ ∨ w.heap.size ≤ k_)) u9000_ x0_2) ∧ Aside0 (Kept w w' (fun k_ => P0_ k_)) ∧ Aside0 (Below w0.heap.size w0 w'))
    case atStart => exact ⟨(x0_1), (x8_1), eqU, H', ⟨Nat.le_refl _⟩, ⟨roU HO_0⟩, ⟨by repeat (first | (with_reducible first | exact HK.out | apply Kept.alloc | apply Kept.drewN | apply Kept.drew) | exact HK.out)⟩, ⟨hbU⟩⟩
    case round =>
     clear H'
     (try clear c5b0)
     obtain ⟨x0_2, x9_2, rfl, HA, HK2, HO_0, HK, HB⟩ := hrel
     cases gk with
     | zero => exact absurd HA.out (by simp [impl_Dart_181.l1])
     | succ k2 =>
      have H := HA.out
      clear HA
      simp only [impl_Dart_181.l1] at H
      by_cases c6 : x9_2 > a1
      ·rw [if_pos c6] at H
       have c6b0 : decide (a1 < x9_2) = true := decide_eq_true c6
       clear c6
       replace H := ifS H
       obtain ⟨c7, H⟩ := H
       have c7b0 : decide (0 ≤ x9_2) = true := decide_eq_true c7
       clear c7
       replace H := ifS H
       obtain ⟨c8, H⟩ := H
       have c8b0 : decide (x9_2 < (x0_2.length : Int)) = true := decide_eq_true c8
       clear c8
       obtain ⟨ji9, hji9⟩ : ∃ j_ : Int, (wrap64 (x9_2 - 1)) = j_ := ⟨_, rfl⟩
       replace H : (if 0 ≤ (ji9) then (if (ji9) < (x0_2.length : Int) then ((impl_board_1.f ((rd_T52 x0_2 x9_2).f0) ((rd_T52 x0_2 x9_2).f1) ((rd_T52 x0_2 (ji9)).f0) ((rd_T52 x0_2 (ji9)).f1)).bind fun t497 => (if t497 < 0 then (impl_Dart_181.l1 k2 ((x0_2.set (x9_2 : Int).toNat (⟨(rd_T52 x0_2 (ji9)).f0, (rd_T52 x0_2 (ji9)).f1⟩ : S52)).set ((ji9) : Int).toNat (⟨(rd_T52 x0_2 x9_2).f0, (rd_T52 x0_2 x9_2).f1⟩ : S52)) a1 a2 x8_1 ji9) else (impl_Dart_181.l0 k2 x0_2 a1 a2 (wrap64 (x8_1 + 1))))) else (none)) else (none)) = some r := by first | (rw [hji9] at H; exact H) | (simp only [hji9] at H ⊢; exact H)
       have hji9w : (IntKind.i64.wrap (x9_2 - 1)) = ji9 := (i64_w _).trans hji9
       replace H := ifS H
       obtain ⟨c10, H⟩ := H
       have c10b0 : decide (0 ≤ (ji9)) = true := decide_eq_true c10
       clear c10
       replace H := ifS H
       obtain ⟨c11, H⟩ := H
       have c11b0 : decide ((ji9) < (x0_2.length : Int)) = true := decide_eq_true c11
       clear c11
       replace H := bindS H
       obtain ⟨t497, A12, H⟩ := H
       (try dsimp only at H)
       by_cases c13 : t497 < 0
       ·rw [if_pos c13] at H
        have c13b0 : decide (t497 < 0) = true := decide_eq_true c13
        clear c13
        obtain ⟨y500, hy500⟩ : ∃ y_ : List (S52), y_ = (x0_2.set (x9_2 : Int).toNat (⟨(rd_T52 x0_2 (ji9)).f0, (rd_T52 x0_2 (ji9)).f1⟩ : S52)) := ⟨_, rfl⟩
        replace H : (impl_Dart_181.l1 k2 (y500.set ((ji9) : Int).toNat (⟨(rd_T52 x0_2 x9_2).f0, (rd_T52 x0_2 x9_2).f1⟩ : S52)) a1 a2 x8_1 ji9) = some r := by first | (rw [hy500]; with_reducible exact H) | (have H2_ := (Option.bind_some _ _).symm.trans H; rw [hy500]; with_reducible exact H2_) | (have H2_ := (Option.bind_some _ _).symm.trans H; with_reducible exact H2_) | with_reducible exact H | (rw [hy500]; exact H) | exact H
        have Ny500 := aU hy500
        clear hy500
        obtain ⟨y501, hy501⟩ : ∃ y_ : List (S52), y_ = (y500.set ((ji9) : Int).toNat (⟨(rd_T52 x0_2 x9_2).f0, (rd_T52 x0_2 x9_2).f1⟩ : S52)) := ⟨_, rfl⟩
        replace H : (impl_Dart_181.l1 k2 y501 a1 a2 x8_1 ji9) = some r := by first | (rw [hy501]; with_reducible exact H) | (have H2_ := (Option.bind_some _ _).symm.trans H; rw [hy501]; with_reducible exact H2_) | (have H2_ := (Option.bind_some _ _).symm.trans H; with_reducible exact H2_) | with_reducible exact H | (rw [hy501]; exact H) | exact H
        have Ny501 := aU hy501
        clear hy501
        have H' := aU H
        clear H
        try go_wp2
        replace HO_0 := aU (Kd.R_drew HO_0.out)
        replace HK := aU (Kept.drew HK.out)
        replace HB := aU (below_drew1 HB.out)
        obtain ⟨Ao17, co17, eo17⟩ := Kd.R_slice HO_0.out
        (first | subst eo17 | (injection eo17 with f1_ f2_ f3_; have f4_ := f1_.symm; have f5_ := f3_.symm; clear f1_ f2_ f3_; subst f4_; subst f5_))
        have p495 : 0 ≤ (x9_2 : Int) := dU
        have q495 : x9_2 < (x0_2.length : Int) := dU
        obtain ⟨ad495, e495, hx495_0, hx495_1⟩ := at_T52 (Kd.R_reads' HO_0.out).2.2 x9_2 p495 q495
        cases e495
        replace p495 := eq_true p495
        replace q495 := eq_true q495
        have p496 : 0 ≤ ((ji9) : Int) := dU
        have q496 : (ji9) < (x0_2.length : Int) := dU
        obtain ⟨ad496, e496, hx496_0, hx496_1⟩ := at_T52 (Kd.R_reads' HO_0.out).2.2 (ji9) p496 q496
        obtain rfl : ad495 = ad496 := (by injection e496)
        replace p496 := eq_true p496
        replace q496 := eq_true q496
        refine start_ (n := 17) (S := fun w' => w'.cell? (ad495.add ((x9_2).toNat * 2)) = some (.int .i64 ((rd_T52 x0_2 x9_2).f0)) ∧ w'.cell? ⟨(ad495.add ((x9_2).toNat * 2)).block, (ad495.add ((x9_2).toNat * 2)).off + 1, none⟩ = some (.int .i64 ((rd_T52 x0_2 x9_2).f1)) ∧ w'.cell? (ad495.add (((ji9)).toNat * 2)) = some (.int .i64 ((rd_T52 x0_2 (ji9)).f0)) ∧ w'.cell? ⟨(ad495.add (((ji9)).toNat * 2)).block, (ad495.add (((ji9)).toNat * 2)).off + 1, none⟩ = some (.int .i64 ((rd_T52 x0_2 (ji9)).f1))) (ds := []) #[false, false, false, false, false, false, false, false, false, false, false, false, false, false, false, false, false] (by kernel_rfl) rfl rfl ⟨hx495_0, hx495_1, hx496_0, hx496_1⟩ (fun hHeld => ?_); refine with_tabW impl_Dart_181.tab4 impl_Dart_181.bits4 (fun HT_ HW_ => ?_)
        generalize wr.drew = w16 at HO_0 HK HB hx495_0 hx495_1 hx496_0 hx496_1 hHeld ⊢
        refine puU 0 18 HT_ ?_
        refine puU 1 19 HT_ ?_
        refine puU 2 20 HT_ ?_
        refine puU 3 21 HT_ ?_
        refine puU 4 22 HT_ ?_
        refine puU 5 23 HT_ ?_
        refine puU 6 24 HT_ ?_
        refine puU 7 25 HT_ ?_
        refine puU 9 27 HT_ ?_
        refine puU 10 28 HT_ ?_
        refine puU 11 29 HT_ ?_
        refine puU 12 30 HT_ ?_
        refine tkU 8 26 HT_ HW_ hHeld ?_
        refine tkU 13 31 HT_ HW_ hHeld ?_
        refine onU 14 (some 32) HT_ (fun K hK => ?_)
        refine goesT_ Tryz.func147 (by kernel_rfl) rfl #[.agg #[.int .i64 ((rd_T52 x0_2 x9_2).f0), .int .i64 ((rd_T52 x0_2 x9_2).f1)], .agg #[.int .i64 ((rd_T52 x0_2 (ji9)).f0), .int .i64 ((rd_T52 x0_2 (ji9)).f1)]] (by rfl) rfl rfl (by (try simp only [List.map_toArray, List.map_cons, List.map_nil]); first | done | (simp only [hji9]; rfl) | rfl | (simp only [List.length_drop, List.length_take]; rfl)) (by rfl) ?_
        with_reducible refine (impl_board_1.calls ((rd_T52 x0_2 x9_2).f0) ((rd_T52 x0_2 x9_2).f1) ((rd_T52 x0_2 (ji9)).f0) ((rd_T52 x0_2 (ji9)).f1) t497 _ A12.out).mono ?_
        rintro e w18 ⟨rfl, hb⟩
        have HS0_ := (hb.cell (World.block_lt_of_cell? _ _ (hHeld.1))).trans (hHeld.1)
        have HS1_ := (hb.cell (World.block_lt_of_cell? _ _ (hHeld.2.1))).trans (hHeld.2.1)
        have HS2_ := (hb.cell (World.block_lt_of_cell? _ _ (hHeld.2.2.1))).trans (hHeld.2.2.1)
        have HS3_ := (hb.cell (World.block_lt_of_cell? _ _ (hHeld.2.2.2))).trans (hHeld.2.2.2)
        refine ⟨_, rfl, ?_⟩
        replace HO_0 := aU (Kd.R_below (roU HO_0) hb)
        replace HK := aU (Kept.below (S := (fun k_ => P0_ k_)) (ktU HK) hb)
        replace HB := bsU hb
        (try clear hb)
        refine hK.out _ _ ⟨HS0_, HS1_, HS2_, HS3_⟩ (fun hHeld => ?_)
        clear hK K
        refine nmU 32 ?_
        refine puU 15 33 HT_ ?_
        refine puU 16 34 HT_ ?_
        refine dnU HT_ ?_
        try go_wp2
        replace HO_0 := aU (Kd.R_drew HO_0.out)
        replace HK := aU (Kept.drew HK.out)
        replace HB := aU (below_drew1 HB.out)
        have p498 : 0 ≤ ((ji9) : Int) := dU
        have q498 : (ji9) < (x0_2.length : Int) := dU
        obtain ⟨ad498, e498, hx498_0, hx498_1⟩ := at_T52 (Kd.R_reads' HO_0.out).2.2 (ji9) p498 q498
        obtain rfl : ad495 = ad498 := (by injection e498)
        replace p498 := eq_true p498
        replace q498 := eq_true q498
        have p499 : 0 ≤ (x9_2 : Int) := dU
        have q499 : x9_2 < (x0_2.length : Int) := dU
        obtain ⟨ad499, e499, hx499_0, hx499_1⟩ := at_T52 (Kd.R_reads' HO_0.out).2.2 x9_2 p499 q499
        obtain rfl : ad495 = ad499 := (by injection e499)
        replace p499 := eq_true p499
        replace q499 := eq_true q499
        have p14 : 0 ≤ (x9_2 : Int) := dU
        have q14 : (x9_2 : Int) < ((x0_2.length : Int) : Int) := dU
        obtain ⟨go14, co14, eo14, gb14, gl14, cl14, HG14⟩ := Kd.R_form HO_0.out (by omega)
        (first | cases eo14 | (injection eo14 with ea_ en_ ec_; (first | subst ea_ | (injection ea_ with ea_; subst ea_)); subst ec_; clear en_))
        have GB14 := aU gb14
        have GG14 := aU HG14
        clear gb14 gl14 HG14
        have HMgo14 := aU (show (P0_ go14 ∨ w.heap.size ≤ go14) from (HO_0.out.1 _ rfl))
        (first | simp only [add_plain] at hx495_0 | skip)
        (first | simp only [add_plain] at hx495_1 | skip)
        (first | simp only [add_plain] at hx496_0 | skip)
        (first | simp only [add_plain] at hx496_1 | skip)
        (first | simp only [add_plain] at hx498_0 | skip)
        (first | simp only [add_plain] at hx498_1 | skip)
        (first | simp only [add_plain] at hx499_0 | skip)
        (first | simp only [add_plain] at hx499_1 | skip)
        obtain ⟨ce14, hcl14, hM14, hcc14, hfr14⟩ := Kd.R_elem HO_0.out z52 (x9_2 : Int) p14 q14
        obtain rfl := k52_openM hM14
        have hx14_0 : World.cell? _ ⟨go14, (x9_2 : Int).toNat * 2, none⟩ = some (.int .i64 ((rd_T52 x0_2 x9_2).f0)) := hcc14 0 _ rfl
        have hx14_1 : World.cell? _ ⟨go14, (x9_2 : Int).toNat * 2 + 1, none⟩ = some (.int .i64 ((rd_T52 x0_2 x9_2).f1)) := hcc14 1 _ rfl
        have hf14_0 : World.frozen? _ ⟨go14, (x9_2 : Int).toNat * 2, none⟩ = false := hfr14 0
        have hf14_1 : World.frozen? _ ⟨go14, (x9_2 : Int).toNat * 2 + 1, none⟩ = false := hfr14 1
        clear hcl14 hcc14 hfr14 hM14
        replace p14 := eq_true p14
        replace q14 := eq_true q14
        obtain ⟨ce20, hcl20, hM20, hcc20, hfr20⟩ := Kd.R_elem HO_0.out z52 (x9_2 : Int) (dU) (by have h_ : (x9_2 : Int) < ((x0_2.length : Int) : Int) := dU; first | exact h_ | (have e_ := (Kd.R_reads' HO_0.out).1; omega) | simpa using h_)
        obtain rfl := k52_openM hM20
        have HP20 := (Kd.R_seg HO_0.out (x9_2 : Int) (dU) (by have h_ : (x9_2 : Int) < ((x0_2.length : Int) : Int) := dU; first | exact h_ | (have e_ := (Kd.R_reads' HO_0.out).1; omega) | simpa using h_) (seg := [.int .i64 ((rd_T52 x0_2 (ji9)).f0), .int .i64 ((rd_T52 x0_2 (ji9)).f1)]) (j := 0) hcl20 hcc20 (show 2 ≤ 2 from by decide) (x' := (⟨(rd_T52 x0_2 (ji9)).f0, (rd_T52 x0_2 (ji9)).f1⟩ : S52)) (k52_mkM _ _ _ (⟨(rd_T52 x0_2 (ji9)).f0, (rd_T52 x0_2 (ji9)).f1⟩ : S52) ) (fun _ hk => hk)).1
        rw [← Ny500.out] at HP20
        have HQ20 := aU HP20
        clear hcl20 hcc20 hfr20 hM20 HP20
        have p15 : 0 ≤ ((ji9) : Int) := dU
        have q15 : ((ji9) : Int) < ((x0_2.length : Int) : Int) := dU
        obtain ⟨ce15, hcl15, hM15, hcc15, hfr15⟩ := Kd.R_elem HQ20.out z52 ((ji9) : Int) p15 q15
        obtain rfl := k52_openM hM15
        have hx15_0 : World.cell? _ ⟨go14, ((ji9) : Int).toNat * 2, none⟩ = some (.int .i64 ((rd_T52 y500 (ji9)).f0)) := hcc15 0 _ rfl
        have hx15_1 : World.cell? _ ⟨go14, ((ji9) : Int).toNat * 2 + 1, none⟩ = some (.int .i64 ((rd_T52 y500 (ji9)).f1)) := hcc15 1 _ rfl
        have hf15_0 : World.frozen? _ ⟨go14, ((ji9) : Int).toNat * 2, none⟩ = false := hfr15 0
        have hf15_1 : World.frozen? _ ⟨go14, ((ji9) : Int).toNat * 2 + 1, none⟩ = false := hfr15 1
        clear hcl15 hcc15 hfr15 hM15
        replace p15 := eq_true p15
        replace q15 := eq_true q15
        obtain ⟨ce21, hcl21, hM21, hcc21, hfr21⟩ := Kd.R_elem HQ20.out z52 ((ji9) : Int) (dU) (by have h_ : ((ji9) : Int) < ((x0_2.length : Int) : Int) := dU; first | exact h_ | (have e_ := (Kd.R_reads' HO_0.out).1; omega) | simpa using h_)
        obtain rfl := k52_openM hM21
        have HP21 := (Kd.R_seg HQ20.out ((ji9) : Int) (dU) (by have h_ : ((ji9) : Int) < ((x0_2.length : Int) : Int) := dU; first | exact h_ | (have e_ := (Kd.R_reads' HO_0.out).1; omega) | simpa using h_) (seg := [.int .i64 ((rd_T52 x0_2 x9_2).f0), .int .i64 ((rd_T52 x0_2 x9_2).f1)]) (j := 0) hcl21 hcc21 (show 2 ≤ 2 from by decide) (x' := (⟨(rd_T52 x0_2 x9_2).f0, (rd_T52 x0_2 x9_2).f1⟩ : S52)) (k52_mkM _ _ _ (⟨(rd_T52 x0_2 x9_2).f0, (rd_T52 x0_2 x9_2).f1⟩ : S52) ) (fun _ hk => hk)).1
        rw [← Ny501.out] at HP21
        have HQ21 := aU HP21
        clear hcl21 hcc21 hfr21 hM21 HP21
        refine start_ (n := 18) (S := fun w' => w'.cell? ⟨go14, (((ji9)).toNat * 2), none⟩ = some (.int .i64 ((rd_T52 x0_2 (ji9)).f0)) ∧ w'.cell? ⟨go14, (((ji9)).toNat * 2) + 1, none⟩ = some (.int .i64 ((rd_T52 x0_2 (ji9)).f1)) ∧ w'.cell? ⟨go14, ((x9_2).toNat * 2), none⟩ = some (.int .i64 ((rd_T52 x0_2 x9_2).f0)) ∧ w'.cell? ⟨go14, ((x9_2).toNat * 2) + 1, none⟩ = some (.int .i64 ((rd_T52 x0_2 x9_2).f1))) (ds := [15, 17]) #[false, false, false, false, false, false, false, false, false, false, false, false, false, false, false, false, false, false] (by kernel_rfl) rfl rfl ⟨hx498_0, hx498_1, hx499_0, hx499_1⟩ (fun hHeld => ?_); refine with_tabW impl_Dart_181.tab6 impl_Dart_181.bits6 (fun HT_ HW_ => ?_)
        generalize w18.drew = w19 at HO_0 HK HB GG14 HQ20 HQ21 hf14_0 hf14_1 hf15_0 hf15_1 hx14_0 hx14_1 hx15_0 hx15_1 hx495_0 hx495_1 hx496_0 hx496_1 hx498_0 hx498_1 hx499_0 hx499_1 hHeld ⊢
        refine puU 0 37 HT_ ?_
        refine puU 1 38 HT_ ?_
        refine puU 2 39 HT_ ?_
        refine puU 3 40 HT_ ?_
        refine puU 4 41 HT_ ?_
        refine puU 5 42 HT_ ?_
        refine puU 6 43 HT_ ?_
        refine puU 7 44 HT_ ?_
        refine puU 8 45 HT_ ?_
        refine puU 10 47 HT_ ?_
        refine puU 11 48 HT_ ?_
        refine puU 12 49 HT_ ?_
        refine tkU 9 46 HT_ HW_ hHeld ?_
        refine tkU 13 50 HT_ HW_ hHeld ?_
        refine puU 14 51 HT_ ?_
        refine last_ (i := 15) (N := none) #[true, true, true, true, true, true, true, true, true, true, true, true, true, true, true, true, false, false] rfl rfl (one_of HT_.out (by kernel_rfl)) (by decide) (fun K hK => ?_)
        obtain ⟨ceY, hclY, hMY, hccY, hfrY⟩ := Kd.R_elem HO_0.out z52 ((ji9) : Int) (by first | exact of_eq_true p15 | (with_reducible assumption) | exact of_decide_eq_true (by assumption)) (by first | exact of_eq_true q15 | simpa using of_eq_true q15)
        obtain rfl := k52_openM hMY
        have hzY_0 : World.cell? _ ⟨go14, ((ji9) : Int).toNat * 2, none⟩ = _ := hccY 0 _ rfl
        have hzY_1 : World.cell? _ ⟨go14, ((ji9) : Int).toNat * 2 + 1, none⟩ = _ := hccY 1 _ rfl
        have hfY_0 : World.frozen? _ ⟨go14, ((ji9) : Int).toNat * 2, none⟩ = false := hfrY 0
        have hfY_1 : World.frozen? _ ⟨go14, ((ji9) : Int).toNat * 2 + 1, none⟩ = false := hfrY 1
        obtain ⟨cy0, hy0⟩ := setSome (p := ⟨go14, (x9_2 : Int).toNat * 2, none⟩) (x := .int .i64 ((rd_T52 x0_2 (ji9)).f0)) hzY_0
        obtain ⟨cy2, hy2⟩ := setSome (p := ⟨go14, (x9_2 : Int).toNat * 2, none⟩) (x := .int .i64 ((rd_T52 x0_2 (ji9)).f0)) hzY_1
        obtain ⟨cy1, hy1⟩ := setSome (p := ⟨go14, (x9_2 : Int).toNat * 2 + 1, none⟩) (x := .int .i64 ((rd_T52 x0_2 (ji9)).f1)) hy2
        clear hy2 hccY hfrY hclY hMY
        refine skip_ (w1 := ?_) (by rfl) rfl ?_ ?_
        rotate_left
        ·go_simp
         rfl
        refine hK.out _ _ ?_
        clear hK K
        refine puU 16 52 HT_ ?_
        refine last_ (i := 17) (N := none) #[true, true, true, true, true, true, true, true, true, true, true, true, true, true, true, true, true, true] rfl rfl (one_of HT_.out (by kernel_rfl)) (by decide) (fun K hK => ?_)
        refine skip_ (w1 := ?_) (by rfl) rfl ?_ ?_
        rotate_left
        ·go_simp
         rfl
        refine hK.out _ _ ?_
        clear hK K
        refine dnU HT_ ?_
        try go_wp2
        go_roundg k2
        case measure => have := HK1.out; have := HK2.out; omega
        case rel => exact ⟨(y501), (ji9), (by first | rfl | (simp; done) | (simp only [← hji9] <;> (first | rfl | simp)) | (simp [*]; done)), H', ⟨by have := HK1.out; have := HK2.out; omega⟩, ⟨roU HQ21⟩, ⟨by repeat (first | (with_reducible first | exact HK.out | apply Kept.alloc | apply Kept.drewN | apply Kept.drew | refine Kept.setCell ?_ HMgo14.out _ | refine Kept.setCell ?_ HMgo14.out _ | refine Kept.setCell ?_ HMgo14.out _ | refine Kept.setCell ?_ HMgo14.out _) | exact HK.out)⟩, ⟨by repeat (first | (with_reducible first | exact HB.out | apply below_alloc | apply pw_below_drewN | apply below_drew1 | refine below_set ?_ GB14.out | refine below_set ?_ GB14.out | refine below_set ?_ GB14.out | refine below_set ?_ GB14.out) | exact HB.out)⟩⟩
       ·rw [if_neg c13] at H
        have c13b0 : decide (t497 < 0) = false := decide_eq_false c13
        clear c13
        have H' := aU H
        clear H
        try go_wp2
        replace HO_0 := aU (Kd.R_drew HO_0.out)
        replace HK := aU (Kept.drew HK.out)
        replace HB := aU (below_drew1 HB.out)
        obtain ⟨Ao23, co23, eo23⟩ := Kd.R_slice HO_0.out
        (first | subst eo23 | (injection eo23 with f1_ f2_ f3_; have f4_ := f1_.symm; have f5_ := f3_.symm; clear f1_ f2_ f3_; subst f4_; subst f5_))
        have p495 : 0 ≤ (x9_2 : Int) := dU
        have q495 : x9_2 < (x0_2.length : Int) := dU
        obtain ⟨ad495, e495, hx495_0, hx495_1⟩ := at_T52 (Kd.R_reads' HO_0.out).2.2 x9_2 p495 q495
        cases e495
        replace p495 := eq_true p495
        replace q495 := eq_true q495
        have p496 : 0 ≤ ((ji9) : Int) := dU
        have q496 : (ji9) < (x0_2.length : Int) := dU
        obtain ⟨ad496, e496, hx496_0, hx496_1⟩ := at_T52 (Kd.R_reads' HO_0.out).2.2 (ji9) p496 q496
        obtain rfl : ad495 = ad496 := (by injection e496)
        replace p496 := eq_true p496
        replace q496 := eq_true q496
        refine start_ (n := 17) (S := fun w' => w'.cell? (ad495.add ((x9_2).toNat * 2)) = some (.int .i64 ((rd_T52 x0_2 x9_2).f0)) ∧ w'.cell? ⟨(ad495.add ((x9_2).toNat * 2)).block, (ad495.add ((x9_2).toNat * 2)).off + 1, none⟩ = some (.int .i64 ((rd_T52 x0_2 x9_2).f1)) ∧ w'.cell? (ad495.add (((ji9)).toNat * 2)) = some (.int .i64 ((rd_T52 x0_2 (ji9)).f0)) ∧ w'.cell? ⟨(ad495.add (((ji9)).toNat * 2)).block, (ad495.add (((ji9)).toNat * 2)).off + 1, none⟩ = some (.int .i64 ((rd_T52 x0_2 (ji9)).f1))) (ds := []) #[false, false, false, false, false, false, false, false, false, false, false, false, false, false, false, false, false] (by kernel_rfl) rfl rfl ⟨hx495_0, hx495_1, hx496_0, hx496_1⟩ (fun hHeld => ?_); refine with_tabW impl_Dart_181.tab4 impl_Dart_181.bits4 (fun HT_ HW_ => ?_)
        generalize wr.drew = w22 at HO_0 HK HB hx495_0 hx495_1 hx496_0 hx496_1 hHeld ⊢
        refine puU 0 18 HT_ ?_
        refine puU 1 19 HT_ ?_
        refine puU 2 20 HT_ ?_
        refine puU 3 21 HT_ ?_
        refine puU 4 22 HT_ ?_
        refine puU 5 23 HT_ ?_
        refine puU 6 24 HT_ ?_
        refine puU 7 25 HT_ ?_
        refine puU 9 27 HT_ ?_
        refine puU 10 28 HT_ ?_
        refine puU 11 29 HT_ ?_
        refine puU 12 30 HT_ ?_
        refine tkU 8 26 HT_ HW_ hHeld ?_
        refine tkU 13 31 HT_ HW_ hHeld ?_
        refine onU 14 (some 32) HT_ (fun K hK => ?_)
        refine goesT_ Tryz.func147 (by kernel_rfl) rfl #[.agg #[.int .i64 ((rd_T52 x0_2 x9_2).f0), .int .i64 ((rd_T52 x0_2 x9_2).f1)], .agg #[.int .i64 ((rd_T52 x0_2 (ji9)).f0), .int .i64 ((rd_T52 x0_2 (ji9)).f1)]] (by rfl) rfl rfl (by (try simp only [List.map_toArray, List.map_cons, List.map_nil]); first | done | (simp only [hji9]; rfl) | rfl | (simp only [List.length_drop, List.length_take]; rfl)) (by rfl) ?_
        with_reducible refine (impl_board_1.calls ((rd_T52 x0_2 x9_2).f0) ((rd_T52 x0_2 x9_2).f1) ((rd_T52 x0_2 (ji9)).f0) ((rd_T52 x0_2 (ji9)).f1) t497 _ A12.out).mono ?_
        rintro e w24 ⟨rfl, hb⟩
        have HS0_ := (hb.cell (World.block_lt_of_cell? _ _ (hHeld.1))).trans (hHeld.1)
        have HS1_ := (hb.cell (World.block_lt_of_cell? _ _ (hHeld.2.1))).trans (hHeld.2.1)
        have HS2_ := (hb.cell (World.block_lt_of_cell? _ _ (hHeld.2.2.1))).trans (hHeld.2.2.1)
        have HS3_ := (hb.cell (World.block_lt_of_cell? _ _ (hHeld.2.2.2))).trans (hHeld.2.2.2)
        refine ⟨_, rfl, ?_⟩
        replace HO_0 := aU (Kd.R_below (roU HO_0) hb)
        replace HK := aU (Kept.below (S := (fun k_ => P0_ k_)) (ktU HK) hb)
        replace HB := bsU hb
        (try clear hb)
        refine hK.out _ _ ⟨HS0_, HS1_, HS2_, HS3_⟩ (fun hHeld => ?_)
        clear hK K
        refine nmU 32 ?_
        refine puU 15 33 HT_ ?_
        refine puU 16 34 HT_ ?_
        refine dnU HT_ ?_
        try go_wp2
        go_roundg k2
        case measure => have := HK1.out; have := HK2.out; omega
        case rel => exact ⟨(x0_2), (wrap64 (x8_1 + 1)), eqU, H', ⟨by have := HK1.out; have := HK2.out; omega⟩, ⟨roU HO_0⟩, ⟨by repeat (first | (with_reducible first | exact HK.out | apply Kept.alloc | apply Kept.drewN | apply Kept.drew) | exact HK.out)⟩, ⟨hbU⟩⟩
      ·rw [if_neg c6] at H
       have c6b0 : decide (a1 < x9_2) = false := decide_eq_false c6
       clear c6
       have H' := aU H
       clear H
       try go_wp2
       replace HO_0 := aU (Kd.R_drew HO_0.out)
       replace HK := aU (Kept.drew HK.out)
       replace HB := aU (below_drew1 HB.out)
       refine start_ (n := 17) (S := fun w' => True) (ds := []) #[false, false, false, false, false, false, false, false, false, false, false, false, false, false, false, false, false] (by kernel_rfl) rfl rfl trivial (fun hHeld => ?_); refine with_tabW impl_Dart_181.tab4 impl_Dart_181.bits4 (fun HT_ HW_ => ?_)
       generalize wr.drew = w25 at HO_0 HK HB hHeld ⊢
       refine puU 0 18 HT_ ?_
       refine puU 1 19 HT_ ?_
       refine puU 2 20 HT_ ?_
       refine puU 3 21 HT_ ?_
       refine pfU 4 22 HT_ ?_
       refine pfU 5 23 HT_ ?_
       refine pfU 6 24 HT_ ?_
       refine pfU 7 25 HT_ ?_
       refine pfU 8 26 HT_ ?_
       refine pfU 9 27 HT_ ?_
       refine pfU 10 28 HT_ ?_
       refine pfU 11 29 HT_ ?_
       refine pfU 12 30 HT_ ?_
       refine pfU 13 31 HT_ ?_
       refine pfU 14 32 HT_ ?_
       refine pfU 15 33 HT_ ?_
       refine puU 16 34 HT_ ?_
       refine dnU HT_ ?_
       try go_wp2
       go_roundg k2
       case measure => have := HK1.out; have := HK2.out; omega
       case rel => exact ⟨(x0_2), (wrap64 (x8_1 + 1)), eqU, H', ⟨by have := HK1.out; have := HK2.out; omega⟩, ⟨roU HO_0⟩, ⟨by repeat (first | (with_reducible first | exact HK.out | apply Kept.alloc | apply Kept.drewN | apply Kept.drew) | exact HK.out)⟩, ⟨hbU⟩⟩
   ·rw [if_neg c5] at H
    have c5b0 : decide (x8_1 < a2) = false := decide_eq_false c5
    clear c5
    obtain rfl := Option.some.inj H
    go_wp2
    first | go_end0 | ((try simp only [Exit.inBlock, Exit.then]); refine bodyPost_ret (results_none rfl _ _ _) rfl ?_)
    exact ⟨errU, by (with_reducible repeat (first | apply Kd.R_alloc | apply Kd.R_drewN | apply Kd.R_drew)); exact HO_0.out, hbU, ktU HK⟩
end Go.Proofs.YtcmlmjgoidpabaaGreatDoor.MFnDartsPlayed

