/- Walks of the functions that the law reaches: each comes to just what the function that is told of it tells, for all arguments. -/
import Derived.Test.YtcmlmjgoidpabaaGreatDoorYMFnDartsPlayedx0
namespace Go.Proofs.YtcmlmjgoidpabaaGreatDoor.MFnDartsPlayed
open Go.RowKit Go.Proofs.YtcmlmjgoidpabaaGreatDoorW.PrintWords Go.Proofs.YtcmlmjgoidpabaaGreatDoorW.PrintLast Go.Proofs.YtcmlmjgoidpabaaGreatDoorW.PrintMore
attribute [local go_sem] max2_int min2_int max_two min_two max_three min_three max_four min_four
set_option linter.unusedVariables false
set_option linter.unusedSimpArgs false
def impl_Dart_195.l0 : Nat → List (S52) → Int → Int → Int → Int → Option ((List (S52)))
 | 0, _, _, _, _, _ => none
 | k + 1, x0, x1, x2, x3, x10 => if x10 < x3 then (if 0 ≤ (wrap64 (x2 + x10)) then (if (wrap64 (x2 + x10)) < (x0.length : Int) then (if 0 ≤ (wrap64 (x1 + x10)) then (if (wrap64 (x1 + x10)) < (x0.length : Int) then (impl_Dart_195.l0 k ((x0.set ((wrap64 (x1 + x10)) : Int).toNat (⟨(rd_T52 x0 (wrap64 (x2 + x10))).f0, (rd_T52 x0 (wrap64 (x2 + x10))).f1⟩ : S52)).set ((wrap64 (x2 + x10)) : Int).toNat (⟨(rd_T52 x0 (wrap64 (x1 + x10))).f0, (rd_T52 x0 (wrap64 (x1 + x10))).f1⟩ : S52)) x1 x2 x3 (wrap64 (x10 + 1))) else (none)) else (none)) else (none)) else (none)) else (some x0)
def impl_Dart_195.f (k : Nat) (l0 : List (S52)) (a1 : Int) (a2 : Int) (a3 : Int) (a4 : Int) : Option ((List (S52))) := impl_Dart_195.l0 k l0 a1 a2 a3 0
theorem impl_Dart_195.mono_l : ∀ k, (∀ y0 y1 y2 y3 y4, LeO (impl_Dart_195.l0 k y0 y1 y2 y3 y4) (impl_Dart_195.l0 (k + 1) y0 y1 y2 y3 y4))
 | 0 => fun _ _ _ _ _ r h => by simp [impl_Dart_195.l0] at h
 | k + 1 => by
  have ih0 := impl_Dart_195.mono_l k
  all_goals intros
  all_goals first | unfold impl_Dart_195.l0
  all_goals repeat' first
  | (with_reducible exact ih0 _ _ _ _ _)
  | (with_reducible exact LeO.refl _)
  | (with_reducible exact LeO.none _)
  | (with_reducible refine LeO.ite ?_ ?_)
  | (with_reducible refine LeO.bind ?_ (fun _ => ?_))
theorem impl_Dart_195.mono : ∀ a0 a1 a2 a3 a4 k, LeO (impl_Dart_195.f k a0 a1 a2 a3 a4) (impl_Dart_195.f (k + 1) a0 a1 a2 a3 a4) := by
 intro a0 a1 a2 a3 a4 k
 have ih0 := impl_Dart_195.mono_l k
 unfold impl_Dart_195.f
 repeat' first
   | (with_reducible exact ih0 _ _ _ _ _)
   | (with_reducible exact LeO.refl _)
   | (with_reducible exact LeO.none _)
   | (with_reducible refine LeO.ite ?_ ?_)
   | (with_reducible refine LeO.bind ?_ (fun _ => ?_))
def impl_Dart_195.T3 : Bool × List (List Nat × List Nat) := (true, [([], []), ([], []), ([], []), ([1, 2], [1, 2]), ([], []), ([], []), ([], []), ([5, 6], [5, 6]), ([], []), ([], []), ([], []), ([9, 10], [9, 10]), ([8, 11], [8, 11]), ([12], [12]), ([], []), ([], []), ([], []), ([15, 16], [15, 16]), ([14, 17], [14, 17]), ([18], [18]), ([0, 3, 0, 1, 2, 3, 8, 9, 10, 11, 12, 13, 19], [0, 3]), ([20, 13, 0, 1, 2, 3, 8, 9, 10, 11, 12, 13, 19], [13, 20]), ([4, 7, 0, 1, 2, 3, 4, 5, 6, 7, 8, 9, 10, 11, 12, 13, 14, 15, 16, 17, 18, 19, 20, 21], [4, 7]), ([22, 19, 21, 0, 1, 2, 3, 4, 5, 6, 7, 8, 9, 10, 11, 12, 13, 14, 15, 16, 17, 18, 19, 20, 21], [19, 22])])
def impl_Dart_195.B3 : List Nat := [0, 0, 0, 6, 0, 0, 0, 96, 0, 0, 0, 1536, 3840, 7936, 0, 0, 0, 98304, 245760, 507904, 1048335, 2096911, 4194303, 8388607]
theorem impl_Dart_195.tab3 : rtab .any (opsOf Tryz.f195 3) = impl_Dart_195.T3 := by kernel_rfl
theorem impl_Dart_195.bits3 : waitsOk impl_Dart_195.T3.2 impl_Dart_195.B3 = true := by kernel_rfl
set_option maxHeartbeats 8000000 in
set_option maxRecDepth 100000 in
theorem impl_Dart_195.calls (k : Nat) (P0_ : Nat → Prop) (u9000_ : Value) (l0 : List (S52)) (a1 : Int) (a2 : Int) (a3 : Int) (a4 : Int) (r : List (S52)) (w0 w : World) (hB : Below w0.heap.size w0 w) (ho0 : Kd.R k52 52 w w0.heap.size P0_ u9000_ l0) (h : impl_Dart_195.f k l0 a1 a2 a3 a4 = some r) :
  Calls Tryz.prog 195 #[u9000_, .int .i64 a1, .int .i64 a2, .int .i64 a3, (.func (.func 147) #[] #[])] w fun e w' => e = .returned (.tuple #[]) ∧ Kd.R k52 52 w' w0.heap.size (fun k_ => (P0_ k_ ∨ w.heap.size ≤ k_)) u9000_ r ∧ Below w0.heap.size w0 w' ∧ Kept w w' (fun k_ => P0_ k_) := by
 have hu52 := Tryz.underlying52
 have HO0 := aU (show Kd.R k52 52 w w0.heap.size (fun k_ => (P0_ k_ ∨ w.heap.size ≤ k_)) u9000_ l0 from Kd.R_mono ho0 (fun k_ hk => (.inl hk)))
 have HK := aU (Kept.refl w (fun k_ => P0_ k_))
 have HW0 := aU hB.size
 have HB := aU hB
 clear hB
 have H : (impl_Dart_195.l0 k l0 a1 a2 a3 0) = some r := h
 clear h
 have H' := aU H
 clear H
 go_enter Tryz.func195, Tryz.ntmps195
 go_wp2
 go_loopg [10] k (fun kq v10 w' => ∃ (x0_1 : List (S52)) (x10_1 : Int), v10 = .int .i64 x10_1 ∧ Aside0 (impl_Dart_195.l0 kq x0_1 a1 a2 a3 x10_1 = some r) ∧ Aside0 (kq ≤ k) ∧ Aside0 (Kd.R k52 52 w' w0.heap.size (fun k_ => (P0_ k_ ∨ w.heap.size ≤ k_)) u9000_ x0_1) ∧ Aside0 (Kept w w' (fun k_ => P0_ k_)) ∧ Aside0 (Below w0.heap.size w0 w'))
 case atStart => exact ⟨(l0), (0), eqU, H', ⟨Nat.le_refl _⟩, ⟨roU HO0⟩, ⟨by repeat (first | (with_reducible first | exact HK.out | apply Kept.alloc | apply Kept.drewN | apply Kept.drew) | exact HK.out)⟩, ⟨hbU⟩⟩
 case round =>
  clear H'
  obtain ⟨x0_1, x10_1, rfl, HA, HK1, HO_0, HK, HB⟩ := hrel
  cases gk with
  | zero => exact absurd HA.out (by simp [impl_Dart_195.l0])
  | succ k1 =>
   have H := HA.out
   clear HA
   simp only [impl_Dart_195.l0] at H
   by_cases c6 : x10_1 < a3
   ·rw [if_pos c6] at H
    have c6b0 : decide (x10_1 < a3) = true := decide_eq_true c6
    clear c6
    obtain ⟨ji7, hji7⟩ : ∃ j_ : Int, (wrap64 (a2 + x10_1)) = j_ := ⟨_, rfl⟩
    replace H : (if 0 ≤ (ji7) then (if (ji7) < (x0_1.length : Int) then (if 0 ≤ (wrap64 (a1 + x10_1)) then (if (wrap64 (a1 + x10_1)) < (x0_1.length : Int) then (impl_Dart_195.l0 k1 ((x0_1.set ((wrap64 (a1 + x10_1)) : Int).toNat (⟨(rd_T52 x0_1 (ji7)).f0, (rd_T52 x0_1 (ji7)).f1⟩ : S52)).set ((ji7) : Int).toNat (⟨(rd_T52 x0_1 (wrap64 (a1 + x10_1))).f0, (rd_T52 x0_1 (wrap64 (a1 + x10_1))).f1⟩ : S52)) a1 a2 a3 (wrap64 (x10_1 + 1))) else (none)) else (none)) else (none)) else (none)) = some r := by first | (rw [hji7] at H; exact H) | (simp only [hji7] at H ⊢; exact H)
    have hji7w : (IntKind.i64.wrap (a2 + x10_1)) = ji7 := (i64_w _).trans hji7
    replace H := ifS H
    obtain ⟨c8, H⟩ := H
    have c8b0 : decide (0 ≤ (ji7)) = true := decide_eq_true c8
    clear c8
    replace H := ifS H
    obtain ⟨c9, H⟩ := H
    have c9b0 : decide ((ji7) < (x0_1.length : Int)) = true := decide_eq_true c9
    clear c9
    obtain ⟨ji10, hji10⟩ : ∃ j_ : Int, (wrap64 (a1 + x10_1)) = j_ := ⟨_, rfl⟩
    replace H : (if 0 ≤ (ji10) then (if (ji10) < (x0_1.length : Int) then (impl_Dart_195.l0 k1 ((x0_1.set ((ji10) : Int).toNat (⟨(rd_T52 x0_1 (ji7)).f0, (rd_T52 x0_1 (ji7)).f1⟩ : S52)).set ((ji7) : Int).toNat (⟨(rd_T52 x0_1 (ji10)).f0, (rd_T52 x0_1 (ji10)).f1⟩ : S52)) a1 a2 a3 (wrap64 (x10_1 + 1))) else (none)) else (none)) = some r := by first | (rw [hji10] at H; exact H) | (simp only [hji10] at H ⊢; exact H)
    have hji10w : (IntKind.i64.wrap (a1 + x10_1)) = ji10 := (i64_w _).trans hji10
    replace H := ifS H
    obtain ⟨c11, H⟩ := H
    have c11b0 : decide (0 ≤ (ji10)) = true := decide_eq_true c11
    clear c11
    replace H := ifS H
    obtain ⟨c12, H⟩ := H
    have c12b0 : decide ((ji10) < (x0_1.length : Int)) = true := decide_eq_true c12
    clear c12
    obtain ⟨y504, hy504⟩ : ∃ y_ : List (S52), y_ = (x0_1.set ((ji10) : Int).toNat (⟨(rd_T52 x0_1 (ji7)).f0, (rd_T52 x0_1 (ji7)).f1⟩ : S52)) := ⟨_, rfl⟩
    replace H : (impl_Dart_195.l0 k1 (y504.set ((ji7) : Int).toNat (⟨(rd_T52 x0_1 (ji10)).f0, (rd_T52 x0_1 (ji10)).f1⟩ : S52)) a1 a2 a3 (wrap64 (x10_1 + 1))) = some r := by first | (rw [hy504]; with_reducible exact H) | (have H2_ := (Option.bind_some _ _).symm.trans H; rw [hy504]; with_reducible exact H2_) | (have H2_ := (Option.bind_some _ _).symm.trans H; with_reducible exact H2_) | with_reducible exact H | (rw [hy504]; exact H) | exact H
    have Ny504 := aU hy504
    clear hy504
    obtain ⟨y505, hy505⟩ : ∃ y_ : List (S52), y_ = (y504.set ((ji7) : Int).toNat (⟨(rd_T52 x0_1 (ji10)).f0, (rd_T52 x0_1 (ji10)).f1⟩ : S52)) := ⟨_, rfl⟩
    replace H : (impl_Dart_195.l0 k1 y505 a1 a2 a3 (wrap64 (x10_1 + 1))) = some r := by first | (rw [hy505]; with_reducible exact H) | (have H2_ := (Option.bind_some _ _).symm.trans H; rw [hy505]; with_reducible exact H2_) | (have H2_ := (Option.bind_some _ _).symm.trans H; with_reducible exact H2_) | with_reducible exact H | (rw [hy505]; exact H) | exact H
    have Ny505 := aU hy505
    clear hy505
    have H' := aU H
    clear H
    try go_wp2
    replace HO_0 := aU (Kd.R_drew HO_0.out)
    replace HK := aU (Kept.drew HK.out)
    replace HB := aU (below_drew1 HB.out)
    obtain ⟨Ao16, co16, eo16⟩ := Kd.R_slice HO_0.out
    (first | subst eo16 | (injection eo16 with f1_ f2_ f3_; have f4_ := f1_.symm; have f5_ := f3_.symm; clear f1_ f2_ f3_; subst f4_; subst f5_))
    have p502 : 0 ≤ ((ji7) : Int) := dU
    have q502 : (ji7) < (x0_1.length : Int) := dU
    obtain ⟨ad502, e502, hx502_0, hx502_1⟩ := at_T52 (Kd.R_reads' HO_0.out).2.2 (ji7) p502 q502
    cases e502
    replace p502 := eq_true p502
    replace q502 := eq_true q502
    have p503 : 0 ≤ ((ji10) : Int) := dU
    have q503 : (ji10) < (x0_1.length : Int) := dU
    obtain ⟨ad503, e503, hx503_0, hx503_1⟩ := at_T52 (Kd.R_reads' HO_0.out).2.2 (ji10) p503 q503
    obtain rfl : ad502 = ad503 := (by injection e503)
    replace p503 := eq_true p503
    replace q503 := eq_true q503
    have p13 : 0 ≤ ((ji10) : Int) := dU
    have q13 : ((ji10) : Int) < ((x0_1.length : Int) : Int) := dU
    obtain ⟨go13, co13, eo13, gb13, gl13, cl13, HG13⟩ := Kd.R_form HO_0.out (by omega)
    (first | cases eo13 | (injection eo13 with ea_ en_ ec_; (first | subst ea_ | (injection ea_ with ea_; subst ea_)); subst ec_; clear en_))
    have GB13 := aU gb13
    have GG13 := aU HG13
    clear gb13 gl13 HG13
    have HMgo13 := aU (show (P0_ go13 ∨ w.heap.size ≤ go13) from (HO_0.out.1 _ rfl))
    (first | simp only [add_plain] at hx502_0 | skip)
    (first | simp only [add_plain] at hx502_1 | skip)
    (first | simp only [add_plain] at hx503_0 | skip)
    (first | simp only [add_plain] at hx503_1 | skip)
    obtain ⟨ce13, hcl13, hM13, hcc13, hfr13⟩ := Kd.R_elem HO_0.out z52 ((ji10) : Int) p13 q13
    obtain rfl := k52_openM hM13
    have hx13_0 : World.cell? _ ⟨go13, ((ji10) : Int).toNat * 2, none⟩ = some (.int .i64 ((rd_T52 x0_1 (ji10)).f0)) := hcc13 0 _ rfl
    have hx13_1 : World.cell? _ ⟨go13, ((ji10) : Int).toNat * 2 + 1, none⟩ = some (.int .i64 ((rd_T52 x0_1 (ji10)).f1)) := hcc13 1 _ rfl
    have hf13_0 : World.frozen? _ ⟨go13, ((ji10) : Int).toNat * 2, none⟩ = false := hfr13 0
    have hf13_1 : World.frozen? _ ⟨go13, ((ji10) : Int).toNat * 2 + 1, none⟩ = false := hfr13 1
    clear hcl13 hcc13 hfr13 hM13
    replace p13 := eq_true p13
    replace q13 := eq_true q13
    obtain ⟨ce17, hcl17, hM17, hcc17, hfr17⟩ := Kd.R_elem HO_0.out z52 ((ji10) : Int) (dU) (by have h_ : ((ji10) : Int) < ((x0_1.length : Int) : Int) := dU; first | exact h_ | (have e_ := (Kd.R_reads' HO_0.out).1; omega) | simpa using h_)
    obtain rfl := k52_openM hM17
    have HP17 := (Kd.R_seg HO_0.out ((ji10) : Int) (dU) (by have h_ : ((ji10) : Int) < ((x0_1.length : Int) : Int) := dU; first | exact h_ | (have e_ := (Kd.R_reads' HO_0.out).1; omega) | simpa using h_) (seg := [.int .i64 ((rd_T52 x0_1 (ji7)).f0), .int .i64 ((rd_T52 x0_1 (ji7)).f1)]) (j := 0) hcl17 hcc17 (show 2 ≤ 2 from by decide) (x' := (⟨(rd_T52 x0_1 (ji7)).f0, (rd_T52 x0_1 (ji7)).f1⟩ : S52)) (k52_mkM _ _ _ (⟨(rd_T52 x0_1 (ji7)).f0, (rd_T52 x0_1 (ji7)).f1⟩ : S52) ) (fun _ hk => hk)).1
    rw [← Ny504.out] at HP17
    have HQ17 := aU HP17
    clear hcl17 hcc17 hfr17 hM17 HP17
    have p14 : 0 ≤ ((ji7) : Int) := dU
    have q14 : ((ji7) : Int) < ((x0_1.length : Int) : Int) := dU
    obtain ⟨ce14, hcl14, hM14, hcc14, hfr14⟩ := Kd.R_elem HQ17.out z52 ((ji7) : Int) p14 q14
    obtain rfl := k52_openM hM14
    have hx14_0 : World.cell? _ ⟨go13, ((ji7) : Int).toNat * 2, none⟩ = some (.int .i64 ((rd_T52 y504 (ji7)).f0)) := hcc14 0 _ rfl
    have hx14_1 : World.cell? _ ⟨go13, ((ji7) : Int).toNat * 2 + 1, none⟩ = some (.int .i64 ((rd_T52 y504 (ji7)).f1)) := hcc14 1 _ rfl
    have hf14_0 : World.frozen? _ ⟨go13, ((ji7) : Int).toNat * 2, none⟩ = false := hfr14 0
    have hf14_1 : World.frozen? _ ⟨go13, ((ji7) : Int).toNat * 2 + 1, none⟩ = false := hfr14 1
    clear hcl14 hcc14 hfr14 hM14
    replace p14 := eq_true p14
    replace q14 := eq_true q14
    obtain ⟨ce18, hcl18, hM18, hcc18, hfr18⟩ := Kd.R_elem HQ17.out z52 ((ji7) : Int) (dU) (by have h_ : ((ji7) : Int) < ((x0_1.length : Int) : Int) := dU; first | exact h_ | (have e_ := (Kd.R_reads' HO_0.out).1; omega) | simpa using h_)
    obtain rfl := k52_openM hM18
    have HP18 := (Kd.R_seg HQ17.out ((ji7) : Int) (dU) (by have h_ : ((ji7) : Int) < ((x0_1.length : Int) : Int) := dU; first | exact h_ | (have e_ := (Kd.R_reads' HO_0.out).1; omega) | simpa using h_) (seg := [.int .i64 ((rd_T52 x0_1 (ji10)).f0), .int .i64 ((rd_T52 x0_1 (ji10)).f1)]) (j := 0) hcl18 hcc18 (show 2 ≤ 2 from by decide) (x' := (⟨(rd_T52 x0_1 (ji10)).f0, (rd_T52 x0_1 (ji10)).f1⟩ : S52)) (k52_mkM _ _ _ (⟨(rd_T52 x0_1 (ji10)).f0, (rd_T52 x0_1 (ji10)).f1⟩ : S52) ) (fun _ hk => hk)).1
    rw [← Ny505.out] at HP18
    have HQ18 := aU HP18
    clear hcl18 hcc18 hfr18 hM18 HP18
    refine start_ (n := 24) (S := fun w' => w'.cell? ⟨go13, (((ji7)).toNat * 2), none⟩ = some (.int .i64 ((rd_T52 x0_1 (ji7)).f0)) ∧ w'.cell? ⟨go13, (((ji7)).toNat * 2) + 1, none⟩ = some (.int .i64 ((rd_T52 x0_1 (ji7)).f1)) ∧ w'.cell? ⟨go13, (((ji10)).toNat * 2), none⟩ = some (.int .i64 ((rd_T52 x0_1 (ji10)).f0)) ∧ w'.cell? ⟨go13, (((ji10)).toNat * 2) + 1, none⟩ = some (.int .i64 ((rd_T52 x0_1 (ji10)).f1))) (ds := [21, 23]) #[false, false, false, false, false, false, false, false, false, false, false, false, false, false, false, false, false, false, false, false, false, false, false, false] (by kernel_rfl) rfl rfl ⟨hx502_0, hx502_1, hx503_0, hx503_1⟩ (fun hHeld => ?_); refine with_tabW impl_Dart_195.tab3 impl_Dart_195.bits3 (fun HT_ HW_ => ?_)
    generalize wr.drew = w15 at HO_0 HK HB GG13 HQ17 HQ18 hf13_0 hf13_1 hf14_0 hf14_1 hx13_0 hx13_1 hx14_0 hx14_1 hx502_0 hx502_1 hx503_0 hx503_1 hHeld ⊢
    refine puU 0 16 HT_ ?_
    refine puU 1 17 HT_ ?_
    refine puU 2 18 HT_ ?_
    refine puU 3 19 HT_ ?_
    refine puU 4 20 HT_ ?_
    refine puU 5 21 HT_ ?_
    refine puU 6 22 HT_ ?_
    refine puU 7 23 HT_ ?_
    refine puU 8 24 HT_ ?_
    refine puU 9 25 HT_ ?_
    refine puU 10 26 HT_ ?_
    refine puU 11 27 HT_ ?_
    refine puU 12 28 HT_ ?_
    refine puU 14 30 HT_ ?_
    refine puU 15 31 HT_ ?_
    refine puU 16 32 HT_ ?_
    refine puU 17 33 HT_ ?_
    refine puU 18 34 HT_ ?_
    refine tkU 13 29 HT_ HW_ hHeld ?_
    refine tkU 19 35 HT_ HW_ hHeld ?_
    refine puU 20 36 HT_ ?_
    refine last_ (i := 21) (N := none) #[true, true, true, true, true, true, true, true, true, true, true, true, true, true, true, true, true, true, true, true, true, true, false, false] rfl rfl (one_of HT_.out (by kernel_rfl)) (by decide) (fun K hK => ?_)
    obtain ⟨ceY, hclY, hMY, hccY, hfrY⟩ := Kd.R_elem HO_0.out z52 ((ji7) : Int) (by first | exact of_eq_true p14 | (with_reducible assumption) | exact of_decide_eq_true (by assumption)) (by first | exact of_eq_true q14 | simpa using of_eq_true q14)
    obtain rfl := k52_openM hMY
    have hzY_0 : World.cell? _ ⟨go13, ((ji7) : Int).toNat * 2, none⟩ = _ := hccY 0 _ rfl
    have hzY_1 : World.cell? _ ⟨go13, ((ji7) : Int).toNat * 2 + 1, none⟩ = _ := hccY 1 _ rfl
    have hfY_0 : World.frozen? _ ⟨go13, ((ji7) : Int).toNat * 2, none⟩ = false := hfrY 0
    have hfY_1 : World.frozen? _ ⟨go13, ((ji7) : Int).toNat * 2 + 1, none⟩ = false := hfrY 1
    obtain ⟨cy0, hy0⟩ := setSome (p := ⟨go13, ((ji10) : Int).toNat * 2, none⟩) (x := .int .i64 ((rd_T52 x0_1 (ji7)).f0)) hzY_0
    obtain ⟨cy2, hy2⟩ := setSome (p := ⟨go13, ((ji10) : Int).toNat * 2, none⟩) (x := .int .i64 ((rd_T52 x0_1 (ji7)).f0)) hzY_1
    obtain ⟨cy1, hy1⟩ := setSome (p := ⟨go13, ((ji10) : Int).toNat * 2 + 1, none⟩) (x := .int .i64 ((rd_T52 x0_1 (ji7)).f1)) hy2
    clear hy2 hccY hfrY hclY hMY
    refine skip_ (w1 := ?_) (by rfl) rfl ?_ ?_
    rotate_left
    ·go_simp
     rfl
    refine hK.out _ _ ?_
    clear hK K
    refine puU 22 37 HT_ ?_
    refine last_ (i := 23) (N := none) #[true, true, true, true, true, true, true, true, true, true, true, true, true, true, true, true, true, true, true, true, true, true, true, true] rfl rfl (one_of HT_.out (by kernel_rfl)) (by decide) (fun K hK => ?_)
    refine skip_ (w1 := ?_) (by rfl) rfl ?_ ?_
    rotate_left
    ·go_simp
     rfl
    refine hK.out _ _ ?_
    clear hK K
    refine dnU HT_ ?_
    try go_wp2
    go_roundg k1
    case measure => have := HK1.out; omega
    case rel => exact ⟨(y505), (wrap64 (x10_1 + 1)), eqU, H', ⟨by have := HK1.out; omega⟩, ⟨roU HQ18⟩, ⟨by repeat (first | (with_reducible first | exact HK.out | apply Kept.alloc | apply Kept.drewN | apply Kept.drew | refine Kept.setCell ?_ HMgo13.out _ | refine Kept.setCell ?_ HMgo13.out _ | refine Kept.setCell ?_ HMgo13.out _ | refine Kept.setCell ?_ HMgo13.out _) | exact HK.out)⟩, ⟨by repeat (first | (with_reducible first | exact HB.out | apply below_alloc | apply pw_below_drewN | apply below_drew1 | refine below_set ?_ GB13.out | refine below_set ?_ GB13.out | refine below_set ?_ GB13.out | refine below_set ?_ GB13.out) | exact HB.out)⟩⟩
   ·rw [if_neg c6] at H
    have c6b0 : decide (x10_1 < a3) = false := decide_eq_false c6
    clear c6
    obtain rfl := Option.some.inj H
    go_wp2
    first | go_end0 | ((try simp only [Exit.inBlock, Exit.then]); refine bodyPost_ret (results_none rfl _ _ _) rfl ?_)
    exact ⟨errU, by (with_reducible repeat (first | apply Kd.R_alloc | apply Kd.R_drewN | apply Kd.R_drew)); exact HO_0.out, hbU, ktU HK⟩
def impl_Dart_192.l0 : Nat → List (S52) → Int → Int → Int → Int → Option ((List (S52)))
 | 0, _, _, _, _, _ => none
 | k + 1, x0, x2, x4, x10, x11 => if x10 = x11 then ((impl_Dart_195.f k x0 (wrap64 (x2 - x10)) x2 x10 x4).bind fun t506 => (some t506)) else (if x10 > x11 then ((impl_Dart_195.f k x0 (wrap64 (x2 - x10)) x2 x11 x4).bind fun t507 => (impl_Dart_192.l0 k t507 x2 x4 (wrap64 (x10 - x11)) x11)) else ((impl_Dart_195.f k x0 (wrap64 (x2 - x10)) (wrap64 ((wrap64 (x2 + x11)) - x10)) x10 x4).bind fun t508 => (impl_Dart_192.l0 k t508 x2 x4 x10 (wrap64 (x11 - x10)))))
def impl_Dart_192.f (k : Nat) (l0 : List (S52)) (a1 : Int) (a2 : Int) (a3 : Int) (a4 : Int) : Option ((List (S52))) := impl_Dart_192.l0 k l0 a2 a4 (wrap64 (a2 - a1)) (wrap64 (a3 - a2))
theorem impl_Dart_192.mono_l : ∀ k, (∀ y0 y1 y2 y3 y4, LeO (impl_Dart_192.l0 k y0 y1 y2 y3 y4) (impl_Dart_192.l0 (k + 1) y0 y1 y2 y3 y4))
 | 0 => fun _ _ _ _ _ r h => by simp [impl_Dart_192.l0] at h
 | k + 1 => by
  have ih0 := impl_Dart_192.mono_l k
  all_goals intros
  all_goals first | unfold impl_Dart_192.l0
  all_goals repeat' first
  | (with_reducible exact ih0 _ _ _ _ _)
  | (with_reducible exact impl_Dart_195.mono _ _ _ _ _ _)
  | (with_reducible exact LeO.refl _)
  | (with_reducible exact LeO.none _)
  | (with_reducible refine LeO.ite ?_ ?_)
  | (with_reducible refine LeO.bind ?_ (fun _ => ?_))
theorem impl_Dart_192.mono : ∀ a0 a1 a2 a3 a4 k, LeO (impl_Dart_192.f k a0 a1 a2 a3 a4) (impl_Dart_192.f (k + 1) a0 a1 a2 a3 a4) := by
 intro a0 a1 a2 a3 a4 k
 have ih0 := impl_Dart_192.mono_l k
 unfold impl_Dart_192.f
 repeat' first
   | (with_reducible exact ih0 _ _ _ _ _)
   | (with_reducible exact impl_Dart_195.mono _ _ _ _ _ _)
   | (with_reducible exact LeO.refl _)
   | (with_reducible exact LeO.none _)
   | (with_reducible refine LeO.ite ?_ ?_)
   | (with_reducible refine LeO.bind ?_ (fun _ => ?_))
set_option maxHeartbeats 8000000 in
set_option maxRecDepth 100000 in
theorem impl_Dart_192.calls (k : Nat) (P0_ : Nat → Prop) (u9000_ : Value) (l0 : List (S52)) (a1 : Int) (a2 : Int) (a3 : Int) (a4 : Int) (r : List (S52)) (w0 w : World) (hB : Below w0.heap.size w0 w) (ho0 : Kd.R k52 52 w w0.heap.size P0_ u9000_ l0) (h : impl_Dart_192.f k l0 a1 a2 a3 a4 = some r) :
  Calls Tryz.prog 192 #[u9000_, .int .i64 a1, .int .i64 a2, .int .i64 a3, (.func (.func 147) #[] #[])] w fun e w' => e = .returned (.tuple #[]) ∧ Kd.R k52 52 w' w0.heap.size (fun k_ => (P0_ k_ ∨ w.heap.size ≤ k_)) u9000_ r ∧ Below w0.heap.size w0 w' ∧ Kept w w' (fun k_ => P0_ k_) := by
 have HO0 := aU (show Kd.R k52 52 w w0.heap.size (fun k_ => (P0_ k_ ∨ w.heap.size ≤ k_)) u9000_ l0 from Kd.R_mono ho0 (fun k_ hk => (.inl hk)))
 have HK := aU (Kept.refl w (fun k_ => P0_ k_))
 have HW0 := aU hB.size
 have HB := aU hB
 clear hB
 have H : (impl_Dart_192.l0 k l0 a2 a4 (wrap64 (a2 - a1)) (wrap64 (a3 - a2))) = some r := h
 clear h
 have H' := aU H
 clear H
 go_enter Tryz.func192, Tryz.ntmps192
 go_wp2
 go_loopg [10, 11] k (fun kq v10 v11 w' => ∃ (x0_1 : List (S52)) (x10_1 : Int) (x11_1 : Int), v10 = .int .i64 x10_1 ∧ v11 = .int .i64 x11_1 ∧ Aside0 (impl_Dart_192.l0 kq x0_1 a2 a4 x10_1 x11_1 = some r) ∧ Aside0 (kq ≤ k) ∧ Aside0 (Kd.R k52 52 w' w0.heap.size (fun k_ => (P0_ k_ ∨ w.heap.size ≤ k_)) u9000_ x0_1) ∧ Aside0 (Kept w w' (fun k_ => P0_ k_)) ∧ Aside0 (Below w0.heap.size w0 w'))
 case atStart => exact ⟨(l0), (wrap64 (a2 - a1)), (wrap64 (a3 - a2)), eqU, eqU, H', ⟨Nat.le_refl _⟩, ⟨roU HO0⟩, ⟨by repeat (first | (with_reducible first | exact HK.out | apply Kept.alloc | apply Kept.drewN | apply Kept.drew) | exact HK.out)⟩, ⟨hbU⟩⟩
 case round =>
  clear H'
  obtain ⟨x0_1, x10_1, x11_1, rfl, rfl, HA, HK1, HO_0, HK, HB⟩ := hrel
  cases gk with
  | zero => exact absurd HA.out (by simp [impl_Dart_192.l0])
  | succ k1 =>
   have H := HA.out
   clear HA
   simp only [impl_Dart_192.l0] at H
   by_cases c6 : x10_1 = x11_1
   ·rw [if_pos c6] at H
    have c6b0 : (x10_1 == x11_1) = true := beq_iff_eq.mpr c6
    have c6b1 : (x10_1 != x11_1) = false := bne_eq_false_iff_eq.mpr c6
    clear c6
    replace H := bindS H
    obtain ⟨t506, A7, H⟩ := H
    (try dsimp only at H)
    obtain rfl := Option.some.inj H
    obtain ⟨Ao8, co8, eo8⟩ := Kd.R_slice HO_0.out
    subst eo8
    go_wp2_with (first | ((with_reducible refine gcU 195 rfl ?_); refine goU (some 57) Tryz.func195 #[.slice Ao8 x0_1.length co8, .int .i64 (wrap64 (a2 - x10_1)), .int .i64 a2, .int .i64 x10_1, (.func (.func 147) #[] #[])] ?_; (with_reducible refine (impl_Dart_195.calls k1 (fun k_ => some k_ = (.slice Ao8 x0_1.length co8 : Value).ownBlock) (.slice Ao8 x0_1.length co8) x0_1 (wrap64 (a2 - x10_1)) a2 x10_1 a4 t506 w0 _ ?side1 ?side2 A7.out).mono ?_); (case side1 => exact hbU); (case side2 => exact Kd.R_tight rfl HO_0.out); rintro e w9 ⟨rfl, hy0, hb, hkp⟩; refine ⟨_, rfl, ?_⟩; replace HK := aU (Kept.then_ (S := (fun k_ => P0_ k_)) (ktU HK) hkp (fun k_ hs_ => (fun e_ => (HO_0.out.1 k_ e_.symm)) hs_)); replace HO_0 := aU (Kd.R_reok rfl hy0 (fun k_ e_ => HO_0.out.1 k_ e_)); replace HB := aU (hb); (try clear hb); (try clear hkp); (try clear hy0)))
    first | go_end0 | ((try simp only [Exit.inBlock, Exit.then]); refine bodyPost_ret (results_none rfl _ _ _) rfl ?_)
    exact ⟨errU, by (with_reducible repeat (first | apply Kd.R_alloc | apply Kd.R_drewN | apply Kd.R_drew)); exact HO_0.out, hbU, ktU HK⟩
   ·rw [if_neg c6] at H
    have c6b0 : (x10_1 == x11_1) = false := beq_eq_false_iff_ne.mpr c6
    have c6b1 : (x10_1 != x11_1) = true := bne_iff_ne.mpr c6
    by_cases c10 : x10_1 > x11_1
    ·rw [if_pos c10] at H
     have c10b0 : decide (x11_1 < x10_1) = true := decide_eq_true c10
     clear c10
     replace H := bindS H
     obtain ⟨t507, A11, H⟩ := H
     (try dsimp only at H)
     have H' := aU H
     clear H
     obtain ⟨Ao12, co12, eo12⟩ := Kd.R_slice HO_0.out
     subst eo12
     go_wp2_with (first | ((with_reducible refine gcU 195 rfl ?_); refine goU (some 31) Tryz.func195 #[.slice Ao12 x0_1.length co12, .int .i64 (wrap64 (a2 - x10_1)), .int .i64 a2, .int .i64 x11_1, (.func (.func 147) #[] #[])] ?_; (with_reducible refine (impl_Dart_195.calls k1 (fun k_ => some k_ = (.slice Ao12 x0_1.length co12 : Value).ownBlock) (.slice Ao12 x0_1.length co12) x0_1 (wrap64 (a2 - x10_1)) a2 x11_1 a4 t507 w0 _ ?side1 ?side2 A11.out).mono ?_); (case side1 => exact hbU); (case side2 => exact Kd.R_tight rfl HO_0.out); rintro e w13 ⟨rfl, hy0, hb, hkp⟩; refine ⟨_, rfl, ?_⟩; replace HK := aU (Kept.then_ (S := (fun k_ => P0_ k_)) (ktU HK) hkp (fun k_ hs_ => (fun e_ => (HO_0.out.1 k_ e_.symm)) hs_)); replace HO_0 := aU (Kd.R_reok rfl hy0 (fun k_ e_ => HO_0.out.1 k_ e_)); replace HB := aU (hb); (try clear hb); (try clear hkp); (try clear hy0)))
     go_roundg k1
     case measure => have := HK1.out; omega
     case rel => exact ⟨(t507), (wrap64 (x10_1 - x11_1)), (x11_1), eqU, eqU, H', ⟨by have := HK1.out; omega⟩, ⟨roU HO_0⟩, ⟨by repeat (first | (with_reducible first | exact HK.out | apply Kept.alloc | apply Kept.drewN | apply Kept.drew) | exact HK.out)⟩, ⟨hbU⟩⟩
    ·rw [if_neg c10] at H
     have c10b0 : decide (x11_1 < x10_1) = false := decide_eq_false c10
     clear c10
     replace H := bindS H
     obtain ⟨t508, A14, H⟩ := H
     (try dsimp only at H)
     have H' := aU H
     clear H
     obtain ⟨Ao15, co15, eo15⟩ := Kd.R_slice HO_0.out
     subst eo15
     go_wp2_with (first | ((with_reducible refine gcU 195 rfl ?_); refine goU (some 46) Tryz.func195 #[.slice Ao15 x0_1.length co15, .int .i64 (wrap64 (a2 - x10_1)), .int .i64 (wrap64 ((wrap64 (a2 + x11_1)) - x10_1)), .int .i64 x10_1, (.func (.func 147) #[] #[])] ?_; (with_reducible refine (impl_Dart_195.calls k1 (fun k_ => some k_ = (.slice Ao15 x0_1.length co15 : Value).ownBlock) (.slice Ao15 x0_1.length co15) x0_1 (wrap64 (a2 - x10_1)) (wrap64 ((wrap64 (a2 + x11_1)) - x10_1)) x10_1 a4 t508 w0 _ ?side1 ?side2 A14.out).mono ?_); (case side1 => exact hbU); (case side2 => exact Kd.R_tight rfl HO_0.out); rintro e w16 ⟨rfl, hy0, hb, hkp⟩; refine ⟨_, rfl, ?_⟩; replace HK := aU (Kept.then_ (S := (fun k_ => P0_ k_)) (ktU HK) hkp (fun k_ hs_ => (fun e_ => (HO_0.out.1 k_ e_.symm)) hs_)); replace HO_0 := aU (Kd.R_reok rfl hy0 (fun k_ e_ => HO_0.out.1 k_ e_)); replace HB := aU (hb); (try clear hb); (try clear hkp); (try clear hy0)))
     go_roundg k1
     case measure => have := HK1.out; omega
     case rel => exact ⟨(t508), (x10_1), (wrap64 (x11_1 - x10_1)), eqU, eqU, H', ⟨by have := HK1.out; omega⟩, ⟨roU HO_0⟩, ⟨by repeat (first | (with_reducible first | exact HK.out | apply Kept.alloc | apply Kept.drewN | apply Kept.drew) | exact HK.out)⟩, ⟨hbU⟩⟩
end Go.Proofs.YtcmlmjgoidpabaaGreatDoor.MFnDartsPlayed

