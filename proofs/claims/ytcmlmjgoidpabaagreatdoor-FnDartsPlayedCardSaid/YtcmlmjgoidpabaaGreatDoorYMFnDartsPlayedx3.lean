/- Walks of the functions that the law reaches: each comes to just what the function that is told of it tells, for all arguments. -/
import Derived.Test.YtcmlmjgoidpabaaGreatDoorYMFnDartsPlayedx2
namespace Go.Proofs.YtcmlmjgoidpabaaGreatDoor.MFnDartsPlayed
open Go.RowKit Go.Proofs.YtcmlmjgoidpabaaGreatDoorW.PrintWords Go.Proofs.YtcmlmjgoidpabaaGreatDoorW.PrintLast Go.Proofs.YtcmlmjgoidpabaaGreatDoorW.PrintMore
attribute [local go_sem] max2_int min2_int max_two min_two max_three min_three max_four min_four
set_option linter.unusedVariables false
set_option linter.unusedSimpArgs false
mutual
def spec_daCount.l0 : Nat → Int → Int → Bool → List Int → List (S52) → Int → Option (List Int)
 | 0, _, _, _, _, _, _ => none
 | k + 1, x0, x1, x2, x7, x8, x9 => if x9 ≤ x0 then (if 0 ≤ (wrap64 (x1 + 1)) then (if (wrap64 (x1 + 1) : Int).toNat ≤ 35184372088832 then (spec_daCount.l1 k x0 x1 x2 x7 x8 x9 (List.replicate (wrap64 (x1 + 1) : Int).toNat 0) x8 (x8.length : Int) 0) else (none)) else (none)) else (some x7)
def spec_daCount.l1 : Nat → Int → Int → Bool → List Int → List (S52) → Int → List Int → List (S52) → Int → Int → Option (List Int)
 | 0, _, _, _, _, _, _, _, _, _, _ => none
 | k + 1, x0, x1, x2, x7, x8, x9, x10, x28, x29, x30 => if x30 < x29 then (if 0 ≤ x30 then (if x30 < (x28.length : Int) then (if x2 = true then (if x9 = x0 then (spec_daCount.j2 k x0 x1 x2 x7 x8 x9 x10 x28 x29 x30 (((rd_T52 x28 x30).f1) != 2) ((rd_T52 x28 x30).f0) ((rd_T52 x28 x30).f1)) else (spec_daCount.j2 k x0 x1 x2 x7 x8 x9 x10 x28 x29 x30 false ((rd_T52 x28 x30).f0) ((rd_T52 x28 x30).f1))) else (spec_daCount.j2 k x0 x1 x2 x7 x8 x9 x10 x28 x29 x30 false ((rd_T52 x28 x30).f0) ((rd_T52 x28 x30).f1))) else (none)) else (none)) else (spec_daCount.l0 k x0 x1 x2 x10 x8 (wrap64 (x9 + 1)))
def spec_daCount.j2 : Nat → Int → Int → Bool → List Int → List (S52) → Int → List Int → List (S52) → Int → Int → Bool → Int → Int → Option (List Int)
 | 0, _, _, _, _, _, _, _, _, _, _, _, _, _ => none
 | k + 1, x0, x1, x2, x7, x8, x9, x10, x28, x29, x30, x44, x183000, x183001 => if x44 = true then (spec_daCount.l1 k x0 x1 x2 x7 x8 x9 x10 x28 x29 (wrap64 (x30 + 1))) else (spec_daCount.l2 k x0 x1 x2 x7 x8 x9 x10 (wrap64 (x183000 * x183001)) x28 x29 x30 x183000 x183001)
def spec_daCount.l2 : Nat → Int → Int → Bool → List Int → List (S52) → Int → List Int → Int → List (S52) → Int → Int → Int → Int → Option (List Int)
 | 0, _, _, _, _, _, _, _, _, _, _, _, _, _ => none
 | k + 1, x0, x1, x2, x7, x8, x9, x10, x13, x28, x29, x30, x183000, x183001 => if x13 ≤ x1 then (if 0 ≤ x13 then (if x13 < (x10.length : Int) then (if 0 ≤ (wrap64 (x13 - (wrap64 (x183000 * x183001)))) then (if (wrap64 (x13 - (wrap64 (x183000 * x183001)))) < (x7.length : Int) then (spec_daCount.l2 k x0 x1 x2 x7 x8 x9 (x10.set (x13 : Int).toNat (wrap64 ((rd x10 x13) + (rd x7 (wrap64 (x13 - (wrap64 (x183000 * x183001)))))))) (wrap64 (x13 + 1)) x28 x29 x30 x183000 x183001) else (none)) else (none)) else (none)) else (none)) else (spec_daCount.l1 k x0 x1 x2 x7 x8 x9 x10 x28 x29 (wrap64 (x30 + 1)))
end
def spec_daCount.f (k : Nat) (a0 : Int) (a1 : Int) (a2 : Bool) : Option (List Int) := if 0 ≤ (wrap64 (a1 + 1)) then (if (wrap64 (a1 + 1) : Int).toNat ≤ 35184372088832 then ((some (List.replicate (wrap64 (a1 + 1) : Int).toNat 0 : List Int)).bind fun y171 => (if 0 < (y171.length : Int) then ((spec_daAll.f k).bind fun t175 => (spec_daCount.l0 k a0 a1 a2 (y171.set (0 : Int).toNat 1) t175 1)) else (none))) else (none)) else (none)
theorem spec_daCount.mono_l : ∀ k, (∀ y0 y1 y2 y3 y4 y5, LeO (spec_daCount.l0 k y0 y1 y2 y3 y4 y5) (spec_daCount.l0 (k + 1) y0 y1 y2 y3 y4 y5)) ∧ (∀ y0 y1 y2 y3 y4 y5 y6 y7 y8 y9, LeO (spec_daCount.l1 k y0 y1 y2 y3 y4 y5 y6 y7 y8 y9) (spec_daCount.l1 (k + 1) y0 y1 y2 y3 y4 y5 y6 y7 y8 y9)) ∧ (∀ y0 y1 y2 y3 y4 y5 y6 y7 y8 y9 y10 y11 y12, LeO (spec_daCount.j2 k y0 y1 y2 y3 y4 y5 y6 y7 y8 y9 y10 y11 y12) (spec_daCount.j2 (k + 1) y0 y1 y2 y3 y4 y5 y6 y7 y8 y9 y10 y11 y12)) ∧ (∀ y0 y1 y2 y3 y4 y5 y6 y7 y8 y9 y10 y11 y12, LeO (spec_daCount.l2 k y0 y1 y2 y3 y4 y5 y6 y7 y8 y9 y10 y11 y12) (spec_daCount.l2 (k + 1) y0 y1 y2 y3 y4 y5 y6 y7 y8 y9 y10 y11 y12))
 | 0 => ⟨fun _ _ _ _ _ _ r h => by simp [spec_daCount.l0] at h, fun _ _ _ _ _ _ _ _ _ _ r h => by simp [spec_daCount.l1] at h, fun _ _ _ _ _ _ _ _ _ _ _ _ _ r h => by simp [spec_daCount.j2] at h, fun _ _ _ _ _ _ _ _ _ _ _ _ _ r h => by simp [spec_daCount.l2] at h⟩
 | k + 1 => by
  obtain ⟨ih0, ih1, ih2, ih3⟩ := spec_daCount.mono_l k
  refine ⟨?_, ?_, ?_, ?_⟩
  all_goals intros
  all_goals first | unfold spec_daCount.l0 | unfold spec_daCount.l1 | unfold spec_daCount.j2 | unfold spec_daCount.l2
  all_goals repeat' first
  | (with_reducible exact ih0 _ _ _ _ _ _)
  | (with_reducible exact ih1 _ _ _ _ _ _ _ _ _ _)
  | (with_reducible exact ih2 _ _ _ _ _ _ _ _ _ _ _ _ _)
  | (with_reducible exact ih3 _ _ _ _ _ _ _ _ _ _ _ _ _)
  | (with_reducible exact spec_daAll.mono _)
  | (with_reducible exact LeO.refl _)
  | (with_reducible exact LeO.none _)
  | (with_reducible refine LeO.ite ?_ ?_)
  | (with_reducible refine LeO.bind ?_ (fun _ => ?_))
theorem spec_daCount.mono : ∀ a0 a1 a2 k, LeO (spec_daCount.f k a0 a1 a2) (spec_daCount.f (k + 1) a0 a1 a2) := by
 intro a0 a1 a2 k
 obtain ⟨ih0, ih1, ih2, ih3⟩ := spec_daCount.mono_l k
 unfold spec_daCount.f
 repeat' first
   | (with_reducible exact ih0 _ _ _ _ _ _)
   | (with_reducible exact ih1 _ _ _ _ _ _ _ _ _ _)
   | (with_reducible exact ih2 _ _ _ _ _ _ _ _ _ _ _ _ _)
   | (with_reducible exact ih3 _ _ _ _ _ _ _ _ _ _ _ _ _)
   | (with_reducible exact spec_daAll.mono _)
   | (with_reducible exact LeO.refl _)
   | (with_reducible exact LeO.none _)
   | (with_reducible refine LeO.ite ?_ ?_)
   | (with_reducible refine LeO.bind ?_ (fun _ => ?_))
def spec_daCount.T15 : Bool × List (List Nat × List Nat) := (true, [([], []), ([], []), ([0, 1], [0, 1]), ([2], [2]), ([], []), ([], []), ([], []), ([6], [6]), ([], []), ([8], [8]), ([7, 9], [7, 9]), ([5, 10], [5, 10]), ([4, 11], [4, 11]), ([12], [12]), ([3, 13], [3, 13]), ([0, 1, 0, 1, 2, 3, 4, 5, 6, 7, 8, 9, 10, 11, 12, 13, 14], [0, 1]), ([15, 14, 0, 1, 2, 3, 4, 5, 6, 7, 8, 9, 10, 11, 12, 13, 14], [14, 15])])
def spec_daCount.B15 : List Nat := [0, 0, 3, 7, 0, 0, 0, 64, 0, 256, 960, 2016, 4080, 8176, 16383, 32767, 65535]
theorem spec_daCount.tab15 : rtab .any (opsOf Tryz.f175 15) = spec_daCount.T15 := by kernel_rfl
theorem spec_daCount.bits15 : waitsOk spec_daCount.T15.2 spec_daCount.B15 = true := by kernel_rfl
set_option maxHeartbeats 8000000 in
set_option maxRecDepth 100000 in
theorem spec_daCount.calls (k : Nat) (a0 : Int) (a1 : Int) (a2 : Bool) (r : List Int) (w : World) (h : spec_daCount.f k a0 a1 a2 = some r) :
  Calls Tryz.prog 175 #[.int .i64 a0, .int .i64 a1, .bool a2] w fun e w' => ∃ v0_ : Value, e = .returned (v0_) ∧ Kd.R (Kd.int .i64) 3 w' w.heap.size (fun _ => True) v0_ r ∧ Below w.heap.size w w' := by
 have hu52 := Tryz.underlying52
 have HB := aU (Below.refl w.heap.size w)
 have H : (if 0 ≤ (wrap64 (a1 + 1)) then (if (wrap64 (a1 + 1) : Int).toNat ≤ 35184372088832 then ((some (List.replicate (wrap64 (a1 + 1) : Int).toNat 0 : List Int)).bind fun y171 => (if 0 < (y171.length : Int) then ((spec_daAll.f k).bind fun t175 => (spec_daCount.l0 k a0 a1 a2 (y171.set (0 : Int).toNat 1) t175 1)) else (none))) else (none)) else (none)) = some r := h
 clear h
 obtain ⟨ji4, hji4⟩ : ∃ j_ : Int, (wrap64 (a1 + 1)) = j_ := ⟨_, rfl⟩
 replace H : (if 0 ≤ (ji4) then (if (ji4 : Int).toNat ≤ 35184372088832 then ((some (List.replicate (ji4 : Int).toNat 0 : List Int)).bind fun y171 => (if 0 < (y171.length : Int) then ((spec_daAll.f k).bind fun t175 => (spec_daCount.l0 k a0 a1 a2 (y171.set (0 : Int).toNat 1) t175 1)) else (none))) else (none)) else (none)) = some r := by first | (rw [hji4] at H; exact H) | (simp only [hji4] at H ⊢; exact H)
 have hji4w : (IntKind.i64.wrap (a1 + 1)) = ji4 := (i64_w _).trans hji4
 replace H := ifS H
 obtain ⟨c5, H⟩ := H
 have c5b0 := eq_true c5
 have c5b1 : decide (0 ≤ (ji4)) = true := decide_eq_true c5
 clear c5
 replace H := ifS H
 obtain ⟨c6, H⟩ := H
 have c6b0 := eq_true c6
 have c6b1 : decide ((ji4 : Int).toNat ≤ 35184372088832) = true := decide_eq_true c6
 clear c6
 obtain ⟨y171, hy171⟩ : ∃ y_ : List Int, y_ = (List.replicate (ji4 : Int).toNat 0) := ⟨_, rfl⟩
 replace H : (if 0 < (y171.length : Int) then ((spec_daAll.f k).bind fun t175 => (spec_daCount.l0 k a0 a1 a2 (y171.set (0 : Int).toNat 1) t175 1)) else (none)) = some r := by first | (rw [hy171]; with_reducible exact H) | (have H2_ := (Option.bind_some _ _).symm.trans H; rw [hy171]; with_reducible exact H2_) | (have H2_ := (Option.bind_some _ _).symm.trans H; with_reducible exact H2_) | with_reducible exact H | (rw [hy171]; exact H) | exact H
 have Ny171 := aU hy171
 clear hy171
 replace H := ifS H
 obtain ⟨c7, H⟩ := H
 have c7b0 : decide (0 < (y171.length : Int)) = true := decide_eq_true c7
 have c7b1 : decide (0 < y171.length) = true := decide_eq_true (by omega)
 clear c7
 obtain ⟨y174, hy174⟩ : ∃ y_ : List Int, y_ = (y171.set (0 : Int).toNat 1) := ⟨_, rfl⟩
 replace H : ((spec_daAll.f k).bind fun t175 => (spec_daCount.l0 k a0 a1 a2 y174 t175 1)) = some r := by first | (rw [hy174]; with_reducible exact H) | (have H2_ := (Option.bind_some _ _).symm.trans H; rw [hy174]; with_reducible exact H2_) | (have H2_ := (Option.bind_some _ _).symm.trans H; with_reducible exact H2_) | with_reducible exact H | (rw [hy174]; exact H) | exact H
 have Ny174 := aU hy174
 clear hy174
 replace H := bindS H
 obtain ⟨t175, A9, H⟩ := H
 (try dsimp only at H)
 have H' := aU H
 clear H
 go_enter Tryz.func175, Tryz.ntmps175
 go_wp2_with (first | ((with_reducible refine gdU 16 rfl ?_); refine Kd.R_make (Kd.int .i64) _ 3 rfl (N := 16) rfl 56 _ _ rfl ji4 rfl rfl Tryz.underlying56 (.int .i64 0) 8 info3 rfl (by decide) (by omega) 0 (ok := fun _ => True) (okp := fun _ => True) rfl (fun _ hk => hk) trivial (dU) (Nat.le_trans (Nat.mul_le_mul_right _ (dU : ji4.toNat ≤ 35184372088832)) (by omega)) (Below.refl _ _) (Nat.le_refl _) ?_; intro v172 w10 ho11 hb hg_ hnew_; clear hg_ hnew_; (first | rw [← Ny171.out] at ho11 | (simp only [Int.reduceToNat] at ho11; rw [← Ny171.out] at ho11)); have HO173 := aU (Kd.R_lower ho11 (below_size hbU)); replace HB := bsU hb; clear hb ho11; have p8 : 0 ≤ (0 : Int) := (by omega); have q8 : (0 : Int) < ((y171.length : Int) : Int) := dU; have qi8 : (0 < y171.length) = True := eq_true (by omega); obtain ⟨go8, co8, eo8, gb8, gl8, cl8, HG8⟩ := Kd.R_form HO173.out (by omega); (first | cases eo8 | (injection eo8 with ea_ en_ ec_; (first | subst ea_ | (injection ea_ with ea_; subst ea_)); subst ec_; clear en_)); have GB8 := aU gb8; have GG8 := aU HG8; clear gb8 gl8 HG8; obtain ⟨hx8_0, hf8_0⟩ := Kd.R_celln 0 HO173.out (0 : Int) p8 q8; (try rw [show ((0 : Int)).toNat = 0 from rfl] at hx8_0); (try simp only [Nat.reduceMul, Nat.zero_mul, Nat.zero_add, Nat.reduceAdd] at hx8_0); (try rw [show ((0 : Int)).toNat = 0 from rfl] at hf8_0); (try simp only [Nat.reduceMul, Nat.zero_mul, Nat.zero_add, Nat.reduceAdd] at hf8_0); replace p8 := eq_true p8; replace q8 := eq_true q8; obtain ⟨hy12_, hz12_⟩ := Kd.R_celln 0 HO173.out (0 : Int) (by omega) (dU); (try simp only [Int.reduceToNat, Int.toNat_zero, Int.toNat_ofNat, Nat.reduceMul, Nat.zero_mul, Nat.zero_add] at hy12_ hz12_); (try rw [show ((0 : Int)).toNat = 0 from rfl] at hy12_); (try rw [show ((0 : Int)).toNat = 0 from rfl] at hz12_); have HP12 := Kd.R_putg HO173.out (0 : Int) 1) | ((with_reducible refine gate_store (t := 3) (p := 18) rfl ?_); refine store_event (t := 3) (p := 18) (v := ?vo_w13) (w1 := (w10.setCell ⟨go8, (0 : Int).toNat, none⟩ (.int .i64 1))) ?hg ?ho ?hn ?hr ?_; (case ho => rfl); (case hg => rfl); (case hn => rfl); (case hr => first | (go_simp; done) | (go_simp; rfl)); intro w13 hw; have hg : w10.grownBy w13 (some go8) := (by rw [hw]; exact HP12.2); have hp_ : Kd.R (Kd.int .i64) 3 w13 w.heap.size (fun _ => True) (.slice (some ⟨go8, 0, none⟩) y171.length co8) y174 := (by rw [hw, Ny174.out]; exact HP12.1); clear HP12; replace HO173 := aU (hp_); replace HB := aU ((by rw [hw]; exact below_set (HB.out) GB8.out : Below w.heap.size w w13)); clear hg hw hp_) | ((with_reducible refine gcU 176 rfl ?_); refine goU (some 19) Tryz.func176 #[] ?_; (with_reducible refine (spec_daAll.calls k  t175 _ A9.out).mono ?_); rintro e w14 ⟨v176, rfl, ho0, hb⟩; refine ⟨_, rfl, ?_⟩; replace HO173 := aU (Kd.R_below (roU HO173) hb); have HO177 := aU (Kd.R_lower ho0 (below_size hbU)); replace HB := bsU hb; (try clear ho0 hb)))
 go_loopg [7, 9] k (fun kq v7 v9 w' => ∃ (x7_1 : List Int) (x9_1 : Int), v9 = .int .i64 x9_1 ∧ Aside0 (spec_daCount.l0 kq a0 a1 a2 x7_1 t175 x9_1 = some r) ∧ Aside0 (kq ≤ k) ∧ Aside0 (Kd.R (Kd.int .i64) 3 w' w.heap.size (fun _ => True) v7 x7_1) ∧ Aside0 (Kd.R k52 52 w' w.heap.size (fun _ => True) v176 t175) ∧ Aside0 (Below w.heap.size w w'))
 case atStart => exact ⟨(y174), (1), eqU, H', ⟨Nat.le_refl _⟩, ⟨roU HO173⟩, ⟨roU HO177⟩, ⟨hbU⟩⟩
 case round =>
  clear H'
  (try clear c5b0 c5b1); (try clear c6b0 c6b1); (try clear c7b0 c7b1); (try clear p8); (try clear q8); (try clear qi8); (try clear hx8_0); (try clear p8); (try clear q8)
  obtain ⟨x7_1, x9_1, rfl, HA, HK1, HO_7, HO_8, HB⟩ := hrel
  cases gk with
  | zero => exact absurd HA.out (by simp [spec_daCount.l0])
  | succ k1 =>
   have H := HA.out
   clear HA
   simp only [spec_daCount.l0] at H
   by_cases c15 : x9_1 ≤ a0
   ·rw [if_pos c15] at H
    have c15b0 : decide (x9_1 ≤ a0) = true := decide_eq_true c15
    clear c15
    obtain ⟨ji16, hji16⟩ : ∃ j_ : Int, (wrap64 (a1 + 1)) = j_ := ⟨_, rfl⟩
    replace H : (if 0 ≤ (ji16) then (if (ji16 : Int).toNat ≤ 35184372088832 then (spec_daCount.l1 k1 a0 a1 a2 x7_1 t175 x9_1 (List.replicate (ji16 : Int).toNat 0) t175 (t175.length : Int) 0) else (none)) else (none)) = some r := by first | (rw [hji16] at H; exact H) | (simp only [hji16] at H ⊢; exact H)
    have hji16w : (IntKind.i64.wrap (a1 + 1)) = ji16 := (i64_w _).trans hji16
    have hjx16 := hji16.symm.trans hji4
    subst hjx16
    replace H := ifS H
    obtain ⟨c17, H⟩ := H
    have c17b0 := eq_true c17
    have c17b1 : decide (0 ≤ (ji16)) = true := decide_eq_true c17
    clear c17
    replace H := ifS H
    obtain ⟨c18, H⟩ := H
    have c18b0 := eq_true c18
    have c18b1 : decide ((ji16 : Int).toNat ≤ 35184372088832) = true := decide_eq_true c18
    clear c18
    obtain ⟨y178, hy178⟩ : ∃ y_ : List Int, y_ = (List.replicate (ji16 : Int).toNat 0) := ⟨_, rfl⟩
    replace H : (spec_daCount.l1 k1 a0 a1 a2 x7_1 t175 x9_1 y178 t175 (t175.length : Int) 0) = some r := by first | (rw [hy178]; with_reducible exact H) | (have H2_ := (Option.bind_some _ _).symm.trans H; rw [hy178]; with_reducible exact H2_) | (have H2_ := (Option.bind_some _ _).symm.trans H; with_reducible exact H2_) | with_reducible exact H | (rw [hy178]; exact H) | exact H
    have Ny178 := aU hy178
    clear hy178
    have H' := aU H
    clear H
    go_wp2_with (first | ((with_reducible refine gdU 27 rfl ?_); refine Kd.R_make (Kd.int .i64) _ 3 rfl (N := 27) rfl 56 _ _ rfl ji16 rfl rfl Tryz.underlying56 (.int .i64 0) 8 info3 rfl (by decide) (by omega) 0 (ok := fun _ => True) (okp := fun _ => True) rfl (fun _ hk => hk) trivial (dU) (Nat.le_trans (Nat.mul_le_mul_right _ (dU : ji16.toNat ≤ 35184372088832)) (by omega)) (Below.refl _ _) (Nat.le_refl _) ?_; intro v179 w19 ho20 hb hg_ hnew_; clear hg_ hnew_; (first | rw [← Ny178.out] at ho20 | (simp only [Int.reduceToNat] at ho20; rw [← Ny178.out] at ho20)); replace HO_8 := aU (Kd.R_below (roU HO_8) hb); have HO180 := aU (Kd.R_lower (Kd.R_new' ho20 (Kd.R_lt (roU HO_7))) (below_size hbU)); replace HO_7 := aU (Kd.R_elder' (roU HO_7) (Kd.R_base ho20) hb); replace HB := bsU hb; clear hb ho20; obtain ⟨Ao21, co21, eo21⟩ := Kd.R_slice HO_8.out; subst eo21))
    go_loopg [30] k1 (fun kq v30 w' => ∃ (x10_2 : List Int) (x30_2 : Int), v30 = .int .i64 x30_2 ∧ Aside0 (spec_daCount.l1 kq a0 a1 a2 x7_1 t175 x9_1 x10_2 t175 (t175.length : Int) x30_2 = some r) ∧ Aside0 (kq ≤ k1) ∧ Aside0 (Kd.R (Kd.int .i64) 3 w' w.heap.size (fun k_ => some k_ ≠ (v179 : Value).ownBlock) u7 x7_1) ∧ Aside0 (Kd.R k52 52 w' w.heap.size (fun _ => True) (.slice Ao21 t175.length co21) t175) ∧ Aside0 (Kd.R (Kd.int .i64) 3 w' w.heap.size (fun k_ => some k_ ≠ (u7 : Value).ownBlock) v179 x10_2) ∧ Aside0 (Kd.R k52 52 w' w.heap.size (fun _ => True) (.slice Ao21 t175.length co21) t175) ∧ Aside0 (Below w.heap.size w w'))
    case atStart => exact ⟨(y178), (0), eqU, H', ⟨Nat.le_refl _⟩, ⟨by (with_reducible repeat (first | apply Kd.R_alloc | apply Kd.R_drewN | apply Kd.R_drew)); exact Kd.R_mono HO_7.out (fun _ hk => hk.2)⟩, ⟨roU HO_8⟩, ⟨by (with_reducible repeat (first | apply Kd.R_alloc | apply Kd.R_drewN | apply Kd.R_drew)); exact Kd.R_mono HO180.out (fun _ hk => hk.2)⟩, ⟨roU HO_8⟩, ⟨hbU⟩⟩
    case round =>
     clear H'
     (try clear c15b0); (try clear c17b0 c17b1); (try clear c18b0 c18b1)
     obtain ⟨x10_2, x30_2, rfl, HA, HK2, HO_7, HO_8, HO_10, HO_28, HB⟩ := hrel
     cases gk with
     | zero => exact absurd HA.out (by simp [spec_daCount.l1])
     | succ k2 =>
      have H := HA.out
      clear HA
      simp only [spec_daCount.l1] at H
      by_cases c22 : x30_2 < (t175.length : Int)
      ·rw [if_pos c22] at H
       have c22b0 : decide (x30_2 < (t175.length : Int)) = true := decide_eq_true c22
       clear c22
       replace H := ifS H
       obtain ⟨c23, H⟩ := H
       have c23b0 : decide (0 ≤ x30_2) = true := decide_eq_true c23
       clear c23
       replace H := ifS H
       obtain ⟨c24, H⟩ := H
       have c24b0 : decide (x30_2 < (t175.length : Int)) = true := decide_eq_true c24
       clear c24
       have HC25 := aU H
       clear H
       have p181 : 0 ≤ (x30_2 : Int) := dU
       have q181 : x30_2 < (t175.length : Int) := dU
       obtain ⟨ad181, e181, hx181_0, hx181_1⟩ := at_T52 (Kd.R_reads' HO_28.out).2.2 x30_2 p181 q181
       cases e181
       replace p181 := eq_true p181
       replace q181 := eq_true q181
       go_upto_region 11 with (first | ((with_reducible refine gdU 12 rfl ?_); refine bxU (cs := #[.int .i64 0, .int .i64 0]) (t := 52) ?_; intro gb182 hg w26 hbox hb; replace HO_7 := aU (Kd.R_below (roU HO_7) hb); replace HO_8 := aU (Kd.R_below (Kd.R_elderB (roU HO_8) gb182 (Nat.le_of_eq hg.symm)) hb); replace HO_10 := aU (Kd.R_below (roU HO_10) hb); replace HO_28 := aU (Kd.R_below (Kd.R_elderB (roU HO_28) gb182 (Nat.le_of_eq hg.symm)) hb); have BK182 := aU (hbox); have GW182 := geU hg; have GE182 := geU hg; replace HB := bsU hb; clear hb hbox hg; obtain ⟨hcz27_0, hcz27_1, hfz27_0, hfz27_1⟩ := b2U BK182))
       (try simp only [Act.put, List.setIfInBounds_toArray, List.set_cons_zero, List.set_cons_succ])
       go_cut [44] (fun v44 wc => ∃ (kq : Nat) (x44_24 : Bool), v44 = .bool x44_24 ∧ Aside0 (spec_daCount.j2 kq a0 a1 a2 x7_1 t175 x9_1 x10_2 t175 (t175.length : Int) x30_2 x44_24 ((rd_T52 t175 x30_2).f0) ((rd_T52 t175 x30_2).f1) = some r) ∧ Aside0 (kq ≤ k2) ∧ Aside0 (Kd.R (Kd.int .i64) 3 wc w.heap.size (fun k_ => some k_ ≠ (v179 : Value).ownBlock) u7 x7_1) ∧ Aside0 (Kd.R k52 52 wc w.heap.size (fun k_ => k_ ≠ gb182) (.slice (some ad181) t175.length co21) t175) ∧ Aside0 (Kd.R (Kd.int .i64) 3 wc w.heap.size (fun k_ => some k_ ≠ (u7 : Value).ownBlock) v179 x10_2) ∧ Aside0 (Kd.R k52 52 wc w.heap.size (fun k_ => k_ ≠ gb182) (.slice (some ad181) t175.length co21) t175) ∧ Aside0 (wc.heap[gb182]? = some (.cells #[.int .i64 ((rd_T52 t175 x30_2).f0), .int .i64 ((rd_T52 t175 x30_2).f1)] 52 (0, 0))) ∧ Aside0 (Below w.heap.size w wc))
       case first =>
        have H := HC25.out
        clear HC25
        by_cases c28 : a2 = true
        ·subst c28
         rw [if_pos rfl] at H
         by_cases c29 : x9_1 = a0
         ·rw [if_pos c29] at H
          have c29b0 : (x9_1 == a0) = true := beq_iff_eq.mpr c29
          have c29b1 : (x9_1 != a0) = false := bne_eq_false_iff_eq.mpr c29
          clear c29
          (first | rw [c29b0] | (simp only [i64_w, i32_w]; rw [c29b0]) | skip)
          have H' := aU H
          clear H
          have hcz30_0 : w26.cell? ⟨gb182, 0, none⟩ = some (.int .i64 0) := (blk_cell BK182.out 0).trans rfl
          have hcz30_1 : w26.cell? ⟨gb182, 1, none⟩ = some (.int .i64 0) := (blk_cell BK182.out 1).trans rfl
          have hfz30_0 := blk_frozen BK182.out 0
          have hfz30_1 := blk_frozen BK182.out 1
          go_wp2
          go_meet
          case rel => exact ⟨_, ((((rd_T52 t175 x30_2).f1) != 2)), eqU, H', ⟨by have := HK1.out; have := HK2.out; first | omega | exact Nat.le_refl _⟩, ⟨by (with_reducible repeat (first | apply Kd.R_alloc | apply Kd.R_drewN | apply Kd.R_drew)); exact Kd.R_mono (Kd.R_far (p := ⟨gb182, 1, none⟩) (Kd.R_far (p := ⟨gb182, 0, none⟩) (Kd.R_types HO_7.out BK182.out (by decide)) (fun _ hk => hk.2) (.int .i64 ((rd_T52 t175 x30_2).f0))) (fun _ hk => hk.2) (.int .i64 ((rd_T52 t175 x30_2).f1))) (fun _ hk => hk.1)⟩, ⟨by (with_reducible repeat (first | apply Kd.R_alloc | apply Kd.R_drewN | apply Kd.R_drew)); exact Kd.R_mono (Kd.R_far (p := ⟨gb182, 1, none⟩) (Kd.R_far (p := ⟨gb182, 0, none⟩) (Kd.R_mono HO_8.out (fun k_ hk => (⟨hk, hk.2⟩ : _ ∧ k_ ≠ gb182))) (fun _ hk => hk.2) (.int .i64 ((rd_T52 t175 x30_2).f0))) (fun _ hk => hk.2) (.int .i64 ((rd_T52 t175 x30_2).f1))) (fun _ hk => hk.1.2)⟩, ⟨by (with_reducible repeat (first | apply Kd.R_alloc | apply Kd.R_drewN | apply Kd.R_drew)); exact Kd.R_mono (Kd.R_far (p := ⟨gb182, 1, none⟩) (Kd.R_far (p := ⟨gb182, 0, none⟩) (Kd.R_types HO_10.out BK182.out (by decide)) (fun _ hk => hk.2) (.int .i64 ((rd_T52 t175 x30_2).f0))) (fun _ hk => hk.2) (.int .i64 ((rd_T52 t175 x30_2).f1))) (fun _ hk => hk.1)⟩, ⟨by (with_reducible repeat (first | apply Kd.R_alloc | apply Kd.R_drewN | apply Kd.R_drew)); exact Kd.R_mono (Kd.R_far (p := ⟨gb182, 1, none⟩) (Kd.R_far (p := ⟨gb182, 0, none⟩) (Kd.R_mono HO_28.out (fun k_ hk => (⟨hk, hk.2⟩ : _ ∧ k_ ≠ gb182))) (fun _ hk => hk.2) (.int .i64 ((rd_T52 t175 x30_2).f0))) (fun _ hk => hk.2) (.int .i64 ((rd_T52 t175 x30_2).f1))) (fun _ hk => hk.1.2)⟩, ⟨bkU⟩, ⟨hbU⟩⟩
         ·rw [if_neg c29] at H
          have c29b0 : (x9_1 == a0) = false := beq_eq_false_iff_ne.mpr c29
          have c29b1 : (x9_1 != a0) = true := bne_iff_ne.mpr c29
          (first | rw [c29b0] | (simp only [i64_w, i32_w]; rw [c29b0]) | skip)
          have H' := aU H
          clear H
          go_wp2
          go_meet
          case rel => exact ⟨_, (false), eqU, H', ⟨by have := HK1.out; have := HK2.out; first | omega | exact Nat.le_refl _⟩, ⟨by (with_reducible repeat (first | apply Kd.R_alloc | apply Kd.R_drewN | apply Kd.R_drew)); exact Kd.R_mono (Kd.R_far (p := ⟨gb182, 1, none⟩) (Kd.R_far (p := ⟨gb182, 0, none⟩) (Kd.R_types HO_7.out BK182.out (by decide)) (fun _ hk => hk.2) (.int .i64 ((rd_T52 t175 x30_2).f0))) (fun _ hk => hk.2) (.int .i64 ((rd_T52 t175 x30_2).f1))) (fun _ hk => hk.1)⟩, ⟨by (with_reducible repeat (first | apply Kd.R_alloc | apply Kd.R_drewN | apply Kd.R_drew)); exact Kd.R_mono (Kd.R_far (p := ⟨gb182, 1, none⟩) (Kd.R_far (p := ⟨gb182, 0, none⟩) (Kd.R_mono HO_8.out (fun k_ hk => (⟨hk, hk.2⟩ : _ ∧ k_ ≠ gb182))) (fun _ hk => hk.2) (.int .i64 ((rd_T52 t175 x30_2).f0))) (fun _ hk => hk.2) (.int .i64 ((rd_T52 t175 x30_2).f1))) (fun _ hk => hk.1.2)⟩, ⟨by (with_reducible repeat (first | apply Kd.R_alloc | apply Kd.R_drewN | apply Kd.R_drew)); exact Kd.R_mono (Kd.R_far (p := ⟨gb182, 1, none⟩) (Kd.R_far (p := ⟨gb182, 0, none⟩) (Kd.R_types HO_10.out BK182.out (by decide)) (fun _ hk => hk.2) (.int .i64 ((rd_T52 t175 x30_2).f0))) (fun _ hk => hk.2) (.int .i64 ((rd_T52 t175 x30_2).f1))) (fun _ hk => hk.1)⟩, ⟨by (with_reducible repeat (first | apply Kd.R_alloc | apply Kd.R_drewN | apply Kd.R_drew)); exact Kd.R_mono (Kd.R_far (p := ⟨gb182, 1, none⟩) (Kd.R_far (p := ⟨gb182, 0, none⟩) (Kd.R_mono HO_28.out (fun k_ hk => (⟨hk, hk.2⟩ : _ ∧ k_ ≠ gb182))) (fun _ hk => hk.2) (.int .i64 ((rd_T52 t175 x30_2).f0))) (fun _ hk => hk.2) (.int .i64 ((rd_T52 t175 x30_2).f1))) (fun _ hk => hk.1.2)⟩, ⟨bkU⟩, ⟨hbU⟩⟩
        ·replace c28 := Bool.eq_false_iff.mpr c28
         subst c28
         rw [if_neg (show ¬ (false = true) by decide)] at H
         have H' := aU H
         clear H
         go_wp2
         go_meet
         case rel => exact ⟨_, (false), eqU, H', ⟨by have := HK1.out; have := HK2.out; first | omega | exact Nat.le_refl _⟩, ⟨by (with_reducible repeat (first | apply Kd.R_alloc | apply Kd.R_drewN | apply Kd.R_drew)); exact Kd.R_mono (Kd.R_far (p := ⟨gb182, 1, none⟩) (Kd.R_far (p := ⟨gb182, 0, none⟩) (Kd.R_types HO_7.out BK182.out (by decide)) (fun _ hk => hk.2) (.int .i64 ((rd_T52 t175 x30_2).f0))) (fun _ hk => hk.2) (.int .i64 ((rd_T52 t175 x30_2).f1))) (fun _ hk => hk.1)⟩, ⟨by (with_reducible repeat (first | apply Kd.R_alloc | apply Kd.R_drewN | apply Kd.R_drew)); exact Kd.R_mono (Kd.R_far (p := ⟨gb182, 1, none⟩) (Kd.R_far (p := ⟨gb182, 0, none⟩) (Kd.R_mono HO_8.out (fun k_ hk => (⟨hk, hk.2⟩ : _ ∧ k_ ≠ gb182))) (fun _ hk => hk.2) (.int .i64 ((rd_T52 t175 x30_2).f0))) (fun _ hk => hk.2) (.int .i64 ((rd_T52 t175 x30_2).f1))) (fun _ hk => hk.1.2)⟩, ⟨by (with_reducible repeat (first | apply Kd.R_alloc | apply Kd.R_drewN | apply Kd.R_drew)); exact Kd.R_mono (Kd.R_far (p := ⟨gb182, 1, none⟩) (Kd.R_far (p := ⟨gb182, 0, none⟩) (Kd.R_types HO_10.out BK182.out (by decide)) (fun _ hk => hk.2) (.int .i64 ((rd_T52 t175 x30_2).f0))) (fun _ hk => hk.2) (.int .i64 ((rd_T52 t175 x30_2).f1))) (fun _ hk => hk.1)⟩, ⟨by (with_reducible repeat (first | apply Kd.R_alloc | apply Kd.R_drewN | apply Kd.R_drew)); exact Kd.R_mono (Kd.R_far (p := ⟨gb182, 1, none⟩) (Kd.R_far (p := ⟨gb182, 0, none⟩) (Kd.R_mono HO_28.out (fun k_ hk => (⟨hk, hk.2⟩ : _ ∧ k_ ≠ gb182))) (fun _ hk => hk.2) (.int .i64 ((rd_T52 t175 x30_2).f0))) (fun _ hk => hk.2) (.int .i64 ((rd_T52 t175 x30_2).f1))) (fun _ hk => hk.1.2)⟩, ⟨bkU⟩, ⟨hbU⟩⟩
       case rest =>
        clear HC25
        (try clear c22b0); (try clear c23b0); (try clear c24b0); (try clear hcz27_0); (try clear hcz27_1); (try clear hfz27_0); (try clear hfz27_1); (try clear hx181_0); (try clear hx181_1); (try clear p181); (try clear q181)
        obtain ⟨kq, x44_24, rfl, HA, HJ24, HO_7, HO_8, HO_10, HO_28, BK182, HB⟩ := hcut
        cases kq with
        | zero => exact absurd HA.out (by simp [spec_daCount.j2])
        | succ kj24 =>
         have H := HA.out
         clear HA
         simp only [spec_daCount.j2] at H
         by_cases c31 : x44_24 = true
         ·subst c31
          rw [if_pos rfl] at H
          have H' := aU H
          clear H
          go_wp2
          go_roundg kj24
          case measure => have := HK1.out; have := HK2.out; have := HJ24.out; omega
          case rel => exact ⟨(x10_2), (wrap64 (x30_2 + 1)), eqU, H', ⟨by have := HK1.out; have := HK2.out; have := HJ24.out; omega⟩, ⟨roU HO_7⟩, ⟨by (with_reducible repeat (first | apply Kd.R_alloc | apply Kd.R_drewN | apply Kd.R_drew)); exact Kd.R_mono HO_8.out (fun _ hk => trivial)⟩, ⟨roU HO_10⟩, ⟨by (with_reducible repeat (first | apply Kd.R_alloc | apply Kd.R_drewN | apply Kd.R_drew)); exact Kd.R_mono HO_28.out (fun _ hk => trivial)⟩, ⟨hbU⟩⟩
         ·replace c31 := Bool.eq_false_iff.mpr c31
          subst c31
          rw [if_neg (show ¬ (false = true) by decide)] at H
          have H' := aU H
          clear H
          have hcz32_0 : wc.cell? ⟨gb182, 0, none⟩ = some (.int .i64 ((rd_T52 t175 x30_2).f0)) := (blk_cell BK182.out 0).trans rfl
          have hcz32_1 : wc.cell? ⟨gb182, 1, none⟩ = some (.int .i64 ((rd_T52 t175 x30_2).f1)) := (blk_cell BK182.out 1).trans rfl
          have hfz32_0 := blk_frozen BK182.out 0
          have hfz32_1 := blk_frozen BK182.out 1
          go_wp2
          go_loopg [13] kj24 (fun kq v13 w' => ∃ (x10_4 : List Int) (x13_4 : Int), v13 = .int .i64 x13_4 ∧ Aside0 (spec_daCount.l2 kq a0 a1 a2 x7_1 t175 x9_1 x10_4 x13_4 t175 (t175.length : Int) x30_2 ((rd_T52 t175 x30_2).f0) ((rd_T52 t175 x30_2).f1) = some r) ∧ Aside0 (kq ≤ kj24) ∧ Aside0 (Kd.R (Kd.int .i64) 3 w' w.heap.size (fun k_ => some k_ ≠ (v179 : Value).ownBlock) u7 x7_1) ∧ Aside0 (Kd.R k52 52 w' w.heap.size (fun k_ => k_ ≠ gb182) (.slice (some ad181) t175.length co21) t175) ∧ Aside0 (Kd.R (Kd.int .i64) 3 w' w.heap.size (fun k_ => some k_ ≠ (u7 : Value).ownBlock) v179 x10_4) ∧ Aside0 (Kd.R k52 52 w' w.heap.size (fun k_ => k_ ≠ gb182) (.slice (some ad181) t175.length co21) t175) ∧ Aside0 (w'.heap[gb182]? = some (.cells #[.int .i64 ((rd_T52 t175 x30_2).f0), .int .i64 ((rd_T52 t175 x30_2).f1)] 52 (0, 0))) ∧ Aside0 (Below w.heap.size w w'))
          case atStart => exact ⟨(x10_2), (wrap64 (((rd_T52 t175 x30_2).f0) * ((rd_T52 t175 x30_2).f1))), eqU, H', ⟨Nat.le_refl _⟩, ⟨roU HO_7⟩, ⟨roU HO_8⟩, ⟨roU HO_10⟩, ⟨roU HO_28⟩, ⟨bkU⟩, ⟨hbU⟩⟩
          case round =>
           clear H'
           (try clear c31); (try clear hcz32_0); (try clear hcz32_1); (try clear hfz32_0); (try clear hfz32_1)
           obtain ⟨x10_4, x13_4, rfl, HA, HK4, HO_7, HO_8, HO_10, HO_28, BK182, HB⟩ := hrel
           cases gk with
           | zero => exact absurd HA.out (by simp [spec_daCount.l2])
           | succ k4 =>
            have H := HA.out
            clear HA
            simp only [spec_daCount.l2] at H
            by_cases c33 : x13_4 ≤ a1
            ·rw [if_pos c33] at H
             have c33b0 : decide (x13_4 ≤ a1) = true := decide_eq_true c33
             clear c33
             replace H := ifS H
             obtain ⟨c34, H⟩ := H
             have c34b0 : decide (0 ≤ x13_4) = true := decide_eq_true c34
             clear c34
             replace H := ifS H
             obtain ⟨c35, H⟩ := H
             have c35b0 : decide (x13_4 < (x10_4.length : Int)) = true := decide_eq_true c35
             clear c35
             obtain ⟨ji36, hji36⟩ : ∃ j_ : Int, (wrap64 (x13_4 - (wrap64 (((rd_T52 t175 x30_2).f0) * ((rd_T52 t175 x30_2).f1))))) = j_ := ⟨_, rfl⟩
             replace H : (if 0 ≤ (ji36) then (if (ji36) < (x7_1.length : Int) then (spec_daCount.l2 k4 a0 a1 a2 x7_1 t175 x9_1 (x10_4.set (x13_4 : Int).toNat (wrap64 ((rd x10_4 x13_4) + (rd x7_1 (ji36))))) (wrap64 (x13_4 + 1)) t175 (t175.length : Int) x30_2 ((rd_T52 t175 x30_2).f0) ((rd_T52 t175 x30_2).f1)) else (none)) else (none)) = some r := by first | (rw [hji36] at H; exact H) | (simp only [hji36] at H ⊢; exact H)
             have hji36w : (IntKind.i64.wrap (x13_4 - (wrap64 (((rd_T52 t175 x30_2).f0) * ((rd_T52 t175 x30_2).f1))))) = ji36 := (i64_w _).trans hji36
             replace H := ifS H
             obtain ⟨c37, H⟩ := H
             have c37b0 : decide (0 ≤ (ji36)) = true := decide_eq_true c37
             clear c37
             replace H := ifS H
             obtain ⟨c38, H⟩ := H
             have c38b0 : decide ((ji36) < (x7_1.length : Int)) = true := decide_eq_true c38
             clear c38
             obtain ⟨y185, hy185⟩ : ∃ y_ : List Int, y_ = (x10_4.set (x13_4 : Int).toNat (wrap64 ((rd x10_4 x13_4) + (rd x7_1 (ji36))))) := ⟨_, rfl⟩
             replace H : (spec_daCount.l2 k4 a0 a1 a2 x7_1 t175 x9_1 y185 (wrap64 (x13_4 + 1)) t175 (t175.length : Int) x30_2 ((rd_T52 t175 x30_2).f0) ((rd_T52 t175 x30_2).f1)) = some r := by first | (rw [hy185]; with_reducible exact H) | (have H2_ := (Option.bind_some _ _).symm.trans H; rw [hy185]; with_reducible exact H2_) | (have H2_ := (Option.bind_some _ _).symm.trans H; with_reducible exact H2_) | with_reducible exact H | (rw [hy185]; exact H) | exact H
             have Ny185 := aU hy185
             clear hy185
             have H' := aU H
             clear H
             try go_wp2
             replace HO_7 := aU (Kd.R_drew HO_7.out)
             replace HO_8 := aU (Kd.R_drew HO_8.out)
             replace HO_10 := aU (Kd.R_drew HO_10.out)
             replace HO_28 := aU (Kd.R_drew HO_28.out)
             replace BK182 := aU (blk_drew BK182.out)
             replace HB := aU (below_drew1 HB.out)
             obtain ⟨Ao41, co41, eo41⟩ := Kd.R_slice HO_10.out
             (first | subst eo41 | (injection eo41 with f1_ f2_ f3_; have f4_ := f1_.symm; have f5_ := f3_.symm; clear f1_ f2_ f3_; subst f4_; subst f5_))
             have p183 : 0 ≤ (x13_4 : Int) := dU
             have q183 : x13_4 < (x10_4.length : Int) := dU
             obtain ⟨ad183, e183, hx183_0⟩ := Kd.at_int (Kd.R_reads' HO_10.out).2.2 x13_4 p183 q183
             cases e183
             replace p183 := eq_true p183
             replace q183 := eq_true q183
             obtain ⟨Ao42, co42, eo42⟩ := Kd.R_slice HO_7.out
             (first | subst eo42 | (injection eo42 with f1_ f2_ f3_; have f4_ := f1_.symm; have f5_ := f3_.symm; clear f1_ f2_ f3_; subst f4_; subst f5_))
             have p184 : 0 ≤ ((ji36) : Int) := dU
             have q184 : (ji36) < (x7_1.length : Int) := dU
             obtain ⟨ad184, e184, hx184_0⟩ := Kd.at_int (Kd.R_reads' HO_7.out).2.2 (ji36) p184 q184
             cases e184
             replace p184 := eq_true p184
             replace q184 := eq_true q184
             have p39 : 0 ≤ (x13_4 : Int) := dU
             have q39 : (x13_4 : Int) < ((x10_4.length : Int) : Int) := dU
             obtain ⟨go39, co39, eo39, gb39, gl39, cl39, HG39⟩ := Kd.R_form HO_10.out (by omega)
             (first | cases eo39 | (injection eo39 with ea_ en_ ec_; (first | subst ea_ | (injection ea_ with ea_; subst ea_)); subst ec_; clear en_))
             have GB39 := aU gb39
             have GG39 := aU HG39
             clear gb39 gl39 HG39
             (first | simp only [add_plain] at hx183_0 | skip)
             obtain ⟨hx39_0, hf39_0⟩ := Kd.R_celln 0 HO_10.out (x13_4 : Int) p39 q39
             replace p39 := eq_true p39
             replace q39 := eq_true q39
             have HP43 := Kd.R_putn HO_10.out (x13_4 : Int) (wrap64 ((rd x10_4 x13_4) + (rd x7_1 (ji36))))
             rw [← Ny185.out] at HP43
             have HQ43 := aU HP43
             clear HP43
             refine start_ (n := 17) (S := fun w' => w'.cell? ⟨gb182, 0, none⟩ = some (.int .i64 ((rd_T52 t175 x30_2).f0)) ∧ w'.cell? ⟨gb182, 1, none⟩ = some (.int .i64 ((rd_T52 t175 x30_2).f1)) ∧ w'.cell? ⟨go39, (x13_4).toNat, none⟩ = some (.int .i64 (rd x10_4 x13_4)) ∧ w'.cell? (ad184.add ((ji36)).toNat) = some (.int .i64 (rd x7_1 (ji36)))) (ds := [16]) #[false, false, false, false, false, false, false, false, false, false, false, false, false, false, false, false, false] (by kernel_rfl) rfl rfl ⟨(blk_cell BK182.out 0).trans rfl, (blk_cell BK182.out 1).trans rfl, hx183_0, hx184_0⟩ (fun hHeld => ?_); refine with_tabW spec_daCount.tab15 spec_daCount.bits15 (fun HT_ HW_ => ?_)
             generalize wr.drew = w40 at HO_7 HO_8 HO_10 HO_28 BK182 HB GG39 HQ43 hf39_0 hx183_0 hx184_0 hx39_0 hHeld ⊢
             refine puU 0 55 HT_ ?_
             refine puU 1 56 HT_ ?_
             refine puU 2 57 HT_ ?_
             refine puU 4 59 HT_ ?_
             refine puU 5 60 HT_ ?_
             refine puU 6 61 HT_ ?_
             refine puU 8 63 HT_ ?_
             refine tkU 3 58 HT_ HW_ hHeld ?_
             refine tkU 7 62 HT_ HW_ hHeld ?_
             refine tkU 9 64 HT_ HW_ hHeld ?_
             refine puU 10 65 HT_ ?_
             refine puU 11 66 HT_ ?_
             refine puU 12 67 HT_ ?_
             refine tkU 13 68 HT_ HW_ hHeld ?_
             refine puU 14 69 HT_ ?_
             refine puU 15 70 HT_ ?_
             refine last_ (i := 16) (N := none) #[true, true, true, true, true, true, true, true, true, true, true, true, true, true, true, true, true] rfl rfl (one_of HT_.out (by kernel_rfl)) (by decide) (fun K hK => ?_)
             refine skip_ (w1 := ?_) (by rfl) rfl ?_ ?_
             rotate_left
             ·go_simp
              rfl
             refine hK.out _ _ ?_
             clear hK K
             refine dnU HT_ ?_
             try go_wp2
             go_roundg k4
             case measure => have := HK1.out; have := HK2.out; have := HJ24.out; have := HK4.out; omega
             case rel => exact ⟨(y185), (wrap64 (x13_4 + 1)), eqU, H', ⟨by have := HK1.out; have := HK2.out; have := HJ24.out; have := HK4.out; omega⟩, ⟨by (with_reducible repeat (first | apply Kd.R_alloc | apply Kd.R_drewN | apply Kd.R_drew)); exact Kd.R_mono (Kd.R_far (p := ⟨go39, (x13_4 : Int).toNat, none⟩) (Kd.R_mono HO_7.out (fun k_ hk => (⟨hk, fun e_ => hk (by rw [e_]; rfl)⟩ : _ ∧ k_ ≠ go39))) (fun _ hk => hk.2) (.int .i64 (wrap64 ((rd x10_4 x13_4) + (rd x7_1 (ji36)))))) (fun _ hk => hk.1)⟩, ⟨by (with_reducible repeat (first | apply Kd.R_alloc | apply Kd.R_drewN | apply Kd.R_drew)); exact Kd.R_mono (Kd.R_far (p := ⟨go39, (x13_4 : Int).toNat, none⟩) (Kd.R_types HO_8.out GG39.out (by decide)) (fun _ hk => hk.2) (.int .i64 (wrap64 ((rd x10_4 x13_4) + (rd x7_1 (ji36)))))) (fun _ hk => hk.1)⟩, ⟨roU HQ43⟩, ⟨by (with_reducible repeat (first | apply Kd.R_alloc | apply Kd.R_drewN | apply Kd.R_drew)); exact Kd.R_mono (Kd.R_far (p := ⟨go39, (x13_4 : Int).toNat, none⟩) (Kd.R_types HO_28.out GG39.out (by decide)) (fun _ hk => hk.2) (.int .i64 (wrap64 ((rd x10_4 x13_4) + (rd x7_1 (ji36)))))) (fun _ hk => hk.1)⟩, ⟨by (with_reducible repeat (first | refine blk_drewN ?_ _ | refine blk_drew ?_ | refine blk_alloc ?_ _)); refine blk_far ?_ (by have h_ := Kd.R_ne HO_10.out BK182.out (by decide); intro e_; exact h_ (by rw [e_]; rfl)) _; (with_reducible repeat (first | refine blk_drewN ?_ _ | refine blk_drew ?_ | refine blk_alloc ?_ _)); exact BK182.out⟩, ⟨by repeat (first | (with_reducible first | exact HB.out | apply below_alloc | apply pw_below_drewN | apply below_drew1 | refine below_set ?_ GB39.out | refine below_set ?_ GE182.out) | exact HB.out)⟩⟩
            ·rw [if_neg c33] at H
             have c33b0 : decide (x13_4 ≤ a1) = false := decide_eq_false c33
             clear c33
             have H' := aU H
             clear H
             go_wp2
             go_roundg k4
             case measure => have := HK1.out; have := HK2.out; have := HJ24.out; have := HK4.out; omega
             case rel => exact ⟨(x10_4), (wrap64 (x30_2 + 1)), eqU, H', ⟨by have := HK1.out; have := HK2.out; have := HJ24.out; have := HK4.out; omega⟩, ⟨roU HO_7⟩, ⟨by (with_reducible repeat (first | apply Kd.R_alloc | apply Kd.R_drewN | apply Kd.R_drew)); exact Kd.R_mono HO_8.out (fun _ hk => trivial)⟩, ⟨roU HO_10⟩, ⟨by (with_reducible repeat (first | apply Kd.R_alloc | apply Kd.R_drewN | apply Kd.R_drew)); exact Kd.R_mono HO_28.out (fun _ hk => trivial)⟩, ⟨hbU⟩⟩
      ·rw [if_neg c22] at H
       have c22b0 : decide (x30_2 < (t175.length : Int)) = false := decide_eq_false c22
       clear c22
       have H' := aU H
       clear H
       go_wp2
       go_roundg k2
       case measure => have := HK1.out; have := HK2.out; omega
       case rel => exact ⟨(x10_2), (wrap64 (x9_1 + 1)), eqU, H', ⟨by have := HK1.out; have := HK2.out; omega⟩, ⟨by (with_reducible repeat (first | apply Kd.R_alloc | apply Kd.R_drewN | apply Kd.R_drew)); exact Kd.R_mono HO_10.out (fun _ hk => trivial)⟩, ⟨roU HO_8⟩, ⟨hbU⟩⟩
   ·rw [if_neg c15] at H
    have c15b0 : decide (x9_1 ≤ a0) = false := decide_eq_false c15
    clear c15
    obtain rfl := Option.some.inj H
    go_wp2
    go_ret
    exact ⟨_, by first | rfl | (simp [errW_none, errW_some] <;> rfl) | (simp only [← hji4]; first | rfl | (simp [errW_none, errW_some] <;> rfl)) | (simp [*, errW_none, errW_some] <;> rfl), by (with_reducible repeat (first | apply Kd.R_alloc | apply Kd.R_drewN | apply Kd.R_drew)); exact HO_7.out, hbU⟩
def spec_daFinishes.f (k : Nat) (a0 : Int) (a1 : Int) : Option (Int) := (spec_daCount.f k a1 a0 true).bind fun t186 => (if 0 ≤ a0 then (if a0 < (t186.length : Int) then (some (rd t186 a0)) else (none)) else (none))
theorem spec_daFinishes.mono : ∀ a0 a1 k, LeO (spec_daFinishes.f k a0 a1) (spec_daFinishes.f (k + 1) a0 a1) := by
 intro a0 a1 k
 unfold spec_daFinishes.f
 repeat' first
   | (with_reducible exact spec_daCount.mono _ _ _ _)
   | (with_reducible exact LeO.refl _)
   | (with_reducible exact LeO.none _)
   | (with_reducible refine LeO.ite ?_ ?_)
   | (with_reducible refine LeO.bind ?_ (fun _ => ?_))
set_option maxHeartbeats 8000000 in
set_option maxRecDepth 100000 in
theorem spec_daFinishes.calls (k : Nat) (a0 : Int) (a1 : Int) (r : Int) (w : World) (h : spec_daFinishes.f k a0 a1 = some r) :
  Calls Tryz.prog 156 #[.int .i64 a0, .int .i64 a1] w fun e w' => e = .returned (.int .i64 r) ∧ Below w.heap.size w w' := by
 have HB := aU (Below.refl w.heap.size w)
 have H : ((spec_daCount.f k a1 a0 true).bind fun t186 => (if 0 ≤ a0 then (if a0 < (t186.length : Int) then (some (rd t186 a0)) else (none)) else (none))) = some r := h
 clear h
 replace H := bindS H
 obtain ⟨t186, A3, H⟩ := H
 (try dsimp only at H)
 replace H := ifS H
 obtain ⟨c4, H⟩ := H
 have c4b0 : decide (0 ≤ a0) = true := decide_eq_true c4
 clear c4
 replace H := ifS H
 obtain ⟨c5, H⟩ := H
 have c5b0 : decide (a0 < (t186.length : Int)) = true := decide_eq_true c5
 clear c5
 obtain rfl := Option.some.inj H
 go_enter Tryz.func156, Tryz.ntmps156
 go_wp2_with (first | ((with_reducible refine gcU 175 rfl ?_); refine goU (some 7) Tryz.func175 #[.int .i64 a1, .int .i64 a0, .bool true] ?_; (with_reducible refine (spec_daCount.calls k a1 a0 true t186 _ A3.out).mono ?_); rintro e w6 ⟨v187, rfl, ho0, hb⟩; refine ⟨_, rfl, ?_⟩; have HO188 := aU (Kd.R_lower ho0 (below_size hbU)); replace HB := bsU hb; (try clear ho0 hb); obtain ⟨Ao7, co7, eo7⟩ := Kd.R_slice HO188.out; subst eo7; have p189 : 0 ≤ (a0 : Int) := dU; have q189 : a0 < (t186.length : Int) := dU; obtain ⟨ad189, e189, hx189_0⟩ := Kd.at_int (Kd.R_reads' HO188.out).2.2 a0 p189 q189; cases e189; replace p189 := eq_true p189; replace q189 := eq_true q189))
 go_ret
 exact ⟨errU, hbU⟩
end Go.Proofs.YtcmlmjgoidpabaaGreatDoor.MFnDartsPlayed

