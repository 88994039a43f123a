/- Walks of the functions that the law reaches: each comes to just what the function that is told of it tells, for all arguments. -/
import Derived.Test.YtcmlmjgoidpabaaGreatDoorYMFnDartsPlayedx9
namespace Go.Proofs.YtcmlmjgoidpabaaGreatDoor.MFnDartsPlayed
open Go.RowKit Go.Proofs.YtcmlmjgoidpabaaGreatDoorW.PrintWords Go.Proofs.YtcmlmjgoidpabaaGreatDoorW.PrintLast Go.Proofs.YtcmlmjgoidpabaaGreatDoorW.PrintMore
attribute [local go_sem] max2_int min2_int max_two min_two max_three min_three max_four min_four
set_option linter.unusedVariables false
set_option linter.unusedSimpArgs false
mutual
def impl_DartsText.j0 : Nat → List (S52) → Bool → Option (ByteArray × Bool)
 | 0, _, _ => none
 | k + 1, x0, x17 => if x17 = true then (some ((⟨#[]⟩ : ByteArray), false)) else (impl_DartsText.l0 k (([] : List ByteArray)) x0 (x0.length : Int) 0)
def impl_DartsText.l0 : Nat → List ByteArray → List (S52) → Int → Int → Option (ByteArray × Bool)
 | 0, _, _, _, _ => none
 | k + 1, x4, x19, x20, x21 => if x21 < x20 then (if 0 ≤ x21 then (if x21 < (x19.length : Int) then ((impl_DartText.f ((rd_T52 x19 x21).f0) ((rd_T52 x19 x21).f1)).bind fun bt424 => (if x4.length < 8796093022208 then (impl_DartsText.l0 k (x4 ++ [bt424.1]) x19 x20 (wrap64 (x21 + 1))) else (none))) else (none)) else (none)) else ((strings_Join.f x4 (⟨#[45]⟩ : ByteArray)).bind fun t429 => (some (t429, true)))
end
def impl_DartsText.f (k : Nat) (l0 : List (S52)) : Option (ByteArray × Bool) := (impl_within.f (l0.length : Int) 1 9).bind fun t417 => (if t417 = true then ((impl_areDarts.f k l0).bind fun t418 => (impl_DartsText.j0 k l0 (!t418))) else (impl_DartsText.j0 k l0 true))
theorem impl_DartsText.mono_l : ∀ k, (∀ y0 y1, LeO (impl_DartsText.j0 k y0 y1) (impl_DartsText.j0 (k + 1) y0 y1)) ∧ (∀ y0 y1 y2 y3, LeO (impl_DartsText.l0 k y0 y1 y2 y3) (impl_DartsText.l0 (k + 1) y0 y1 y2 y3))
 | 0 => ⟨fun _ _ r h => by simp [impl_DartsText.j0] at h, fun _ _ _ _ r h => by simp [impl_DartsText.l0] at h⟩
 | k + 1 => by
  obtain ⟨ih0, ih1⟩ := impl_DartsText.mono_l k
  refine ⟨?_, ?_⟩
  all_goals intros
  all_goals first | unfold impl_DartsText.j0 | unfold impl_DartsText.l0
  all_goals repeat' first
  | (with_reducible exact ih0 _ _)
  | (with_reducible exact ih1 _ _ _ _)
  | (with_reducible exact impl_areDarts.mono _ _)
  | (with_reducible exact LeO.refl _)
  | (with_reducible exact LeO.none _)
  | (with_reducible refine LeO.ite ?_ ?_)
  | (with_reducible refine LeO.bind ?_ (fun _ => ?_))
theorem impl_DartsText.mono : ∀ a0 k, LeO (impl_DartsText.f k a0) (impl_DartsText.f (k + 1) a0) := by
 intro a0 k
 obtain ⟨ih0, ih1⟩ := impl_DartsText.mono_l k
 unfold impl_DartsText.f
 repeat' first
   | (with_reducible exact ih0 _ _)
   | (with_reducible exact ih1 _ _ _ _)
   | (with_reducible exact impl_areDarts.mono _ _)
   | (with_reducible exact LeO.refl _)
   | (with_reducible exact LeO.none _)
   | (with_reducible refine LeO.ite ?_ ?_)
   | (with_reducible refine LeO.bind ?_ (fun _ => ?_))
set_option maxHeartbeats 8000000 in
set_option maxRecDepth 100000 in
theorem impl_DartsText.calls (k : Nat) (A0 : Option Addr) (c0 : Nat) (l0 : List (S52)) (r1 : ByteArray) (r2 : Bool) (w : World) (hr0 : Kd.C k52 w A0 l0.length l0) (hc0 : l0.length ≤ c0) (h : impl_DartsText.f k l0 = some (r1, r2)) :
  Calls Tryz.prog 51 #[.slice A0 l0.length c0] w fun e w' => e = .returned (.tuple #[.string r1, .bool r2]) ∧ Below w.heap.size w w' := by
 have hu52 := Tryz.underlying52
 have HR0 := aU hr0
 have HC0 := aU hc0
 clear hr0 hc0
 have HB := aU (Below.refl w.heap.size w)
 have H : ((impl_within.f (l0.length : Int) 1 9).bind fun t417 => (if t417 = true then ((impl_areDarts.f k l0).bind fun t418 => (impl_DartsText.j0 k l0 (!t418))) else (impl_DartsText.j0 k l0 true))) = some (r1, r2) := h
 clear h
 have HC2 := aU H
 clear H
 go_enter Tryz.func51, Tryz.ntmps51
 go_upto_region 1 with (fail)
 go_cut [17] (fun v17 wc => ∃ (kq : Nat) (x17_1 : Bool), v17 = .bool x17_1 ∧ Aside0 (impl_DartsText.j0 kq l0 x17_1 = some (r1, r2)) ∧ Aside0 (kq ≤ k) ∧ Aside0 (Below w.heap.size w wc))
 case first =>
  have H := HC2.out
  clear HC2
  replace H := bindS H
  obtain ⟨t417, A3, H⟩ := H
  (try dsimp only at H)
  by_cases c4 : t417 = true
  ·subst c4
   rw [if_pos rfl] at H
   replace H := bindS H
   obtain ⟨t418, A5, H⟩ := H
   (try dsimp only at H)
   have H' := aU H
   clear H
   go_wp2_with (first | ((with_reducible refine gcU 87 rfl ?_); refine goU (some 11) Tryz.func87 #[.int .i64 (l0.length : Int), .int .i64 1, .int .i64 9] ?_; (with_reducible refine (impl_within.calls (l0.length : Int) 1 9 true _ A3.out).mono ?_); rintro e w' ⟨rfl, ⟨nd, rfl⟩⟩; refine ⟨_, rfl, ?_⟩) | (go_at_call 107; (with_reducible refine (impl_areDarts.calls k _ _ l0 t418 _ ?side1 ?side2 A5.out).mono ?_); (case side1 => repeat (first | exact (Kd.C_below HR0.out hbU) | (with_reducible refine Kd.C_alloc ?_ _) | (with_reducible refine Kd.C_drewN ?_ _) | (with_reducible refine Kd.C_drew ?_))); (case side2 => exact HC0.out); rintro e w6 ⟨rfl, hb⟩; replace HB := bsU hb; (try clear hb)))
   go_meet
   case rel => exact ⟨_, (!t418), eqU, H', ⟨by first | omega | exact Nat.le_refl _⟩, ⟨hbU⟩⟩
  ·replace c4 := Bool.eq_false_iff.mpr c4
   subst c4
   rw [if_neg (show ¬ (false = true) by decide)] at H
   have H' := aU H
   clear H
   go_wp2_with (first | ((with_reducible refine gcU 87 rfl ?_); refine goU (some 11) Tryz.func87 #[.int .i64 (l0.length : Int), .int .i64 1, .int .i64 9] ?_; (with_reducible refine (impl_within.calls (l0.length : Int) 1 9 false _ A3.out).mono ?_); rintro e w' ⟨rfl, ⟨nd, rfl⟩⟩; refine ⟨_, rfl, ?_⟩))
   go_meet
   case rel => exact ⟨_, (true), eqU, H', ⟨by first | omega | exact Nat.le_refl _⟩, ⟨hbU⟩⟩
 case rest =>
  clear HC2
  obtain ⟨kq, x17_1, rfl, HA, HJ1, HB⟩ := hcut
  cases kq with
  | zero => exact absurd HA.out (by simp [impl_DartsText.j0])
  | succ kj1 =>
   have H := HA.out
   clear HA
   simp only [impl_DartsText.j0] at H
   by_cases c7 : x17_1 = true
   ·subst c7
    rw [if_pos rfl] at H
    simp only [Option.some.injEq, Prod.mk.injEq] at H
    obtain ⟨rfl, rfl⟩ := H
    go_wp2
    go_ret2
    exact ⟨errU, hbU⟩
   ·replace c7 := Bool.eq_false_iff.mpr c7
    subst c7
    rw [if_neg (show ¬ (false = true) by decide)] at H
    obtain ⟨y419, hy419⟩ : ∃ y_ : List ByteArray, y_ = (([] : List ByteArray)) := ⟨_, rfl⟩
    replace H : (impl_DartsText.l0 kj1 y419 l0 (l0.length : Int) 0) = some (r1, r2) := by first | (rw [hy419]; with_reducible exact H) | (have H2_ := (Option.bind_some _ _).symm.trans H; rw [hy419]; with_reducible exact H2_) | (have H2_ := (Option.bind_some _ _).symm.trans H; with_reducible exact H2_) | with_reducible exact H | (rw [hy419]; exact H) | exact H
    have Ny419 := aU hy419
    clear hy419
    have H' := aU H
    clear H
    go_wp2_with (first | ((with_reducible refine gdU 18 rfl ?_); refine Kd.R_lit Kd.string _ 9 ?hg (N := 18) ?hd (xs := ([] : List ByteArray)) (inner := []) (ok := fun _ => True) (okp := fun _ => True) ?hr ?hp (fun _ hk => hk) trivial (Below.refl _ _) (Nat.le_refl _) (by simp) ?_; (case hd => rfl); (case hg => rfl); (case hr => first | (go_simp; done) | (go_simp; rfl)); (case hp => exact (Reps.none _ _)); intro v420 w8 ho9 hb hg_ hnew_; clear hg_ hnew_; (first | rw [← Ny419.out] at ho9 | (simp only [Int.reduceToNat] at ho9; rw [← Ny419.out] at ho9)); have HO421 := aU (Kd.R_lower ho9 (below_size hbU)); replace HB := bsU hb; clear hb ho9))
    go_loopg [4, 21] kj1 (fun kq v4 v21 w' => ∃ (x4_2 : List ByteArray) (x21_2 : Int), v21 = .int .i64 x21_2 ∧ Aside0 (impl_DartsText.l0 kq x4_2 l0 (l0.length : Int) x21_2 = some (r1, r2)) ∧ Aside0 (kq ≤ kj1) ∧ Aside0 (Kd.R Kd.string 9 w' w.heap.size (fun _ => True) v4 x4_2) ∧ Aside0 (Below w.heap.size w w'))
    case atStart => exact ⟨(y419), (0), eqU, H', ⟨Nat.le_refl _⟩, ⟨roU HO421⟩, ⟨hbU⟩⟩
    case round =>
     clear H'
     (try clear c7)
     obtain ⟨x4_2, x21_2, rfl, HA, HK2, HO_4, HB⟩ := hrel
     cases gk with
     | zero => exact absurd HA.out (by simp [impl_DartsText.l0])
     | succ k2 =>
      have H := HA.out
      clear HA
      simp only [impl_DartsText.l0] at H
      by_cases c10 : x21_2 < (l0.length : Int)
      ·rw [if_pos c10] at H
       have c10b0 : decide (x21_2 < (l0.length : Int)) = true := decide_eq_true c10
       clear c10
       replace H := ifS H
       obtain ⟨c11, H⟩ := H
       have c11b0 : decide (0 ≤ x21_2) = true := decide_eq_true c11
       clear c11
       replace H := ifS H
       obtain ⟨c12, H⟩ := H
       have c12b0 : decide (x21_2 < (l0.length : Int)) = true := decide_eq_true c12
       clear c12
       replace H := bindS H
       obtain ⟨⟨t424, t425⟩, A13, H⟩ := H
       (try dsimp only at H)
       replace H := ifS H
       obtain ⟨c14, H⟩ := H
       have LMc14 := aU c14
       clear c14
       obtain ⟨y426, hy426⟩ : ∃ y_ : List ByteArray, y_ = (x4_2 ++ [t424]) := ⟨_, rfl⟩
       replace H : (impl_DartsText.l0 k2 y426 l0 (l0.length : Int) (wrap64 (x21_2 + 1))) = some (r1, r2) := by first | (rw [hy426]; with_reducible exact H) | (have H2_ := (Option.bind_some _ _).symm.trans H; rw [hy426]; with_reducible exact H2_) | (have H2_ := (Option.bind_some _ _).symm.trans H; with_reducible exact H2_) | with_reducible exact H | (rw [hy426]; exact H) | exact H
       have Ny426 := aU hy426
       clear hy426
       have H' := aU H
       clear H
       have p422 : 0 ≤ (x21_2 : Int) := dU
       have q422 : x21_2 < (l0.length : Int) := dU
       obtain ⟨ad422, e422, hx422_0, hx422_1⟩ := at_T52 HR0.out x21_2 p422 q422
       cases e422
       replace hx422_0 := (HB.out.cell (World.block_lt_of_cell? w _ hx422_0)).trans hx422_0
       replace hx422_1 := (HB.out.cell (World.block_lt_of_cell? w _ hx422_1)).trans hx422_1
       replace p422 := eq_true p422
       replace q422 := eq_true q422
       go_wp2_with (first | ((with_reducible refine gdU 6 rfl ?_); refine bxU (cs := #[.int .i64 0, .int .i64 0]) (t := 52) ?_; intro gb423 hg w15 hbox hb; replace HO_4 := aU (Kd.R_below (roU HO_4) hb); have BK423 := aU (hbox); have GW423 := geU hg; have GE423 := geU hg; replace HB := bsU hb; clear hb hbox hg; obtain ⟨hcz16_0, hcz16_1, hfz16_0, hfz16_1⟩ := b2U BK423) | ((with_reducible refine gcU 57 rfl ?_); refine goU (some 27) Tryz.func57 #[.agg #[.int .i64 ((rd_T52 l0 x21_2).f0), .int .i64 ((rd_T52 l0 x21_2).f1)]] ?_; (with_reducible refine (impl_DartText.calls ((rd_T52 l0 x21_2).f0) ((rd_T52 l0 x21_2).f1) t424 t425 _ A13.out).mono ?_); rintro e w17 ⟨rfl, hb⟩; refine ⟨_, rfl, ?_⟩; replace HO_4 := aU (Kd.R_below (by (with_reducible repeat (first | apply Kd.R_alloc | apply Kd.R_drewN | apply Kd.R_drew)); exact (Kd.R_mono (Kd.R_far (p := ⟨gb423, 1, none⟩) (Kd.R_far (p := ⟨gb423, 0, none⟩) (Kd.R_types HO_4.out BK423.out (by decide)) (fun _ hk => hk.2) (.int .i64 ((rd_T52 l0 x21_2).f0))) (fun _ hk => hk.2) (.int .i64 ((rd_T52 l0 x21_2).f1))) (fun _ h_ => h_.1))) hb); replace BK423 := aU (blk_below (g := gb423) (o := .cells #[.int .i64 ((rd_T52 l0 x21_2).f0), .int .i64 ((rd_T52 l0 x21_2).f1)] 52 (0, 0)) bkU hb); replace HB := bsU hb; (try clear hb)) | ((with_reducible refine gate_builtin (b := .append) (xs := #[.tmp 30, .tmp 32]) rfl ?_); at_builtin; refine Kd.R_append Kd.string (w0 := w) w.heap.size rfl (.tmp 30) (.tmp 32) 94 9 (.string ⟨#[]⟩) 16 rfl Tryz.underlying94 info9 rfl (by decide) (by omega) u4 x4_2 t424 [.string t424] (fun _ => True) (fun _ => False) rfl rfl ?aP (fun _ hk => hk.elim) ?aF ?aO ?aB ?aS ?aL ?_; (case aP => exact rfl); (case aB => exact hbU); (case aF => exact (fun _ _ => trivial)); (case aO => exact (roU HO_4)); (case aS => exact (below_size hbU)); (case aL => have := LMc14.out; omega); intro v427 w18 ho hb hg hat; rw [← Ny426.out] at ho; replace BK423 := aU (blk_grown (g := gb423) (o := .cells #[.int .i64 ((rd_T52 l0 x21_2).f0), .int .i64 ((rd_T52 l0 x21_2).f1)] 52 (0, 0)) bkU hg (Kd.R_ne HO_4.out BK423.out (by decide))); replace HB := aU (hb); have HO428 := aU (ho); clear HO_4; clear ho hb hg hat))
       go_roundg k2
       case measure => have := HJ1.out; have := HK2.out; omega
       case rel => exact ⟨(y426), (wrap64 (x21_2 + 1)), eqU, H', ⟨by have := HJ1.out; have := HK2.out; omega⟩, ⟨roU HO428⟩, ⟨hbU⟩⟩
      ·rw [if_neg c10] at H
       have c10b0 : decide (x21_2 < (l0.length : Int)) = false := decide_eq_false c10
       clear c10
       replace H := bindS H
       obtain ⟨t429, A19, H⟩ := H
       (try dsimp only at H)
       simp only [Option.some.injEq, Prod.mk.injEq] at H
       obtain ⟨rfl, rfl⟩ := H
       obtain ⟨Ao20, co20, eo20⟩ := Kd.R_slice HO_4.out
       subst eo20
       go_wp2_with (first | ((with_reducible refine gcU 111 rfl ?_); refine goU (some 36) Tryz.func111 #[.slice Ao20 x4_2.length co20, .string (⟨#[45]⟩ : ByteArray)] ?_; (with_reducible refine (strings_Join.calls _ _ x4_2 (⟨#[45]⟩ : ByteArray) t429 _ ?side1 ?side2 A19.out).mono ?_); (case side1 => exact rcU HO_4); (case side2 => exact (Kd.R_reads' HO_4.out).2.1); rintro e w21 ⟨rfl, hb⟩; refine ⟨_, rfl, ?_⟩; replace HO_4 := aU (Kd.R_below (roU HO_4) hb); replace HB := bsU hb; (try clear hb)))
       go_ret2
       exact ⟨errU, hbU⟩
def spec_l1Num.f : Nat → Int → Option (ByteArray)
 | 0, _ => none
 | k + 1, a0 => if a0 < 10 then (some (strOfNums (([(wrap64 (48 + a0)) % 256] : List Int)))) else ((spec_l1Num.f k (wrap64 (Int.tdiv a0 10))).bind fun t433 => ((some (([(wrap64 (48 + (Int.tmod a0 10))) % 256] : List Int) : List Int)).bind fun y434 => (if t433.size + (strOfNums y434).size ≤ 9223372036854775807 then (some (t433 ++ (strOfNums y434))) else (none))))
theorem spec_l1Num.mono_l : ∀ k, (∀ y0, LeO (spec_l1Num.f k y0) (spec_l1Num.f (k + 1) y0))
 | 0 => fun _ r h => by simp [spec_l1Num.f] at h
 | k + 1 => by
  have ih0 := spec_l1Num.mono_l k
  all_goals intros
  all_goals first | unfold spec_l1Num.f
  all_goals repeat' first
  | (with_reducible exact ih0 _)
  | (with_reducible exact LeO.refl _)
  | (with_reducible exact LeO.none _)
  | (with_reducible refine LeO.ite ?_ ?_)
  | (with_reducible refine LeO.bind ?_ (fun _ => ?_))
theorem spec_l1Num.mono : ∀ a0 k, LeO (spec_l1Num.f k a0) (spec_l1Num.f (k + 1) a0) := by
 intro a0 k
 have ih0 := spec_l1Num.mono_l k
 exact ih0 a0
def spec_l1Num.T3 : Bool × List (List Nat × List Nat) := (true, [([], []), ([0], [0]), ([1], [1]), ([], []), ([3], [3]), ([4], [4]), ([5], [5]), ([6], [6]), ([7], [7]), ([2, 8], [2, 8]), ([9, 2, 0, 1, 2, 3, 4, 5, 6, 7, 8, 9], [9])])
def spec_l1Num.B3 : List Nat := [0, 1, 3, 0, 8, 24, 56, 120, 248, 511, 1023]
theorem spec_l1Num.tab3 : rtab .any (opsOf Tryz.f126 3) = spec_l1Num.T3 := by kernel_rfl
theorem spec_l1Num.bits3 : waitsOk spec_l1Num.T3.2 spec_l1Num.B3 = true := by kernel_rfl
set_option maxHeartbeats 8000000 in
set_option maxRecDepth 100000 in
theorem spec_l1Num.calls (k : Nat) : ∀ (a0 : Int) (r : ByteArray) (w : World) (h : spec_l1Num.f k a0 = some r),
  Calls Tryz.prog 126 #[.int .i64 a0] w fun e w' => e = .returned (.string r) ∧ Below w.heap.size w w' := by
 induction k using Nat.strongRecOn with
 | _ k ih =>
 intro a0 r w h
 cases k with
 | zero => exact absurd h (by simp [spec_l1Num.f])
 | succ k =>
 simp only [spec_l1Num.f] at h
 have HB := aU (Below.refl w.heap.size w)
 have H : (if a0 < 10 then (some (strOfNums (([(wrap64 (48 + a0)) % 256] : List Int)))) else ((spec_l1Num.f k (wrap64 (Int.tdiv a0 10))).bind fun t433 => ((some (([(wrap64 (48 + (Int.tmod a0 10))) % 256] : List Int) : List Int)).bind fun y434 => (if t433.size + (strOfNums y434).size ≤ 9223372036854775807 then (some (t433 ++ (strOfNums y434))) else (none))))) = some r := h
 clear h
 by_cases c2 : a0 < 10
 ·rw [if_pos c2] at H
  have c2b0 : decide (a0 < 10) = true := decide_eq_true c2
  clear c2
  obtain ⟨y430, hy430⟩ : ∃ y_ : List Int, y_ = (([(wrap64 (48 + a0)) % 256] : List Int)) := ⟨_, rfl⟩
  replace H : (some (strOfNums y430)) = some r := by first | (rw [hy430]; with_reducible exact H) | (have H2_ := (Option.bind_some _ _).symm.trans H; rw [hy430]; with_reducible exact H2_) | (have H2_ := (Option.bind_some _ _).symm.trans H; with_reducible exact H2_) | with_reducible exact H | (rw [hy430]; exact H) | exact H
  have Ny430 := aU hy430
  clear hy430
  obtain rfl := Option.some.inj H
  go_enter Tryz.func126, Tryz.ntmps126
  go_wp2_with (first | ((with_reducible refine gdU 8 rfl ?_); refine Kd.R_lit (Kd.int .u8) _ 5 ?hg (N := 8) ?hd (xs := ([(wrap64 (48 + a0)) % 256] : List Int)) (inner := [.int .u8 ((wrap64 (48 + a0)) % 256)]) (ok := fun _ => True) (okp := fun _ => True) ?hr ?hp (fun _ hk => hk) trivial (Below.refl _ _) (Nat.le_refl _) (by simp) ?_; (case hd => rfl); (case hg => rfl); (case hr => first | (go_simp; done) | (go_simp; rfl)); (case hp => exact (Reps.one (show Kd.M (Kd.int .u8) _ _ _ ((wrap64 (48 + a0)) % 256) [.int .u8 ((wrap64 (48 + a0)) % 256)] from rfl) (Reps.none _ _))); intro v431 w3 ho4 hb hg_ hnew_; clear hg_ hnew_; (first | rw [← Ny430.out] at ho4 | (simp only [Int.reduceToNat] at ho4; rw [← Ny430.out] at ho4)); have HO432 := aU (Kd.R_lower ho4 (below_size hbU)); replace HB := bsU hb; clear hb ho4; have hcv5 := own_string (P := Tryz.prog) Tryz.underlying22 Tryz.underlying5 Tryz.underlying9 (Kd.own_of_R HO432.out)))
  go_ret
  exact ⟨errU, hbU⟩
 ·rw [if_neg c2] at H
  have c2b0 : decide (a0 < 10) = false := decide_eq_false c2
  clear c2
  replace H := bindS H
  obtain ⟨t433, A6, H⟩ := H
  (try dsimp only at H)
  obtain ⟨y434, hy434⟩ : ∃ y_ : List Int, y_ = (([(wrap64 (48 + (Int.tmod a0 10))) % 256] : List Int)) := ⟨_, rfl⟩
  replace H : (if t433.size + (strOfNums y434).size ≤ 9223372036854775807 then (some (t433 ++ (strOfNums y434))) else (none)) = some r := by first | (rw [hy434]; with_reducible exact H) | (have H2_ := (Option.bind_some _ _).symm.trans H; rw [hy434]; with_reducible exact H2_) | (have H2_ := (Option.bind_some _ _).symm.trans H; with_reducible exact H2_) | with_reducible exact H | (rw [hy434]; exact H) | exact H
  have Ny434 := aU hy434
  clear hy434
  replace H := ifS H
  obtain ⟨c7, H⟩ := H
  have c7b0 := eq_true c7
  have c7b1 : decide (t433.size + (strOfNums y434).size ≤ 9223372036854775807) = true := decide_eq_true c7
  try have c7b2 : (9223372036854775807 < t433.size + (strOfNums y434).size) = False := eq_false (Nat.not_lt.2 c7)
  obtain rfl := Option.some.inj H
  go_enter Tryz.func126, Tryz.ntmps126
  try go_wp2
  replace HB := aU (below_drew1 HB.out)
  refine start_ (n := 11) (S := fun w' => True) (ds := []) #[false, false, false, false, false, false, false, false, false, false, false] (by kernel_rfl) rfl rfl trivial (fun hHeld => ?_); refine with_tabW spec_l1Num.tab3 spec_l1Num.bits3 (fun HT_ HW_ => ?_)
  generalize w.drew = w8 at HB hHeld ⊢
  refine puU 0 10 HT_ ?_
  refine puU 1 11 HT_ ?_
  refine puU 3 13 HT_ ?_
  refine puU 4 14 HT_ ?_
  refine puU 5 15 HT_ ?_
  refine puU 6 16 HT_ ?_
  refine join_ (σ := Value) 2 #[true, true, true, true, true, true, true, true, true, false, false] (fun s_ => [(12, .string t433), (17, s_), (18, .string (strOfNums y434))]) (fun s_ w' => (Kd.R (Kd.int .u8) 5 w' w.heap.size (fun _ => True) s_ y434) ∧ (Below w.heap.size w w')) ?_ ?_
  rotate_left
  ·intro hCont
   refine two_ (i := 2) (j := 7) (Ni := some 12) (Nj := some 17) #[true, true, true, true, true, true, true, false, false, false, false] #[true, true, false, true, true, true, true, true, false, false, false] rfl rfl rfl rfl (two_of HT_.out (by kernel_rfl)) (by decide) (by decide) (fun K hK => ?_) (fun K hK => ?_)
   ·skip
    refine goes_ Tryz.func126 (by kernel_rfl) rfl #[.int .i64 (wrap64 (Int.tdiv a0 10))] (by rfl) rfl rfl arU ?_
    with_reducible refine (ih k (by omega) (wrap64 (Int.tdiv a0 10)) t433 _ A6.out).mono ?_
    rintro e w9 ⟨rfl, hb⟩
    refine ⟨_, rfl, ?_⟩
    replace HB := bsU hb
    (try clear hb)
    refine hK.out _ _ trivial (fun hHeld => ?_)
    clear hK K
    refine nmU 12 ?_
    refine onU 7 (some 17) HT_ (fun K hK => ?_)
    refine Kd.R_lit_step (Kd.int .u8) _ 5 ?hg (N := 17) ?hd (xs := ([(wrap64 (48 + (Int.tmod a0 10))) % 256] : List Int)) (inner := [.int .u8 ((wrap64 (48 + (Int.tmod a0 10))) % 256)]) (ok := fun _ => True) (okp := fun _ => True) ?hr ?hp (fun _ hk => hk) trivial (Below.refl _ _) (Nat.le_refl _) (by simp) ?_; (case hd => rfl); (case hg => rfl); (case hr => first | (go_simp; done) | (go_simp; rfl)); (case hp => exact (Reps.one (show Kd.M (Kd.int .u8) _ _ _ ((wrap64 (48 + (Int.tmod a0 10))) % 256) [.int .u8 ((wrap64 (48 + (Int.tmod a0 10))) % 256)] from rfl) (Reps.none _ _)))
    intro v435 w10 ho11 hb hg_ hnew_
    clear hg_ hnew_
    (first | rw [← Ny434.out] at ho11 | (simp only [Int.reduceToNat] at ho11; rw [← Ny434.out] at ho11))
    have HO436 := aU (Kd.R_lower ho11 (below_size hbU))
    replace HB := bsU hb
    clear hb ho11
    refine hK.out _ _ trivial (fun hHeld => ?_)
    clear hK K
    refine nmU 17 ?_
    refine onU 8 (some 18) HT_ (fun K hK => ?_)
    have hcv12 := own_string (P := Tryz.prog) Tryz.underlying22 Tryz.underlying5 Tryz.underlying9 (Kd.own_of_R HO436.out)
    refine value_ (w1 := ?_) (v := ?_) (by rfl) rfl ?_ ?_
    rotate_left 2
    ·go_simp
     constructor
     ·rfl
     ·rfl
    clear hcv12
    refine hK.out _ _ trivial (fun hHeld => ?_)
    clear hK K
    refine nmU 18 ?_
    exact norm_ (by simp only [putAll, Act.put, List.setIfInBounds_toArray, List.set_cons_zero, List.set_cons_succ]) (hCont (v435) _ ⟨(roU HO436), hbU⟩)
   ·skip
    refine Kd.R_lit_step (Kd.int .u8) _ 5 ?hg (N := 17) ?hd (xs := ([(wrap64 (48 + (Int.tmod a0 10))) % 256] : List Int)) (inner := [.int .u8 ((wrap64 (48 + (Int.tmod a0 10))) % 256)]) (ok := fun _ => True) (okp := fun _ => True) ?hr ?hp (fun _ hk => hk) trivial (Below.refl _ _) (Nat.le_refl _) (by simp) ?_; (case hd => rfl); (case hg => rfl); (case hr => first | (go_simp; done) | (go_simp; rfl)); (case hp => exact (Reps.one (show Kd.M (Kd.int .u8) _ _ _ ((wrap64 (48 + (Int.tmod a0 10))) % 256) [.int .u8 ((wrap64 (48 + (Int.tmod a0 10))) % 256)] from rfl) (Reps.none _ _)))
    intro v435 w9 ho10 hb hg_ hnew_
    clear hg_ hnew_
    (first | rw [← Ny434.out] at ho10 | (simp only [Int.reduceToNat] at ho10; rw [← Ny434.out] at ho10))
    have HO436 := aU (Kd.R_lower ho10 (below_size hbU))
    replace HB := bsU hb
    clear hb ho10
    refine hK.out _ _ trivial (fun hHeld => ?_)
    clear hK K
    refine nmU 17 ?_
    refine two_ (i := 2) (j := 8) (Ni := some 12) (Nj := some 18) #[true, true, true, true, true, true, true, true, false, false, false] #[true, true, false, true, true, true, true, true, true, false, false] rfl rfl rfl rfl (two_of HT_.out (by kernel_rfl)) (by decide) (by decide) (fun K hK => ?_) (fun K hK => ?_)
    ·skip
     refine goes_ Tryz.func126 (by kernel_rfl) rfl #[.int .i64 (wrap64 (Int.tdiv a0 10))] (by rfl) rfl rfl arU ?_
     with_reducible refine (ih k (by omega) (wrap64 (Int.tdiv a0 10)) t433 _ A6.out).mono ?_
     rintro e w11 ⟨rfl, hb⟩
     refine ⟨_, rfl, ?_⟩
     replace HO436 := aU (Kd.R_below (roU HO436) hb)
     replace HB := bsU hb
     (try clear hb)
     refine hK.out _ _ trivial (fun hHeld => ?_)
     clear hK K
     refine nmU 12 ?_
     refine onU 8 (some 18) HT_ (fun K hK => ?_)
     have hcv12 := own_string (P := Tryz.prog) Tryz.underlying22 Tryz.underlying5 Tryz.underlying9 (Kd.own_of_R HO436.out)
     refine value_ (w1 := ?_) (v := ?_) (by rfl) rfl ?_ ?_
     rotate_left 2
     ·go_simp
      constructor
      ·rfl
      ·rfl
     clear hcv12
     refine hK.out _ _ trivial (fun hHeld => ?_)
     clear hK K
     refine nmU 18 ?_
     exact norm_ (by simp only [putAll, Act.put, List.setIfInBounds_toArray, List.set_cons_zero, List.set_cons_succ]) (hCont (v435) _ ⟨(roU HO436), hbU⟩)
    ·skip
     have hcv11 := own_string (P := Tryz.prog) Tryz.underlying22 Tryz.underlying5 Tryz.underlying9 (Kd.own_of_R HO436.out)
     refine value_ (w1 := ?_) (v := ?_) (by rfl) rfl ?_ ?_
     rotate_left 2
     ·go_simp
      constructor
      ·rfl
      ·rfl
     clear hcv11
     refine hK.out _ _ trivial (fun hHeld => ?_)
     clear hK K
     refine nmU 18 ?_
     refine onU 2 (some 12) HT_ (fun K hK => ?_)
     refine goes_ Tryz.func126 (by kernel_rfl) rfl #[.int .i64 (wrap64 (Int.tdiv a0 10))] (by rfl) rfl rfl arU ?_
     with_reducible refine (ih k (by omega) (wrap64 (Int.tdiv a0 10)) t433 _ A6.out).mono ?_
     rintro e w12 ⟨rfl, hb⟩
     refine ⟨_, rfl, ?_⟩
     replace HO436 := aU (Kd.R_below (roU HO436) hb)
     replace HB := bsU hb
     (try clear hb)
     refine hK.out _ _ trivial (fun hHeld => ?_)
     clear hK K
     refine nmU 12 ?_
     exact norm_ (by simp only [putAll, Act.put, List.setIfInBounds_toArray, List.set_cons_zero, List.set_cons_succ]) (hCont (v435) _ ⟨(roU HO436), hbU⟩)
  rintro v435 w13 ⟨h0_, h1_⟩
  have n0_ : Aside0 (Kd.R (Kd.int .u8) 5 w13 w.heap.size (fun _ => True) v435 y434) := ⟨h0_⟩
  have n1_ : Aside0 (Below w.heap.size w w13) := ⟨h1_⟩
  clear HB
  clear h0_ h1_
  have HO436 := n0_
  have HB := n1_
  clear n0_ n1_
  have hHeld := trivial
  refine norm_ (a' := ?_) ?_ ?_
  rotate_left
  ·simp only [putAll, Act.put, List.setIfInBounds_toArray, List.set_cons_zero, List.set_cons_succ]
   rfl
  refine puU 9 19 HT_ ?_
  refine puU 10 2 HT_ ?_
  refine dnU HT_ ?_
  try go_wp2
  go_ret
  exact ⟨errU, hbU⟩
def spec_daText.f (k : Nat) (a0_0 : Int) (a0_1 : Int) : Option (ByteArray) := (some (([(⟨#[]⟩ : ByteArray), (⟨#[100]⟩ : ByteArray), (⟨#[116]⟩ : ByteArray)] : List ByteArray) : List ByteArray)).bind fun y438 => (if 0 ≤ (wrap64 (a0_1 - 1)) then (if (wrap64 (a0_1 - 1)) < (y438.length : Int) then ((spec_l1Num.f k a0_0).bind fun t442 => (if (rdOf ByteArray.empty y438 (wrap64 (a0_1 - 1))).size + t442.size ≤ 9223372036854775807 then (some ((rdOf ByteArray.empty y438 (wrap64 (a0_1 - 1))) ++ t442)) else (none))) else (none)) else (none))
theorem spec_daText.mono : ∀ a0 a1 k, LeO (spec_daText.f k a0 a1) (spec_daText.f (k + 1) a0 a1) := by
 intro a0 a1 k
 unfold spec_daText.f
 repeat' first
   | (with_reducible exact spec_l1Num.mono _ _)
   | (with_reducible exact LeO.refl _)
   | (with_reducible exact LeO.none _)
   | (with_reducible refine LeO.ite ?_ ?_)
   | (with_reducible refine LeO.bind ?_ (fun _ => ?_))
def spec_daText.T1 : Bool × List (List Nat × List Nat) := (true, [([], []), ([], []), ([1], [1]), ([2], [2]), ([0, 3], [0, 3]), ([4], [4]), ([], []), ([6], [6]), ([7], [7]), ([5, 8], [5, 8]), ([9, 8, 0, 1, 2, 3, 4, 5, 6, 7, 8, 9], [9])])
def spec_daText.B1 : List Nat := [0, 0, 2, 6, 15, 31, 0, 64, 192, 511, 1023]
theorem spec_daText.tab1 : rtab .any (opsOf Tryz.f118 1) = spec_daText.T1 := by kernel_rfl
theorem spec_daText.bits1 : waitsOk spec_daText.T1.2 spec_daText.B1 = true := by kernel_rfl
set_option maxHeartbeats 8000000 in
set_option maxRecDepth 100000 in
theorem spec_daText.calls (k : Nat) (a0_0 : Int) (a0_1 : Int) (r : ByteArray) (w : World) (h : spec_daText.f k a0_0 a0_1 = some r) :
  Calls Tryz.prog 118 #[.agg #[.int .i64 a0_0, .int .i64 a0_1]] w fun e w' => e = .returned (.string r) ∧ Below w.heap.size w w' := by
 have hu52 := Tryz.underlying52
 have HB := aU (Below.refl w.heap.size w)
 have H : ((some (([(⟨#[]⟩ : ByteArray), (⟨#[100]⟩ : ByteArray), (⟨#[116]⟩ : ByteArray)] : List ByteArray) : List ByteArray)).bind fun y438 => (if 0 ≤ (wrap64 (a0_1 - 1)) then (if (wrap64 (a0_1 - 1)) < (y438.length : Int) then ((spec_l1Num.f k a0_0).bind fun t442 => (if (rdOf ByteArray.empty y438 (wrap64 (a0_1 - 1))).size + t442.size ≤ 9223372036854775807 then (some ((rdOf ByteArray.empty y438 (wrap64 (a0_1 - 1))) ++ t442)) else (none))) else (none)) else (none))) = some r := h
 clear h
 obtain ⟨y438, hy438⟩ : ∃ y_ : List ByteArray, y_ = (([(⟨#[]⟩ : ByteArray), (⟨#[100]⟩ : ByteArray), (⟨#[116]⟩ : ByteArray)] : List ByteArray)) := ⟨_, rfl⟩
 replace H : (if 0 ≤ (wrap64 (a0_1 - 1)) then (if (wrap64 (a0_1 - 1)) < (y438.length : Int) then ((spec_l1Num.f k a0_0).bind fun t442 => (if (rdOf ByteArray.empty y438 (wrap64 (a0_1 - 1))).size + t442.size ≤ 9223372036854775807 then (some ((rdOf ByteArray.empty y438 (wrap64 (a0_1 - 1))) ++ t442)) else (none))) else (none)) else (none)) = some r := by first | (rw [hy438]; with_reducible exact H) | (have H2_ := (Option.bind_some _ _).symm.trans H; rw [hy438]; with_reducible exact H2_) | (have H2_ := (Option.bind_some _ _).symm.trans H; with_reducible exact H2_) | with_reducible exact H | (rw [hy438]; exact H) | exact H
 have Ny438 := aU hy438
 clear hy438
 obtain ⟨ji2, hji2⟩ : ∃ j_ : Int, (wrap64 (a0_1 - 1)) = j_ := ⟨_, rfl⟩
 replace H : (if 0 ≤ (ji2) then (if (ji2) < (y438.length : Int) then ((spec_l1Num.f k a0_0).bind fun t442 => (if (rdOf ByteArray.empty y438 (ji2)).size + t442.size ≤ 9223372036854775807 then (some ((rdOf ByteArray.empty y438 (ji2)) ++ t442)) else (none))) else (none)) else (none)) = some r := by first | (rw [hji2] at H; exact H) | (simp only [hji2] at H ⊢; exact H)
 have hji2w : (IntKind.i64.wrap (a0_1 - 1)) = ji2 := (i64_w _).trans hji2
 replace H := ifS H
 obtain ⟨c3, H⟩ := H
 have c3b0 : decide (0 ≤ (ji2)) = true := decide_eq_true c3
 clear c3
 replace H := ifS H
 obtain ⟨c4, H⟩ := H
 have c4b0 : decide ((ji2) < (y438.length : Int)) = true := decide_eq_true c4
 clear c4
 replace H := bindS H
 obtain ⟨t442, A5, H⟩ := H
 (try dsimp only at H)
 replace H := ifS H
 obtain ⟨c6, H⟩ := H
 have c6b0 := eq_true c6
 have c6b1 : decide ((rdOf ByteArray.empty y438 (ji2)).size + t442.size ≤ 9223372036854775807) = true := decide_eq_true c6
 try have c6b2 : (9223372036854775807 < (rdOf ByteArray.empty y438 (ji2)).size + t442.size) = False := eq_false (Nat.not_lt.2 c6)
 obtain rfl := Option.some.inj H
 go_enter Tryz.func118, Tryz.ntmps118
 try go_wp2_with (first | ((with_reducible refine gdU 1 rfl ?_); refine bxU (cs := #[.int .i64 a0_0, .int .i64 a0_1]) (t := 52) ?_; intro gb437 hg w7 hbox hb; have BK437 := aU (hbox); have GW437 := geU hg; have GE437 := geU hg; replace HB := bsU hb; clear hb hbox hg))
 have pi441 : (0 ≤ ((ji2) : Int)) = True := eq_true (dU)
 have qi441 : ((ji2) < (y438.length : Int)) = True := eq_true (dU)
 replace BK437 := aU (blk_drew BK437.out)
 replace HB := aU (below_drew1 HB.out)
 refine start_ (n := 11) (S := fun w' => True) (ds := []) #[false, false, false, false, false, false, false, false, false, false, false] (by kernel_rfl) rfl rfl trivial (fun hHeld => ?_); refine with_tabW spec_daText.tab1 spec_daText.bits1 (fun HT_ HW_ => ?_)
 generalize w7.drew = w8 at BK437 HB hHeld ⊢
 refine puU 1 4 HT_ ?_
 refine puU 6 9 HT_ ?_
 refine inv_at [0, 2, 3, 4, 5, 7, 8, 9, 10] (fun a0_ b a w' => ∃ (v439 : Value) (adz_v439 : Addr) (m4_ : Value), a = putSel a0_ b [(0, 3, v439), (2, 5, .int .i64 a0_1), (3, 6, .int .i64 ji2), (4, 7, m4_), (5, 8, .string (rdOf ByteArray.empty y438 (ji2))), (7, 10, .int .i64 a0_0), (8, 11, .string t442), (9, 12, .string ((rdOf ByteArray.empty y438 (ji2)) ++ t442)), (10, 2, .string ((rdOf ByteArray.empty y438 (ji2)) ++ t442))] ∧ (w'.heap[gb437]? = some (.cells #[.int .i64 a0_0, .int .i64 a0_1] 52 (0, 0))) ∧ (Below w.heap.size w w') ∧ (b 0 = true → Kd.R Kd.string 9 w' w.heap.size (fun _ => True) v439 y438) ∧ (b 0 = true → ∃ c_, (v439 : Value) = .slice (some adz_v439) y438.length c_) ∧ (b 4 = true → (m4_ : Value) = .pointer (some (adz_v439.add ((ji2)).toNat)))) HT_.out HW_.out (by kernel_rfl) (by kernel_rfl) ?_ ?_ ?_
 ·exact ⟨.bool false, ⟨0, 0, none⟩, .bool false, by simp only [putSel, Bool.false_eq_true, if_false], BK437.out, HB.out, fun h_ => absurd h_ (by decide), fun h_ => absurd h_ (by decide), fun h_ => absurd h_ (by decide)⟩
 ·skip
  clear BK437 HB
  refine steps_cons ?_ ?_
  ·rintro b a w' ⟨v439, adz_v439, m4_, ha, Q_BK437, Q_HB, Q_HO440, Q_HA_HO440, Q_X4_⟩ hb_ hon hoff
   refine ⟨_, rfl, fun K hK => ?_⟩
   replace ha := aU ha
   have BK437 := aU Q_BK437
   have HB := aU Q_HB
   refine Kd.R_lit_step Kd.string _ 9 ?hg (N := 3) ?hd (xs := ([(⟨#[]⟩ : ByteArray), (⟨#[100]⟩ : ByteArray), (⟨#[116]⟩ : ByteArray)] : List ByteArray)) (inner := [.string (⟨#[]⟩ : ByteArray), .string (⟨#[100]⟩ : ByteArray), .string (⟨#[116]⟩ : ByteArray)]) (ok := fun _ => True) (okp := fun _ => True) ?hr ?hp (fun _ hk => hk) trivial (Below.refl _ _) (Nat.le_refl _) (by simp) ?_; (case hd => rfl); (case hg => rfl); (case hr => first | (go_simp; done) | (go_simp; rfl)); (case hp => exact (Reps.one (show Kd.M Kd.string _ _ _ (⟨#[]⟩ : ByteArray) [.string (⟨#[]⟩ : ByteArray)] from rfl) (Reps.one (show Kd.M Kd.string _ _ _ (⟨#[100]⟩ : ByteArray) [.string (⟨#[100]⟩ : ByteArray)] from rfl) (Reps.one (show Kd.M Kd.string _ _ _ (⟨#[116]⟩ : ByteArray) [.string (⟨#[116]⟩ : ByteArray)] from rfl) (Reps.none _ _)))))
   intro v439 w9 ho10 hb hg_ hnew_
   clear hg_ hnew_
   (first | rw [← Ny438.out] at ho10 | (simp only [Int.reduceToNat] at ho10; rw [← Ny438.out] at ho10))
   have HO440 := aU (Kd.R_lower ho10 (below_size hbU))
   replace BK437 := bbU BK437 hb
   replace HB := bsU hb
   clear hb ho10
   obtain ⟨Ao11, co11, eo11⟩ := Kd.R_slice HO440.out
   subst eo11
   obtain ⟨ado11, fo11, _⟩ := Kd.at_string (Kd.R_reads' HO440.out).2.2 0 (by decide) (by rw [Ny438.out]; simp)
   cases fo11
   refine hK.out _ _ ⟨.slice (some ado11) y438.length co11, ado11, m4_, (by rw [ha.out]; exact putSel_upk 0 hb_ rfl rfl rfl), bkU, hbU, fun _ => (roU HO440), fun _ => ⟨_, rfl⟩, fun h0_ => absurd ((hoff 4 (by kernel_rfl)).symm.trans h0_) (by decide)⟩
  refine steps_cons ?_ ?_
  ·rintro b a w' ⟨v439, adz_v439, m4_, ha, Q_BK437, Q_HB, Q_HO440, Q_HA_HO440, Q_X4_⟩ hb_ hon hoff
   refine ⟨_, rfl, fun K hK => ?_⟩
   have e4 : a.tmps[4]? = some (.pointer (some ⟨gb437, 1, none⟩)) := by rw [ha]; exact (putSel_off rfl).trans rfl
   replace ha := aU ha
   have BK437 := aU Q_BK437
   have HB := aU Q_HB
   have hc0_ : w'.cell? ⟨gb437, 0, none⟩ = some (.int .i64 a0_0) := (blk_cell BK437.out 0).trans rfl
   have hc1_ : w'.cell? ⟨gb437, 1, none⟩ = some (.int .i64 a0_1) := (blk_cell BK437.out 1).trans rfl
   refine value_ (w1 := w') (v := .int .i64 a0_1) (by rfl) rfl ?_ ?_
   ·go_simp
    (try simp only [i64_w])
    try rfl
   refine hK.out _ _ ⟨v439, adz_v439, m4_, (by rw [ha.out]; exact putSel_upk 1 hb_ rfl rfl rfl), Q_BK437, Q_HB, Q_HO440, Q_HA_HO440, fun h0_ => absurd ((hoff 4 (by kernel_rfl)).symm.trans h0_) (by decide)⟩
  refine steps_cons ?_ ?_
  ·rintro b a w' ⟨v439, adz_v439, m4_, ha, Q_BK437, Q_HB, Q_HO440, Q_HA_HO440, Q_X4_⟩ hb_ hon hoff
   refine ⟨_, rfl, fun K hK => ?_⟩
   have e5 : a.tmps[5]? = some (.int .i64 a0_1) := by rw [ha]; exact putSel_on (e := (2, 5, .int .i64 a0_1)) 1 rfl rfl (hon 2 (by kernel_rfl)) rfl
   replace ha := aU ha
   have BK437 := aU Q_BK437
   have HB := aU Q_HB
   refine value_ (w1 := w') (v := .int .i64 ji2) (by rfl) rfl ?_ ?_
   ·go_simp
    (try simp only [i64_w])
    try rfl
   refine hK.out _ _ ⟨v439, adz_v439, m4_, (by rw [ha.out]; exact putSel_upk 2 hb_ rfl rfl rfl), Q_BK437, Q_HB, Q_HO440, Q_HA_HO440, fun h0_ => absurd ((hoff 4 (by kernel_rfl)).symm.trans h0_) (by decide)⟩
  refine steps_cons ?_ ?_
  ·rintro b a w' ⟨v439, adz_v439, m4_, ha, Q_BK437, Q_HB, Q_HO440, Q_HA_HO440, Q_X4_⟩ hb_ hon hoff
   refine ⟨_, rfl, fun K hK => ?_⟩
   have e3 : a.tmps[3]? = some (v439) := by rw [ha]; exact putSel_on (e := (0, 3, v439)) 0 rfl rfl (hon 0 (by kernel_rfl)) rfl
   have e6 : a.tmps[6]? = some (.int .i64 ji2) := by rw [ha]; exact putSel_on (e := (3, 6, .int .i64 ji2)) 2 rfl rfl (hon 3 (by kernel_rfl)) rfl
   replace ha := aU ha
   have BK437 := aU Q_BK437
   have HB := aU Q_HB
   have HO440 := aU (Q_HO440 (hon 0 (by kernel_rfl)))
   have HA_HO440 := aU (Q_HA_HO440 (hon 0 (by kernel_rfl)))
   obtain ⟨c_, hv_⟩ := HA_HO440.out
   rw [hv_] at e3
   refine value_ (w1 := w') (v := .pointer (some (adz_v439.add ((ji2)).toNat))) (by rfl) rfl ?_ ?_
   ·go_simp
    (try simp only [i64_w])
    try rfl
   refine hK.out _ _ ⟨v439, adz_v439, (.pointer (some (adz_v439.add ((ji2)).toNat))), (by rw [ha.out]; exact putSel_upk 3 hb_ rfl rfl rfl), Q_BK437, Q_HB, Q_HO440, Q_HA_HO440, fun _ => rfl⟩
  refine steps_cons ?_ ?_
  ·rintro b a w' ⟨v439, adz_v439, m4_, ha, Q_BK437, Q_HB, Q_HO440, Q_HA_HO440, Q_X4_⟩ hb_ hon hoff
   refine ⟨_, rfl, fun K hK => ?_⟩
   have e7 : a.tmps[7]? = some (m4_) := by rw [ha]; exact putSel_on (e := (4, 7, m4_)) 3 rfl rfl (hon 4 (by kernel_rfl)) rfl
   rw [Q_X4_ (hon 4 (by kernel_rfl))] at e7
   replace ha := aU ha
   have BK437 := aU Q_BK437
   have HB := aU Q_HB
   have HO440 := aU (Q_HO440 (hon 0 (by kernel_rfl)))
   have HA_HO440 := aU (Q_HA_HO440 (hon 0 (by kernel_rfl)))
   obtain ⟨c_, hv_⟩ := HA_HO440.out
   have hF_ := HO440.out
   rw [hv_] at hF_
   obtain ⟨ad_, ea_, hx_⟩ := Kd.at_string (Kd.R_reads' hF_).2.2 (ji2) (of_eq_true pi441) (of_eq_true qi441)
   cases ea_
   refine value_ (w1 := w') (v := .string (rdOf ByteArray.empty y438 (ji2))) (by rfl) rfl ?_ ?_
   ·go_simp
    (try simp only [i64_w])
    try rfl
   refine hK.out _ _ ⟨v439, adz_v439, m4_, (by rw [ha.out]; exact putSel_upk 4 hb_ rfl rfl rfl), Q_BK437, Q_HB, Q_HO440, Q_HA_HO440, Q_X4_⟩
  refine steps_cons ?_ ?_
  ·rintro b a w' ⟨v439, adz_v439, m4_, ha, Q_BK437, Q_HB, Q_HO440, Q_HA_HO440, Q_X4_⟩ hb_ hon hoff
   refine ⟨_, rfl, fun K hK => ?_⟩
   have e9 : a.tmps[9]? = some (.pointer (some ⟨gb437, 0, none⟩)) := by rw [ha]; exact (putSel_off rfl).trans rfl
   replace ha := aU ha
   have BK437 := aU Q_BK437
   have HB := aU Q_HB
   have hc0_ : w'.cell? ⟨gb437, 0, none⟩ = some (.int .i64 a0_0) := (blk_cell BK437.out 0).trans rfl
   have hc1_ : w'.cell? ⟨gb437, 1, none⟩ = some (.int .i64 a0_1) := (blk_cell BK437.out 1).trans rfl
   refine value_ (w1 := w') (v := .int .i64 a0_0) (by rfl) rfl ?_ ?_
   ·go_simp
    (try simp only [i64_w])
    try rfl
   refine hK.out _ _ ⟨v439, adz_v439, m4_, (by rw [ha.out]; exact putSel_upk 5 hb_ rfl rfl rfl), Q_BK437, Q_HB, Q_HO440, Q_HA_HO440, Q_X4_⟩
  refine steps_cons ?_ ?_
  ·rintro b a w' ⟨v439, adz_v439, m4_, ha, Q_BK437, Q_HB, Q_HO440, Q_HA_HO440, Q_X4_⟩ hb_ hon hoff
   refine ⟨_, rfl, fun K hK => ?_⟩
   have e10 : a.tmps[10]? = some (.int .i64 a0_0) := by rw [ha]; exact putSel_on (e := (7, 10, .int .i64 a0_0)) 5 rfl rfl (hon 7 (by kernel_rfl)) rfl
   replace ha := aU ha
   have BK437 := aU Q_BK437
   have HB := aU Q_HB
   refine goes_ Tryz.func126 (by kernel_rfl) rfl #[.int .i64 a0_0] (by rfl) rfl rfl (by first | (simp only [List.map_toArray, List.map_cons, List.map_nil, Act.eval, Array.getD_eq_getD_getElem?, Option.getD_some, e10]; done) | (simp only [List.map_toArray, List.map_cons, List.map_nil, Act.eval, Array.getD_eq_getD_getElem?, Option.getD_some, e10]; rfl)) ?_
   with_reducible refine (spec_l1Num.calls k a0_0 t442 _ A5.out).mono ?_
   rintro e w9 ⟨rfl, hb⟩
   refine ⟨_, rfl, ?_⟩
   have n0_ := bbU BK437 hb
   have n1_ := bsU hb
   have z_HO440 := fun (h0_ : b 0 = true) => (show Kd.R Kd.string 9 w9 w.heap.size (fun _ => True) v439 y438 from by first | exact (Kd.R_below (by (with_reducible repeat (first | apply Kd.R_alloc | apply Kd.R_drewN | apply Kd.R_drew)); exact (Q_HO440 h0_)) hb) | exact Kd.R_mono (Kd.R_below (by (with_reducible repeat (first | apply Kd.R_alloc | apply Kd.R_drewN | apply Kd.R_drew)); exact (Q_HO440 h0_)) hb) (fun _ h_ => by first | trivial | exact h_ | exact h_.1))
   clear BK437
   clear HB
   have BK437 := n0_
   have HB := n1_
   clear n0_ n1_
   (try clear hb)
   refine hK.out _ _ ⟨v439, adz_v439, m4_, (by rw [ha.out]; exact putSel_upk 6 hb_ rfl rfl rfl), bkU, hbU, z_HO440, Q_HA_HO440, Q_X4_⟩
  refine steps_cons ?_ ?_
  ·rintro b a w' ⟨v439, adz_v439, m4_, ha, Q_BK437, Q_HB, Q_HO440, Q_HA_HO440, Q_X4_⟩ hb_ hon hoff
   refine ⟨_, rfl, fun K hK => ?_⟩
   have e8 : a.tmps[8]? = some (.string (rdOf ByteArray.empty y438 (ji2))) := by rw [ha]; exact putSel_on (e := (5, 8, .string (rdOf ByteArray.empty y438 (ji2)))) 4 rfl rfl (hon 5 (by kernel_rfl)) rfl
   have e11 : a.tmps[11]? = some (.string t442) := by rw [ha]; exact putSel_on (e := (8, 11, .string t442)) 6 rfl rfl (hon 8 (by kernel_rfl)) rfl
   replace ha := aU ha
   have BK437 := aU Q_BK437
   have HB := aU Q_HB
   have HO440 := aU (Q_HO440 (hon 0 (by kernel_rfl)))
   have HA_HO440 := aU (Q_HA_HO440 (hon 0 (by kernel_rfl)))
   refine value_ (w1 := w') (v := .string ((rdOf ByteArray.empty y438 (ji2)) ++ t442)) (by rfl) rfl ?_ ?_
   ·go_simp
    (try simp only [i64_w])
    try rfl
   refine hK.out _ _ ⟨v439, adz_v439, m4_, (by rw [ha.out]; exact putSel_upk 7 hb_ rfl rfl rfl), Q_BK437, Q_HB, Q_HO440, Q_HA_HO440, Q_X4_⟩
  refine steps_cons ?_ ?_
  ·rintro b a w' ⟨v439, adz_v439, m4_, ha, Q_BK437, Q_HB, Q_HO440, Q_HA_HO440, Q_X4_⟩ hb_ hon hoff
   refine ⟨_, rfl, fun K hK => ?_⟩
   have e12 : a.tmps[12]? = some (.string ((rdOf ByteArray.empty y438 (ji2)) ++ t442)) := by rw [ha]; exact putSel_on (e := (9, 12, .string ((rdOf ByteArray.empty y438 (ji2)) ++ t442))) 7 rfl rfl (hon 9 (by kernel_rfl)) rfl
   replace ha := aU ha
   have BK437 := aU Q_BK437
   have HB := aU Q_HB
   have HO440 := aU (Q_HO440 (hon 0 (by kernel_rfl)))
   have HA_HO440 := aU (Q_HA_HO440 (hon 0 (by kernel_rfl)))
   refine value_ (w1 := w') (v := .string ((rdOf ByteArray.empty y438 (ji2)) ++ t442)) (by rfl) rfl ?_ ?_
   ·go_simp
    (try simp only [i64_w])
    try rfl
   refine hK.out _ _ ⟨v439, adz_v439, m4_, (by rw [ha.out]; exact putSel_upk 8 hb_ rfl rfl rfl), Q_BK437, Q_HB, Q_HO440, Q_HA_HO440, Q_X4_⟩
  exact steps_nil
 rintro b a w13 hall ⟨v439, adz_v439, m4_, ha, Q_BK437, Q_HB, Q_HO440, Q_HA_HO440, Q_X4_⟩
 clear BK437 HB
 have hb0_ := hall 0 (by kernel_rfl)
 have hb2_ := hall 2 (by kernel_rfl)
 have hb3_ := hall 3 (by kernel_rfl)
 have hb4_ := hall 4 (by kernel_rfl)
 have hb5_ := hall 5 (by kernel_rfl)
 have hb7_ := hall 7 (by kernel_rfl)
 have hb8_ := hall 8 (by kernel_rfl)
 have hb9_ := hall 9 (by kernel_rfl)
 have hb10_ := hall 10 (by kernel_rfl)
 subst ha
 obtain rfl := Q_X4_ hb4_
 simp only [putSel, hb0_, hb2_, hb3_, hb4_, hb5_, hb7_, hb8_, hb9_, hb10_, if_true, Act.put, List.setIfInBounds_toArray, List.set_cons_zero, List.set_cons_succ]
 have BK437 := aU Q_BK437
 clear Q_BK437
 have HB := aU Q_HB
 clear Q_HB
 have HO440 := aU (Q_HO440 hb0_)
 clear Q_HO440
 have HA_HO440 := aU (Q_HA_HO440 hb0_)
 clear Q_HA_HO440
 clear hall hb0_ hb2_ hb3_ hb4_ hb5_ hb7_ hb8_ hb9_ hb10_
 obtain ⟨co14, eo14⟩ := HA_HO440.out
 clear HA_HO440
 subst eo14
 try go_wp2
 go_ret
 exact ⟨by first | rfl | (simp [errW_none, errW_some] <;> rfl) | (simp only [← hji2]; first | rfl | (simp [errW_none, errW_some] <;> rfl)) | (simp [*, errW_none, errW_some] <;> rfl), hbU⟩
end Go.Proofs.YtcmlmjgoidpabaaGreatDoor.MFnDartsPlayed

