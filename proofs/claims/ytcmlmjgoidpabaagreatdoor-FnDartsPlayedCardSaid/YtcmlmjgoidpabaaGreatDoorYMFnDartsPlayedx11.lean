/- Walks of the functions that the law reaches: each comes to just what the function that is told of it tells, for all arguments. -/
import Derived.Test.YtcmlmjgoidpabaaGreatDoorYMFnDartsPlayedx10
namespace Go.Proofs.YtcmlmjgoidpabaaGreatDoor.MFnDartsPlayed
open Go.RowKit Go.Proofs.YtcmlmjgoidpabaaGreatDoorW.PrintWords Go.Proofs.YtcmlmjgoidpabaaGreatDoorW.PrintLast Go.Proofs.YtcmlmjgoidpabaaGreatDoorW.PrintMore
attribute [local go_sem] max2_int min2_int max_two min_two max_three min_three max_four min_four
set_option linter.unusedVariables false
set_option linter.unusedSimpArgs false
def spec_daTexts.l0 : Nat → ByteArray → List (S52) → Int → Int → Option (ByteArray)
 | 0, _, _, _, _ => none
 | k + 1, x3, x6, x7, x8 => if x8 < x7 then (if 0 ≤ x8 then (if x8 < (x6.length : Int) then (if x8 > 0 then (if x3.size + 1 ≤ 9223372036854775807 then ((spec_daText.f k ((rd_T52 x6 x8).f0) ((rd_T52 x6 x8).f1)).bind fun t445 => (if (x3 ++ (⟨#[45]⟩ : ByteArray)).size + t445.size ≤ 9223372036854775807 then (spec_daTexts.l0 k ((x3 ++ (⟨#[45]⟩ : ByteArray)) ++ t445) x6 x7 (wrap64 (x8 + 1))) else (none))) else (none)) else ((spec_daText.f k ((rd_T52 x6 x8).f0) ((rd_T52 x6 x8).f1)).bind fun t446 => (if x3.size + t446.size ≤ 9223372036854775807 then (spec_daTexts.l0 k (x3 ++ t446) x6 x7 (wrap64 (x8 + 1))) else (none)))) else (none)) else (none)) else (some x3)
def spec_daTexts.f (k : Nat) (l0 : List (S52)) : Option (ByteArray) := spec_daTexts.l0 k (⟨#[]⟩ : ByteArray) l0 (l0.length : Int) 0
theorem spec_daTexts.mono_l : ∀ k, (∀ y0 y1 y2 y3, LeO (spec_daTexts.l0 k y0 y1 y2 y3) (spec_daTexts.l0 (k + 1) y0 y1 y2 y3))
 | 0 => fun _ _ _ _ r h => by simp [spec_daTexts.l0] at h
 | k + 1 => by
  have ih0 := spec_daTexts.mono_l k
  all_goals intros
  all_goals first | unfold spec_daTexts.l0
  all_goals repeat' first
  | (with_reducible exact ih0 _ _ _ _)
  | (with_reducible exact spec_daText.mono _ _ _)
  | (with_reducible exact LeO.refl _)
  | (with_reducible exact LeO.none _)
  | (with_reducible refine LeO.ite ?_ ?_)
  | (with_reducible refine LeO.bind ?_ (fun _ => ?_))
theorem spec_daTexts.mono : ∀ a0 k, LeO (spec_daTexts.f k a0) (spec_daTexts.f (k + 1) a0) := by
 intro a0 k
 have ih0 := spec_daTexts.mono_l k
 unfold spec_daTexts.f
 repeat' first
   | (with_reducible exact ih0 _ _ _ _)
   | (with_reducible exact spec_daText.mono _ _ _)
   | (with_reducible exact LeO.refl _)
   | (with_reducible exact LeO.none _)
   | (with_reducible refine LeO.ite ?_ ?_)
   | (with_reducible refine LeO.bind ?_ (fun _ => ?_))
set_option maxHeartbeats 8000000 in
set_option maxRecDepth 100000 in
theorem spec_daTexts.calls (k : Nat) (A0 : Option Addr) (c0 : Nat) (l0 : List (S52)) (r : ByteArray) (w : World) (hr0 : Kd.C k52 w A0 l0.length l0) (hc0 : l0.length ≤ c0) (h : spec_daTexts.f k l0 = some r) :
  Calls Tryz.prog 112 #[.slice A0 l0.length c0] w fun e w' => e = .returned (.string r) ∧ Below w.heap.size w w' := by
 have hu52 := Tryz.underlying52
 have HR0 := aU hr0
 have HC0 := aU hc0
 clear hr0 hc0
 have HB := aU (Below.refl w.heap.size w)
 have H : (spec_daTexts.l0 k (⟨#[]⟩ : ByteArray) l0 (l0.length : Int) 0) = some r := h
 clear h
 have H' := aU H
 clear H
 go_enter Tryz.func112, Tryz.ntmps112
 go_wp2
 go_loopg [3, 8] k (fun kq v3 v8 w' => ∃ (x3_1 : ByteArray) (x8_1 : Int), v3 = .string x3_1 ∧ v8 = .int .i64 x8_1 ∧ Aside0 (spec_daTexts.l0 kq x3_1 l0 (l0.length : Int) x8_1 = some r) ∧ Aside0 (kq ≤ k) ∧ Aside0 (Below w.heap.size w w'))
 case atStart => exact ⟨((⟨#[]⟩ : ByteArray)), (0), eqU, eqU, H', ⟨Nat.le_refl _⟩, ⟨hbU⟩⟩
 case round =>
  clear H'
  obtain ⟨x3_1, x8_1, rfl, rfl, HA, HK1, HB⟩ := hrel
  cases gk with
  | zero => exact absurd HA.out (by simp [spec_daTexts.l0])
  | succ k1 =>
   have H := HA.out
   clear HA
   simp only [spec_daTexts.l0] at H
   by_cases c2 : x8_1 < (l0.length : Int)
   ·rw [if_pos c2] at H
    have c2b0 : decide (x8_1 < (l0.length : Int)) = true := decide_eq_true c2
    clear c2
    replace H := ifS H
    obtain ⟨c3, H⟩ := H
    have c3b0 : decide (0 ≤ x8_1) = true := decide_eq_true c3
    clear c3
    replace H := ifS H
    obtain ⟨c4, H⟩ := H
    have c4b0 : decide (x8_1 < (l0.length : Int)) = true := decide_eq_true c4
    clear c4
    by_cases c5 : x8_1 > 0
    ·rw [if_pos c5] at H
     have c5b0 : decide (0 < x8_1) = true := decide_eq_true c5
     clear c5
     replace H := ifS H
     obtain ⟨c6, H⟩ := H
     have c6b0 := eq_true c6
     have c6b1 : decide (x3_1.size + 1 ≤ 9223372036854775807) = true := decide_eq_true c6
     try have c6b2 : (9223372036854775807 < x3_1.size + 1) = False := eq_false (Nat.not_lt.2 c6)
     replace H := bindS H
     obtain ⟨t445, A7, H⟩ := H
     (try dsimp only at H)
     replace H := ifS H
     obtain ⟨c8, H⟩ := H
     have c8b0 := eq_true c8
     have c8b1 : decide ((x3_1 ++ (⟨#[45]⟩ : ByteArray)).size + t445.size ≤ 9223372036854775807) = true := decide_eq_true c8
     try have c8b2 : (9223372036854775807 < (x3_1 ++ (⟨#[45]⟩ : ByteArray)).size + t445.size) = False := eq_false (Nat.not_lt.2 c8)
     have c8b3 : (9223372036854775807 < x3_1.size + 1 + t445.size) = False := eq_false (Nat.not_lt.2 (by have h_ := c8; rw [ByteArray.size_append] at h_; exact h_))
     have H' := aU H
     clear H
     have p443 : 0 ≤ (x8_1 : Int) := dU
     have q443 : x8_1 < (l0.length : Int) := dU
     obtain ⟨ad443, e443, hx443_0, hx443_1⟩ := at_T52 HR0.out x8_1 p443 q443
     cases e443
     replace hx443_0 := (HB.out.cell (World.block_lt_of_cell? w _ hx443_0)).trans hx443_0
     replace hx443_1 := (HB.out.cell (World.block_lt_of_cell? w _ hx443_1)).trans hx443_1
     replace p443 := eq_true p443
     replace q443 := eq_true q443
     go_wp2_with (first | ((with_reducible refine gdU 5 rfl ?_); refine bxU (cs := #[.int .i64 0, .int .i64 0]) (t := 52) ?_; intro gb444 hg w9 hbox hb; have BK444 := aU (hbox); have GW444 := geU hg; have GE444 := geU hg; replace HB := bsU hb; clear hb hbox hg; obtain ⟨hcz10_0, hcz10_1, hfz10_0, hfz10_1⟩ := b2U BK444) | ((with_reducible refine gcU 118 rfl ?_); refine goU (some 19) Tryz.func118 #[.agg #[.int .i64 ((rd_T52 l0 x8_1).f0), .int .i64 ((rd_T52 l0 x8_1).f1)]] ?_; (with_reducible refine (spec_daText.calls k1 ((rd_T52 l0 x8_1).f0) ((rd_T52 l0 x8_1).f1) t445 _ A7.out).mono ?_); rintro e w11 ⟨rfl, hb⟩; refine ⟨_, rfl, ?_⟩; replace BK444 := aU (blk_below (g := gb444) (o := .cells #[.int .i64 ((rd_T52 l0 x8_1).f0), .int .i64 ((rd_T52 l0 x8_1).f1)] 52 (0, 0)) bkU hb); replace HB := bsU hb; (try clear hb)))
     go_roundg k1
     case measure => have := HK1.out; omega
     case rel => exact ⟨((x3_1 ++ (⟨#[45]⟩ : ByteArray)) ++ t445), (wrap64 (x8_1 + 1)), eqU, eqU, H', ⟨by have := HK1.out; omega⟩, ⟨hbU⟩⟩
    ·rw [if_neg c5] at H
     have c5b0 : decide (0 < x8_1) = false := decide_eq_false c5
     clear c5
     replace H := bindS H
     obtain ⟨t446, A12, H⟩ := H
     (try dsimp only at H)
     replace H := ifS H
     obtain ⟨c13, H⟩ := H
     have c13b0 := eq_true c13
     have c13b1 : decide (x3_1.size + t446.size ≤ 9223372036854775807) = true := decide_eq_true c13
     try have c13b2 : (9223372036854775807 < x3_1.size + t446.size) = False := eq_false (Nat.not_lt.2 c13)
     have H' := aU H
     clear H
     have p443 : 0 ≤ (x8_1 : Int) := dU
     have q443 : x8_1 < (l0.length : Int) := dU
     obtain ⟨ad443, e443, hx443_0, hx443_1⟩ := at_T52 HR0.out x8_1 p443 q443
     cases e443
     replace hx443_0 := (HB.out.cell (World.block_lt_of_cell? w _ hx443_0)).trans hx443_0
     replace hx443_1 := (HB.out.cell (World.block_lt_of_cell? w _ hx443_1)).trans hx443_1
     replace p443 := eq_true p443
     replace q443 := eq_true q443
     go_wp2_with (first | ((with_reducible refine gdU 5 rfl ?_); refine bxU (cs := #[.int .i64 0, .int .i64 0]) (t := 52) ?_; intro gb444 hg w14 hbox hb; have BK444 := aU (hbox); have GW444 := geU hg; have GE444 := geU hg; replace HB := bsU hb; clear hb hbox hg; obtain ⟨hcz15_0, hcz15_1, hfz15_0, hfz15_1⟩ := b2U BK444) | ((with_reducible refine gcU 118 rfl ?_); refine goU (some 19) Tryz.func118 #[.agg #[.int .i64 ((rd_T52 l0 x8_1).f0), .int .i64 ((rd_T52 l0 x8_1).f1)]] ?_; (with_reducible refine (spec_daText.calls k1 ((rd_T52 l0 x8_1).f0) ((rd_T52 l0 x8_1).f1) t446 _ A12.out).mono ?_); rintro e w16 ⟨rfl, hb⟩; refine ⟨_, rfl, ?_⟩; replace BK444 := aU (blk_below (g := gb444) (o := .cells #[.int .i64 ((rd_T52 l0 x8_1).f0), .int .i64 ((rd_T52 l0 x8_1).f1)] 52 (0, 0)) bkU hb); replace HB := bsU hb; (try clear hb)))
     go_roundg k1
     case measure => have := HK1.out; omega
     case rel => exact ⟨(x3_1 ++ t446), (wrap64 (x8_1 + 1)), eqU, eqU, H', ⟨by have := HK1.out; omega⟩, ⟨hbU⟩⟩
   ·rw [if_neg c2] at H
    have c2b0 : decide (x8_1 < (l0.length : Int)) = false := decide_eq_false c2
    clear c2
    obtain rfl := Option.some.inj H
    go_wp2
    go_ret
    exact ⟨errU, hbU⟩
def spec_DartsText.f (k : Nat) (l0 : List (S52)) : Option (ByteArray × Bool) := (spec_daList.f k l0 1 9).bind fun t447 => (if t447 = true then ((spec_daTexts.f k l0).bind fun t448 => (some (t448, true))) else (some ((⟨#[]⟩ : ByteArray), false)))
theorem spec_DartsText.mono : ∀ a0 k, LeO (spec_DartsText.f k a0) (spec_DartsText.f (k + 1) a0) := by
 intro a0 k
 unfold spec_DartsText.f
 repeat' first
   | (with_reducible exact spec_daList.mono _ _ _ _)
   | (with_reducible exact spec_daTexts.mono _ _)
   | (with_reducible exact LeO.refl _)
   | (with_reducible exact LeO.none _)
   | (with_reducible refine LeO.ite ?_ ?_)
   | (with_reducible refine LeO.bind ?_ (fun _ => ?_))
set_option maxHeartbeats 8000000 in
set_option maxRecDepth 100000 in
theorem spec_DartsText.calls (k : Nat) (A0 : Option Addr) (c0 : Nat) (l0 : List (S52)) (r1 : ByteArray) (r2 : Bool) (w : World) (hr0 : Kd.C k52 w A0 l0.length l0) (hc0 : l0.length ≤ c0) (h : spec_DartsText.f k l0 = some (r1, r2)) :
  Calls Tryz.prog 52 #[.slice A0 l0.length c0] w fun e w' => e = .returned (.tuple #[.string r1, .bool r2]) ∧ Below w.heap.size w w' := by
 have HR0 := aU hr0
 have HC0 := aU hc0
 clear hr0 hc0
 have HB := aU (Below.refl w.heap.size w)
 have H : ((spec_daList.f k l0 1 9).bind fun t447 => (if t447 = true then ((spec_daTexts.f k l0).bind fun t448 => (some (t448, true))) else (some ((⟨#[]⟩ : ByteArray), false)))) = some (r1, r2) := h
 clear h
 replace H := bindS H
 obtain ⟨t447, A2, H⟩ := H
 (try dsimp only at H)
 by_cases c3 : t447 = true
 ·subst c3
  rw [if_pos rfl] at H
  replace H := bindS H
  obtain ⟨t448, A4, H⟩ := H
  (try dsimp only at H)
  simp only [Option.some.injEq, Prod.mk.injEq] at H
  obtain ⟨rfl, rfl⟩ := H
  go_enter Tryz.func52, Tryz.ntmps52
  go_wp2_with (first | ((with_reducible refine gcU 109 rfl ?_); refine goU (some 5) Tryz.func109 #[.slice A0 l0.length c0, .int .i64 1, .int .i64 9] ?_; (with_reducible refine (spec_daList.calls k _ _ l0 1 9 true _ ?side1 ?side2 A2.out).mono ?_); (case side1 => repeat (first | exact HR0.out | (with_reducible refine Kd.C_alloc ?_ _) | (with_reducible refine Kd.C_drewN ?_ _) | (with_reducible refine Kd.C_drew ?_))); (case side2 => exact HC0.out); rintro e w5 ⟨rfl, hb⟩; refine ⟨_, rfl, ?_⟩; replace HB := bsU hb; (try clear hb)) | ((with_reducible refine gcU 112 rfl ?_); refine goU (some 8) Tryz.func112 #[.slice A0 l0.length c0] ?_; (with_reducible refine (spec_daTexts.calls k _ _ l0 t448 _ ?side1 ?side2 A4.out).mono ?_); (case side1 => repeat (first | exact (Kd.C_below HR0.out HB.out) | (with_reducible refine Kd.C_alloc ?_ _) | (with_reducible refine Kd.C_drewN ?_ _) | (with_reducible refine Kd.C_drew ?_))); (case side2 => exact HC0.out); rintro e w6 ⟨rfl, hb⟩; refine ⟨_, rfl, ?_⟩; replace HB := bsU hb; (try clear hb)))
  go_ret2
  exact ⟨errU, hbU⟩
 ·replace c3 := Bool.eq_false_iff.mpr c3
  subst c3
  rw [if_neg (show ¬ (false = true) by decide)] at H
  simp only [Option.some.injEq, Prod.mk.injEq] at H
  obtain ⟨rfl, rfl⟩ := H
  go_enter Tryz.func52, Tryz.ntmps52
  go_wp2_with (first | ((with_reducible refine gcU 109 rfl ?_); refine goU (some 5) Tryz.func109 #[.slice A0 l0.length c0, .int .i64 1, .int .i64 9] ?_; (with_reducible refine (spec_daList.calls k _ _ l0 1 9 false _ ?side1 ?side2 A2.out).mono ?_); (case side1 => repeat (first | exact HR0.out | (with_reducible refine Kd.C_alloc ?_ _) | (with_reducible refine Kd.C_drewN ?_ _) | (with_reducible refine Kd.C_drew ?_))); (case side2 => exact HC0.out); rintro e w7 ⟨rfl, hb⟩; refine ⟨_, rfl, ?_⟩; replace HB := bsU hb; (try clear hb)))
  go_ret2
  exact ⟨errU, hbU⟩
mutual
def spec_l1Cur_spoilt.l0 : Nat → ByteArray → ByteArray → Int → List Int → Int → Int → Option (ByteArray × Int × Int)
 | 0, _, _, _, _, _, _ => none
 | k + 1, x1, x2, x7, x1000, x1001, x1002 => if x7 > 0 then (spec_l1Cur_spoilt.j1 k x1 x2 x7 (decide ((x1.size : Int) > 0)) x1000 x1001 x1002) else (spec_l1Cur_spoilt.j1 k x1 x2 x7 false x1000 x1001 x1002)
def spec_l1Cur_spoilt.j1 : Nat → ByteArray → ByteArray → Int → Bool → List Int → Int → Int → Option (ByteArray × Int × Int)
 | 0, _, _, _, _, _, _, _ => none
 | k + 1, x1, x2, x7, x19, x1000, x1001, x1002 => if x19 = true then ((spec_l1Cur_pick.f x1000 x1001 x1002 (x1.size : Int)).bind fun bt452 => ((spec_l1Cur_pick.f x1000 bt452.2.1 bt452.2.2 (x2.size : Int)).bind fun bt455 => (if 0 ≤ bt455.1 then (if bt455.1 < (x2.size : Int) then ((some (([bt x2 bt455.1] : List Int) : List Int)).bind fun y458 => ((spec_l1Cur_pick.f x1000 bt455.2.1 bt455.2.2 3).bind fun bt461 => (if bt461.1 = 0 then (if 0 ≤ bt452.1 then (if bt452.1 ≤ (x1.size : Int) then (if (x1.extract 0 (bt452.1 : Int).toNat).size + (strOfNums y458).size ≤ 9223372036854775807 then (if ((x1.extract 0 (bt452.1 : Int).toNat) ++ (strOfNums y458)).size + (x1.extract (bt452.1 : Int).toNat x1.size).size ≤ 9223372036854775807 then (spec_l1Cur_spoilt.l0 k (((x1.extract 0 (bt452.1 : Int).toNat) ++ (strOfNums y458)) ++ (x1.extract (bt452.1 : Int).toNat x1.size)) x2 (wrap64 (x7 - 1)) x1000 bt461.2.1 bt461.2.2) else (none)) else (none)) else (none)) else (none)) else (if bt461.1 = 1 then (if 0 ≤ bt452.1 then (if bt452.1 ≤ (x1.size : Int) then (if (x1.extract 0 (bt452.1 : Int).toNat).size + (strOfNums y458).size ≤ 9223372036854775807 then (if 0 ≤ (wrap64 (bt452.1 + 1)) then (if (wrap64 (bt452.1 + 1)) ≤ (x1.size : Int) then (if ((x1.extract 0 (bt452.1 : Int).toNat) ++ (strOfNums y458)).size + (x1.extract ((wrap64 (bt452.1 + 1)) : Int).toNat x1.size).size ≤ 9223372036854775807 then (spec_l1Cur_spoilt.l0 k (((x1.extract 0 (bt452.1 : Int).toNat) ++ (strOfNums y458)) ++ (x1.extract ((wrap64 (bt452.1 + 1)) : Int).toNat x1.size)) x2 (wrap64 (x7 - 1)) x1000 bt461.2.1 bt461.2.2) else (none)) else (none)) else (none)) else (none)) else (none)) else (none)) else (if 0 ≤ bt452.1 then (if bt452.1 ≤ (x1.size : Int) then (if 0 ≤ (wrap64 (bt452.1 + 1)) then (if (wrap64 (bt452.1 + 1)) ≤ (x1.size : Int) then (if (x1.extract 0 (bt452.1 : Int).toNat).size + (x1.extract ((wrap64 (bt452.1 + 1)) : Int).toNat x1.size).size ≤ 9223372036854775807 then (spec_l1Cur_spoilt.l0 k ((x1.extract 0 (bt452.1 : Int).toNat) ++ (x1.extract ((wrap64 (bt452.1 + 1)) : Int).toNat x1.size)) x2 (wrap64 (x7 - 1)) x1000 bt461.2.1 bt461.2.2) else (none)) else (none)) else (none)) else (none)) else (none)))))) else (none)) else (none)))) else (some (x1, x1001, x1002))
end
def spec_l1Cur_spoilt.f (k : Nat) (s0_0 : List Int) (s0_1 : Int) (s0_2 : Int) (a1 : ByteArray) (a2 : ByteArray) : Option (ByteArray × Int × Int) := (spec_l1Cur_pick.f s0_0 s0_1 s0_2 2).bind fun bt449 => (spec_l1Cur_spoilt.l0 k a1 a2 (wrap64 (1 + bt449.1)) s0_0 bt449.2.1 bt449.2.2)
theorem spec_l1Cur_spoilt.mono_l : ∀ k, (∀ y0 y1 y2 y3 y4 y5, LeO (spec_l1Cur_spoilt.l0 k y0 y1 y2 y3 y4 y5) (spec_l1Cur_spoilt.l0 (k + 1) y0 y1 y2 y3 y4 y5)) ∧ (∀ y0 y1 y2 y3 y4 y5 y6, LeO (spec_l1Cur_spoilt.j1 k y0 y1 y2 y3 y4 y5 y6) (spec_l1Cur_spoilt.j1 (k + 1) y0 y1 y2 y3 y4 y5 y6))
 | 0 => ⟨fun _ _ _ _ _ _ r h => by simp [spec_l1Cur_spoilt.l0] at h, fun _ _ _ _ _ _ _ r h => by simp [spec_l1Cur_spoilt.j1] at h⟩
 | k + 1 => by
  obtain ⟨ih0, ih1⟩ := spec_l1Cur_spoilt.mono_l k
  refine ⟨?_, ?_⟩
  all_goals intros
  all_goals first | unfold spec_l1Cur_spoilt.l0 | unfold spec_l1Cur_spoilt.j1
  all_goals repeat' first
  | (with_reducible exact ih0 _ _ _ _ _ _)
  | (with_reducible exact ih1 _ _ _ _ _ _ _)
  | (with_reducible exact LeO.refl _)
  | (with_reducible exact LeO.none _)
  | (with_reducible refine LeO.ite ?_ ?_)
  | (with_reducible refine LeO.bind ?_ (fun _ => ?_))
theorem spec_l1Cur_spoilt.mono : ∀ a0 a1 a2 a3 a4 k, LeO (spec_l1Cur_spoilt.f k a0 a1 a2 a3 a4) (spec_l1Cur_spoilt.f (k + 1) a0 a1 a2 a3 a4) := by
 intro a0 a1 a2 a3 a4 k
 obtain ⟨ih0, ih1⟩ := spec_l1Cur_spoilt.mono_l k
 unfold spec_l1Cur_spoilt.f
 repeat' first
   | (with_reducible exact ih0 _ _ _ _ _ _)
   | (with_reducible exact ih1 _ _ _ _ _ _ _)
   | (with_reducible exact LeO.refl _)
   | (with_reducible exact LeO.none _)
   | (with_reducible refine LeO.ite ?_ ?_)
   | (with_reducible refine LeO.bind ?_ (fun _ => ?_))
set_option maxHeartbeats 8000000 in
set_option maxRecDepth 100000 in
theorem spec_l1Cur_spoilt.calls (k : Nat) (g : Nat) (s0_0 : List Int) (s0_1 : Int) (s0_2 : Int) (a1 : ByteArray) (a2 : ByteArray) (r1 : ByteArray) (r2 : Int) (r3 : Int) (w0 w : World) (hI : IsS78 w0 w g s0_0 s0_1 s0_2) (hB : Below w0.heap.size w0 w) (h : spec_l1Cur_spoilt.f k s0_0 s0_1 s0_2 a1 a2 = some (r1, r2, r3)) :
  Calls Tryz.prog 98 #[.pointer (some ⟨g, 0, none⟩), .string a1, .string a2] w fun e w' => e = .returned (.string r1) ∧ IsS78 w0 w' g s0_0 r2 r3 ∧ Below w0.heap.size w0 w' ∧ KeepBut w w' g none := by
 have HI0 := aU hI
 have HK := aU (KeepBut.refl w g none)
 have HL := aU hB.size
 clear hI
 have HW0 := aU hB.size
 have HB := aU hB
 clear hB
 have H : ((spec_l1Cur_pick.f s0_0 s0_1 s0_2 2).bind fun bt449 => (spec_l1Cur_spoilt.l0 k a1 a2 (wrap64 (1 + bt449.1)) s0_0 bt449.2.1 bt449.2.2)) = some (r1, r2, r3) := h
 clear h
 replace H := bindS H
 obtain ⟨⟨t449, t450, t451⟩, A4, H⟩ := H
 (try dsimp only at H)
 have H' := aU H
 clear H
 go_enter Tryz.func98, Tryz.ntmps98
 go_wp2_with (first | (go_at_call 92; (with_reducible refine (spec_l1Cur_pick.calls g s0_0 s0_1 s0_2 2 t449 t450 t451 w0 _ ?side1 ?side2 A4.out).mono ?_); (case side1 => exact isU HI0); (case side2 => exact hbU); rintro e w5 ⟨rfl, hi, hb, hk⟩; replace HK := aU (KeepBut.trans (kpU HK) hk (.inl rfl)); replace HB := aU (hb); replace HI0 := aU (hi); (try clear hi hb hk)))
 repeat (go_quiet (first | (go_at_call 92; (with_reducible refine (spec_l1Cur_pick.calls g s0_0 s0_1 s0_2 2 t449 t450 t451 w0 _ ?side1 ?side2 A4.out).mono ?_); (case side1 => exact isU HI0); (case side2 => exact hbU); rintro e w5 ⟨rfl, hi, hb, hk⟩; replace HK := aU (KeepBut.trans (kpU HK) hk (.inl rfl)); replace HB := aU (hb); replace HI0 := aU (hi); (try clear hi hb hk))); try go_wp2_with (first | (go_at_call 92; (with_reducible refine (spec_l1Cur_pick.calls g s0_0 s0_1 s0_2 2 t449 t450 t451 w0 _ ?side1 ?side2 A4.out).mono ?_); (case side1 => exact isU HI0); (case side2 => exact hbU); rintro e w5 ⟨rfl, hi, hb, hk⟩; replace HK := aU (KeepBut.trans (kpU HK) hk (.inl rfl)); replace HB := aU (hb); replace HI0 := aU (hi); (try clear hi hb hk))))
 go_loopg [1, 7] k (fun kq v1 v7 w' => ∃ (x1_1 : ByteArray) (x7_1 : Int) (x1001_1 : Int) (x1002_1 : Int), v1 = .string x1_1 ∧ v7 = .int .i64 x7_1 ∧ Aside0 (spec_l1Cur_spoilt.l0 kq x1_1 a2 x7_1 s0_0 x1001_1 x1002_1 = some (r1, r2, r3)) ∧ Aside0 (kq ≤ k) ∧ Aside0 (IsS78 w0 w' g s0_0 x1001_1 x1002_1) ∧ Aside0 (KeepBut w w' g none) ∧ Aside0 (Below w0.heap.size w0 w'))
 case atStart => exact ⟨(a1), (wrap64 (1 + t449)), (t450), (t451), eqU, eqU, H', ⟨Nat.le_refl _⟩, ⟨isU HI0⟩, ⟨by repeat (first | (with_reducible first | exact HK.out | apply KeepBut.set_ | apply keep_drewN | apply keep_drew | apply keep_alloc) | exact HK.out)⟩, ⟨hbU⟩⟩
 case round =>
  clear H'
  obtain ⟨x1_1, x7_1, x1001_1, x1002_1, rfl, rfl, HA, HK1, HI0, HK, HB⟩ := hrel
  cases gk with
  | zero => exact absurd HA.out (by simp [spec_l1Cur_spoilt.l0])
  | succ k1 =>
   have H := HA.out
   clear HA
   simp only [spec_l1Cur_spoilt.l0] at H
   have HC6 := aU H
   clear H
   go_upto_region 2 with (fail)
   repeat (go_quiet (fail); go_upto_region 2 with (fail))
   go_cut [19] (fun v19 wc => ∃ (kq : Nat) (x19_5 : Bool), v19 = .bool x19_5 ∧ Aside0 (spec_l1Cur_spoilt.j1 kq x1_1 a2 x7_1 x19_5 s0_0 x1001_1 x1002_1 = some (r1, r2, r3)) ∧ Aside0 (kq ≤ k1) ∧ Aside0 (IsS78 w0 wc g s0_0 x1001_1 x1002_1) ∧ Aside0 (KeepBut w wc g none) ∧ Aside0 (Below w0.heap.size w0 wc))
   case first =>
    have H := HC6.out
    clear HC6
    by_cases c7 : x7_1 > 0
    ·rw [if_pos c7] at H
     have c7b0 : decide (0 < x7_1) = true := decide_eq_true c7
     clear c7
     (first | rw [c7b0] | (simp only [i64_w, i32_w]; rw [c7b0]) | skip)
     have H' := aU H
     clear H
     go_wp2
     repeat (go_quiet (fail); try go_wp2)
     go_meet
     case rel => exact ⟨_, (decide ((x1_1.size : Int) > 0)), eqU, H', ⟨by have := HK1.out; first | omega | exact Nat.le_refl _⟩, ⟨isU HI0⟩, ⟨by repeat (first | (with_reducible first | exact HK.out | apply KeepBut.set_ | apply keep_drewN | apply keep_drew | apply keep_alloc) | exact HK.out)⟩, ⟨hbU⟩⟩
    ·rw [if_neg c7] at H
     have c7b0 : decide (0 < x7_1) = false := decide_eq_false c7
     clear c7
     (first | rw [c7b0] | (simp only [i64_w, i32_w]; rw [c7b0]) | skip)
     have H' := aU H
     clear H
     go_wp2
     repeat (go_quiet (fail); try go_wp2)
     go_meet
     case rel => exact ⟨_, (false), eqU, H', ⟨by have := HK1.out; first | omega | exact Nat.le_refl _⟩, ⟨isU HI0⟩, ⟨by repeat (first | (with_reducible first | exact HK.out | apply KeepBut.set_ | apply keep_drewN | apply keep_drew | apply keep_alloc) | exact HK.out)⟩, ⟨hbU⟩⟩
   case rest =>
    clear HC6
    obtain ⟨kq, x19_5, rfl, HA, HJ5, HI0, HK, HB⟩ := hcut
    cases kq with
    | zero => exact absurd HA.out (by simp [spec_l1Cur_spoilt.j1])
    | succ kj5 =>
     have H := HA.out
     clear HA
     simp only [spec_l1Cur_spoilt.j1] at H
     by_cases c8 : x19_5 = true
     ·subst c8
      rw [if_pos rfl] at H
      replace H := bindS H
      obtain ⟨⟨t452, t453, t454⟩, A9, H⟩ := H
      (try dsimp only at H)
      replace H := bindS H
      obtain ⟨⟨t455, t456, t457⟩, A10, H⟩ := H
      (try dsimp only at H)
      replace H := ifS H
      obtain ⟨c11, H⟩ := H
      have c11b0 : decide (0 ≤ t455) = true := decide_eq_true c11
      clear c11
      replace H := ifS H
      obtain ⟨c12, H⟩ := H
      have c12b0 : decide (t455 < (a2.size : Int)) = true := decide_eq_true c12
      clear c12
      obtain ⟨y458, hy458⟩ : ∃ y_ : List Int, y_ = (([bt a2 t455] : List Int)) := ⟨_, rfl⟩
      replace H : ((spec_l1Cur_pick.f s0_0 t456 t457 3).bind fun bt461 => (if bt461.1 = 0 then (if 0 ≤ t452 then (if t452 ≤ (x1_1.size : Int) then (if (x1_1.extract 0 (t452 : Int).toNat).size + (strOfNums y458).size ≤ 9223372036854775807 then (if ((x1_1.extract 0 (t452 : Int).toNat) ++ (strOfNums y458)).size + (x1_1.extract (t452 : Int).toNat x1_1.size).size ≤ 9223372036854775807 then (spec_l1Cur_spoilt.l0 kj5 (((x1_1.extract 0 (t452 : Int).toNat) ++ (strOfNums y458)) ++ (x1_1.extract (t452 : Int).toNat x1_1.size)) a2 (wrap64 (x7_1 - 1)) s0_0 bt461.2.1 bt461.2.2) else (none)) else (none)) else (none)) else (none)) else (if bt461.1 = 1 then (if 0 ≤ t452 then (if t452 ≤ (x1_1.size : Int) then (if (x1_1.extract 0 (t452 : Int).toNat).size + (strOfNums y458).size ≤ 9223372036854775807 then (if 0 ≤ (wrap64 (t452 + 1)) then (if (wrap64 (t452 + 1)) ≤ (x1_1.size : Int) then (if ((x1_1.extract 0 (t452 : Int).toNat) ++ (strOfNums y458)).size + (x1_1.extract ((wrap64 (t452 + 1)) : Int).toNat x1_1.size).size ≤ 9223372036854775807 then (spec_l1Cur_spoilt.l0 kj5 (((x1_1.extract 0 (t452 : Int).toNat) ++ (strOfNums y458)) ++ (x1_1.extract ((wrap64 (t452 + 1)) : Int).toNat x1_1.size)) a2 (wrap64 (x7_1 - 1)) s0_0 bt461.2.1 bt461.2.2) else (none)) else (none)) else (none)) else (none)) else (none)) else (none)) else (if 0 ≤ t452 then (if t452 ≤ (x1_1.size : Int) then (if 0 ≤ (wrap64 (t452 + 1)) then (if (wrap64 (t452 + 1)) ≤ (x1_1.size : Int) then (if (x1_1.extract 0 (t452 : Int).toNat).size + (x1_1.extract ((wrap64 (t452 + 1)) : Int).toNat x1_1.size).size ≤ 9223372036854775807 then (spec_l1Cur_spoilt.l0 kj5 ((x1_1.extract 0 (t452 : Int).toNat) ++ (x1_1.extract ((wrap64 (t452 + 1)) : Int).toNat x1_1.size)) a2 (wrap64 (x7_1 - 1)) s0_0 bt461.2.1 bt461.2.2) else (none)) else (none)) else (none)) else (none)) else (none))))) = some (r1, r2, r3) := by first | (rw [hy458]; with_reducible exact H) | (have H2_ := (Option.bind_some _ _).symm.trans H; rw [hy458]; with_reducible exact H2_) | (have H2_ := (Option.bind_some _ _).symm.trans H; with_reducible exact H2_) | with_reducible exact H | (rw [hy458]; exact H) | exact H
      have Ny458 := aU hy458
      clear hy458
      replace H := bindS H
      obtain ⟨⟨t461, t462, t463⟩, A14, H⟩ := H
      (try dsimp only at H)
      by_cases c15 : t461 = 0
      ·rw [if_pos c15] at H
       have c15b0 : (t461 == 0) = true := beq_iff_eq.mpr c15
       have c15b1 : (t461 != 0) = false := bne_eq_false_iff_eq.mpr c15
       clear c15
       replace H := ifS H
       obtain ⟨c16, H⟩ := H
       have c16b0 := eq_true c16
       have c16b1 : decide (0 ≤ t452) = true := decide_eq_true c16
       clear c16
       replace H := ifS H
       obtain ⟨c17, H⟩ := H
       have c17b0 := eq_true c17
       have c17b1 : decide (t452 ≤ (x1_1.size : Int)) = true := decide_eq_true c17
       clear c17
       replace H := ifS H
       obtain ⟨c18, H⟩ := H
       have c18b0 := eq_true c18
       have c18b1 : decide ((x1_1.extract 0 (t452 : Int).toNat).size + (strOfNums y458).size ≤ 9223372036854775807) = true := decide_eq_true c18
       try have c18b2 : (9223372036854775807 < (x1_1.extract 0 (t452 : Int).toNat).size + (strOfNums y458).size) = False := eq_false (Nat.not_lt.2 c18)
       have c19b0 := eq_true (dU : 0 ≤ t452)
       have c20b0 := eq_true (dU : t452 ≤ (x1_1.size : Int))
       replace H := ifS H
       obtain ⟨c21, H⟩ := H
       have c21b0 := eq_true c21
       have c21b1 : decide (((x1_1.extract 0 (t452 : Int).toNat) ++ (strOfNums y458)).size + (x1_1.extract (t452 : Int).toNat x1_1.size).size ≤ 9223372036854775807) = true := decide_eq_true c21
       try have c21b2 : (9223372036854775807 < ((x1_1.extract 0 (t452 : Int).toNat) ++ (strOfNums y458)).size + (x1_1.extract (t452 : Int).toNat x1_1.size).size) = False := eq_false (Nat.not_lt.2 c21)
       have H' := aU H
       clear H
       go_wp2_with (first | (go_at_call 92; (with_reducible refine (spec_l1Cur_pick.calls g s0_0 x1001_1 x1002_1 (x1_1.size : Int) t452 t453 t454 w0 _ ?side1 ?side2 A9.out).mono ?_); (case side1 => exact isU HI0); (case side2 => exact hbU); rintro e w22 ⟨rfl, hi, hb, hk⟩; replace HK := aU (KeepBut.trans (kpU HK) hk (.inl rfl)); replace HB := aU (hb); replace HI0 := aU (hi); (try clear hi hb hk)) | (go_at_call 92; (with_reducible refine (spec_l1Cur_pick.calls g s0_0 t453 t454 (a2.size : Int) t455 t456 t457 w0 _ ?side1 ?side2 A10.out).mono ?_); (case side1 => exact isU HI0); (case side2 => exact hbU); rintro e w23 ⟨rfl, hi, hb, hk⟩; replace HK := aU (KeepBut.trans (kpU HK) hk (.inl rfl)); replace HB := aU (hb); replace HI0 := aU (hi); (try clear hi hb hk); have p13 : 0 ≤ (t455 : Int) := dU; have q13 : t455 < (a2.size : Int) := dU; have hx13 := bt_at a2 t455; replace p13 := eq_true p13; replace q13 := eq_true q13) | ((with_reducible refine gdU 32 rfl ?_); (try (refine gate_guard (by rfl) ?_; dsimp only)); refine Kd.R_lit (Kd.int .u8) _ 5 ?hg (N := 32) ?hd (xs := ([bt a2 t455] : List Int)) (inner := [.int .u8 (bt a2 t455)]) (ok := fun _ => True) (okp := fun _ => True) ?hr ?hp (fun _ hk => hk) trivial (Below.refl _ _) (Nat.le_refl _) (by simp) ?_; (case hd => rfl); (case hg => rfl); (case hr => first | (go_simp; done) | (go_simp; rfl)); (case hp => exact (Reps.one (show Kd.M (Kd.int .u8) _ _ _ (bt a2 t455) [.int .u8 (bt a2 t455)] from rfl) (Reps.none _ _))); intro v459 w24 ho25 hb hg_ hnew_; clear hg_ hnew_; (first | rw [← Ny458.out] at ho25 | (simp only [Int.reduceToNat] at ho25; rw [← Ny458.out] at ho25)); have HO460 := aU (Kd.R_lower ho25 (keep_size (w := w) (g := g) (row := none) (kpU HK))); replace HI0 := aU (IsS78.below (isU HI0) hb); replace HK := aU (KeepBut.trans (kpU HK) (KeepBut.of_below hb g none) (.inl rfl)); replace HB := bsU hb; clear hb ho25; have hcv26 := own_string (P := Tryz.prog) Tryz.underlying22 Tryz.underlying5 Tryz.underlying9 (Kd.own_of_R HO460.out)) | (go_at_call 92; (with_reducible refine (spec_l1Cur_pick.calls g s0_0 t456 t457 3 t461 t462 t463 w0 _ ?side1 ?side2 A14.out).mono ?_); (case side1 => exact isU HI0); (case side2 => exact hbU); rintro e w27 ⟨rfl, hi, hb, hk⟩; replace HO460 := aU (Kd.R_mono (Kd.R_keep (IsS78.apart (show IsS78 w0 _ g s0_0 t456 t457 from isU HI0) (roU HO460) (by decide)) hk (fun _ h => h.2)) (fun _ h => h.1)); replace HK := aU (KeepBut.trans (kpU HK) hk (.inl rfl)); replace HB := aU (hb); replace HI0 := aU (hi); (try clear hi hb hk)))
       repeat (go_quiet (first | (go_at_call 92; (with_reducible refine (spec_l1Cur_pick.calls g s0_0 x1001_1 x1002_1 (x1_1.size : Int) t452 t453 t454 w0 _ ?side1 ?side2 A9.out).mono ?_); (case side1 => exact isU HI0); (case side2 => exact hbU); rintro e w22 ⟨rfl, hi, hb, hk⟩; replace HK := aU (KeepBut.trans (kpU HK) hk (.inl rfl)); replace HB := aU (hb); replace HI0 := aU (hi); (try clear hi hb hk)) | (go_at_call 92; (with_reducible refine (spec_l1Cur_pick.calls g s0_0 t453 t454 (a2.size : Int) t455 t456 t457 w0 _ ?side1 ?side2 A10.out).mono ?_); (case side1 => exact isU HI0); (case side2 => exact hbU); rintro e w23 ⟨rfl, hi, hb, hk⟩; replace HK := aU (KeepBut.trans (kpU HK) hk (.inl rfl)); replace HB := aU (hb); replace HI0 := aU (hi); (try clear hi hb hk); have p13 : 0 ≤ (t455 : Int) := dU; have q13 : t455 < (a2.size : Int) := dU; have hx13 := bt_at a2 t455; replace p13 := eq_true p13; replace q13 := eq_true q13) | ((with_reducible refine gdU 32 rfl ?_); (try (refine gate_guard (by rfl) ?_; dsimp only)); refine Kd.R_lit (Kd.int .u8) _ 5 ?hg (N := 32) ?hd (xs := ([bt a2 t455] : List Int)) (inner := [.int .u8 (bt a2 t455)]) (ok := fun _ => True) (okp := fun _ => True) ?hr ?hp (fun _ hk => hk) trivial (Below.refl _ _) (Nat.le_refl _) (by simp) ?_; (case hd => rfl); (case hg => rfl); (case hr => first | (go_simp; done) | (go_simp; rfl)); (case hp => exact (Reps.one (show Kd.M (Kd.int .u8) _ _ _ (bt a2 t455) [.int .u8 (bt a2 t455)] from rfl) (Reps.none _ _))); intro v459 w24 ho25 hb hg_ hnew_; clear hg_ hnew_; (first | rw [← Ny458.out] at ho25 | (simp only [Int.reduceToNat] at ho25; rw [← Ny458.out] at ho25)); have HO460 := aU (Kd.R_lower ho25 (keep_size (w := w) (g := g) (row := none) (kpU HK))); replace HI0 := aU (IsS78.below (isU HI0) hb); replace HK := aU (KeepBut.trans (kpU HK) (KeepBut.of_below hb g none) (.inl rfl)); replace HB := bsU hb; clear hb ho25; have hcv26 := own_string (P := Tryz.prog) Tryz.underlying22 Tryz.underlying5 Tryz.underlying9 (Kd.own_of_R HO460.out)) | (go_at_call 92; (with_reducible refine (spec_l1Cur_pick.calls g s0_0 t456 t457 3 t461 t462 t463 w0 _ ?side1 ?side2 A14.out).mono ?_); (case side1 => exact isU HI0); (case side2 => exact hbU); rintro e w27 ⟨rfl, hi, hb, hk⟩; replace HO460 := aU (Kd.R_mono (Kd.R_keep (IsS78.apart (show IsS78 w0 _ g s0_0 t456 t457 from isU HI0) (roU HO460) (by decide)) hk (fun _ h => h.2)) (fun _ h => h.1)); replace HK := aU (KeepBut.trans (kpU HK) hk (.inl rfl)); replace HB := aU (hb); replace HI0 := aU (hi); (try clear hi hb hk))); try go_wp2_with (first | (go_at_call 92; (with_reducible refine (spec_l1Cur_pick.calls g s0_0 x1001_1 x1002_1 (x1_1.size : Int) t452 t453 t454 w0 _ ?side1 ?side2 A9.out).mono ?_); (case side1 => exact isU HI0); (case side2 => exact hbU); rintro e w22 ⟨rfl, hi, hb, hk⟩; replace HK := aU (KeepBut.trans (kpU HK) hk (.inl rfl)); replace HB := aU (hb); replace HI0 := aU (hi); (try clear hi hb hk)) | (go_at_call 92; (with_reducible refine (spec_l1Cur_pick.calls g s0_0 t453 t454 (a2.size : Int) t455 t456 t457 w0 _ ?side1 ?side2 A10.out).mono ?_); (case side1 => exact isU HI0); (case side2 => exact hbU); rintro e w23 ⟨rfl, hi, hb, hk⟩; replace HK := aU (KeepBut.trans (kpU HK) hk (.inl rfl)); replace HB := aU (hb); replace HI0 := aU (hi); (try clear hi hb hk); have p13 : 0 ≤ (t455 : Int) := dU; have q13 : t455 < (a2.size : Int) := dU; have hx13 := bt_at a2 t455; replace p13 := eq_true p13; replace q13 := eq_true q13) | ((with_reducible refine gdU 32 rfl ?_); (try (refine gate_guard (by rfl) ?_; dsimp only)); refine Kd.R_lit (Kd.int .u8) _ 5 ?hg (N := 32) ?hd (xs := ([bt a2 t455] : List Int)) (inner := [.int .u8 (bt a2 t455)]) (ok := fun _ => True) (okp := fun _ => True) ?hr ?hp (fun _ hk => hk) trivial (Below.refl _ _) (Nat.le_refl _) (by simp) ?_; (case hd => rfl); (case hg => rfl); (case hr => first | (go_simp; done) | (go_simp; rfl)); (case hp => exact (Reps.one (show Kd.M (Kd.int .u8) _ _ _ (bt a2 t455) [.int .u8 (bt a2 t455)] from rfl) (Reps.none _ _))); intro v459 w24 ho25 hb hg_ hnew_; clear hg_ hnew_; (first | rw [← Ny458.out] at ho25 | (simp only [Int.reduceToNat] at ho25; rw [← Ny458.out] at ho25)); have HO460 := aU (Kd.R_lower ho25 (keep_size (w := w) (g := g) (row := none) (kpU HK))); replace HI0 := aU (IsS78.below (isU HI0) hb); replace HK := aU (KeepBut.trans (kpU HK) (KeepBut.of_below hb g none) (.inl rfl)); replace HB := bsU hb; clear hb ho25; have hcv26 := own_string (P := Tryz.prog) Tryz.underlying22 Tryz.underlying5 Tryz.underlying9 (Kd.own_of_R HO460.out)) | (go_at_call 92; (with_reducible refine (spec_l1Cur_pick.calls g s0_0 t456 t457 3 t461 t462 t463 w0 _ ?side1 ?side2 A14.out).mono ?_); (case side1 => exact isU HI0); (case side2 => exact hbU); rintro e w27 ⟨rfl, hi, hb, hk⟩; replace HO460 := aU (Kd.R_mono (Kd.R_keep (IsS78.apart (show IsS78 w0 _ g s0_0 t456 t457 from isU HI0) (roU HO460) (by decide)) hk (fun _ h => h.2)) (fun _ h => h.1)); replace HK := aU (KeepBut.trans (kpU HK) hk (.inl rfl)); replace HB := aU (hb); replace HI0 := aU (hi); (try clear hi hb hk))))
       go_roundg kj5
       case measure => have := HK1.out; have := HJ5.out; omega
       case rel => exact ⟨(((x1_1.extract 0 (t452 : Int).toNat) ++ (strOfNums y458)) ++ (x1_1.extract (t452 : Int).toNat x1_1.size)), (wrap64 (x7_1 - 1)), (t462), (t463), eqU, eqU, H', ⟨by have := HK1.out; have := HJ5.out; omega⟩, ⟨isU HI0⟩, ⟨by repeat (first | (with_reducible first | exact HK.out | apply KeepBut.set_ | apply keep_drewN | apply keep_drew | apply keep_alloc) | exact HK.out)⟩, ⟨hbU⟩⟩
      ·rw [if_neg c15] at H
       have c15b0 : (t461 == 0) = false := beq_eq_false_iff_ne.mpr c15
       have c15b1 : (t461 != 0) = true := bne_iff_ne.mpr c15
       by_cases c28 : t461 = 1
       ·rw [if_pos c28] at H
        have c28b0 : (t461 == 1) = true := beq_iff_eq.mpr c28
        have c28b1 : (t461 != 1) = false := bne_eq_false_iff_eq.mpr c28
        clear c28
        replace H := ifS H
        obtain ⟨c29, H⟩ := H
        have c29b0 := eq_true c29
        have c29b1 : decide (0 ≤ t452) = true := decide_eq_true c29
        clear c29
        replace H := ifS H
        obtain ⟨c30, H⟩ := H
        have c30b0 := eq_true c30
        have c30b1 : decide (t452 ≤ (x1_1.size : Int)) = true := decide_eq_true c30
        clear c30
        replace H := ifS H
        obtain ⟨c31, H⟩ := H
        have c31b0 := eq_true c31
        have c31b1 : decide ((x1_1.extract 0 (t452 : Int).toNat).size + (strOfNums y458).size ≤ 9223372036854775807) = true := decide_eq_true c31
        try have c31b2 : (9223372036854775807 < (x1_1.extract 0 (t452 : Int).toNat).size + (strOfNums y458).size) = False := eq_false (Nat.not_lt.2 c31)
        obtain ⟨ji32, hji32⟩ : ∃ j_ : Int, (wrap64 (t452 + 1)) = j_ := ⟨_, rfl⟩
        replace H : (if 0 ≤ (ji32) then (if (ji32) ≤ (x1_1.size : Int) then (if ((x1_1.extract 0 (t452 : Int).toNat) ++ (strOfNums y458)).size + (x1_1.extract ((ji32) : Int).toNat x1_1.size).size ≤ 9223372036854775807 then (spec_l1Cur_spoilt.l0 kj5 (((x1_1.extract 0 (t452 : Int).toNat) ++ (strOfNums y458)) ++ (x1_1.extract ((ji32) : Int).toNat x1_1.size)) a2 (wrap64 (x7_1 - 1)) s0_0 t462 t463) else (none)) else (none)) else (none)) = some (r1, r2, r3) := by first | (rw [hji32] at H; exact H) | (simp only [hji32] at H ⊢; exact H)
        (try rw [hji32] at A9)
        (try rw [hji32] at A10)
        (try rw [hji32] at A14)
        have hji32w : (IntKind.i64.wrap (t452 + 1)) = ji32 := (i64_w _).trans hji32
        replace H := ifS H
        obtain ⟨c33, H⟩ := H
        have c33b0 := eq_true c33
        have c33b1 : decide (0 ≤ (ji32)) = true := decide_eq_true c33
        clear c33
        replace H := ifS H
        obtain ⟨c34, H⟩ := H
        have c34b0 := eq_true c34
        have c34b1 : decide ((ji32) ≤ (x1_1.size : Int)) = true := decide_eq_true c34
        clear c34
        replace H := ifS H
        obtain ⟨c35, H⟩ := H
        have c35b0 := eq_true c35
        have c35b1 : decide (((x1_1.extract 0 (t452 : Int).toNat) ++ (strOfNums y458)).size + (x1_1.extract ((ji32) : Int).toNat x1_1.size).size ≤ 9223372036854775807) = true := decide_eq_true c35
        try have c35b2 : (9223372036854775807 < ((x1_1.extract 0 (t452 : Int).toNat) ++ (strOfNums y458)).size + (x1_1.extract ((ji32) : Int).toNat x1_1.size).size) = False := eq_false (Nat.not_lt.2 c35)
        have H' := aU H
        clear H
        go_wp2_with (first | (go_at_call 92; (with_reducible refine (spec_l1Cur_pick.calls g s0_0 x1001_1 x1002_1 (x1_1.size : Int) t452 t453 t454 w0 _ ?side1 ?side2 A9.out).mono ?_); (case side1 => exact isU HI0); (case side2 => exact hbU); rintro e w36 ⟨rfl, hi, hb, hk⟩; replace HK := aU (KeepBut.trans (kpU HK) hk (.inl rfl)); replace HB := aU (hb); replace HI0 := aU (hi); (try clear hi hb hk)) | (go_at_call 92; (with_reducible refine (spec_l1Cur_pick.calls g s0_0 t453 t454 (a2.size : Int) t455 t456 t457 w0 _ ?side1 ?side2 A10.out).mono ?_); (case side1 => exact isU HI0); (case side2 => exact hbU); rintro e w37 ⟨rfl, hi, hb, hk⟩; replace HK := aU (KeepBut.trans (kpU HK) hk (.inl rfl)); replace HB := aU (hb); replace HI0 := aU (hi); (try clear hi hb hk); have p13 : 0 ≤ (t455 : Int) := dU; have q13 : t455 < (a2.size : Int) := dU; have hx13 := bt_at a2 t455; replace p13 := eq_true p13; replace q13 := eq_true q13) | ((with_reducible refine gdU 32 rfl ?_); (try (refine gate_guard (by rfl) ?_; dsimp only)); refine Kd.R_lit (Kd.int .u8) _ 5 ?hg (N := 32) ?hd (xs := ([bt a2 t455] : List Int)) (inner := [.int .u8 (bt a2 t455)]) (ok := fun _ => True) (okp := fun _ => True) ?hr ?hp (fun _ hk => hk) trivial (Below.refl _ _) (Nat.le_refl _) (by simp) ?_; (case hd => rfl); (case hg => rfl); (case hr => first | (go_simp; done) | (go_simp; rfl)); (case hp => exact (Reps.one (show Kd.M (Kd.int .u8) _ _ _ (bt a2 t455) [.int .u8 (bt a2 t455)] from rfl) (Reps.none _ _))); intro v459 w38 ho39 hb hg_ hnew_; clear hg_ hnew_; (first | rw [← Ny458.out] at ho39 | (simp only [Int.reduceToNat] at ho39; rw [← Ny458.out] at ho39)); have HO460 := aU (Kd.R_lower ho39 (keep_size (w := w) (g := g) (row := none) (kpU HK))); replace HI0 := aU (IsS78.below (isU HI0) hb); replace HK := aU (KeepBut.trans (kpU HK) (KeepBut.of_below hb g none) (.inl rfl)); replace HB := bsU hb; clear hb ho39; have hcv40 := own_string (P := Tryz.prog) Tryz.underlying22 Tryz.underlying5 Tryz.underlying9 (Kd.own_of_R HO460.out)) | (go_at_call 92; (with_reducible refine (spec_l1Cur_pick.calls g s0_0 t456 t457 3 t461 t462 t463 w0 _ ?side1 ?side2 A14.out).mono ?_); (case side1 => exact isU HI0); (case side2 => exact hbU); rintro e w41 ⟨rfl, hi, hb, hk⟩; replace HO460 := aU (Kd.R_mono (Kd.R_keep (IsS78.apart (show IsS78 w0 _ g s0_0 t456 t457 from isU HI0) (roU HO460) (by decide)) hk (fun _ h => h.2)) (fun _ h => h.1)); replace HK := aU (KeepBut.trans (kpU HK) hk (.inl rfl)); replace HB := aU (hb); replace HI0 := aU (hi); (try clear hi hb hk)))
        repeat (go_quiet (first | (go_at_call 92; (with_reducible refine (spec_l1Cur_pick.calls g s0_0 x1001_1 x1002_1 (x1_1.size : Int) t452 t453 t454 w0 _ ?side1 ?side2 A9.out).mono ?_); (case side1 => exact isU HI0); (case side2 => exact hbU); rintro e w36 ⟨rfl, hi, hb, hk⟩; replace HK := aU (KeepBut.trans (kpU HK) hk (.inl rfl)); replace HB := aU (hb); replace HI0 := aU (hi); (try clear hi hb hk)) | (go_at_call 92; (with_reducible refine (spec_l1Cur_pick.calls g s0_0 t453 t454 (a2.size : Int) t455 t456 t457 w0 _ ?side1 ?side2 A10.out).mono ?_); (case side1 => exact isU HI0); (case side2 => exact hbU); rintro e w37 ⟨rfl, hi, hb, hk⟩; replace HK := aU (KeepBut.trans (kpU HK) hk (.inl rfl)); replace HB := aU (hb); replace HI0 := aU (hi); (try clear hi hb hk); have p13 : 0 ≤ (t455 : Int) := dU; have q13 : t455 < (a2.size : Int) := dU; have hx13 := bt_at a2 t455; replace p13 := eq_true p13; replace q13 := eq_true q13) | ((with_reducible refine gdU 32 rfl ?_); (try (refine gate_guard (by rfl) ?_; dsimp only)); refine Kd.R_lit (Kd.int .u8) _ 5 ?hg (N := 32) ?hd (xs := ([bt a2 t455] : List Int)) (inner := [.int .u8 (bt a2 t455)]) (ok := fun _ => True) (okp := fun _ => True) ?hr ?hp (fun _ hk => hk) trivial (Below.refl _ _) (Nat.le_refl _) (by simp) ?_; (case hd => rfl); (case hg => rfl); (case hr => first | (go_simp; done) | (go_simp; rfl)); (case hp => exact (Reps.one (show Kd.M (Kd.int .u8) _ _ _ (bt a2 t455) [.int .u8 (bt a2 t455)] from rfl) (Reps.none _ _))); intro v459 w38 ho39 hb hg_ hnew_; clear hg_ hnew_; (first | rw [← Ny458.out] at ho39 | (simp only [Int.reduceToNat] at ho39; rw [← Ny458.out] at ho39)); have HO460 := aU (Kd.R_lower ho39 (keep_size (w := w) (g := g) (row := none) (kpU HK))); replace HI0 := aU (IsS78.below (isU HI0) hb); replace HK := aU (KeepBut.trans (kpU HK) (KeepBut.of_below hb g none) (.inl rfl)); replace HB := bsU hb; clear hb ho39; have hcv40 := own_string (P := Tryz.prog) Tryz.underlying22 Tryz.underlying5 Tryz.underlying9 (Kd.own_of_R HO460.out)) | (go_at_call 92; (with_reducible refine (spec_l1Cur_pick.calls g s0_0 t456 t457 3 t461 t462 t463 w0 _ ?side1 ?side2 A14.out).mono ?_); (case side1 => exact isU HI0); (case side2 => exact hbU); rintro e w41 ⟨rfl, hi, hb, hk⟩; replace HO460 := aU (Kd.R_mono (Kd.R_keep (IsS78.apart (show IsS78 w0 _ g s0_0 t456 t457 from isU HI0) (roU HO460) (by decide)) hk (fun _ h => h.2)) (fun _ h => h.1)); replace HK := aU (KeepBut.trans (kpU HK) hk (.inl rfl)); replace HB := aU (hb); replace HI0 := aU (hi); (try clear hi hb hk))); try go_wp2_with (first | (go_at_call 92; (with_reducible refine (spec_l1Cur_pick.calls g s0_0 x1001_1 x1002_1 (x1_1.size : Int) t452 t453 t454 w0 _ ?side1 ?side2 A9.out).mono ?_); (case side1 => exact isU HI0); (case side2 => exact hbU); rintro e w36 ⟨rfl, hi, hb, hk⟩; replace HK := aU (KeepBut.trans (kpU HK) hk (.inl rfl)); replace HB := aU (hb); replace HI0 := aU (hi); (try clear hi hb hk)) | (go_at_call 92; (with_reducible refine (spec_l1Cur_pick.calls g s0_0 t453 t454 (a2.size : Int) t455 t456 t457 w0 _ ?side1 ?side2 A10.out).mono ?_); (case side1 => exact isU HI0); (case side2 => exact hbU); rintro e w37 ⟨rfl, hi, hb, hk⟩; replace HK := aU (KeepBut.trans (kpU HK) hk (.inl rfl)); replace HB := aU (hb); replace HI0 := aU (hi); (try clear hi hb hk); have p13 : 0 ≤ (t455 : Int) := dU; have q13 : t455 < (a2.size : Int) := dU; have hx13 := bt_at a2 t455; replace p13 := eq_true p13; replace q13 := eq_true q13) | ((with_reducible refine gdU 32 rfl ?_); (try (refine gate_guard (by rfl) ?_; dsimp only)); refine Kd.R_lit (Kd.int .u8) _ 5 ?hg (N := 32) ?hd (xs := ([bt a2 t455] : List Int)) (inner := [.int .u8 (bt a2 t455)]) (ok := fun _ => True) (okp := fun _ => True) ?hr ?hp (fun _ hk => hk) trivial (Below.refl _ _) (Nat.le_refl _) (by simp) ?_; (case hd => rfl); (case hg => rfl); (case hr => first | (go_simp; done) | (go_simp; rfl)); (case hp => exact (Reps.one (show Kd.M (Kd.int .u8) _ _ _ (bt a2 t455) [.int .u8 (bt a2 t455)] from rfl) (Reps.none _ _))); intro v459 w38 ho39 hb hg_ hnew_; clear hg_ hnew_; (first | rw [← Ny458.out] at ho39 | (simp only [Int.reduceToNat] at ho39; rw [← Ny458.out] at ho39)); have HO460 := aU (Kd.R_lower ho39 (keep_size (w := w) (g := g) (row := none) (kpU HK))); replace HI0 := aU (IsS78.below (isU HI0) hb); replace HK := aU (KeepBut.trans (kpU HK) (KeepBut.of_below hb g none) (.inl rfl)); replace HB := bsU hb; clear hb ho39; have hcv40 := own_string (P := Tryz.prog) Tryz.underlying22 Tryz.underlying5 Tryz.underlying9 (Kd.own_of_R HO460.out)) | (go_at_call 92; (with_reducible refine (spec_l1Cur_pick.calls g s0_0 t456 t457 3 t461 t462 t463 w0 _ ?side1 ?side2 A14.out).mono ?_); (case side1 => exact isU HI0); (case side2 => exact hbU); rintro e w41 ⟨rfl, hi, hb, hk⟩; replace HO460 := aU (Kd.R_mono (Kd.R_keep (IsS78.apart (show IsS78 w0 _ g s0_0 t456 t457 from isU HI0) (roU HO460) (by decide)) hk (fun _ h => h.2)) (fun _ h => h.1)); replace HK := aU (KeepBut.trans (kpU HK) hk (.inl rfl)); replace HB := aU (hb); replace HI0 := aU (hi); (try clear hi hb hk))))
        go_roundg kj5
        case measure => have := HK1.out; have := HJ5.out; omega
        case rel => exact ⟨(((x1_1.extract 0 (t452 : Int).toNat) ++ (strOfNums y458)) ++ (x1_1.extract ((ji32) : Int).toNat x1_1.size)), (wrap64 (x7_1 - 1)), (t462), (t463), (by first | rfl | (simp; done) | (simp only [← hji32] <;> (first | rfl | simp)) | (simp [*]; done)), eqU, H', ⟨by have := HK1.out; have := HJ5.out; omega⟩, ⟨isU HI0⟩, ⟨by repeat (first | (with_reducible first | exact HK.out | apply KeepBut.set_ | apply keep_drewN | apply keep_drew | apply keep_alloc) | exact HK.out)⟩, ⟨hbU⟩⟩
       ·rw [if_neg c28] at H
        have c28b0 : (t461 == 1) = false := beq_eq_false_iff_ne.mpr c28
        have c28b1 : (t461 != 1) = true := bne_iff_ne.mpr c28
        replace H := ifS H
        obtain ⟨c42, H⟩ := H
        have c42b0 := eq_true c42
        have c42b1 : decide (0 ≤ t452) = true := decide_eq_true c42
        clear c42
        replace H := ifS H
        obtain ⟨c43, H⟩ := H
        have c43b0 := eq_true c43
        have c43b1 : decide (t452 ≤ (x1_1.size : Int)) = true := decide_eq_true c43
        clear c43
        obtain ⟨ji44, hji44⟩ : ∃ j_ : Int, (wrap64 (t452 + 1)) = j_ := ⟨_, rfl⟩
        replace H : (if 0 ≤ (ji44) then (if (ji44) ≤ (x1_1.size : Int) then (if (x1_1.extract 0 (t452 : Int).toNat).size + (x1_1.extract ((ji44) : Int).toNat x1_1.size).size ≤ 9223372036854775807 then (spec_l1Cur_spoilt.l0 kj5 ((x1_1.extract 0 (t452 : Int).toNat) ++ (x1_1.extract ((ji44) : Int).toNat x1_1.size)) a2 (wrap64 (x7_1 - 1)) s0_0 t462 t463) else (none)) else (none)) else (none)) = some (r1, r2, r3) := by first | (rw [hji44] at H; exact H) | (simp only [hji44] at H ⊢; exact H)
        (try rw [hji44] at A9)
        (try rw [hji44] at A10)
        (try rw [hji44] at A14)
        have hji44w : (IntKind.i64.wrap (t452 + 1)) = ji44 := (i64_w _).trans hji44
        replace H := ifS H
        obtain ⟨c45, H⟩ := H
        have c45b0 := eq_true c45
        have c45b1 : decide (0 ≤ (ji44)) = true := decide_eq_true c45
        clear c45
        replace H := ifS H
        obtain ⟨c46, H⟩ := H
        have c46b0 := eq_true c46
        have c46b1 : decide ((ji44) ≤ (x1_1.size : Int)) = true := decide_eq_true c46
        clear c46
        replace H := ifS H
        obtain ⟨c47, H⟩ := H
        have c47b0 := eq_true c47
        have c47b1 : decide ((x1_1.extract 0 (t452 : Int).toNat).size + (x1_1.extract ((ji44) : Int).toNat x1_1.size).size ≤ 9223372036854775807) = true := decide_eq_true c47
        try have c47b2 : (9223372036854775807 < (x1_1.extract 0 (t452 : Int).toNat).size + (x1_1.extract ((ji44) : Int).toNat x1_1.size).size) = False := eq_false (Nat.not_lt.2 c47)
        have H' := aU H
        clear H
        go_wp2_with (first | (go_at_call 92; (with_reducible refine (spec_l1Cur_pick.calls g s0_0 x1001_1 x1002_1 (x1_1.size : Int) t452 t453 t454 w0 _ ?side1 ?side2 A9.out).mono ?_); (case side1 => exact isU HI0); (case side2 => exact hbU); rintro e w48 ⟨rfl, hi, hb, hk⟩; replace HK := aU (KeepBut.trans (kpU HK) hk (.inl rfl)); replace HB := aU (hb); replace HI0 := aU (hi); (try clear hi hb hk)) | (go_at_call 92; (with_reducible refine (spec_l1Cur_pick.calls g s0_0 t453 t454 (a2.size : Int) t455 t456 t457 w0 _ ?side1 ?side2 A10.out).mono ?_); (case side1 => exact isU HI0); (case side2 => exact hbU); rintro e w49 ⟨rfl, hi, hb, hk⟩; replace HK := aU (KeepBut.trans (kpU HK) hk (.inl rfl)); replace HB := aU (hb); replace HI0 := aU (hi); (try clear hi hb hk); have p13 : 0 ≤ (t455 : Int) := dU; have q13 : t455 < (a2.size : Int) := dU; have hx13 := bt_at a2 t455; replace p13 := eq_true p13; replace q13 := eq_true q13) | ((with_reducible refine gdU 32 rfl ?_); (try (refine gate_guard (by rfl) ?_; dsimp only)); refine Kd.R_lit (Kd.int .u8) _ 5 ?hg (N := 32) ?hd (xs := ([bt a2 t455] : List Int)) (inner := [.int .u8 (bt a2 t455)]) (ok := fun _ => True) (okp := fun _ => True) ?hr ?hp (fun _ hk => hk) trivial (Below.refl _ _) (Nat.le_refl _) (by simp) ?_; (case hd => rfl); (case hg => rfl); (case hr => first | (go_simp; done) | (go_simp; rfl)); (case hp => exact (Reps.one (show Kd.M (Kd.int .u8) _ _ _ (bt a2 t455) [.int .u8 (bt a2 t455)] from rfl) (Reps.none _ _))); intro v459 w50 ho51 hb hg_ hnew_; clear hg_ hnew_; (first | rw [← Ny458.out] at ho51 | (simp only [Int.reduceToNat] at ho51; rw [← Ny458.out] at ho51)); have HO460 := aU (Kd.R_lower ho51 (keep_size (w := w) (g := g) (row := none) (kpU HK))); replace HI0 := aU (IsS78.below (isU HI0) hb); replace HK := aU (KeepBut.trans (kpU HK) (KeepBut.of_below hb g none) (.inl rfl)); replace HB := bsU hb; clear hb ho51; have hcv52 := own_string (P := Tryz.prog) Tryz.underlying22 Tryz.underlying5 Tryz.underlying9 (Kd.own_of_R HO460.out)) | (go_at_call 92; (with_reducible refine (spec_l1Cur_pick.calls g s0_0 t456 t457 3 t461 t462 t463 w0 _ ?side1 ?side2 A14.out).mono ?_); (case side1 => exact isU HI0); (case side2 => exact hbU); rintro e w53 ⟨rfl, hi, hb, hk⟩; replace HO460 := aU (Kd.R_mono (Kd.R_keep (IsS78.apart (show IsS78 w0 _ g s0_0 t456 t457 from isU HI0) (roU HO460) (by decide)) hk (fun _ h => h.2)) (fun _ h => h.1)); replace HK := aU (KeepBut.trans (kpU HK) hk (.inl rfl)); replace HB := aU (hb); replace HI0 := aU (hi); (try clear hi hb hk)))
        repeat (go_quiet (first | (go_at_call 92; (with_reducible refine (spec_l1Cur_pick.calls g s0_0 x1001_1 x1002_1 (x1_1.size : Int) t452 t453 t454 w0 _ ?side1 ?side2 A9.out).mono ?_); (case side1 => exact isU HI0); (case side2 => exact hbU); rintro e w48 ⟨rfl, hi, hb, hk⟩; replace HK := aU (KeepBut.trans (kpU HK) hk (.inl rfl)); replace HB := aU (hb); replace HI0 := aU (hi); (try clear hi hb hk)) | (go_at_call 92; (with_reducible refine (spec_l1Cur_pick.calls g s0_0 t453 t454 (a2.size : Int) t455 t456 t457 w0 _ ?side1 ?side2 A10.out).mono ?_); (case side1 => exact isU HI0); (case side2 => exact hbU); rintro e w49 ⟨rfl, hi, hb, hk⟩; replace HK := aU (KeepBut.trans (kpU HK) hk (.inl rfl)); replace HB := aU (hb); replace HI0 := aU (hi); (try clear hi hb hk); have p13 : 0 ≤ (t455 : Int) := dU; have q13 : t455 < (a2.size : Int) := dU; have hx13 := bt_at a2 t455; replace p13 := eq_true p13; replace q13 := eq_true q13) | ((with_reducible refine gdU 32 rfl ?_); (try (refine gate_guard (by rfl) ?_; dsimp only)); refine Kd.R_lit (Kd.int .u8) _ 5 ?hg (N := 32) ?hd (xs := ([bt a2 t455] : List Int)) (inner := [.int .u8 (bt a2 t455)]) (ok := fun _ => True) (okp := fun _ => True) ?hr ?hp (fun _ hk => hk) trivial (Below.refl _ _) (Nat.le_refl _) (by simp) ?_; (case hd => rfl); (case hg => rfl); (case hr => first | (go_simp; done) | (go_simp; rfl)); (case hp => exact (Reps.one (show Kd.M (Kd.int .u8) _ _ _ (bt a2 t455) [.int .u8 (bt a2 t455)] from rfl) (Reps.none _ _))); intro v459 w50 ho51 hb hg_ hnew_; clear hg_ hnew_; (first | rw [← Ny458.out] at ho51 | (simp only [Int.reduceToNat] at ho51; rw [← Ny458.out] at ho51)); have HO460 := aU (Kd.R_lower ho51 (keep_size (w := w) (g := g) (row := none) (kpU HK))); replace HI0 := aU (IsS78.below (isU HI0) hb); replace HK := aU (KeepBut.trans (kpU HK) (KeepBut.of_below hb g none) (.inl rfl)); replace HB := bsU hb; clear hb ho51; have hcv52 := own_string (P := Tryz.prog) Tryz.underlying22 Tryz.underlying5 Tryz.underlying9 (Kd.own_of_R HO460.out)) | (go_at_call 92; (with_reducible refine (spec_l1Cur_pick.calls g s0_0 t456 t457 3 t461 t462 t463 w0 _ ?side1 ?side2 A14.out).mono ?_); (case side1 => exact isU HI0); (case side2 => exact hbU); rintro e w53 ⟨rfl, hi, hb, hk⟩; replace HO460 := aU (Kd.R_mono (Kd.R_keep (IsS78.apart (show IsS78 w0 _ g s0_0 t456 t457 from isU HI0) (roU HO460) (by decide)) hk (fun _ h => h.2)) (fun _ h => h.1)); replace HK := aU (KeepBut.trans (kpU HK) hk (.inl rfl)); replace HB := aU (hb); replace HI0 := aU (hi); (try clear hi hb hk))); try go_wp2_with (first | (go_at_call 92; (with_reducible refine (spec_l1Cur_pick.calls g s0_0 x1001_1 x1002_1 (x1_1.size : Int) t452 t453 t454 w0 _ ?side1 ?side2 A9.out).mono ?_); (case side1 => exact isU HI0); (case side2 => exact hbU); rintro e w48 ⟨rfl, hi, hb, hk⟩; replace HK := aU (KeepBut.trans (kpU HK) hk (.inl rfl)); replace HB := aU (hb); replace HI0 := aU (hi); (try clear hi hb hk)) | (go_at_call 92; (with_reducible refine (spec_l1Cur_pick.calls g s0_0 t453 t454 (a2.size : Int) t455 t456 t457 w0 _ ?side1 ?side2 A10.out).mono ?_); (case side1 => exact isU HI0); (case side2 => exact hbU); rintro e w49 ⟨rfl, hi, hb, hk⟩; replace HK := aU (KeepBut.trans (kpU HK) hk (.inl rfl)); replace HB := aU (hb); replace HI0 := aU (hi); (try clear hi hb hk); have p13 : 0 ≤ (t455 : Int) := dU; have q13 : t455 < (a2.size : Int) := dU; have hx13 := bt_at a2 t455; replace p13 := eq_true p13; replace q13 := eq_true q13) | ((with_reducible refine gdU 32 rfl ?_); (try (refine gate_guard (by rfl) ?_; dsimp only)); refine Kd.R_lit (Kd.int .u8) _ 5 ?hg (N := 32) ?hd (xs := ([bt a2 t455] : List Int)) (inner := [.int .u8 (bt a2 t455)]) (ok := fun _ => True) (okp := fun _ => True) ?hr ?hp (fun _ hk => hk) trivial (Below.refl _ _) (Nat.le_refl _) (by simp) ?_; (case hd => rfl); (case hg => rfl); (case hr => first | (go_simp; done) | (go_simp; rfl)); (case hp => exact (Reps.one (show Kd.M (Kd.int .u8) _ _ _ (bt a2 t455) [.int .u8 (bt a2 t455)] from rfl) (Reps.none _ _))); intro v459 w50 ho51 hb hg_ hnew_; clear hg_ hnew_; (first | rw [← Ny458.out] at ho51 | (simp only [Int.reduceToNat] at ho51; rw [← Ny458.out] at ho51)); have HO460 := aU (Kd.R_lower ho51 (keep_size (w := w) (g := g) (row := none) (kpU HK))); replace HI0 := aU (IsS78.below (isU HI0) hb); replace HK := aU (KeepBut.trans (kpU HK) (KeepBut.of_below hb g none) (.inl rfl)); replace HB := bsU hb; clear hb ho51; have hcv52 := own_string (P := Tryz.prog) Tryz.underlying22 Tryz.underlying5 Tryz.underlying9 (Kd.own_of_R HO460.out)) | (go_at_call 92; (with_reducible refine (spec_l1Cur_pick.calls g s0_0 t456 t457 3 t461 t462 t463 w0 _ ?side1 ?side2 A14.out).mono ?_); (case side1 => exact isU HI0); (case side2 => exact hbU); rintro e w53 ⟨rfl, hi, hb, hk⟩; replace HO460 := aU (Kd.R_mono (Kd.R_keep (IsS78.apart (show IsS78 w0 _ g s0_0 t456 t457 from isU HI0) (roU HO460) (by decide)) hk (fun _ h => h.2)) (fun _ h => h.1)); replace HK := aU (KeepBut.trans (kpU HK) hk (.inl rfl)); replace HB := aU (hb); replace HI0 := aU (hi); (try clear hi hb hk))))
        go_roundg kj5
        case measure => have := HK1.out; have := HJ5.out; omega
        case rel => exact ⟨((x1_1.extract 0 (t452 : Int).toNat) ++ (x1_1.extract ((ji44) : Int).toNat x1_1.size)), (wrap64 (x7_1 - 1)), (t462), (t463), (by first | rfl | (simp; done) | (simp only [← hji44] <;> (first | rfl | simp)) | (simp [*]; done)), eqU, H', ⟨by have := HK1.out; have := HJ5.out; omega⟩, ⟨isU HI0⟩, ⟨by repeat (first | (with_reducible first | exact HK.out | apply KeepBut.set_ | apply keep_drewN | apply keep_drew | apply keep_alloc) | exact HK.out)⟩, ⟨hbU⟩⟩
     ·replace c8 := Bool.eq_false_iff.mpr c8
      subst c8
      rw [if_neg (show ¬ (false = true) by decide)] at H
      simp only [Option.some.injEq, Prod.mk.injEq] at H
      obtain ⟨rfl, rfl, rfl⟩ := H
      go_wp2
      repeat (go_quiet (fail); try go_wp2)
      go_ret
      exact ⟨errU, isU HI0, hbU, kpU HK⟩
def spec_DrawParseDarts.l0 : Nat → List (S52) → Int → List Int → Int → Int → Option (ByteArray)
 | 0, _, _, _, _, _ => none
 | k + 1, x4, x5, x465000, x465001, x465002 => if x5 > 0 then ((spec_l1Cur_sureDart.f x465000 x465001 x465002).bind fun bt475 => (if x4.length < 8796093022208 then (spec_DrawParseDarts.l0 k (x4 ++ [(⟨bt475.1, bt475.2.1⟩ : S52)]) (wrap64 (x5 - 1)) x465000 bt475.2.2.1 bt475.2.2.2) else (none))) else ((spec_daTexts.f k x4).bind fun t482 => ((spec_l1Cur_one.f x465000 x465001 x465002 3).bind fun bt483 => (if bt483.1 = true then ((spec_l1Cur_spoilt.f k x465000 bt483.2.1 bt483.2.2 t482 (⟨#[48, 49, 50, 53, 100, 116, 45, 120]⟩ : ByteArray)).bind fun bt486 => (some bt486.1)) else (some t482))))
def spec_DrawParseDarts.f (k : Nat) (l0 : List Int) : Option (ByteArray) := (spec_l1Cur_sureDart.f l0 0 0).bind fun bt465 => ((spec_l1Cur_pick.f l0 bt465.2.2.1 bt465.2.2.2 6).bind fun bt472 => (spec_DrawParseDarts.l0 k (([(⟨bt465.1, bt465.2.1⟩ : S52)] : List (S52))) bt472.1 l0 bt472.2.1 bt472.2.2))
theorem spec_DrawParseDarts.mono_l : ∀ k, (∀ y0 y1 y2 y3 y4, LeO (spec_DrawParseDarts.l0 k y0 y1 y2 y3 y4) (spec_DrawParseDarts.l0 (k + 1) y0 y1 y2 y3 y4))
 | 0 => fun _ _ _ _ _ r h => by simp [spec_DrawParseDarts.l0] at h
 | k + 1 => by
  have ih0 := spec_DrawParseDarts.mono_l k
  all_goals intros
  all_goals first | unfold spec_DrawParseDarts.l0
  all_goals repeat' first
  | (with_reducible exact ih0 _ _ _ _ _)
  | (with_reducible exact spec_daTexts.mono _ _)
  | (with_reducible exact spec_l1Cur_spoilt.mono _ _ _ _ _ _)
  | (with_reducible exact LeO.refl _)
  | (with_reducible exact LeO.none _)
  | (with_reducible refine LeO.ite ?_ ?_)
  | (with_reducible refine LeO.bind ?_ (fun _ => ?_))
theorem spec_DrawParseDarts.mono : ∀ a0 k, LeO (spec_DrawParseDarts.f k a0) (spec_DrawParseDarts.f (k + 1) a0) := by
 intro a0 k
 have ih0 := spec_DrawParseDarts.mono_l k
 unfold spec_DrawParseDarts.f
 repeat' first
   | (with_reducible exact ih0 _ _ _ _ _)
   | (with_reducible exact spec_daTexts.mono _ _)
   | (with_reducible exact spec_l1Cur_spoilt.mono _ _ _ _ _ _)
   | (with_reducible exact LeO.refl _)
   | (with_reducible exact LeO.none _)
   | (with_reducible refine LeO.ite ?_ ?_)
   | (with_reducible refine LeO.bind ?_ (fun _ => ?_))
set_option maxHeartbeats 8000000 in
set_option maxRecDepth 100000 in
theorem spec_DrawParseDarts.calls (k : Nat) (A0 : Option Addr) (c0 : Nat) (l0 : List Int) (r : ByteArray) (w : World) (hr0 : Kd.C (Kd.int .u8) w A0 l0.length l0) (hc0 : l0.length ≤ c0) (h : spec_DrawParseDarts.f k l0 = some r) :
  Calls Tryz.prog 53 #[.slice A0 l0.length c0] w fun e w' => e = .returned (.string r) ∧ Below w.heap.size w w' := by
 have hu78 := Tryz.underlying78
 have HR0 := aU hr0
 have HC0 := aU hc0
 clear hr0 hc0
 have HB := aU (Below.refl w.heap.size w)
 have H : ((spec_l1Cur_sureDart.f l0 0 0).bind fun bt465 => ((spec_l1Cur_pick.f l0 bt465.2.2.1 bt465.2.2.2 6).bind fun bt472 => (spec_DrawParseDarts.l0 k (([(⟨bt465.1, bt465.2.1⟩ : S52)] : List (S52))) bt472.1 l0 bt472.2.1 bt472.2.2))) = some r := h
 clear h
 replace H := bindS H
 obtain ⟨⟨t465, t466, t467, t468⟩, A2, H⟩ := H
 (try dsimp only at H)
 obtain ⟨y469, hy469⟩ : ∃ y_ : List (S52), y_ = (([(⟨t465, t466⟩ : S52)] : List (S52))) := ⟨_, rfl⟩
 replace H : ((spec_l1Cur_pick.f l0 t467 t468 6).bind fun bt472 => (spec_DrawParseDarts.l0 k y469 bt472.1 l0 bt472.2.1 bt472.2.2)) = some r := by first | (rw [hy469]; with_reducible exact H) | (have H2_ := (Option.bind_some _ _).symm.trans H; rw [hy469]; with_reducible exact H2_) | (have H2_ := (Option.bind_some _ _).symm.trans H; with_reducible exact H2_) | with_reducible exact H | (rw [hy469]; exact H) | exact H
 have Ny469 := aU hy469
 clear hy469
 replace H := bindS H
 obtain ⟨⟨t472, t473, t474⟩, A3, H⟩ := H
 (try dsimp only at H)
 have H' := aU H
 clear H
 go_enter Tryz.func53, Tryz.ntmps53
 go_wp2_with (first | ((with_reducible refine gdU 9 rfl ?_); refine bxU (cs := #[.slice A0 l0.length c0, .int .i64 0, .int .u64 0]) (t := 78) ?_; intro gb464 hg w4 hbox hb; have HI464 := aU ((⟨_, _, hbox, (by rw [hg]; exact (below_size hbU) : w.heap.size ≤ gb464), HR0.out⟩ : IsS78 w w4 gb464 l0 0 0)); have GW464 := geU hg; have GE464 := geU hg; replace HB := bsU hb; clear hb hbox hg) | ((with_reducible refine gcU 104 rfl ?_); refine goU (some 11) Tryz.func104 #[.pointer (some ⟨gb464, 0, none⟩)] ?_; (with_reducible refine (spec_l1Cur_sureDart.calls gb464 l0 0 0 t465 t466 t467 t468 w _ ?side1 ?side2 A2.out).mono ?_); (case side1 => exact isU HI464); (case side2 => exact hbU); rintro e w5 ⟨rfl, hi, hb, hk⟩; refine ⟨_, rfl, ?_⟩; replace HB := aU (hb); replace HI464 := aU (hi); (try clear hi hb hk)) | ((with_reducible refine gdU 12 rfl ?_); refine Kd.R_lit k52 _ 52 ?hg (N := 12) ?hd (xs := ([(⟨t465, t466⟩ : S52)] : List (S52))) (inner := [.int .i64 t465, .int .i64 t466]) (ok := fun _ => True) (okp := fun _ => True) ?hr ?hp (fun _ hk => hk) trivial (Below.refl _ _) (Nat.le_refl _) (by simp) ?_; (case hd => rfl); (case hg => rfl); (case hr => first | (go_simp; done) | (go_simp; rfl)); (case hp => exact (Reps.c2 (show Kd.M k52 _ _ _ (⟨t465, t466⟩ : S52) [.int .i64 t465, .int .i64 t466] from (k52_mkM _ _ _ (⟨t465, t466⟩ : S52) )) (Reps.none _ _))); intro v470 w6 ho7 hb hg_ hnew_; clear hg_ hnew_; (first | rw [← Ny469.out] at ho7 | (simp only [Int.reduceToNat] at ho7; rw [← Ny469.out] at ho7)); have HO471 := aU (Kd.R_lower ho7 (below_size hbU)); replace HI464 := aU (IsS78.below (isU HI464) hb); replace HB := bsU hb; clear hb ho7) | ((with_reducible refine gcU 92 rfl ?_); refine goU (some 14) Tryz.func92 #[.pointer (some ⟨gb464, 0, none⟩), .int .i64 6] ?_; (with_reducible refine (spec_l1Cur_pick.calls gb464 l0 t467 t468 6 t472 t473 t474 w _ ?side1 ?side2 A3.out).mono ?_); (case side1 => exact isU HI464); (case side2 => exact hbU); rintro e w8 ⟨rfl, hi, hb, hk⟩; refine ⟨_, rfl, ?_⟩; replace HO471 := aU (Kd.R_mono (Kd.R_keep (IsS78.apart (show IsS78 w _ gb464 l0 t467 t468 from isU HI464) (roU HO471) (by decide)) hk (fun _ h => h.2)) (fun _ h => h.1)); replace HB := aU (hb); replace HI464 := aU (hi); (try clear hi hb hk)))
 go_loopg [4, 5] k (fun kq v4 v5 w' => ∃ (x4_1 : List (S52)) (x5_1 : Int) (x465001_1 : Int) (x465002_1 : Int), v5 = .int .i64 x5_1 ∧ Aside0 (spec_DrawParseDarts.l0 kq x4_1 x5_1 l0 x465001_1 x465002_1 = some r) ∧ Aside0 (kq ≤ k) ∧ Aside0 (Kd.R k52 52 w' w.heap.size (fun _ => True) v4 x4_1) ∧ Aside0 (IsS78 w w' gb464 l0 x465001_1 x465002_1) ∧ Aside0 (Below w.heap.size w w'))
 case atStart => exact ⟨(y469), (t472), (t473), (t474), eqU, H', ⟨Nat.le_refl _⟩, ⟨roU HO471⟩, ⟨isU HI464⟩, ⟨hbU⟩⟩
 case round =>
  clear H'
  obtain ⟨x4_1, x5_1, x465001_1, x465002_1, rfl, HA, HK1, HO_4, HI464, HB⟩ := hrel
  cases gk with
  | zero => exact absurd HA.out (by simp [spec_DrawParseDarts.l0])
  | succ k1 =>
   have H := HA.out
   clear HA
   simp only [spec_DrawParseDarts.l0] at H
   by_cases c9 : x5_1 > 0
   ·rw [if_pos c9] at H
    have c9b0 : decide (0 < x5_1) = true := decide_eq_true c9
    clear c9
    replace H := bindS H
    obtain ⟨⟨t475, t476, t477, t478⟩, A10, H⟩ := H
    (try dsimp only at H)
    replace H := ifS H
    obtain ⟨c11, H⟩ := H
    have LMc11 := aU c11
    clear c11
    obtain ⟨y479, hy479⟩ : ∃ y_ : List (S52), y_ = (x4_1 ++ [(⟨t475, t476⟩ : S52)]) := ⟨_, rfl⟩
    replace H : (spec_DrawParseDarts.l0 k1 y479 (wrap64 (x5_1 - 1)) l0 t477 t478) = some r := by first | (rw [hy479]; with_reducible exact H) | (have H2_ := (Option.bind_some _ _).symm.trans H; rw [hy479]; with_reducible exact H2_) | (have H2_ := (Option.bind_some _ _).symm.trans H; with_reducible exact H2_) | with_reducible exact H | (rw [hy479]; exact H) | exact H
    have Ny479 := aU hy479
    clear hy479
    have H' := aU H
    clear H
    go_wp2_with (first | ((with_reducible refine gcU 104 rfl ?_); refine goU (some 21) Tryz.func104 #[.pointer (some ⟨gb464, 0, none⟩)] ?_; (with_reducible refine (spec_l1Cur_sureDart.calls gb464 l0 x465001_1 x465002_1 t475 t476 t477 t478 w _ ?side1 ?side2 A10.out).mono ?_); (case side1 => exact isU HI464); (case side2 => exact hbU); rintro e w12 ⟨rfl, hi, hb, hk⟩; refine ⟨_, rfl, ?_⟩; replace HO_4 := aU (Kd.R_mono (Kd.R_keep (IsS78.apart (show IsS78 w _ gb464 l0 x465001_1 x465002_1 from isU HI464) (roU HO_4) (by decide)) hk (fun _ h => h.2)) (fun _ h => h.1)); replace HB := aU (hb); replace HI464 := aU (hi); (try clear hi hb hk)) | ((with_reducible refine gate_builtin (b := .append) (xs := #[.tmp 19, .tmp 22]) rfl ?_); at_builtin; refine Kd.R_append k52 (w0 := w) w.heap.size rfl (.tmp 19) (.tmp 22) 45 52 (.agg #[(.int .i64 0), (.int .i64 0)]) 16 rfl Tryz.underlying45 info52 rfl (by decide) (by omega) u4 x4_1 (⟨t475, t476⟩ : S52) [.int .i64 t475, .int .i64 t476] (fun _ => True) (fun _ => False) rfl rfl ?aP (fun _ hk => hk.elim) ?aF ?aO ?aB ?aS ?aL ?_; (case aP => exact k52_mkM _ _ _ (⟨t475, t476⟩ : S52)); (case aB => exact hbU); (case aF => exact (fun _ _ => trivial)); (case aO => exact (roU HO_4)); (case aS => exact (below_size hbU)); (case aL => have := LMc11.out; omega); intro v480 w13 ho hb hg hat; rw [← Ny479.out] at ho; replace HI464 := aU (IsS78.grown (isU HI464) hg (IsS78.own_ne HI464.out HO_4.out (by decide))); replace HB := aU (hb); have HO481 := aU (ho); clear HO_4; clear ho hb hg hat))
    go_roundg k1
    case measure => have := HK1.out; omega
    case rel => exact ⟨(y479), (wrap64 (x5_1 - 1)), (t477), (t478), eqU, H', ⟨by have := HK1.out; omega⟩, ⟨roU HO481⟩, ⟨isU HI464⟩, ⟨hbU⟩⟩
   ·rw [if_neg c9] at H
    have c9b0 : decide (0 < x5_1) = false := decide_eq_false c9
    clear c9
    replace H := bindS H
    obtain ⟨t482, A14, H⟩ := H
    (try dsimp only at H)
    replace H := bindS H
    obtain ⟨⟨t483, t484, t485⟩, A15, H⟩ := H
    (try dsimp only at H)
    by_cases c16 : t483 = true
    ·subst c16
     rw [if_pos rfl] at H
     replace H := bindS H
     obtain ⟨⟨t486, t487, t488⟩, A17, H⟩ := H
     (try dsimp only at H)
     obtain rfl := Option.some.inj H
     obtain ⟨Ao18, co18, eo18⟩ := Kd.R_slice HO_4.out
     subst eo18
     go_wp2_with (first | ((with_reducible refine gcU 112 rfl ?_); refine goU (some 25) Tryz.func112 #[.slice Ao18 x4_1.length co18] ?_; (with_reducible refine (spec_daTexts.calls k1 _ _ x4_1 t482 _ ?side1 ?side2 A14.out).mono ?_); (case side1 => exact rcU HO_4); (case side2 => exact (Kd.R_reads' HO_4.out).2.1); rintro e w19 ⟨rfl, hb⟩; refine ⟨_, rfl, ?_⟩; replace HO_4 := aU (Kd.R_below (roU HO_4) hb); replace HI464 := aU (IsS78.below (isU HI464) hb); replace HB := bsU hb; (try clear hb)) | ((with_reducible refine gcU 91 rfl ?_); refine goU (some 27) Tryz.func91 #[.pointer (some ⟨gb464, 0, none⟩), .int .i64 3] ?_; (with_reducible refine (spec_l1Cur_one.calls gb464 l0 x465001_1 x465002_1 3 true t484 t485 w _ ?side1 ?side2 A15.out).mono ?_); (case side1 => exact isU HI464); (case side2 => exact hbU); rintro e w20 ⟨rfl, hi, hb, hk⟩; refine ⟨_, rfl, ?_⟩; replace HO_4 := aU (Kd.R_mono (Kd.R_keep (IsS78.apart (show IsS78 w _ gb464 l0 x465001_1 x465002_1 from isU HI464) (roU HO_4) (by decide)) hk (fun _ h => h.2)) (fun _ h => h.1)); replace HB := aU (hb); replace HI464 := aU (hi); (try clear hi hb hk)) | ((with_reducible refine gcU 98 rfl ?_); refine goU (some 30) Tryz.func98 #[.pointer (some ⟨gb464, 0, none⟩), .string t482, .string (⟨#[48, 49, 50, 53, 100, 116, 45, 120]⟩ : ByteArray)] ?_; (with_reducible refine (spec_l1Cur_spoilt.calls k1 gb464 l0 t484 t485 t482 (⟨#[48, 49, 50, 53, 100, 116, 45, 120]⟩ : ByteArray) t486 t487 t488 w _ ?side1 ?side2 A17.out).mono ?_); (case side1 => exact isU HI464); (case side2 => exact hbU); rintro e w21 ⟨rfl, hi, hb, hk⟩; refine ⟨_, rfl, ?_⟩; replace HO_4 := aU (Kd.R_mono (Kd.R_keep (IsS78.apart (show IsS78 w _ gb464 l0 t484 t485 from isU HI464) (roU HO_4) (by decide)) hk (fun _ h => h.2)) (fun _ h => h.1)); replace HB := aU (hb); replace HI464 := aU (hi); (try clear hi hb hk)))
     go_ret
     exact ⟨errU, hbU⟩
    ·replace c16 := Bool.eq_false_iff.mpr c16
     subst c16
     rw [if_neg (show ¬ (false = true) by decide)] at H
     obtain rfl := Option.some.inj H
     obtain ⟨Ao22, co22, eo22⟩ := Kd.R_slice HO_4.out
     subst eo22
     go_wp2_with (first | ((with_reducible refine gcU 112 rfl ?_); refine goU (some 25) Tryz.func112 #[.slice Ao22 x4_1.length co22] ?_; (with_reducible refine (spec_daTexts.calls k1 _ _ x4_1 t482 _ ?side1 ?side2 A14.out).mono ?_); (case side1 => exact rcU HO_4); (case side2 => exact (Kd.R_reads' HO_4.out).2.1); rintro e w23 ⟨rfl, hb⟩; refine ⟨_, rfl, ?_⟩; replace HO_4 := aU (Kd.R_below (roU HO_4) hb); replace HI464 := aU (IsS78.below (isU HI464) hb); replace HB := bsU hb; (try clear hb)) | ((with_reducible refine gcU 91 rfl ?_); refine goU (some 27) Tryz.func91 #[.pointer (some ⟨gb464, 0, none⟩), .int .i64 3] ?_; (with_reducible refine (spec_l1Cur_one.calls gb464 l0 x465001_1 x465002_1 3 false t484 t485 w _ ?side1 ?side2 A15.out).mono ?_); (case side1 => exact isU HI464); (case side2 => exact hbU); rintro e w24 ⟨rfl, hi, hb, hk⟩; refine ⟨_, rfl, ?_⟩; replace HO_4 := aU (Kd.R_mono (Kd.R_keep (IsS78.apart (show IsS78 w _ gb464 l0 x465001_1 x465002_1 from isU HI464) (roU HO_4) (by decide)) hk (fun _ h => h.2)) (fun _ h => h.1)); replace HB := aU (hb); replace HI464 := aU (hi); (try clear hi hb hk)))
     go_ret
     exact ⟨errU, hbU⟩
end Go.Proofs.YtcmlmjgoidpabaaGreatDoor.MFnDartsPlayed

