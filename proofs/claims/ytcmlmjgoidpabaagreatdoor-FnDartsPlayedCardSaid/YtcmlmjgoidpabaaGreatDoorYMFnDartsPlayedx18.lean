/- Walks of the functions that the law reaches: each comes to just what the function that is told of it tells, for all arguments. -/
import Derived.Test.YtcmlmjgoidpabaaGreatDoorYMFnDartsPlayedx10
import Derived.Test.YtcmlmjgoidpabaaGreatDoorYMFnDartsPlayedx17
namespace Go.Proofs.YtcmlmjgoidpabaaGreatDoor.MFnDartsPlayed
open Go.RowKit Go.Proofs.YtcmlmjgoidpabaaGreatDoorW.PrintWords Go.Proofs.YtcmlmjgoidpabaaGreatDoorW.PrintLast Go.Proofs.YtcmlmjgoidpabaaGreatDoorW.PrintMore
attribute [local go_sem] max2_int min2_int max_two min_two max_three min_three max_four min_four
set_option linter.unusedVariables false
set_option linter.unusedSimpArgs false
def spec_daParse.f (k : Nat) (a0 : ByteArray) : Option (Int × Int × Bool) := (spec_l1In.f (a0.size : Int) 1 3).bind fun t577 => (if t577 = true then ((spec_l1Read.f k a0).bind fun t578 => (if 0 < (a0.size : Int) then (if (bt a0 0) = 100 then (if 1 ≤ (a0.size : Int) then ((spec_l1Read.f k (a0.extract 1 a0.size)).bind fun t580 => ((spec_daGood.f t580 2).bind fun t581 => (if t581 = true then ((spec_daText.f k t580 2).bind fun t582 => (some (t580, 2, (t582.toList == a0.toList)))) else (some (t580, 2, false))))) else (none)) else (if (bt a0 0) = 116 then (if 1 ≤ (a0.size : Int) then ((spec_l1Read.f k (a0.extract 1 a0.size)).bind fun t583 => ((spec_daGood.f t583 3).bind fun t584 => (if t584 = true then ((spec_daText.f k t583 3).bind fun t585 => (some (t583, 3, (t585.toList == a0.toList)))) else (some (t583, 3, false))))) else (none)) else ((spec_daGood.f t578 1).bind fun t586 => (if t586 = true then ((spec_daText.f k t578 1).bind fun t587 => (some (t578, 1, (t587.toList == a0.toList)))) else (some (t578, 1, false)))))) else (none))) else (some (0, 0, false)))
theorem spec_daParse.mono : ∀ a0 k, LeO (spec_daParse.f k a0) (spec_daParse.f (k + 1) a0) := by
 intro a0 k
 unfold spec_daParse.f
 repeat' first
   | (with_reducible exact spec_daText.mono _ _ _)
   | (with_reducible exact spec_l1Read.mono _ _)
   | (with_reducible exact LeO.refl _)
   | (with_reducible exact LeO.none _)
   | (with_reducible refine LeO.ite ?_ ?_)
   | (with_reducible refine LeO.bind ?_ (fun _ => ?_))
def spec_daParse.T9 : Bool × List (List Nat × List Nat) := (true, [([], []), ([], []), ([1], [1]), ([2, 2], [2]), ([3], [3]), ([4, 3, 3], [3, 4]), ([3], [3]), ([5, 6, 3], [3, 5, 6]), ([3, 7], [3, 7]), ([0, 5, 0], [0]), ([8, 9, 0, 1, 2, 3, 4, 5, 6, 7, 8, 9], [8])])
def spec_daParse.B9 : List Nat := [0, 0, 2, 6, 14, 30, 14, 126, 254, 63, 1023]
theorem spec_daParse.tab9 : rtab .any (opsOf Tryz.f115 9) = spec_daParse.T9 := by kernel_rfl
theorem spec_daParse.bits9 : waitsOk spec_daParse.T9.2 spec_daParse.B9 = true := by kernel_rfl
set_option maxHeartbeats 8000000 in
set_option maxRecDepth 100000 in
theorem spec_daParse.calls (k : Nat) (a0 : ByteArray) (r1 : Int) (r2 : Int) (r3 : Bool) (w : World) (h : spec_daParse.f k a0 = some (r1, r2, r3)) :
  Calls Tryz.prog 115 #[.string a0] w fun e w' => e = .returned (.tuple #[.agg #[.int .i64 r1, .int .i64 r2], .bool r3]) ∧ Below w.heap.size w w' := by
 have hu52 := Tryz.underlying52
 have HB := aU (Below.refl w.heap.size w)
 have H : ((spec_l1In.f (a0.size : Int) 1 3).bind fun t577 => (if t577 = true then ((spec_l1Read.f k a0).bind fun t578 => (if 0 < (a0.size : Int) then (if (bt a0 0) = 100 then (if 1 ≤ (a0.size : Int) then ((spec_l1Read.f k (a0.extract 1 a0.size)).bind fun t580 => ((spec_daGood.f t580 2).bind fun t581 => (if t581 = true then ((spec_daText.f k t580 2).bind fun t582 => (some (t580, 2, (t582.toList == a0.toList)))) else (some (t580, 2, false))))) else (none)) else (if (bt a0 0) = 116 then (if 1 ≤ (a0.size : Int) then ((spec_l1Read.f k (a0.extract 1 a0.size)).bind fun t583 => ((spec_daGood.f t583 3).bind fun t584 => (if t584 = true then ((spec_daText.f k t583 3).bind fun t585 => (some (t583, 3, (t585.toList == a0.toList)))) else (some (t583, 3, false))))) else (none)) else ((spec_daGood.f t578 1).bind fun t586 => (if t586 = true then ((spec_daText.f k t578 1).bind fun t587 => (some (t578, 1, (t587.toList == a0.toList)))) else (some (t578, 1, false)))))) else (none))) else (some (0, 0, false)))) = some (r1, r2, r3) := h
 clear h
 replace H := bindS H
 obtain ⟨t577, A2, H⟩ := H
 (try dsimp only at H)
 by_cases c3 : t577 = true
 ·subst c3
  rw [if_pos rfl] at H
  replace H := bindS H
  obtain ⟨t578, A4, H⟩ := H
  (try dsimp only at H)
  replace H := ifS H
  obtain ⟨c5, H⟩ := H
  have c5b0 : decide (0 < (a0.size : Int)) = true := decide_eq_true c5
  have c5b1 : decide (0 < a0.size) = true := decide_eq_true (by omega)
  clear c5
  by_cases c7 : (bt a0 0) = 100
  ·rw [if_pos c7] at H
   have c7b0 : ((bt a0 0) == 100) = true := beq_iff_eq.mpr c7
   have c7b1 : ((bt a0 0) != 100) = false := bne_eq_false_iff_eq.mpr c7
   clear c7
   replace H := ifS H
   obtain ⟨c8, H⟩ := H
   have c8b0 := eq_true c8
   have c8b1 : decide (1 ≤ (a0.size : Int)) = true := decide_eq_true c8
   clear c8
   replace H := bindS H
   obtain ⟨t580, A9, H⟩ := H
   (try dsimp only at H)
   replace H := bindS H
   obtain ⟨t581, A10, H⟩ := H
   (try dsimp only at H)
   by_cases c11 : t581 = true
   ·subst c11
    rw [if_pos rfl] at H
    replace H := bindS H
    obtain ⟨t582, A12, H⟩ := H
    (try dsimp only at H)
    simp only [Option.some.injEq, Prod.mk.injEq] at H
    obtain ⟨rfl, rfl, rfl⟩ := H
    go_enter Tryz.func115, Tryz.ntmps115
    try go_wp2_with (first | ((with_reducible refine gdU 2 rfl ?_); refine bxU (cs := #[.int .i64 0, .int .i64 0]) (t := 52) ?_; intro gb576 hg w13 hbox hb; have BK576 := aU (hbox); have GW576 := geU hg; have GE576 := geU hg; replace HB := bsU hb; clear hb hbox hg) | ((with_reducible refine gcU 96 rfl ?_); refine goU (some 7) Tryz.func96 #[.int .i64 (a0.size : Int), .int .i64 1, .int .i64 3] ?_; (with_reducible refine (spec_l1In.calls (a0.size : Int) 1 3 true _ A2.out).mono ?_); rintro e w' ⟨rfl, ⟨nd, rfl⟩⟩; refine ⟨_, rfl, ?_⟩; (try (rw [drewN_self w13]; generalize hq_ : World.drewN w13 _ = w13; have n0_ : Aside0 (w13.heap[gb576]? = some (.cells #[.int .i64 0, .int .i64 0] 52 (0, 0))) := ⟨by rw [← hq_]; exact bkU⟩; have n1_ : Aside0 (Below w.heap.size w w13) := ⟨by rw [← hq_]; exact hbU⟩; clear BK576 HB hq_; have BK576 := n0_; have HB := n1_; clear n0_ n1_))) | ((with_reducible refine gcU 137 rfl ?_); refine goU (some 11) Tryz.func137 #[.string a0] ?_; (with_reducible refine (spec_l1Read.calls k a0 t578 _ A4.out).mono ?_); rintro e w' ⟨rfl, ⟨nd, rfl⟩⟩; refine ⟨_, rfl, ?_⟩; (try (rw [drewN_self w13]; generalize hq_ : World.drewN w13 _ = w13; have n0_ : Aside0 (w13.heap[gb576]? = some (.cells #[.int .i64 0, .int .i64 0] 52 (0, 0))) := ⟨by rw [← hq_]; exact bkU⟩; have n1_ : Aside0 (Below w.heap.size w w13) := ⟨by rw [← hq_]; exact hbU⟩; clear BK576 HB hq_; have BK576 := n0_; have HB := n1_; clear n0_ n1_))) | ((with_reducible refine gdU 4 rfl ?_); refine bxU (cs := #[.int .i64 0, .int .i64 0]) (t := 52) ?_; intro gb579 hg w14 hbox hb; have BK579 := aU (hbox); have GW579 := geU hg; have GE579 := geU hg; replace HB := bsU hb; have NB576_579 := neU BK576 hg; have NB579_576 := enU BK576 hg; replace BK576 := bbU BK576 hb; clear hb hbox hg; have hnb15 := NB579_576.out; have hnc15 := NB576_579.out; obtain ⟨hcz16_0, hcz16_1, hfz16_0, hfz16_1⟩ := b2U BK579; have p6 : 0 ≤ (0 : Int) := (by omega); have q6 : 0 < a0.size := (by have : (0 : Int) < (a0.size : Int) := dU; omega); have hx6 : ∀ h : 0 < a0.size, ((a0[0]'h).toNat : Int) = bt a0 0 := bt_at a0 0; clear p6; have qi6 : (0 < (a0.size : Int)) = True := eq_true (dU); replace q6 := eq_true q6) | ((with_reducible refine gcU 137 rfl ?_); refine goU (some 19) Tryz.func137 #[.string (a0.extract 1 a0.size)] ?_; (with_reducible refine (spec_l1Read.calls k (a0.extract 1 a0.size) t580 _ A9.out).mono ?_); rintro e w' ⟨rfl, ⟨nd, rfl⟩⟩; refine ⟨_, rfl, ?_⟩))
    have n0_ : Aside0 ((((((w14.setCell ⟨gb579, 0, none⟩ (.int .i64 t578)).setCell ⟨gb579, 1, none⟩ (.int .i64 1)).drewN nd).setCell ⟨gb579, 0, none⟩ (.int .i64 t580)).setCell ⟨gb579, 1, none⟩ (.int .i64 2)).heap[gb576]? = some (.cells #[.int .i64 0, .int .i64 0] 52 (0, 0))) := ⟨bkU⟩
    have n1_ : Aside0 ((((((w14.setCell ⟨gb579, 0, none⟩ (.int .i64 t578)).setCell ⟨gb579, 1, none⟩ (.int .i64 1)).drewN nd).setCell ⟨gb579, 0, none⟩ (.int .i64 t580)).setCell ⟨gb579, 1, none⟩ (.int .i64 2)).heap[gb579]? = some (.cells #[.int .i64 t580, .int .i64 2] 52 (0, 0))) := ⟨bkU⟩
    have n2_ : Aside0 (Below w.heap.size w (((((w14.setCell ⟨gb579, 0, none⟩ (.int .i64 t578)).setCell ⟨gb579, 1, none⟩ (.int .i64 1)).drewN nd).setCell ⟨gb579, 0, none⟩ (.int .i64 t580)).setCell ⟨gb579, 1, none⟩ (.int .i64 2))) := ⟨hbU⟩
    (try clear BK576); (try clear BK579); (try clear HB)
    generalize (((((w14.setCell ⟨gb579, 0, none⟩ (.int .i64 t578)).setCell ⟨gb579, 1, none⟩ (.int .i64 1)).drewN nd).setCell ⟨gb579, 0, none⟩ (.int .i64 t580)).setCell ⟨gb579, 1, none⟩ (.int .i64 2)) = w17 at n0_ n1_ n2_ ⊢
    have BK576 := n0_
    have BK579 := n1_
    have HB := n2_
    clear n0_ n1_ n2_
    (try (rw [drewN_self w17]; generalize hq_ : World.drewN w17 _ = w17; have n0_ : Aside0 (w17.heap[gb576]? = some (.cells #[.int .i64 0, .int .i64 0] 52 (0, 0))) := ⟨by rw [← hq_]; exact bkU⟩; have n1_ : Aside0 (w17.heap[gb579]? = some (.cells #[.int .i64 t580, .int .i64 2] 52 (0, 0))) := ⟨by rw [← hq_]; exact bkU⟩; have n2_ : Aside0 (Below w.heap.size w w17) := ⟨by rw [← hq_]; exact hbU⟩; clear BK576 BK579 HB hq_; have BK576 := n0_; have BK579 := n1_; have HB := n2_; clear n0_ n1_ n2_))
    replace BK576 := aU (blk_drew BK576.out)
    replace BK579 := aU (blk_drew BK579.out)
    replace HB := aU (below_drew1 HB.out)
    refine start_ (n := 11) (S := fun w' => w'.cell? ⟨gb579, 0, none⟩ = some (.int .i64 t580) ∧ w'.cell? ⟨gb579, 1, none⟩ = some (.int .i64 2)) (ds := []) #[false, false, false, false, false, false, false, false, false, false, false] (by kernel_rfl) rfl rfl ⟨(blk_cell BK579.out 0).trans rfl, (blk_cell BK579.out 1).trans rfl⟩ (fun hHeld => ?_); refine with_tabW spec_daParse.tab9 spec_daParse.bits9 (fun HT_ HW_ => ?_)
    generalize w17.drew = w18 at BK576 BK579 HB hHeld ⊢
    refine tkU 0 27 HT_ HW_ hHeld ?_
    refine tkU 1 28 HT_ HW_ hHeld ?_
    refine onU 2 (some 29) HT_ (fun K hK => ?_)
    refine goes_ Tryz.func117 (by kernel_rfl) rfl #[.agg #[.int .i64 t580, .int .i64 2]] (by rfl) rfl rfl arU ?_
    with_reducible refine (spec_daGood.calls t580 2 true _ A10.out).mono ?_
    rintro e w19 ⟨rfl, hb⟩
    refine ⟨_, rfl, ?_⟩
    replace BK576 := bbU BK576 hb
    replace BK579 := bbU BK579 hb
    replace HB := bsU hb
    (try clear hb)
    refine hK.out _ _ ⟨(blk_cell BK579.out 0).trans rfl, (blk_cell BK579.out 1).trans rfl⟩ (fun hHeld => ?_)
    clear hK K
    refine nmU 29 ?_
    refine puU 3 30 HT_ ?_
    refine puU 6 33 HT_ ?_
    refine tkU 4 31 HT_ HW_ hHeld ?_
    refine onU 5 (some 32) HT_ (fun K hK => ?_)
    refine goes_ Tryz.func118 (by kernel_rfl) rfl #[.agg #[.int .i64 t580, .int .i64 2]] (by rfl) rfl rfl arU ?_
    with_reducible refine (spec_daText.calls k t580 2 t582 _ A12.out).mono ?_
    rintro e w20 ⟨rfl, hb⟩
    refine ⟨_, rfl, ?_⟩
    replace BK576 := bbU BK576 hb
    replace BK579 := bbU BK579 hb
    replace HB := bsU hb
    (try clear hb)
    refine hK.out _ _ ⟨(blk_cell BK579.out 0).trans rfl, (blk_cell BK579.out 1).trans rfl⟩ (fun hHeld => ?_)
    clear hK K
    refine nmU 32 ?_
    refine puU 7 34 HT_ ?_
    refine puU 8 35 HT_ ?_
    refine onU 9 none HT_ (fun K hK => ?_)
    have hs21 : w20.cell? ⟨gb576, 0, none⟩ = some (.int .i64 0) := (blk_cell BK576.out 0).trans rfl
    have hfs21 := blk_frozen BK576.out 0
    have hns21_1 := NB579_576.out
    have hms21_1 := NB576_579.out
    have hs22 : w20.cell? ⟨gb576, 1, none⟩ = some (.int .i64 0) := (blk_cell BK576.out 1).trans rfl
    have hfs22 := blk_frozen BK576.out 1
    have hns22_1 := NB579_576.out
    have hms22_1 := NB576_579.out
    refine skip_ (w1 := ?_) (by rfl) rfl ?_ ?_
    rotate_left
    ·go_simp
     rfl
    refine hK.out _ _ ⟨((cell_far (p := ⟨gb576, _, none⟩) NB579_576.out _).trans (((cell_far (p := ⟨gb576, _, none⟩) NB579_576.out _).trans (hHeld.1)))), ((cell_far (p := ⟨gb576, _, none⟩) NB579_576.out _).trans (((cell_far (p := ⟨gb576, _, none⟩) NB579_576.out _).trans (hHeld.2))))⟩ (fun hHeld => ?_)
    clear hK K
    refine puU 10 3 HT_ ?_
    refine dnU HT_ ?_
    try go_wp2
    refine bodyPost_ret (results_ct rfl _ _ gb576 52 #[.int .i64 t580, .int .i64 2] (0, 0) _ rfl bkU Tryz.underlying52 rfl (by kernel_rfl)) rfl ?_
    exact ⟨errU, hbU⟩
   ·replace c11 := Bool.eq_false_iff.mpr c11
    subst c11
    rw [if_neg (show ¬ (false = true) by decide)] at H
    simp only [Option.some.injEq, Prod.mk.injEq] at H
    obtain ⟨rfl, rfl, rfl⟩ := H
    go_enter Tryz.func115, Tryz.ntmps115
    try go_wp2_with (first | ((with_reducible refine gdU 2 rfl ?_); refine bxU (cs := #[.int .i64 0, .int .i64 0]) (t := 52) ?_; intro gb576 hg w23 hbox hb; have BK576 := aU (hbox); have GW576 := geU hg; have GE576 := geU hg; replace HB := bsU hb; clear hb hbox hg) | ((with_reducible refine gcU 96 rfl ?_); refine goU (some 7) Tryz.func96 #[.int .i64 (a0.size : Int), .int .i64 1, .int .i64 3] ?_; (with_reducible refine (spec_l1In.calls (a0.size : Int) 1 3 true _ A2.out).mono ?_); rintro e w' ⟨rfl, ⟨nd, rfl⟩⟩; refine ⟨_, rfl, ?_⟩; (try (rw [drewN_self w23]; generalize hq_ : World.drewN w23 _ = w23; have n0_ : Aside0 (w23.heap[gb576]? = some (.cells #[.int .i64 0, .int .i64 0] 52 (0, 0))) := ⟨by rw [← hq_]; exact bkU⟩; have n1_ : Aside0 (Below w.heap.size w w23) := ⟨by rw [← hq_]; exact hbU⟩; clear BK576 HB hq_; have BK576 := n0_; have HB := n1_; clear n0_ n1_))) | ((with_reducible refine gcU 137 rfl ?_); refine goU (some 11) Tryz.func137 #[.string a0] ?_; (with_reducible refine (spec_l1Read.calls k a0 t578 _ A4.out).mono ?_); rintro e w' ⟨rfl, ⟨nd, rfl⟩⟩; refine ⟨_, rfl, ?_⟩; (try (rw [drewN_self w23]; generalize hq_ : World.drewN w23 _ = w23; have n0_ : Aside0 (w23.heap[gb576]? = some (.cells #[.int .i64 0, .int .i64 0] 52 (0, 0))) := ⟨by rw [← hq_]; exact bkU⟩; have n1_ : Aside0 (Below w.heap.size w w23) := ⟨by rw [← hq_]; exact hbU⟩; clear BK576 HB hq_; have BK576 := n0_; have HB := n1_; clear n0_ n1_))) | ((with_reducible refine gdU 4 rfl ?_); refine bxU (cs := #[.int .i64 0, .int .i64 0]) (t := 52) ?_; intro gb579 hg w24 hbox hb; have BK579 := aU (hbox); have GW579 := geU hg; have GE579 := geU hg; replace HB := bsU hb; have NB576_579 := neU BK576 hg; have NB579_576 := enU BK576 hg; replace BK576 := bbU BK576 hb; clear hb hbox hg; have hnb25 := NB579_576.out; have hnc25 := NB576_579.out; obtain ⟨hcz26_0, hcz26_1, hfz26_0, hfz26_1⟩ := b2U BK579; have p6 : 0 ≤ (0 : Int) := (by omega); have q6 : 0 < a0.size := (by have : (0 : Int) < (a0.size : Int) := dU; omega); have hx6 : ∀ h : 0 < a0.size, ((a0[0]'h).toNat : Int) = bt a0 0 := bt_at a0 0; clear p6; have qi6 : (0 < (a0.size : Int)) = True := eq_true (dU); replace q6 := eq_true q6) | ((with_reducible refine gcU 137 rfl ?_); refine goU (some 19) Tryz.func137 #[.string (a0.extract 1 a0.size)] ?_; (with_reducible refine (spec_l1Read.calls k (a0.extract 1 a0.size) t580 _ A9.out).mono ?_); rintro e w' ⟨rfl, ⟨nd, rfl⟩⟩; refine ⟨_, rfl, ?_⟩))
    have n0_ : Aside0 ((((((w24.setCell ⟨gb579, 0, none⟩ (.int .i64 t578)).setCell ⟨gb579, 1, none⟩ (.int .i64 1)).drewN nd).setCell ⟨gb579, 0, none⟩ (.int .i64 t580)).setCell ⟨gb579, 1, none⟩ (.int .i64 2)).heap[gb576]? = some (.cells #[.int .i64 0, .int .i64 0] 52 (0, 0))) := ⟨bkU⟩
    have n1_ : Aside0 ((((((w24.setCell ⟨gb579, 0, none⟩ (.int .i64 t578)).setCell ⟨gb579, 1, none⟩ (.int .i64 1)).drewN nd).setCell ⟨gb579, 0, none⟩ (.int .i64 t580)).setCell ⟨gb579, 1, none⟩ (.int .i64 2)).heap[gb579]? = some (.cells #[.int .i64 t580, .int .i64 2] 52 (0, 0))) := ⟨bkU⟩
    have n2_ : Aside0 (Below w.heap.size w (((((w24.setCell ⟨gb579, 0, none⟩ (.int .i64 t578)).setCell ⟨gb579, 1, none⟩ (.int .i64 1)).drewN nd).setCell ⟨gb579, 0, none⟩ (.int .i64 t580)).setCell ⟨gb579, 1, none⟩ (.int .i64 2))) := ⟨hbU⟩
    (try clear BK576); (try clear BK579); (try clear HB)
    generalize (((((w24.setCell ⟨gb579, 0, none⟩ (.int .i64 t578)).setCell ⟨gb579, 1, none⟩ (.int .i64 1)).drewN nd).setCell ⟨gb579, 0, none⟩ (.int .i64 t580)).setCell ⟨gb579, 1, none⟩ (.int .i64 2)) = w27 at n0_ n1_ n2_ ⊢
    have BK576 := n0_
    have BK579 := n1_
    have HB := n2_
    clear n0_ n1_ n2_
    (try (rw [drewN_self w27]; generalize hq_ : World.drewN w27 _ = w27; have n0_ : Aside0 (w27.heap[gb576]? = some (.cells #[.int .i64 0, .int .i64 0] 52 (0, 0))) := ⟨by rw [← hq_]; exact bkU⟩; have n1_ : Aside0 (w27.heap[gb579]? = some (.cells #[.int .i64 t580, .int .i64 2] 52 (0, 0))) := ⟨by rw [← hq_]; exact bkU⟩; have n2_ : Aside0 (Below w.heap.size w w27) := ⟨by rw [← hq_]; exact hbU⟩; clear BK576 BK579 HB hq_; have BK576 := n0_; have BK579 := n1_; have HB := n2_; clear n0_ n1_ n2_))
    replace BK576 := aU (blk_drew BK576.out)
    replace BK579 := aU (blk_drew BK579.out)
    replace HB := aU (below_drew1 HB.out)
    refine start_ (n := 11) (S := fun w' => w'.cell? ⟨gb579, 0, none⟩ = some (.int .i64 t580) ∧ w'.cell? ⟨gb579, 1, none⟩ = some (.int .i64 2)) (ds := []) #[false, false, false, false, false, false, false, false, false, false, false] (by kernel_rfl) rfl rfl ⟨(blk_cell BK579.out 0).trans rfl, (blk_cell BK579.out 1).trans rfl⟩ (fun hHeld => ?_); refine with_tabW spec_daParse.tab9 spec_daParse.bits9 (fun HT_ HW_ => ?_)
    generalize w27.drew = w28 at BK576 BK579 HB hHeld ⊢
    refine tkU 0 27 HT_ HW_ hHeld ?_
    refine tkU 1 28 HT_ HW_ hHeld ?_
    refine onU 2 (some 29) HT_ (fun K hK => ?_)
    refine goes_ Tryz.func117 (by kernel_rfl) rfl #[.agg #[.int .i64 t580, .int .i64 2]] (by rfl) rfl rfl arU ?_
    with_reducible refine (spec_daGood.calls t580 2 false _ A10.out).mono ?_
    rintro e w29 ⟨rfl, hb⟩
    refine ⟨_, rfl, ?_⟩
    replace BK576 := bbU BK576 hb
    replace BK579 := bbU BK579 hb
    replace HB := bsU hb
    (try clear hb)
    refine hK.out _ _ ⟨(blk_cell BK579.out 0).trans rfl, (blk_cell BK579.out 1).trans rfl⟩ (fun hHeld => ?_)
    clear hK K
    refine nmU 29 ?_
    refine puU 3 30 HT_ ?_
    refine pfU 4 31 HT_ ?_
    refine pfU 5 32 HT_ ?_
    refine pfU 6 33 HT_ ?_
    refine pfU 7 34 HT_ ?_
    refine puU 8 35 HT_ ?_
    refine onU 9 none HT_ (fun K hK => ?_)
    have hs30 : w29.cell? ⟨gb576, 0, none⟩ = some (.int .i64 0) := (blk_cell BK576.out 0).trans rfl
    have hfs30 := blk_frozen BK576.out 0
    have hns30_1 := NB579_576.out
    have hms30_1 := NB576_579.out
    have hs31 : w29.cell? ⟨gb576, 1, none⟩ = some (.int .i64 0) := (blk_cell BK576.out 1).trans rfl
    have hfs31 := blk_frozen BK576.out 1
    have hns31_1 := NB579_576.out
    have hms31_1 := NB576_579.out
    refine skip_ (w1 := ?_) (by rfl) rfl ?_ ?_
    rotate_left
    ·go_simp
     rfl
    refine hK.out _ _ ⟨((cell_far (p := ⟨gb576, _, none⟩) NB579_576.out _).trans (((cell_far (p := ⟨gb576, _, none⟩) NB579_576.out _).trans (hHeld.1)))), ((cell_far (p := ⟨gb576, _, none⟩) NB579_576.out _).trans (((cell_far (p := ⟨gb576, _, none⟩) NB579_576.out _).trans (hHeld.2))))⟩ (fun hHeld => ?_)
    clear hK K
    refine puU 10 3 HT_ ?_
    refine dnU HT_ ?_
    try go_wp2
    refine bodyPost_ret (results_ct rfl _ _ gb576 52 #[.int .i64 t580, .int .i64 2] (0, 0) _ rfl bkU Tryz.underlying52 rfl (by kernel_rfl)) rfl ?_
    exact ⟨errU, hbU⟩
  ·rw [if_neg c7] at H
   have c7b0 : ((bt a0 0) == 100) = false := beq_eq_false_iff_ne.mpr c7
   have c7b1 : ((bt a0 0) != 100) = true := bne_iff_ne.mpr c7
   by_cases c32 : (bt a0 0) = 116
   ·rw [if_pos c32] at H
    have c32b0 : ((bt a0 0) == 116) = true := beq_iff_eq.mpr c32
    have c32b1 : ((bt a0 0) != 116) = false := bne_eq_false_iff_eq.mpr c32
    clear c32
    replace H := ifS H
    obtain ⟨c33, H⟩ := H
    have c33b0 := eq_true c33
    have c33b1 : decide (1 ≤ (a0.size : Int)) = true := decide_eq_true c33
    clear c33
    replace H := bindS H
    obtain ⟨t583, A34, H⟩ := H
    (try dsimp only at H)
    replace H := bindS H
    obtain ⟨t584, A35, H⟩ := H
    (try dsimp only at H)
    by_cases c36 : t584 = true
    ·subst c36
     rw [if_pos rfl] at H
     replace H := bindS H
     obtain ⟨t585, A37, H⟩ := H
     (try dsimp only at H)
     simp only [Option.some.injEq, Prod.mk.injEq] at H
     obtain ⟨rfl, rfl, rfl⟩ := H
     go_enter Tryz.func115, Tryz.ntmps115
     try go_wp2_with (first | ((with_reducible refine gdU 2 rfl ?_); refine bxU (cs := #[.int .i64 0, .int .i64 0]) (t := 52) ?_; intro gb576 hg w38 hbox hb; have BK576 := aU (hbox); have GW576 := geU hg; have GE576 := geU hg; replace HB := bsU hb; clear hb hbox hg) | ((with_reducible refine gcU 96 rfl ?_); refine goU (some 7) Tryz.func96 #[.int .i64 (a0.size : Int), .int .i64 1, .int .i64 3] ?_; (with_reducible refine (spec_l1In.calls (a0.size : Int) 1 3 true _ A2.out).mono ?_); rintro e w' ⟨rfl, ⟨nd, rfl⟩⟩; refine ⟨_, rfl, ?_⟩; (try (rw [drewN_self w38]; generalize hq_ : World.drewN w38 _ = w38; have n0_ : Aside0 (w38.heap[gb576]? = some (.cells #[.int .i64 0, .int .i64 0] 52 (0, 0))) := ⟨by rw [← hq_]; exact bkU⟩; have n1_ : Aside0 (Below w.heap.size w w38) := ⟨by rw [← hq_]; exact hbU⟩; clear BK576 HB hq_; have BK576 := n0_; have HB := n1_; clear n0_ n1_))) | ((with_reducible refine gcU 137 rfl ?_); refine goU (some 11) Tryz.func137 #[.string a0] ?_; (with_reducible refine (spec_l1Read.calls k a0 t578 _ A4.out).mono ?_); rintro e w' ⟨rfl, ⟨nd, rfl⟩⟩; refine ⟨_, rfl, ?_⟩; (try (rw [drewN_self w38]; generalize hq_ : World.drewN w38 _ = w38; have n0_ : Aside0 (w38.heap[gb576]? = some (.cells #[.int .i64 0, .int .i64 0] 52 (0, 0))) := ⟨by rw [← hq_]; exact bkU⟩; have n1_ : Aside0 (Below w.heap.size w w38) := ⟨by rw [← hq_]; exact hbU⟩; clear BK576 HB hq_; have BK576 := n0_; have HB := n1_; clear n0_ n1_))) | ((with_reducible refine gdU 4 rfl ?_); refine bxU (cs := #[.int .i64 0, .int .i64 0]) (t := 52) ?_; intro gb579 hg w39 hbox hb; have BK579 := aU (hbox); have GW579 := geU hg; have GE579 := geU hg; replace HB := bsU hb; have NB576_579 := neU BK576 hg; have NB579_576 := enU BK576 hg; replace BK576 := bbU BK576 hb; clear hb hbox hg; have hnb40 := NB579_576.out; have hnc40 := NB576_579.out; obtain ⟨hcz41_0, hcz41_1, hfz41_0, hfz41_1⟩ := b2U BK579; have p6 : 0 ≤ (0 : Int) := (by omega); have q6 : 0 < a0.size := (by have : (0 : Int) < (a0.size : Int) := dU; omega); have hx6 : ∀ h : 0 < a0.size, ((a0[0]'h).toNat : Int) = bt a0 0 := bt_at a0 0; clear p6; have qi6 : (0 < (a0.size : Int)) = True := eq_true (dU); replace q6 := eq_true q6) | ((with_reducible refine gcU 137 rfl ?_); refine goU (some 25) Tryz.func137 #[.string (a0.extract 1 a0.size)] ?_; (with_reducible refine (spec_l1Read.calls k (a0.extract 1 a0.size) t583 _ A34.out).mono ?_); rintro e w' ⟨rfl, ⟨nd, rfl⟩⟩; refine ⟨_, rfl, ?_⟩))
     have n0_ : Aside0 ((((((w39.setCell ⟨gb579, 0, none⟩ (.int .i64 t578)).setCell ⟨gb579, 1, none⟩ (.int .i64 1)).drewN nd).setCell ⟨gb579, 0, none⟩ (.int .i64 t583)).setCell ⟨gb579, 1, none⟩ (.int .i64 3)).heap[gb576]? = some (.cells #[.int .i64 0, .int .i64 0] 52 (0, 0))) := ⟨bkU⟩
     have n1_ : Aside0 ((((((w39.setCell ⟨gb579, 0, none⟩ (.int .i64 t578)).setCell ⟨gb579, 1, none⟩ (.int .i64 1)).drewN nd).setCell ⟨gb579, 0, none⟩ (.int .i64 t583)).setCell ⟨gb579, 1, none⟩ (.int .i64 3)).heap[gb579]? = some (.cells #[.int .i64 t583, .int .i64 3] 52 (0, 0))) := ⟨bkU⟩
     have n2_ : Aside0 (Below w.heap.size w (((((w39.setCell ⟨gb579, 0, none⟩ (.int .i64 t578)).setCell ⟨gb579, 1, none⟩ (.int .i64 1)).drewN nd).setCell ⟨gb579, 0, none⟩ (.int .i64 t583)).setCell ⟨gb579, 1, none⟩ (.int .i64 3))) := ⟨hbU⟩
     (try clear BK576); (try clear BK579); (try clear HB)
     generalize (((((w39.setCell ⟨gb579, 0, none⟩ (.int .i64 t578)).setCell ⟨gb579, 1, none⟩ (.int .i64 1)).drewN nd).setCell ⟨gb579, 0, none⟩ (.int .i64 t583)).setCell ⟨gb579, 1, none⟩ (.int .i64 3)) = w42 at n0_ n1_ n2_ ⊢
     have BK576 := n0_
     have BK579 := n1_
     have HB := n2_
     clear n0_ n1_ n2_
     (try (rw [drewN_self w42]; generalize hq_ : World.drewN w42 _ = w42; have n0_ : Aside0 (w42.heap[gb576]? = some (.cells #[.int .i64 0, .int .i64 0] 52 (0, 0))) := ⟨by rw [← hq_]; exact bkU⟩; have n1_ : Aside0 (w42.heap[gb579]? = some (.cells #[.int .i64 t583, .int .i64 3] 52 (0, 0))) := ⟨by rw [← hq_]; exact bkU⟩; have n2_ : Aside0 (Below w.heap.size w w42) := ⟨by rw [← hq_]; exact hbU⟩; clear BK576 BK579 HB hq_; have BK576 := n0_; have BK579 := n1_; have HB := n2_; clear n0_ n1_ n2_))
     replace BK576 := aU (blk_drew BK576.out)
     replace BK579 := aU (blk_drew BK579.out)
     replace HB := aU (below_drew1 HB.out)
     refine start_ (n := 11) (S := fun w' => w'.cell? ⟨gb579, 0, none⟩ = some (.int .i64 t583) ∧ w'.cell? ⟨gb579, 1, none⟩ = some (.int .i64 3)) (ds := []) #[false, false, false, false, false, false, false, false, false, false, false] (by kernel_rfl) rfl rfl ⟨(blk_cell BK579.out 0).trans rfl, (blk_cell BK579.out 1).trans rfl⟩ (fun hHeld => ?_); refine with_tabW spec_daParse.tab9 spec_daParse.bits9 (fun HT_ HW_ => ?_)
     generalize w42.drew = w43 at BK576 BK579 HB hHeld ⊢
     refine tkU 0 27 HT_ HW_ hHeld ?_
     refine tkU 1 28 HT_ HW_ hHeld ?_
     refine onU 2 (some 29) HT_ (fun K hK => ?_)
     refine goes_ Tryz.func117 (by kernel_rfl) rfl #[.agg #[.int .i64 t583, .int .i64 3]] (by rfl) rfl rfl arU ?_
     with_reducible refine (spec_daGood.calls t583 3 true _ A35.out).mono ?_
     rintro e w44 ⟨rfl, hb⟩
     refine ⟨_, rfl, ?_⟩
     replace BK576 := bbU BK576 hb
     replace BK579 := bbU BK579 hb
     replace HB := bsU hb
     (try clear hb)
     refine hK.out _ _ ⟨(blk_cell BK579.out 0).trans rfl, (blk_cell BK579.out 1).trans rfl⟩ (fun hHeld => ?_)
     clear hK K
     refine nmU 29 ?_
     refine puU 3 30 HT_ ?_
     refine puU 6 33 HT_ ?_
     refine tkU 4 31 HT_ HW_ hHeld ?_
     refine onU 5 (some 32) HT_ (fun K hK => ?_)
     refine goes_ Tryz.func118 (by kernel_rfl) rfl #[.agg #[.int .i64 t583, .int .i64 3]] (by rfl) rfl rfl arU ?_
     with_reducible refine (spec_daText.calls k t583 3 t585 _ A37.out).mono ?_
     rintro e w45 ⟨rfl, hb⟩
     refine ⟨_, rfl, ?_⟩
     replace BK576 := bbU BK576 hb
     replace BK579 := bbU BK579 hb
     replace HB := bsU hb
     (try clear hb)
     refine hK.out _ _ ⟨(blk_cell BK579.out 0).trans rfl, (blk_cell BK579.out 1).trans rfl⟩ (fun hHeld => ?_)
     clear hK K
     refine nmU 32 ?_
     refine puU 7 34 HT_ ?_
     refine puU 8 35 HT_ ?_
     refine onU 9 none HT_ (fun K hK => ?_)
     have hs46 : w45.cell? ⟨gb576, 0, none⟩ = some (.int .i64 0) := (blk_cell BK576.out 0).trans rfl
     have hfs46 := blk_frozen BK576.out 0
     have hns46_1 := NB579_576.out
     have hms46_1 := NB576_579.out
     have hs47 : w45.cell? ⟨gb576, 1, none⟩ = some (.int .i64 0) := (blk_cell BK576.out 1).trans rfl
     have hfs47 := blk_frozen BK576.out 1
     have hns47_1 := NB579_576.out
     have hms47_1 := NB576_579.out
     refine skip_ (w1 := ?_) (by rfl) rfl ?_ ?_
     rotate_left
     ·go_simp
      rfl
     refine hK.out _ _ ⟨((cell_far (p := ⟨gb576, _, none⟩) NB579_576.out _).trans (((cell_far (p := ⟨gb576, _, none⟩) NB579_576.out _).trans (hHeld.1)))), ((cell_far (p := ⟨gb576, _, none⟩) NB579_576.out _).trans (((cell_far (p := ⟨gb576, _, none⟩) NB579_576.out _).trans (hHeld.2))))⟩ (fun hHeld => ?_)
     clear hK K
     refine puU 10 3 HT_ ?_
     refine dnU HT_ ?_
     try go_wp2
     refine bodyPost_ret (results_ct rfl _ _ gb576 52 #[.int .i64 t583, .int .i64 3] (0, 0) _ rfl bkU Tryz.underlying52 rfl (by kernel_rfl)) rfl ?_
     exact ⟨errU, hbU⟩
    ·replace c36 := Bool.eq_false_iff.mpr c36
     subst c36
     rw [if_neg (show ¬ (false = true) by decide)] at H
     simp only [Option.some.injEq, Prod.mk.injEq] at H
     obtain ⟨rfl, rfl, rfl⟩ := H
     go_enter Tryz.func115, Tryz.ntmps115
     try go_wp2_with (first | ((with_reducible refine gdU 2 rfl ?_); refine bxU (cs := #[.int .i64 0, .int .i64 0]) (t := 52) ?_; intro gb576 hg w48 hbox hb; have BK576 := aU (hbox); have GW576 := geU hg; have GE576 := geU hg; replace HB := bsU hb; clear hb hbox hg) | ((with_reducible refine gcU 96 rfl ?_); refine goU (some 7) Tryz.func96 #[.int .i64 (a0.size : Int), .int .i64 1, .int .i64 3] ?_; (with_reducible refine (spec_l1In.calls (a0.size : Int) 1 3 true _ A2.out).mono ?_); rintro e w' ⟨rfl, ⟨nd, rfl⟩⟩; refine ⟨_, rfl, ?_⟩; (try (rw [drewN_self w48]; generalize hq_ : World.drewN w48 _ = w48; have n0_ : Aside0 (w48.heap[gb576]? = some (.cells #[.int .i64 0, .int .i64 0] 52 (0, 0))) := ⟨by rw [← hq_]; exact bkU⟩; have n1_ : Aside0 (Below w.heap.size w w48) := ⟨by rw [← hq_]; exact hbU⟩; clear BK576 HB hq_; have BK576 := n0_; have HB := n1_; clear n0_ n1_))) | ((with_reducible refine gcU 137 rfl ?_); refine goU (some 11) Tryz.func137 #[.string a0] ?_; (with_reducible refine (spec_l1Read.calls k a0 t578 _ A4.out).mono ?_); rintro e w' ⟨rfl, ⟨nd, rfl⟩⟩; refine ⟨_, rfl, ?_⟩; (try (rw [drewN_self w48]; generalize hq_ : World.drewN w48 _ = w48; have n0_ : Aside0 (w48.heap[gb576]? = some (.cells #[.int .i64 0, .int .i64 0] 52 (0, 0))) := ⟨by rw [← hq_]; exact bkU⟩; have n1_ : Aside0 (Below w.heap.size w w48) := ⟨by rw [← hq_]; exact hbU⟩; clear BK576 HB hq_; have BK576 := n0_; have HB := n1_; clear n0_ n1_))) | ((with_reducible refine gdU 4 rfl ?_); refine bxU (cs := #[.int .i64 0, .int .i64 0]) (t := 52) ?_; intro gb579 hg w49 hbox hb; have BK579 := aU (hbox); have GW579 := geU hg; have GE579 := geU hg; replace HB := bsU hb; have NB576_579 := neU BK576 hg; have NB579_576 := enU BK576 hg; replace BK576 := bbU BK576 hb; clear hb hbox hg; have hnb50 := NB579_576.out; have hnc50 := NB576_579.out; obtain ⟨hcz51_0, hcz51_1, hfz51_0, hfz51_1⟩ := b2U BK579; have p6 : 0 ≤ (0 : Int) := (by omega); have q6 : 0 < a0.size := (by have : (0 : Int) < (a0.size : Int) := dU; omega); have hx6 : ∀ h : 0 < a0.size, ((a0[0]'h).toNat : Int) = bt a0 0 := bt_at a0 0; clear p6; have qi6 : (0 < (a0.size : Int)) = True := eq_true (dU); replace q6 := eq_true q6) | ((with_reducible refine gcU 137 rfl ?_); refine goU (some 25) Tryz.func137 #[.string (a0.extract 1 a0.size)] ?_; (with_reducible refine (spec_l1Read.calls k (a0.extract 1 a0.size) t583 _ A34.out).mono ?_); rintro e w' ⟨rfl, ⟨nd, rfl⟩⟩; refine ⟨_, rfl, ?_⟩))
     have n0_ : Aside0 ((((((w49.setCell ⟨gb579, 0, none⟩ (.int .i64 t578)).setCell ⟨gb579, 1, none⟩ (.int .i64 1)).drewN nd).setCell ⟨gb579, 0, none⟩ (.int .i64 t583)).setCell ⟨gb579, 1, none⟩ (.int .i64 3)).heap[gb576]? = some (.cells #[.int .i64 0, .int .i64 0] 52 (0, 0))) := ⟨bkU⟩
     have n1_ : Aside0 ((((((w49.setCell ⟨gb579, 0, none⟩ (.int .i64 t578)).setCell ⟨gb579, 1, none⟩ (.int .i64 1)).drewN nd).setCell ⟨gb579, 0, none⟩ (.int .i64 t583)).setCell ⟨gb579, 1, none⟩ (.int .i64 3)).heap[gb579]? = some (.cells #[.int .i64 t583, .int .i64 3] 52 (0, 0))) := ⟨bkU⟩
     have n2_ : Aside0 (Below w.heap.size w (((((w49.setCell ⟨gb579, 0, none⟩ (.int .i64 t578)).setCell ⟨gb579, 1, none⟩ (.int .i64 1)).drewN nd).setCell ⟨gb579, 0, none⟩ (.int .i64 t583)).setCell ⟨gb579, 1, none⟩ (.int .i64 3))) := ⟨hbU⟩
     (try clear BK576); (try clear BK579); (try clear HB)
     generalize (((((w49.setCell ⟨gb579, 0, none⟩ (.int .i64 t578)).setCell ⟨gb579, 1, none⟩ (.int .i64 1)).drewN nd).setCell ⟨gb579, 0, none⟩ (.int .i64 t583)).setCell ⟨gb579, 1, none⟩ (.int .i64 3)) = w52 at n0_ n1_ n2_ ⊢
     have BK576 := n0_
     have BK579 := n1_
     have HB := n2_
     clear n0_ n1_ n2_
     (try (rw [drewN_self w52]; generalize hq_ : World.drewN w52 _ = w52; have n0_ : Aside0 (w52.heap[gb576]? = some (.cells #[.int .i64 0, .int .i64 0] 52 (0, 0))) := ⟨by rw [← hq_]; exact bkU⟩; have n1_ : Aside0 (w52.heap[gb579]? = some (.cells #[.int .i64 t583, .int .i64 3] 52 (0, 0))) := ⟨by rw [← hq_]; exact bkU⟩; have n2_ : Aside0 (Below w.heap.size w w52) := ⟨by rw [← hq_]; exact hbU⟩; clear BK576 BK579 HB hq_; have BK576 := n0_; have BK579 := n1_; have HB := n2_; clear n0_ n1_ n2_))
     replace BK576 := aU (blk_drew BK576.out)
     replace BK579 := aU (blk_drew BK579.out)
     replace HB := aU (below_drew1 HB.out)
     refine start_ (n := 11) (S := fun w' => w'.cell? ⟨gb579, 0, none⟩ = some (.int .i64 t583) ∧ w'.cell? ⟨gb579, 1, none⟩ = some (.int .i64 3)) (ds := []) #[false, false, false, false, false, false, false, false, false, false, false] (by kernel_rfl) rfl rfl ⟨(blk_cell BK579.out 0).trans rfl, (blk_cell BK579.out 1).trans rfl⟩ (fun hHeld => ?_); refine with_tabW spec_daParse.tab9 spec_daParse.bits9 (fun HT_ HW_ => ?_)
     generalize w52.drew = w53 at BK576 BK579 HB hHeld ⊢
     refine tkU 0 27 HT_ HW_ hHeld ?_
     refine tkU 1 28 HT_ HW_ hHeld ?_
     refine onU 2 (some 29) HT_ (fun K hK => ?_)
     refine goes_ Tryz.func117 (by kernel_rfl) rfl #[.agg #[.int .i64 t583, .int .i64 3]] (by rfl) rfl rfl arU ?_
     with_reducible refine (spec_daGood.calls t583 3 false _ A35.out).mono ?_
     rintro e w54 ⟨rfl, hb⟩
     refine ⟨_, rfl, ?_⟩
     replace BK576 := bbU BK576 hb
     replace BK579 := bbU BK579 hb
     replace HB := bsU hb
     (try clear hb)
     refine hK.out _ _ ⟨(blk_cell BK579.out 0).trans rfl, (blk_cell BK579.out 1).trans rfl⟩ (fun hHeld => ?_)
     clear hK K
     refine nmU 29 ?_
     refine puU 3 30 HT_ ?_
     refine pfU 4 31 HT_ ?_
     refine pfU 5 32 HT_ ?_
     refine pfU 6 33 HT_ ?_
     refine pfU 7 34 HT_ ?_
     refine puU 8 35 HT_ ?_
     refine onU 9 none HT_ (fun K hK => ?_)
     have hs55 : w54.cell? ⟨gb576, 0, none⟩ = some (.int .i64 0) := (blk_cell BK576.out 0).trans rfl
     have hfs55 := blk_frozen BK576.out 0
     have hns55_1 := NB579_576.out
     have hms55_1 := NB576_579.out
     have hs56 : w54.cell? ⟨gb576, 1, none⟩ = some (.int .i64 0) := (blk_cell BK576.out 1).trans rfl
     have hfs56 := blk_frozen BK576.out 1
     have hns56_1 := NB579_576.out
     have hms56_1 := NB576_579.out
     refine skip_ (w1 := ?_) (by rfl) rfl ?_ ?_
     rotate_left
     ·go_simp
      rfl
     refine hK.out _ _ ⟨((cell_far (p := ⟨gb576, _, none⟩) NB579_576.out _).trans (((cell_far (p := ⟨gb576, _, none⟩) NB579_576.out _).trans (hHeld.1)))), ((cell_far (p := ⟨gb576, _, none⟩) NB579_576.out _).trans (((cell_far (p := ⟨gb576, _, none⟩) NB579_576.out _).trans (hHeld.2))))⟩ (fun hHeld => ?_)
     clear hK K
     refine puU 10 3 HT_ ?_
     refine dnU HT_ ?_
     try go_wp2
     refine bodyPost_ret (results_ct rfl _ _ gb576 52 #[.int .i64 t583, .int .i64 3] (0, 0) _ rfl bkU Tryz.underlying52 rfl (by kernel_rfl)) rfl ?_
     exact ⟨errU, hbU⟩
   ·rw [if_neg c32] at H
    have c32b0 : ((bt a0 0) == 116) = false := beq_eq_false_iff_ne.mpr c32
    have c32b1 : ((bt a0 0) != 116) = true := bne_iff_ne.mpr c32
    replace H := bindS H
    obtain ⟨t586, A57, H⟩ := H
    (try dsimp only at H)
    by_cases c58 : t586 = true
    ·subst c58
     rw [if_pos rfl] at H
     replace H := bindS H
     obtain ⟨t587, A59, H⟩ := H
     (try dsimp only at H)
     simp only [Option.some.injEq, Prod.mk.injEq] at H
     obtain ⟨rfl, rfl, rfl⟩ := H
     go_enter Tryz.func115, Tryz.ntmps115
     try go_wp2_with (first | ((with_reducible refine gdU 2 rfl ?_); refine bxU (cs := #[.int .i64 0, .int .i64 0]) (t := 52) ?_; intro gb576 hg w60 hbox hb; have BK576 := aU (hbox); have GW576 := geU hg; have GE576 := geU hg; replace HB := bsU hb; clear hb hbox hg) | ((with_reducible refine gcU 96 rfl ?_); refine goU (some 7) Tryz.func96 #[.int .i64 (a0.size : Int), .int .i64 1, .int .i64 3] ?_; (with_reducible refine (spec_l1In.calls (a0.size : Int) 1 3 true _ A2.out).mono ?_); rintro e w' ⟨rfl, ⟨nd, rfl⟩⟩; refine ⟨_, rfl, ?_⟩; (try (rw [drewN_self w60]; generalize hq_ : World.drewN w60 _ = w60; have n0_ : Aside0 (w60.heap[gb576]? = some (.cells #[.int .i64 0, .int .i64 0] 52 (0, 0))) := ⟨by rw [← hq_]; exact bkU⟩; have n1_ : Aside0 (Below w.heap.size w w60) := ⟨by rw [← hq_]; exact hbU⟩; clear BK576 HB hq_; have BK576 := n0_; have HB := n1_; clear n0_ n1_))) | ((with_reducible refine gcU 137 rfl ?_); refine goU (some 11) Tryz.func137 #[.string a0] ?_; (with_reducible refine (spec_l1Read.calls k a0 t578 _ A4.out).mono ?_); rintro e w' ⟨rfl, ⟨nd, rfl⟩⟩; refine ⟨_, rfl, ?_⟩; (try (rw [drewN_self w60]; generalize hq_ : World.drewN w60 _ = w60; have n0_ : Aside0 (w60.heap[gb576]? = some (.cells #[.int .i64 0, .int .i64 0] 52 (0, 0))) := ⟨by rw [← hq_]; exact bkU⟩; have n1_ : Aside0 (Below w.heap.size w w60) := ⟨by rw [← hq_]; exact hbU⟩; clear BK576 HB hq_; have BK576 := n0_; have HB := n1_; clear n0_ n1_))) | ((with_reducible refine gdU 4 rfl ?_); refine bxU (cs := #[.int .i64 0, .int .i64 0]) (t := 52) ?_; intro gb579 hg w61 hbox hb; have BK579 := aU (hbox); have GW579 := geU hg; have GE579 := geU hg; replace HB := bsU hb; have NB576_579 := neU BK576 hg; have NB579_576 := enU BK576 hg; replace BK576 := bbU BK576 hb; clear hb hbox hg; have hnb62 := NB579_576.out; have hnc62 := NB576_579.out; obtain ⟨hcz63_0, hcz63_1, hfz63_0, hfz63_1⟩ := b2U BK579; have p6 : 0 ≤ (0 : Int) := (by omega); have q6 : 0 < a0.size := (by have : (0 : Int) < (a0.size : Int) := dU; omega); have hx6 : ∀ h : 0 < a0.size, ((a0[0]'h).toNat : Int) = bt a0 0 := bt_at a0 0; clear p6; have qi6 : (0 < (a0.size : Int)) = True := eq_true (dU); replace q6 := eq_true q6))
     have n0_ : Aside0 (((w61.setCell ⟨gb579, 0, none⟩ (.int .i64 t578)).setCell ⟨gb579, 1, none⟩ (.int .i64 1)).heap[gb576]? = some (.cells #[.int .i64 0, .int .i64 0] 52 (0, 0))) := ⟨bkU⟩
     have n1_ : Aside0 (((w61.setCell ⟨gb579, 0, none⟩ (.int .i64 t578)).setCell ⟨gb579, 1, none⟩ (.int .i64 1)).heap[gb579]? = some (.cells #[.int .i64 t578, .int .i64 1] 52 (0, 0))) := ⟨bkU⟩
     have n2_ : Aside0 (Below w.heap.size w ((w61.setCell ⟨gb579, 0, none⟩ (.int .i64 t578)).setCell ⟨gb579, 1, none⟩ (.int .i64 1))) := ⟨hbU⟩
     (try clear BK576); (try clear BK579); (try clear HB)
     generalize ((w61.setCell ⟨gb579, 0, none⟩ (.int .i64 t578)).setCell ⟨gb579, 1, none⟩ (.int .i64 1)) = w64 at n0_ n1_ n2_ ⊢
     have BK576 := n0_
     have BK579 := n1_
     have HB := n2_
     clear n0_ n1_ n2_
     replace BK576 := aU (blk_drew BK576.out)
     replace BK579 := aU (blk_drew BK579.out)
     replace HB := aU (below_drew1 HB.out)
     refine start_ (n := 11) (S := fun w' => w'.cell? ⟨gb579, 0, none⟩ = some (.int .i64 t578) ∧ w'.cell? ⟨gb579, 1, none⟩ = some (.int .i64 1)) (ds := []) #[false, false, false, false, false, false, false, false, false, false, false] (by kernel_rfl) rfl rfl ⟨(blk_cell BK579.out 0).trans rfl, (blk_cell BK579.out 1).trans rfl⟩ (fun hHeld => ?_); refine with_tabW spec_daParse.tab9 spec_daParse.bits9 (fun HT_ HW_ => ?_)
     generalize w64.drew = w65 at BK576 BK579 HB hHeld ⊢
     refine tkU 0 27 HT_ HW_ hHeld ?_
     refine tkU 1 28 HT_ HW_ hHeld ?_
     refine onU 2 (some 29) HT_ (fun K hK => ?_)
     refine goes_ Tryz.func117 (by kernel_rfl) rfl #[.agg #[.int .i64 t578, .int .i64 1]] (by rfl) rfl rfl arU ?_
     with_reducible refine (spec_daGood.calls t578 1 true _ A57.out).mono ?_
     rintro e w66 ⟨rfl, hb⟩
     refine ⟨_, rfl, ?_⟩
     replace BK576 := bbU BK576 hb
     replace BK579 := bbU BK579 hb
     replace HB := bsU hb
     (try clear hb)
     refine hK.out _ _ ⟨(blk_cell BK579.out 0).trans rfl, (blk_cell BK579.out 1).trans rfl⟩ (fun hHeld => ?_)
     clear hK K
     refine nmU 29 ?_
     refine puU 3 30 HT_ ?_
     refine puU 6 33 HT_ ?_
     refine tkU 4 31 HT_ HW_ hHeld ?_
     refine onU 5 (some 32) HT_ (fun K hK => ?_)
     refine goes_ Tryz.func118 (by kernel_rfl) rfl #[.agg #[.int .i64 t578, .int .i64 1]] (by rfl) rfl rfl arU ?_
     with_reducible refine (spec_daText.calls k t578 1 t587 _ A59.out).mono ?_
     rintro e w67 ⟨rfl, hb⟩
     refine ⟨_, rfl, ?_⟩
     replace BK576 := bbU BK576 hb
     replace BK579 := bbU BK579 hb
     replace HB := bsU hb
     (try clear hb)
     refine hK.out _ _ ⟨(blk_cell BK579.out 0).trans rfl, (blk_cell BK579.out 1).trans rfl⟩ (fun hHeld => ?_)
     clear hK K
     refine nmU 32 ?_
     refine puU 7 34 HT_ ?_
     refine puU 8 35 HT_ ?_
     refine onU 9 none HT_ (fun K hK => ?_)
     have hs68 : w67.cell? ⟨gb576, 0, none⟩ = some (.int .i64 0) := (blk_cell BK576.out 0).trans rfl
     have hfs68 := blk_frozen BK576.out 0
     have hns68_1 := NB579_576.out
     have hms68_1 := NB576_579.out
     have hs69 : w67.cell? ⟨gb576, 1, none⟩ = some (.int .i64 0) := (blk_cell BK576.out 1).trans rfl
     have hfs69 := blk_frozen BK576.out 1
     have hns69_1 := NB579_576.out
     have hms69_1 := NB576_579.out
     refine skip_ (w1 := ?_) (by rfl) rfl ?_ ?_
     rotate_left
     ·go_simp
      rfl
     refine hK.out _ _ ⟨((cell_far (p := ⟨gb576, _, none⟩) NB579_576.out _).trans (((cell_far (p := ⟨gb576, _, none⟩) NB579_576.out _).trans (hHeld.1)))), ((cell_far (p := ⟨gb576, _, none⟩) NB579_576.out _).trans (((cell_far (p := ⟨gb576, _, none⟩) NB579_576.out _).trans (hHeld.2))))⟩ (fun hHeld => ?_)
     clear hK K
     refine puU 10 3 HT_ ?_
     refine dnU HT_ ?_
     try go_wp2
     refine bodyPost_ret (results_ct rfl _ _ gb576 52 #[.int .i64 t578, .int .i64 1] (0, 0) _ rfl bkU Tryz.underlying52 rfl (by kernel_rfl)) rfl ?_
     exact ⟨errU, hbU⟩
    ·replace c58 := Bool.eq_false_iff.mpr c58
     subst c58
     rw [if_neg (show ¬ (false = true) by decide)] at H
     simp only [Option.some.injEq, Prod.mk.injEq] at H
     obtain ⟨rfl, rfl, rfl⟩ := H
     go_enter Tryz.func115, Tryz.ntmps115
     try go_wp2_with (first | ((with_reducible refine gdU 2 rfl ?_); refine bxU (cs := #[.int .i64 0, .int .i64 0]) (t := 52) ?_; intro gb576 hg w70 hbox hb; have BK576 := aU (hbox); have GW576 := geU hg; have GE576 := geU hg; replace HB := bsU hb; clear hb hbox hg) | ((with_reducible refine gcU 96 rfl ?_); refine goU (some 7) Tryz.func96 #[.int .i64 (a0.size : Int), .int .i64 1, .int .i64 3] ?_; (with_reducible refine (spec_l1In.calls (a0.size : Int) 1 3 true _ A2.out).mono ?_); rintro e w' ⟨rfl, ⟨nd, rfl⟩⟩; refine ⟨_, rfl, ?_⟩; (try (rw [drewN_self w70]; generalize hq_ : World.drewN w70 _ = w70; have n0_ : Aside0 (w70.heap[gb576]? = some (.cells #[.int .i64 0, .int .i64 0] 52 (0, 0))) := ⟨by rw [← hq_]; exact bkU⟩; have n1_ : Aside0 (Below w.heap.size w w70) := ⟨by rw [← hq_]; exact hbU⟩; clear BK576 HB hq_; have BK576 := n0_; have HB := n1_; clear n0_ n1_))) | ((with_reducible refine gcU 137 rfl ?_); refine goU (some 11) Tryz.func137 #[.string a0] ?_; (with_reducible refine (spec_l1Read.calls k a0 t578 _ A4.out).mono ?_); rintro e w' ⟨rfl, ⟨nd, rfl⟩⟩; refine ⟨_, rfl, ?_⟩; (try (rw [drewN_self w70]; generalize hq_ : World.drewN w70 _ = w70; have n0_ : Aside0 (w70.heap[gb576]? = some (.cells #[.int .i64 0, .int .i64 0] 52 (0, 0))) := ⟨by rw [← hq_]; exact bkU⟩; have n1_ : Aside0 (Below w.heap.size w w70) := ⟨by rw [← hq_]; exact hbU⟩; clear BK576 HB hq_; have BK576 := n0_; have HB := n1_; clear n0_ n1_))) | ((with_reducible refine gdU 4 rfl ?_); refine bxU (cs := #[.int .i64 0, .int .i64 0]) (t := 52) ?_; intro gb579 hg w71 hbox hb; have BK579 := aU (hbox); have GW579 := geU hg; have GE579 := geU hg; replace HB := bsU hb; have NB576_579 := neU BK576 hg; have NB579_576 := enU BK576 hg; replace BK576 := bbU BK576 hb; clear hb hbox hg; have hnb72 := NB579_576.out; have hnc72 := NB576_579.out; obtain ⟨hcz73_0, hcz73_1, hfz73_0, hfz73_1⟩ := b2U BK579; have p6 : 0 ≤ (0 : Int) := (by omega); have q6 : 0 < a0.size := (by have : (0 : Int) < (a0.size : Int) := dU; omega); have hx6 : ∀ h : 0 < a0.size, ((a0[0]'h).toNat : Int) = bt a0 0 := bt_at a0 0; clear p6; have qi6 : (0 < (a0.size : Int)) = True := eq_true (dU); replace q6 := eq_true q6))
     have n0_ : Aside0 (((w71.setCell ⟨gb579, 0, none⟩ (.int .i64 t578)).setCell ⟨gb579, 1, none⟩ (.int .i64 1)).heap[gb576]? = some (.cells #[.int .i64 0, .int .i64 0] 52 (0, 0))) := ⟨bkU⟩
     have n1_ : Aside0 (((w71.setCell ⟨gb579, 0, none⟩ (.int .i64 t578)).setCell ⟨gb579, 1, none⟩ (.int .i64 1)).heap[gb579]? = some (.cells #[.int .i64 t578, .int .i64 1] 52 (0, 0))) := ⟨bkU⟩
     have n2_ : Aside0 (Below w.heap.size w ((w71.setCell ⟨gb579, 0, none⟩ (.int .i64 t578)).setCell ⟨gb579, 1, none⟩ (.int .i64 1))) := ⟨hbU⟩
     (try clear BK576); (try clear BK579); (try clear HB)
     generalize ((w71.setCell ⟨gb579, 0, none⟩ (.int .i64 t578)).setCell ⟨gb579, 1, none⟩ (.int .i64 1)) = w74 at n0_ n1_ n2_ ⊢
     have BK576 := n0_
     have BK579 := n1_
     have HB := n2_
     clear n0_ n1_ n2_
     replace BK576 := aU (blk_drew BK576.out)
     replace BK579 := aU (blk_drew BK579.out)
     replace HB := aU (below_drew1 HB.out)
     refine start_ (n := 11) (S := fun w' => w'.cell? ⟨gb579, 0, none⟩ = some (.int .i64 t578) ∧ w'.cell? ⟨gb579, 1, none⟩ = some (.int .i64 1)) (ds := []) #[false, false, false, false, false, false, false, false, false, false, false] (by kernel_rfl) rfl rfl ⟨(blk_cell BK579.out 0).trans rfl, (blk_cell BK579.out 1).trans rfl⟩ (fun hHeld => ?_); refine with_tabW spec_daParse.tab9 spec_daParse.bits9 (fun HT_ HW_ => ?_)
     generalize w74.drew = w75 at BK576 BK579 HB hHeld ⊢
     refine tkU 0 27 HT_ HW_ hHeld ?_
     refine tkU 1 28 HT_ HW_ hHeld ?_
     refine onU 2 (some 29) HT_ (fun K hK => ?_)
     refine goes_ Tryz.func117 (by kernel_rfl) rfl #[.agg #[.int .i64 t578, .int .i64 1]] (by rfl) rfl rfl arU ?_
     with_reducible refine (spec_daGood.calls t578 1 false _ A57.out).mono ?_
     rintro e w76 ⟨rfl, hb⟩
     refine ⟨_, rfl, ?_⟩
     replace BK576 := bbU BK576 hb
     replace BK579 := bbU BK579 hb
     replace HB := bsU hb
     (try clear hb)
     refine hK.out _ _ ⟨(blk_cell BK579.out 0).trans rfl, (blk_cell BK579.out 1).trans rfl⟩ (fun hHeld => ?_)
     clear hK K
     refine nmU 29 ?_
     refine puU 3 30 HT_ ?_
     refine pfU 4 31 HT_ ?_
     refine pfU 5 32 HT_ ?_
     refine pfU 6 33 HT_ ?_
     refine pfU 7 34 HT_ ?_
     refine puU 8 35 HT_ ?_
     refine onU 9 none HT_ (fun K hK => ?_)
     have hs77 : w76.cell? ⟨gb576, 0, none⟩ = some (.int .i64 0) := (blk_cell BK576.out 0).trans rfl
     have hfs77 := blk_frozen BK576.out 0
     have hns77_1 := NB579_576.out
     have hms77_1 := NB576_579.out
     have hs78 : w76.cell? ⟨gb576, 1, none⟩ = some (.int .i64 0) := (blk_cell BK576.out 1).trans rfl
     have hfs78 := blk_frozen BK576.out 1
     have hns78_1 := NB579_576.out
     have hms78_1 := NB576_579.out
     refine skip_ (w1 := ?_) (by rfl) rfl ?_ ?_
     rotate_left
     ·go_simp
      rfl
     refine hK.out _ _ ⟨((cell_far (p := ⟨gb576, _, none⟩) NB579_576.out _).trans (((cell_far (p := ⟨gb576, _, none⟩) NB579_576.out _).trans (hHeld.1)))), ((cell_far (p := ⟨gb576, _, none⟩) NB579_576.out _).trans (((cell_far (p := ⟨gb576, _, none⟩) NB579_576.out _).trans (hHeld.2))))⟩ (fun hHeld => ?_)
     clear hK K
     refine puU 10 3 HT_ ?_
     refine dnU HT_ ?_
     try go_wp2
     refine bodyPost_ret (results_ct rfl _ _ gb576 52 #[.int .i64 t578, .int .i64 1] (0, 0) _ rfl bkU Tryz.underlying52 rfl (by kernel_rfl)) rfl ?_
     exact ⟨errU, hbU⟩
 ·replace c3 := Bool.eq_false_iff.mpr c3
  subst c3
  rw [if_neg (show ¬ (false = true) by decide)] at H
  simp only [Option.some.injEq, Prod.mk.injEq] at H
  obtain ⟨rfl, rfl, rfl⟩ := H
  go_enter Tryz.func115, Tryz.ntmps115
  go_wp2_with (first | ((with_reducible refine gdU 2 rfl ?_); refine bxU (cs := #[.int .i64 0, .int .i64 0]) (t := 52) ?_; intro gb576 hg w79 hbox hb; have BK576 := aU (hbox); have GW576 := geU hg; have GE576 := geU hg; replace HB := bsU hb; clear hb hbox hg) | ((with_reducible refine gcU 96 rfl ?_); refine goU (some 7) Tryz.func96 #[.int .i64 (a0.size : Int), .int .i64 1, .int .i64 3] ?_; (with_reducible refine (spec_l1In.calls (a0.size : Int) 1 3 false _ A2.out).mono ?_); rintro e w' ⟨rfl, ⟨nd, rfl⟩⟩; refine ⟨_, rfl, ?_⟩; (try (rw [drewN_self w79]; generalize hq_ : World.drewN w79 _ = w79; have n0_ : Aside0 (w79.heap[gb576]? = some (.cells #[.int .i64 0, .int .i64 0] 52 (0, 0))) := ⟨by rw [← hq_]; exact bkU⟩; have n1_ : Aside0 (Below w.heap.size w w79) := ⟨by rw [← hq_]; exact hbU⟩; clear BK576 HB hq_; have BK576 := n0_; have HB := n1_; clear n0_ n1_)); obtain ⟨hcz80_0, hcz80_1, hfz80_0, hfz80_1⟩ := b2U BK576))
  refine bodyPost_ret (results_ct rfl _ _ gb576 52 #[.int .i64 0, .int .i64 0] (0, 0) _ rfl bkU Tryz.underlying52 rfl (by kernel_rfl)) rfl ?_
  exact ⟨errU, hbU⟩
end Go.Proofs.YtcmlmjgoidpabaaGreatDoor.MFnDartsPlayed

