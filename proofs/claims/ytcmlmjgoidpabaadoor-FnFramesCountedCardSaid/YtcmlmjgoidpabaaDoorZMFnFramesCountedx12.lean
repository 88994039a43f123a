/- Walks of the functions that the law reaches: each comes to just what the function that is told of it tells, for all arguments. -/
import Derived.Test.YtcmlmjgoidpabaaDoorZMFnFramesCountedx0
import Derived.Test.YtcmlmjgoidpabaaDoorZMFnFramesCountedx1
import Derived.Test.YtcmlmjgoidpabaaDoorZMFnFramesCountedx2
import Derived.Test.YtcmlmjgoidpabaaDoorZMFnFramesCountedx6
import Derived.Test.YtcmlmjgoidpabaaDoorZMFnFramesCountedx7
import Derived.Test.YtcmlmjgoidpabaaDoorZMFnFramesCountedx10
import Derived.Test.YtcmlmjgoidpabaaDoorZMFnFramesCountedx11
namespace Go.Proofs.YtcmlmjgoidpabaaDoor.MFnFramesCounted
open Go.RowKit Go.Proofs.YtcmlmjgoidpabaaDoorW.PrintWords Go.Proofs.YtcmlmjgoidpabaaDoorW.PrintLast Go.Proofs.YtcmlmjgoidpabaaDoorW.PrintMore
set_option linter.unusedVariables false
set_option linter.unusedSimpArgs false
def spec_DrawPlayFrame.l0 : Nat → List ByteArray → Int → List Int → Int → Int → Int → Bool → Int → Int → Bool → Int → Option (Int × Bool × Int × List ByteArray)
 | 0, _, _, _, _, _, _, _, _, _, _, _ => none
 | k + 1, x6, x8, x438000, x438001, x438002, x444000, x444001, x444002, x445000, x445001, x445002 => if x8 > 0 then ((spec_l1Cur_balls.f k x438000 x438001 x438002 x445000 x445001 x445002).bind fun bt448 => (if x6.length < 8796093022208 then ((some (x6 ++ [bt448.1] : List ByteArray)).bind fun y451 => ((spec_frGood.f x445000 x445001 x445002).bind fun t454 => (if t454 = true then ((spec_frAfter.f k x445000 x445001 x445002 bt448.1).bind fun bt455 => (spec_DrawPlayFrame.l0 k y451 (wrap64 (x8 - 1)) x438000 bt448.2.1 bt448.2.2 x444000 x444001 x444002 bt455.1 false bt455.2.2.1)) else (spec_DrawPlayFrame.l0 k y451 (wrap64 (x8 - 1)) x438000 bt448.2.1 bt448.2.2 x444000 x444001 x444002 x445000 x445001 x445002)))) else (none))) else (some (x444000, x444001, x444002, x6))
def spec_DrawPlayFrame.f (k : Nat) (l0 : List Int) : Option (Int × Bool × Int × List ByteArray) := (spec_l1Cur_frame.f l0 0 0).bind fun bt438 => ((spec_l1Cur_pick.f l0 bt438.2.2.2.1 bt438.2.2.2.2 6).bind fun bt445 => (spec_DrawPlayFrame.l0 k ([] : List ByteArray) bt445.1 l0 bt445.2.1 bt445.2.2 bt438.1 bt438.2.1 bt438.2.2.1 bt438.1 bt438.2.1 bt438.2.2.1))
set_option maxHeartbeats 8000000 in
set_option maxRecDepth 100000 in
theorem spec_DrawPlayFrame.calls (k : Nat) (A0 : Option Addr) (c0 : Nat) (l0 : List Int) (r1 : Int) (r2 : Bool) (r3 : Int) (r4 : List ByteArray) (w : World) (hr0 : Kd.C (Kd.int .u8) w A0 l0.length l0) (hc0 : l0.length ≤ c0) (h : spec_DrawPlayFrame.f k l0 = some (r1, r2, r3, r4)) :
  Calls Tryd.prog 21 #[.slice A0 l0.length c0] w fun e w' => ∃ v3_ : Value, e = .returned (.tuple #[.agg #[.int .i64 r1, .bool r2, .int .i64 r3], v3_]) ∧ Kd.R Kd.string 9 w' w.heap.size (fun _ => True) v3_ r4 ∧ Below w.heap.size w w' := by
 have hu25 := Tryd.underlying25
 have hu64 := Tryd.underlying64
 have HR0 := Aside0.mk hr0
 have HC0 := Aside0.mk hc0
 clear hr0 hc0
 have HB := Aside0.mk (Below.refl w.heap.size w)
 have H : ((spec_l1Cur_frame.f l0 0 0).bind fun bt438 => ((spec_l1Cur_pick.f l0 bt438.2.2.2.1 bt438.2.2.2.2 6).bind fun bt445 => (spec_DrawPlayFrame.l0 k ([] : List ByteArray) bt445.1 l0 bt445.2.1 bt445.2.2 bt438.1 bt438.2.1 bt438.2.2.1 bt438.1 bt438.2.1 bt438.2.2.1))) = some (r1, r2, r3, r4) := h
 clear h
 replace H := Option.bind_eq_some_iff.mp H
 obtain ⟨⟨t438, t439, t440, t441, t442⟩, A20, H⟩ := H
 (try dsimp only at H)
 have A2 := Aside0.mk A20
 clear A20
 replace H := Option.bind_eq_some_iff.mp H
 obtain ⟨⟨t445, t446, t447⟩, A30, H⟩ := H
 (try dsimp only at H)
 have A3 := Aside0.mk A30
 clear A30
 have H' := Aside0.mk H
 clear H
 go_enter Tryd.func21, Tryd.ntmps21
 go_wp2_with (first | ((with_reducible refine gate_dst (N := 2) rfl ?_); refine bxU (cs := #[.int .i64 0, .bool false, .int .i64 0]) (t := 25) ?_; intro gb436 hg w4 hbox hb; have n0_ := bsU hb; have n1_ := Aside0.mk (hbox); have n2_ := geU hg; have n3_ := geU hg; clear HB; have HB := n0_; have BK436 := n1_; have GW436 := n2_; have GE436 := n3_; clear n0_ n1_ n2_ n3_; clear hb hbox hg) | ((with_reducible refine gate_dst (N := 12) rfl ?_); refine bxU (cs := #[.slice A0 l0.length c0, .int .i64 0, .int .u64 0]) (t := 64) ?_; intro gb437 hg w5 hbox hb; have n0_ := bbU BK436 hb; have n1_ := bsU hb; have n2_ := Aside0.mk ((⟨_, _, hbox, (by rw [hg]; exact (below_size hbU) : w.heap.size ≤ gb437), HR0.out⟩ : IsS64 w w5 gb437 l0 0 0)); have n3_ := geU hg; have n4_ := geU hg; have n5_ := neU BK436 hg; have n6_ := enU BK436 hg; clear BK436; clear HB; have BK436 := n0_; have HB := n1_; have HI437 := n2_; have GW437 := n3_; have GE437 := n4_; have NB436_437 := n5_; have NB437_436 := n6_; clear n0_ n1_ n2_ n3_ n4_ n5_ n6_; clear hb hbox hg) | ((with_reducible refine gate_callee (f := 43) rfl ?_); refine goU (some 14) Tryd.func43 #[.pointer (some ⟨gb437, 0, none⟩)] ?_; (with_reducible refine (spec_l1Cur_frame.calls gb437 l0 0 0 t438 t439 t440 t441 t442 w _ ?side1 ?side2 A2.out).mono ?_); (case side1 => repeat (first | (with_reducible first | exact HI437.out | apply IsS64.alloc | apply IsS64.drewN | apply IsS64.drew | apply IsS64.set_1 | apply IsS64.set_2 | refine IsS64.far ?_ NB437_436.out _) | exact HI437.out)); (case side2 => repeat (first | (with_reducible first | exact HB.out | apply below_alloc | apply pw_below_drewN | apply below_drew1 | refine below_set ?_ (IsS64.ge HI437.out) | refine below_set ?_ GE436.out) | exact HB.out)); rintro e w6 ⟨rfl, hi, hb, hk⟩; refine ⟨_, rfl, ?_⟩; have n0_ := Aside0.mk (KeepBut.blk hk (g' := gb436) (o := .cells #[.int .i64 0, .bool false, .int .i64 0] 25 (0, 0)) bkU NB436_437.out (by simp)); have n1_ := Aside0.mk (hb); have n2_ := Aside0.mk (hi); clear BK436; clear HB; clear HI437; have BK436 := n0_; have HB := n1_; have HI437 := n2_; clear n0_ n1_ n2_; (try clear hb); (try clear hb2); (try clear hk); (try clear hi)) | ((with_reducible refine gate_dst (N := 5) rfl ?_); refine bxU (cs := #[.int .i64 0, .bool false, .int .i64 0]) (t := 25) ?_; intro gb443 hg w7 hbox hb; have n0_ := bbU BK436 hb; have n1_ := Aside0.mk (IsS64.below (by repeat (first | (with_reducible first | exact HI437.out | apply IsS64.alloc | apply IsS64.drewN | apply IsS64.drew | apply IsS64.set_1 | apply IsS64.set_2 | refine IsS64.far ?_ NB437_436.out _) | exact HI437.out)) hb); have n2_ := bsU hb; have n3_ := Aside0.mk (hbox); have n4_ := geU hg; have n5_ := geU hg; have n6_ := neU BK436 hg; have n7_ := enU BK436 hg; have n8_ := Aside0.mk ((by rw [hg]; exact Nat.ne_of_lt (IsS64.lt (show IsS64 w _ gb437 l0 t441 t442 from by repeat (first | (with_reducible first | exact HI437.out | apply IsS64.alloc | apply IsS64.drewN | apply IsS64.drew | apply IsS64.set_1 | apply IsS64.set_2 | refine IsS64.far ?_ NB437_436.out _) | exact HI437.out))) : gb437 ≠ gb443)); have n9_ := Aside0.mk ((by rw [hg]; exact Nat.ne_of_gt (IsS64.lt (show IsS64 w _ gb437 l0 t441 t442 from by repeat (first | (with_reducible first | exact HI437.out | apply IsS64.alloc | apply IsS64.drewN | apply IsS64.drew | apply IsS64.set_1 | apply IsS64.set_2 | refine IsS64.far ?_ NB437_436.out _) | exact HI437.out))) : gb443 ≠ gb437)); clear BK436; clear HI437; clear HB; have BK436 := n0_; have HI437 := n1_; have HB := n2_; have BK443 := n3_; have GW443 := n4_; have GE443 := n5_; have NB436_443 := n6_; have NB443_436 := n7_; have NB437_443 := n8_; have NB443_437 := n9_; clear n0_ n1_ n2_ n3_ n4_ n5_ n6_ n7_ n8_ n9_; clear hb hbox hg; have hnb8 := NB443_436.out; have hnc8 := NB436_443.out; have hnb9 := NB443_437.out; have hnc9 := NB437_443.out; obtain ⟨hcz10_0, hcz10_1, hcz10_2, hfz10_0, hfz10_1, hfz10_2⟩ := b3U BK443) | ((with_reducible refine gate_dst (N := 7) rfl ?_); refine bxU (cs := #[.int .i64 0, .bool false, .int .i64 0]) (t := 25) ?_; intro gb444 hg w11 hbox hb; have n0_ := bbU BK436 hb; have n1_ := Aside0.mk (IsS64.below (show IsS64 w (((w7.setCell ⟨gb443, 0, none⟩ (.int .i64 t438)).setCell ⟨gb443, 1, none⟩ (.bool t439)).setCell ⟨gb443, 2, none⟩ (.int .i64 t440)) gb437 l0 t441 t442 from by repeat (first | (with_reducible first | exact HI437.out | apply IsS64.alloc | apply IsS64.drewN | apply IsS64.drew | apply IsS64.set_1 | apply IsS64.set_2 | refine IsS64.far ?_ NB437_436.out _ | refine IsS64.far ?_ NB437_443.out _) | exact HI437.out)) hb); have n2_ := Aside0.mk (blk_below (g := gb443) (o := .cells #[.int .i64 t438, .bool t439, .int .i64 t440] 25 (0, 0)) bkU hb); have n3_ := bsU hb; have n4_ := Aside0.mk (hbox); have n5_ := geU hg; have n6_ := geU hg; have n7_ := neU BK436 hg; have n8_ := enU BK436 hg; have n9_ := Aside0.mk ((by rw [hg]; exact Nat.ne_of_lt (blk_lt (g := gb443) (o := .cells #[.int .i64 t438, .bool t439, .int .i64 t440] 25 (0, 0)) bkU) : gb443 ≠ gb444)); have n10_ := Aside0.mk ((by rw [hg]; exact Nat.ne_of_gt (blk_lt (g := gb443) (o := .cells #[.int .i64 t438, .bool t439, .int .i64 t440] 25 (0, 0)) bkU) : gb444 ≠ gb443)); have n11_ := Aside0.mk ((by rw [hg]; exact Nat.ne_of_lt (IsS64.lt (show IsS64 w _ gb437 l0 t441 t442 from by repeat (first | (with_reducible first | exact HI437.out | apply IsS64.alloc | apply IsS64.drewN | apply IsS64.drew | apply IsS64.set_1 | apply IsS64.set_2 | refine IsS64.far ?_ NB437_436.out _ | refine IsS64.far ?_ NB437_443.out _) | exact HI437.out))) : gb437 ≠ gb444)); have n12_ := Aside0.mk ((by rw [hg]; exact Nat.ne_of_gt (IsS64.lt (show IsS64 w _ gb437 l0 t441 t442 from by repeat (first | (with_reducible first | exact HI437.out | apply IsS64.alloc | apply IsS64.drewN | apply IsS64.drew | apply IsS64.set_1 | apply IsS64.set_2 | refine IsS64.far ?_ NB437_436.out _ | refine IsS64.far ?_ NB437_443.out _) | exact HI437.out))) : gb444 ≠ gb437)); clear BK436; clear HI437; clear BK443; clear HB; have BK436 := n0_; have HI437 := n1_; have BK443 := n2_; have HB := n3_; have BK444 := n4_; have GW444 := n5_; have GE444 := n6_; have NB436_444 := n7_; have NB444_436 := n8_; have NB443_444 := n9_; have NB444_443 := n10_; have NB437_444 := n11_; have NB444_437 := n12_; clear n0_ n1_ n2_ n3_ n4_ n5_ n6_ n7_ n8_ n9_ n10_ n11_ n12_; clear hb hbox hg; have hnb12 := NB444_436.out; have hnc12 := NB436_444.out; have hnb13 := NB444_443.out; have hnc13 := NB443_444.out; have hnb14 := NB444_437.out; have hnc14 := NB437_444.out; obtain ⟨hcz15_0, hcz15_1, hcz15_2, hfz15_0, hfz15_1, hfz15_2⟩ := b3U BK444) | ((with_reducible refine gate_callee (f := 50) rfl ?_); refine goU (some 17) Tryd.func50 #[.pointer (some ⟨gb437, 0, none⟩), .int .i64 6] ?_; (with_reducible refine (spec_l1Cur_pick.calls gb437 l0 t441 t442 6 t445 t446 t447 w _ ?side1 ?side2 A3.out).mono ?_); (case side1 => repeat (first | (with_reducible first | exact HI437.out | apply IsS64.alloc | apply IsS64.drewN | apply IsS64.drew | apply IsS64.set_1 | apply IsS64.set_2 | refine IsS64.far ?_ NB437_436.out _ | refine IsS64.far ?_ NB437_443.out _ | refine IsS64.far ?_ NB437_444.out _) | exact HI437.out)); (case side2 => repeat (first | (with_reducible first | exact HB.out | apply below_alloc | apply pw_below_drewN | apply below_drew1 | refine below_set ?_ (IsS64.ge HI437.out) | refine below_set ?_ GE436.out | refine below_set ?_ GE443.out | refine below_set ?_ GE444.out) | exact HB.out)); rintro e w16 ⟨rfl, hi, hb, hk⟩; refine ⟨_, rfl, ?_⟩; have n0_ := Aside0.mk (KeepBut.blk hk (g' := gb436) (o := .cells #[.int .i64 0, .bool false, .int .i64 0] 25 (0, 0)) bkU NB436_437.out (by simp)); have n1_ := Aside0.mk (KeepBut.blk hk (g' := gb443) (o := .cells #[.int .i64 t438, .bool t439, .int .i64 t440] 25 (0, 0)) bkU NB443_437.out (by simp)); have n2_ := Aside0.mk (KeepBut.blk hk (g' := gb444) (o := .cells #[.int .i64 t438, .bool t439, .int .i64 t440] 25 (0, 0)) bkU NB444_437.out (by simp)); have n3_ := Aside0.mk (hb); have n4_ := Aside0.mk (hi); clear BK436; clear BK443; clear BK444; clear HB; clear HI437; have BK436 := n0_; have BK443 := n1_; have BK444 := n2_; have HB := n3_; have HI437 := n4_; clear n0_ n1_ n2_ n3_ n4_; (try clear hb); (try clear hb2); (try clear hk); (try clear hi)))
 go_loopg [6, 8] k (fun kq v6 v8 w' => ∃ (x6_1 : List ByteArray) (x8_1 : Int) (x438001_1 : Int) (x438002_1 : Int) (x445000_1 : Int) (x445001_1 : Bool) (x445002_1 : Int), v8 = .int .i64 x8_1 ∧ Aside0 (spec_DrawPlayFrame.l0 kq x6_1 x8_1 l0 x438001_1 x438002_1 t438 t439 t440 x445000_1 x445001_1 x445002_1 = some (r1, r2, r3, r4)) ∧ Aside0 (kq ≤ k) ∧ Aside0 (Kd.R Kd.string 9 w' w.heap.size (fun _ => True) v6 x6_1) ∧ Aside0 (w'.heap[gb436]? = some (.cells #[.int .i64 0, .bool false, .int .i64 0] 25 (0, 0))) ∧ Aside0 (w'.heap[gb443]? = some (.cells #[.int .i64 t438, .bool t439, .int .i64 t440] 25 (0, 0))) ∧ Aside0 (w'.heap[gb444]? = some (.cells #[.int .i64 x445000_1, .bool x445001_1, .int .i64 x445002_1] 25 (0, 0))) ∧ Aside0 (IsS64 w w' gb437 l0 x438001_1 x438002_1) ∧ Aside0 (Below w.heap.size w w'))
 case atStart => exact ⟨(([] : List ByteArray)), (t445), (t446), (t447), (t438), (t439), (t440), eqU, H', ⟨Nat.le_refl _⟩, ⟨by first | exact Kd.R_nil _ _ _ _ _ | exact Kd.N_nil _ _ _ _ _ | exact Kd.V_nil _ _ _ _ _ | exact Kd.Q_nil _ _ _ _ _ | exact Kd.S_nil _ _ _ _ _⟩, ⟨bkU⟩, ⟨bkU⟩, ⟨bkU⟩, ⟨by repeat (first | (with_reducible first | exact HI437.out | apply IsS64.alloc | apply IsS64.drewN | apply IsS64.drew | apply IsS64.set_1 | apply IsS64.set_2 | refine IsS64.far ?_ NB437_436.out _ | refine IsS64.far ?_ NB437_443.out _ | refine IsS64.far ?_ NB437_444.out _) | exact HI437.out)⟩, ⟨hbU⟩⟩
 case round =>
  clear H'
  (try clear c1); (try clear c4); (try clear c14); (try clear hcz10_0); (try clear hcz10_1); (try clear hcz10_2); (try clear hcz15_0); (try clear hcz15_1); (try clear hcz15_2); (try clear hfz10_0); (try clear hfz10_1); (try clear hfz10_2); (try clear hfz15_0); (try clear hfz15_1); (try clear hfz15_2)
  obtain ⟨x6_1, x8_1, x438001_1, x438002_1, x445000_1, x445001_1, x445002_1, rfl, HA, HK1, HO_6, BK436, BK443, BK444, HI437, HB⟩ := hrel
  cases gk with
  | zero => exact absurd HA.out (by simp [spec_DrawPlayFrame.l0])
  | succ k1 =>
   have H := HA.out
   clear HA
   simp only [spec_DrawPlayFrame.l0] at H
   by_cases c17 : x8_1 > 0
   ·rw [if_pos c17] at H
    have c17b0 : decide (0 < x8_1) = true := decide_eq_true c17
    clear c17
    replace H := Option.bind_eq_some_iff.mp H
    obtain ⟨⟨t448, t449, t450⟩, A180, H⟩ := H
    (try dsimp only at H)
    have A18 := Aside0.mk A180
    clear A180
    by_cases c19 : x6_1.length < 8796093022208
    ·rw [if_pos c19] at H
     have LMc19 := Aside0.mk c19
     clear c19
     obtain ⟨y451, hy451⟩ : ∃ y_ : List ByteArray, y_ = (x6_1 ++ [t448]) := ⟨_, rfl⟩
     replace H : ((spec_frGood.f x445000_1 x445001_1 x445002_1).bind fun t454 => (if t454 = true then ((spec_frAfter.f k1 x445000_1 x445001_1 x445002_1 t448).bind fun bt455 => (spec_DrawPlayFrame.l0 k1 y451 (wrap64 (x8_1 - 1)) l0 t449 t450 t438 t439 t440 bt455.1 false bt455.2.2.1)) else (spec_DrawPlayFrame.l0 k1 y451 (wrap64 (x8_1 - 1)) l0 t449 t450 t438 t439 t440 x445000_1 x445001_1 x445002_1))) = some (r1, r2, r3, r4) := by first | (rw [hy451]; with_reducible exact H) | (have H2_ := (Option.bind_some _ _).symm.trans H; rw [hy451]; with_reducible exact H2_) | (have H2_ := (Option.bind_some _ _).symm.trans H; with_reducible exact H2_) | with_reducible exact H | (rw [hy451]; exact H) | exact H
     have Ny451 := Aside0.mk hy451
     clear hy451
     replace H := Option.bind_eq_some_iff.mp H
     obtain ⟨t454, A200, H⟩ := H
     (try dsimp only at H)
     have A20 := Aside0.mk A200
     clear A200
     by_cases c21 : t454 = true
     ·subst c21
      rw [if_pos rfl] at H
      replace H := Option.bind_eq_some_iff.mp H
      obtain ⟨⟨t455, t456, t457, t458⟩, A220, H⟩ := H
      (try dsimp only at H)
      have A22 := Aside0.mk A220
      clear A220
      have H' := Aside0.mk H
      clear H
      have hnb23 := NB444_436.out
      have hnc23 := NB436_444.out
      have hnb24 := NB444_443.out
      have hnc24 := NB443_444.out
      have hnb25 := NB444_437.out
      have hnc25 := NB437_444.out
      obtain ⟨hcz26_0, hcz26_1, hcz26_2, hfz26_0, hfz26_1, hfz26_2⟩ := b3U BK444
      go_wp2_with (first | ((with_reducible refine gate_callee (f := 51) rfl ?_); refine goU (some 24) Tryd.func51 #[.pointer (some ⟨gb437, 0, none⟩), .agg #[.int .i64 x445000_1, .bool x445001_1, .int .i64 x445002_1]] ?_; (with_reducible refine (spec_l1Cur_balls.calls k1 gb437 l0 x438001_1 x438002_1 x445000_1 x445001_1 x445002_1 t448 t449 t450 w _ ?side1 ?side2 A18.out).mono ?_); (case side1 => repeat (first | (with_reducible first | exact HI437.out | apply IsS64.alloc | apply IsS64.drewN | apply IsS64.drew | apply IsS64.set_1 | apply IsS64.set_2 | refine IsS64.far ?_ NB437_436.out _ | refine IsS64.far ?_ NB437_443.out _ | refine IsS64.far ?_ NB437_444.out _) | exact HI437.out)); (case side2 => repeat (first | (with_reducible first | exact HB.out | apply below_alloc | apply pw_below_drewN | apply below_drew1 | refine below_set ?_ (IsS64.ge HI437.out) | refine below_set ?_ GE436.out | refine below_set ?_ GE443.out | refine below_set ?_ GE444.out) | exact HB.out)); rintro e w27 ⟨rfl, hi, hb, hk⟩; refine ⟨_, rfl, ?_⟩; have n0_ := Aside0.mk (Kd.R_mono (Kd.R_keep (IsS64.apart (show IsS64 w _ gb437 l0 x438001_1 x438002_1 from by repeat (first | (with_reducible first | exact HI437.out | apply IsS64.alloc | apply IsS64.drewN | apply IsS64.drew | apply IsS64.set_1 | apply IsS64.set_2 | refine IsS64.far ?_ NB437_436.out _ | refine IsS64.far ?_ NB437_443.out _ | refine IsS64.far ?_ NB437_444.out _) | exact HI437.out)) (by (with_reducible repeat (first | apply Kd.R_alloc | apply Kd.R_drewN | apply Kd.R_drew)); exact HO_6.out) (by decide)) hk (fun _ h => h.2)) (fun _ h => h.1)); have n1_ := Aside0.mk (KeepBut.blk hk (g' := gb436) (o := .cells #[.int .i64 0, .bool false, .int .i64 0] 25 (0, 0)) bkU NB436_437.out (by simp)); have n2_ := Aside0.mk (KeepBut.blk hk (g' := gb443) (o := .cells #[.int .i64 t438, .bool t439, .int .i64 t440] 25 (0, 0)) bkU NB443_437.out (by simp)); have n3_ := Aside0.mk (KeepBut.blk hk (g' := gb444) (o := .cells #[.int .i64 x445000_1, .bool x445001_1, .int .i64 x445002_1] 25 (0, 0)) bkU NB444_437.out (by simp)); have n4_ := Aside0.mk (hb); have n5_ := Aside0.mk (hi); clear HO_6; clear BK436; clear BK443; clear BK444; clear HB; clear HI437; have HO_6 := n0_; have BK436 := n1_; have BK443 := n2_; have BK444 := n3_; have HB := n4_; have HI437 := n5_; clear n0_ n1_ n2_ n3_ n4_ n5_; (try clear hb); (try clear hb2); (try clear hk); (try clear hi)) | ((with_reducible refine gate_builtin (b := .append) (xs := #[.tmp 25, .tmp 27]) rfl ?_); at_builtin; refine Kd.R_append Kd.string (w0 := w) w.heap.size rfl (.tmp 25) (.tmp 27) 37 9 (.string ⟨#[]⟩) 16 rfl Tryd.underlying37 info9 rfl (by decide) (by omega) u6 x6_1 t448 [.string t448] (fun _ => True) (fun _ => False) rfl rfl ?aP (fun _ hk => hk.elim) ?aF ?aO ?aB ?aS ?aL ?_; (case aP => exact rfl); (case aB => exact hbU); (case aF => exact (fun _ _ => trivial)); (case aO => exact (by (with_reducible repeat (first | apply Kd.R_alloc | apply Kd.R_drewN | apply Kd.R_drew)); exact HO_6.out)); (case aS => exact (below_size hbU)); (case aL => have := LMc19.out; omega); intro v452 w28 ho hb hg hat; rw [← Ny451.out] at ho; have n0_ := Aside0.mk (blk_grown (g := gb436) (o := .cells #[.int .i64 0, .bool false, .int .i64 0] 25 (0, 0)) bkU hg (Kd.R_ne HO_6.out BK436.out (by decide))); have n1_ := Aside0.mk (blk_grown (g := gb443) (o := .cells #[.int .i64 t438, .bool t439, .int .i64 t440] 25 (0, 0)) bkU hg (Kd.R_ne HO_6.out BK443.out (by decide))); have n2_ := Aside0.mk (blk_grown (g := gb444) (o := .cells #[.int .i64 x445000_1, .bool x445001_1, .int .i64 x445002_1] 25 (0, 0)) bkU hg (Kd.R_ne HO_6.out BK444.out (by decide))); have n3_ := Aside0.mk (IsS64.grown (by repeat (first | (with_reducible first | exact HI437.out | apply IsS64.alloc | apply IsS64.drewN | apply IsS64.drew | apply IsS64.set_1 | apply IsS64.set_2 | refine IsS64.far ?_ NB437_436.out _ | refine IsS64.far ?_ NB437_443.out _ | refine IsS64.far ?_ NB437_444.out _) | exact HI437.out)) hg (IsS64.own_ne HI437.out HO_6.out (by decide))); have n4_ := Aside0.mk (hb); have n5_ := Aside0.mk (ho); clear BK436; clear BK443; clear BK444; clear HI437; clear HB; clear HO_6; have BK436 := n0_; have BK443 := n1_; have BK444 := n2_; have HI437 := n3_; have HB := n4_; have HO453 := n5_; clear n0_ n1_ n2_ n3_ n4_ n5_; clear ho hb hg hat; obtain ⟨hcz29_0, hcz29_1, hcz29_2, hfz29_0, hfz29_1, hfz29_2⟩ := b3U BK444) | ((with_reducible refine gate_callee (f := 35) rfl ?_); refine goU (some 30) Tryd.func35 #[.agg #[.int .i64 x445000_1, .bool x445001_1, .int .i64 x445002_1]] ?_; (with_reducible refine (spec_frGood.calls x445000_1 x445001_1 x445002_1 true _ A20.out).mono ?_); rintro e w30 ⟨rfl, hb⟩; refine ⟨_, rfl, ?_⟩; have n0_ := Aside0.mk (Kd.R_below (by (with_reducible repeat (first | apply Kd.R_alloc | apply Kd.R_drewN | apply Kd.R_drew)); exact HO453.out) hb); have n1_ := bbU BK436 hb; have n2_ := bbU BK443 hb; have n3_ := bbU BK444 hb; have n4_ := Aside0.mk (IsS64.below (by repeat (first | (with_reducible first | exact HI437.out | apply IsS64.alloc | apply IsS64.drewN | apply IsS64.drew | apply IsS64.set_1 | apply IsS64.set_2 | refine IsS64.far ?_ NB437_436.out _ | refine IsS64.far ?_ NB437_443.out _ | refine IsS64.far ?_ NB437_444.out _) | exact HI437.out)) hb); have n5_ := bsU hb; clear HO453; clear BK436; clear BK443; clear BK444; clear HI437; clear HB; have HO453 := n0_; have BK436 := n1_; have BK443 := n2_; have BK444 := n3_; have HI437 := n4_; have HB := n5_; clear n0_ n1_ n2_ n3_ n4_ n5_; (try clear hb); (try clear hb2); (try clear hk); (try clear hi); obtain ⟨hcz31_0, hcz31_1, hcz31_2, hfz31_0, hfz31_1, hfz31_2⟩ := b3U BK444) | ((with_reducible refine gate_callee (f := 52) rfl ?_); refine goU (some 34) Tryd.func52 #[.agg #[.int .i64 x445000_1, .bool x445001_1, .int .i64 x445002_1], .string t448] ?_; (with_reducible refine (spec_frAfter.calls k1 x445000_1 x445001_1 x445002_1 t448 t455 t456 t457 t458 _ A22.out).mono ?_); rintro e w32 ⟨rfl, hb⟩; refine ⟨_, rfl, ?_⟩; have n0_ := Aside0.mk (Kd.R_below (by (with_reducible repeat (first | apply Kd.R_alloc | apply Kd.R_drewN | apply Kd.R_drew)); exact HO453.out) hb); have n1_ := bbU BK436 hb; have n2_ := bbU BK443 hb; have n3_ := bbU BK444 hb; have n4_ := Aside0.mk (IsS64.below (by repeat (first | (with_reducible first | exact HI437.out | apply IsS64.alloc | apply IsS64.drewN | apply IsS64.drew | apply IsS64.set_1 | apply IsS64.set_2 | refine IsS64.far ?_ NB437_436.out _ | refine IsS64.far ?_ NB437_443.out _ | refine IsS64.far ?_ NB437_444.out _) | exact HI437.out)) hb); have n5_ := bsU hb; clear HO453; clear BK436; clear BK443; clear BK444; clear HI437; clear HB; have HO453 := n0_; have BK436 := n1_; have BK443 := n2_; have BK444 := n3_; have HI437 := n4_; have HB := n5_; clear n0_ n1_ n2_ n3_ n4_ n5_; (try clear hb); (try clear hb2); (try clear hk); (try clear hi); obtain ⟨hcz33_0, hcz33_1, hcz33_2, hfz33_0, hfz33_1, hfz33_2⟩ := b3U BK444))
      go_roundg k1
      case measure => have := HK1.out; omega
      case rel => exact ⟨(y451), (wrap64 (x8_1 - 1)), (t449), (t450), (t455), (false), (t457), eqU, H', ⟨by have := HK1.out; omega⟩, ⟨by (with_reducible repeat (first | apply Kd.R_alloc | apply Kd.R_drewN | apply Kd.R_drew)); exact Kd.R_mono (Kd.R_far (p := ⟨gb444, 1, none⟩) (Kd.R_far (p := ⟨gb444, 2, none⟩) (Kd.R_far (p := ⟨gb444, 1, none⟩) (Kd.R_far (p := ⟨gb444, 0, none⟩) (Kd.R_types HO453.out BK444.out (by decide)) (fun _ hk => hk.2) (.int .i64 t455)) (fun _ hk => hk.2) (.bool t456)) (fun _ hk => hk.2) (.int .i64 t457)) (fun _ hk => hk.2) (.bool false)) (fun _ hk => trivial)⟩, ⟨bkU⟩, ⟨bkU⟩, ⟨bkU⟩, ⟨by repeat (first | (with_reducible first | exact HI437.out | apply IsS64.alloc | apply IsS64.drewN | apply IsS64.drew | apply IsS64.set_1 | apply IsS64.set_2 | refine IsS64.far ?_ NB437_436.out _ | refine IsS64.far ?_ NB437_443.out _ | refine IsS64.far ?_ NB437_444.out _) | exact HI437.out)⟩, ⟨hbU⟩⟩
     ·replace c21 := Bool.eq_false_iff.mpr c21
      subst c21
      rw [if_neg (show ¬ (false = true) by decide)] at H
      have H' := Aside0.mk H
      clear H
      have hnb34 := NB444_436.out
      have hnc34 := NB436_444.out
      have hnb35 := NB444_443.out
      have hnc35 := NB443_444.out
      have hnb36 := NB444_437.out
      have hnc36 := NB437_444.out
      obtain ⟨hcz37_0, hcz37_1, hcz37_2, hfz37_0, hfz37_1, hfz37_2⟩ := b3U BK444
      go_wp2_with (first | ((with_reducible refine gate_callee (f := 51) rfl ?_); refine goU (some 24) Tryd.func51 #[.pointer (some ⟨gb437, 0, none⟩), .agg #[.int .i64 x445000_1, .bool x445001_1, .int .i64 x445002_1]] ?_; (with_reducible refine (spec_l1Cur_balls.calls k1 gb437 l0 x438001_1 x438002_1 x445000_1 x445001_1 x445002_1 t448 t449 t450 w _ ?side1 ?side2 A18.out).mono ?_); (case side1 => repeat (first | (with_reducible first | exact HI437.out | apply IsS64.alloc | apply IsS64.drewN | apply IsS64.drew | apply IsS64.set_1 | apply IsS64.set_2 | refine IsS64.far ?_ NB437_436.out _ | refine IsS64.far ?_ NB437_443.out _ | refine IsS64.far ?_ NB437_444.out _) | exact HI437.out)); (case side2 => repeat (first | (with_reducible first | exact HB.out | apply below_alloc | apply pw_below_drewN | apply below_drew1 | refine below_set ?_ (IsS64.ge HI437.out) | refine below_set ?_ GE436.out | refine below_set ?_ GE443.out | refine below_set ?_ GE444.out) | exact HB.out)); rintro e w38 ⟨rfl, hi, hb, hk⟩; refine ⟨_, rfl, ?_⟩; have n0_ := Aside0.mk (Kd.R_mono (Kd.R_keep (IsS64.apart (show IsS64 w _ gb437 l0 x438001_1 x438002_1 from by repeat (first | (with_reducible first | exact HI437.out | apply IsS64.alloc | apply IsS64.drewN | apply IsS64.drew | apply IsS64.set_1 | apply IsS64.set_2 | refine IsS64.far ?_ NB437_436.out _ | refine IsS64.far ?_ NB437_443.out _ | refine IsS64.far ?_ NB437_444.out _) | exact HI437.out)) (by (with_reducible repeat (first | apply Kd.R_alloc | apply Kd.R_drewN | apply Kd.R_drew)); exact HO_6.out) (by decide)) hk (fun _ h => h.2)) (fun _ h => h.1)); have n1_ := Aside0.mk (KeepBut.blk hk (g' := gb436) (o := .cells #[.int .i64 0, .bool false, .int .i64 0] 25 (0, 0)) bkU NB436_437.out (by simp)); have n2_ := Aside0.mk (KeepBut.blk hk (g' := gb443) (o := .cells #[.int .i64 t438, .bool t439, .int .i64 t440] 25 (0, 0)) bkU NB443_437.out (by simp)); have n3_ := Aside0.mk (KeepBut.blk hk (g' := gb444) (o := .cells #[.int .i64 x445000_1, .bool x445001_1, .int .i64 x445002_1] 25 (0, 0)) bkU NB444_437.out (by simp)); have n4_ := Aside0.mk (hb); have n5_ := Aside0.mk (hi); clear HO_6; clear BK436; clear BK443; clear BK444; clear HB; clear HI437; have HO_6 := n0_; have BK436 := n1_; have BK443 := n2_; have BK444 := n3_; have HB := n4_; have HI437 := n5_; clear n0_ n1_ n2_ n3_ n4_ n5_; (try clear hb); (try clear hb2); (try clear hk); (try clear hi)) | ((with_reducible refine gate_builtin (b := .append) (xs := #[.tmp 25, .tmp 27]) rfl ?_); at_builtin; refine Kd.R_append Kd.string (w0 := w) w.heap.size rfl (.tmp 25) (.tmp 27) 37 9 (.string ⟨#[]⟩) 16 rfl Tryd.underlying37 info9 rfl (by decide) (by omega) u6 x6_1 t448 [.string t448] (fun _ => True) (fun _ => False) rfl rfl ?aP (fun _ hk => hk.elim) ?aF ?aO ?aB ?aS ?aL ?_; (case aP => exact rfl); (case aB => exact hbU); (case aF => exact (fun _ _ => trivial)); (case aO => exact (by (with_reducible repeat (first | apply Kd.R_alloc | apply Kd.R_drewN | apply Kd.R_drew)); exact HO_6.out)); (case aS => exact (below_size hbU)); (case aL => have := LMc19.out; omega); intro v452 w39 ho hb hg hat; rw [← Ny451.out] at ho; have n0_ := Aside0.mk (blk_grown (g := gb436) (o := .cells #[.int .i64 0, .bool false, .int .i64 0] 25 (0, 0)) bkU hg (Kd.R_ne HO_6.out BK436.out (by decide))); have n1_ := Aside0.mk (blk_grown (g := gb443) (o := .cells #[.int .i64 t438, .bool t439, .int .i64 t440] 25 (0, 0)) bkU hg (Kd.R_ne HO_6.out BK443.out (by decide))); have n2_ := Aside0.mk (blk_grown (g := gb444) (o := .cells #[.int .i64 x445000_1, .bool x445001_1, .int .i64 x445002_1] 25 (0, 0)) bkU hg (Kd.R_ne HO_6.out BK444.out (by decide))); have n3_ := Aside0.mk (IsS64.grown (by repeat (first | (with_reducible first | exact HI437.out | apply IsS64.alloc | apply IsS64.drewN | apply IsS64.drew | apply IsS64.set_1 | apply IsS64.set_2 | refine IsS64.far ?_ NB437_436.out _ | refine IsS64.far ?_ NB437_443.out _ | refine IsS64.far ?_ NB437_444.out _) | exact HI437.out)) hg (IsS64.own_ne HI437.out HO_6.out (by decide))); have n4_ := Aside0.mk (hb); have n5_ := Aside0.mk (ho); clear BK436; clear BK443; clear BK444; clear HI437; clear HB; clear HO_6; have BK436 := n0_; have BK443 := n1_; have BK444 := n2_; have HI437 := n3_; have HB := n4_; have HO453 := n5_; clear n0_ n1_ n2_ n3_ n4_ n5_; clear ho hb hg hat; obtain ⟨hcz40_0, hcz40_1, hcz40_2, hfz40_0, hfz40_1, hfz40_2⟩ := b3U BK444) | ((with_reducible refine gate_callee (f := 35) rfl ?_); refine goU (some 30) Tryd.func35 #[.agg #[.int .i64 x445000_1, .bool x445001_1, .int .i64 x445002_1]] ?_; (with_reducible refine (spec_frGood.calls x445000_1 x445001_1 x445002_1 false _ A20.out).mono ?_); rintro e w41 ⟨rfl, hb⟩; refine ⟨_, rfl, ?_⟩; have n0_ := Aside0.mk (Kd.R_below (by (with_reducible repeat (first | apply Kd.R_alloc | apply Kd.R_drewN | apply Kd.R_drew)); exact HO453.out) hb); have n1_ := bbU BK436 hb; have n2_ := bbU BK443 hb; have n3_ := bbU BK444 hb; have n4_ := Aside0.mk (IsS64.below (by repeat (first | (with_reducible first | exact HI437.out | apply IsS64.alloc | apply IsS64.drewN | apply IsS64.drew | apply IsS64.set_1 | apply IsS64.set_2 | refine IsS64.far ?_ NB437_436.out _ | refine IsS64.far ?_ NB437_443.out _ | refine IsS64.far ?_ NB437_444.out _) | exact HI437.out)) hb); have n5_ := bsU hb; clear HO453; clear BK436; clear BK443; clear BK444; clear HI437; clear HB; have HO453 := n0_; have BK436 := n1_; have BK443 := n2_; have BK444 := n3_; have HI437 := n4_; have HB := n5_; clear n0_ n1_ n2_ n3_ n4_ n5_; (try clear hb); (try clear hb2); (try clear hk); (try clear hi)))
      go_roundg k1
      case measure => have := HK1.out; omega
      case rel => exact ⟨(y451), (wrap64 (x8_1 - 1)), (t449), (t450), (x445000_1), (x445001_1), (x445002_1), eqU, H', ⟨by have := HK1.out; omega⟩, ⟨by (with_reducible repeat (first | apply Kd.R_alloc | apply Kd.R_drewN | apply Kd.R_drew)); exact HO453.out⟩, ⟨bkU⟩, ⟨bkU⟩, ⟨bkU⟩, ⟨by repeat (first | (with_reducible first | exact HI437.out | apply IsS64.alloc | apply IsS64.drewN | apply IsS64.drew | apply IsS64.set_1 | apply IsS64.set_2 | refine IsS64.far ?_ NB437_436.out _ | refine IsS64.far ?_ NB437_443.out _ | refine IsS64.far ?_ NB437_444.out _) | exact HI437.out)⟩, ⟨hbU⟩⟩
    ·rw [if_neg c19] at H
     exact absurd H (by simp)
   ·rw [if_neg c17] at H
    have c17b0 : decide (0 < x8_1) = false := decide_eq_false c17
    clear c17
    simp only [Option.some.injEq, Prod.mk.injEq] at H
    obtain ⟨rfl, rfl, rfl, rfl⟩ := H
    have hnb42 := NB443_436.out
    have hnc42 := NB436_443.out
    have hnb43 := NB443_444.out
    have hnc43 := NB444_443.out
    have hnb44 := NB443_437.out
    have hnc44 := NB437_443.out
    obtain ⟨hcz45_0, hcz45_1, hcz45_2, hfz45_0, hfz45_1, hfz45_2⟩ := b3U BK443
    have hnb46 := NB436_444.out
    have hnc46 := NB444_436.out
    have hnb47 := NB436_437.out
    have hnc47 := NB437_436.out
    obtain ⟨hcz48_0, hcz48_1, hcz48_2, hfz48_0, hfz48_1, hfz48_2⟩ := b3U BK436
    go_wp2
    refine bodyPost_ret (results_ct rfl _ _ gb436 25 #[.int .i64 t438, .bool t439, .int .i64 t440] (0, 0) _ rfl bkU Tryd.underlying25 rfl (by kernel_rfl)) rfl ?_
    exact ⟨_, by first | rfl | (simp [errW_none, errW_some] <;> rfl) | (simp [*, errW_none, errW_some] <;> rfl), by (with_reducible repeat (first | apply Kd.R_alloc | apply Kd.R_drewN | apply Kd.R_drew)); exact Kd.R_mono (Kd.R_far (p := ⟨gb436, 2, none⟩) (Kd.R_far (p := ⟨gb436, 1, none⟩) (Kd.R_far (p := ⟨gb436, 0, none⟩) (Kd.R_types HO_6.out BK436.out (by decide)) (fun _ hk => hk.2) (.int .i64 t438)) (fun _ hk => hk.2) (.bool t439)) (fun _ hk => hk.2) (.int .i64 t440)) (fun _ hk => trivial), hbU⟩
def impl_FrameAfter.f (k : Nat) (a0_0 : Int) (a0_1 : Bool) (a0_2 : Int) (a1 : ByteArray) : Option (Int × Bool × Int × Bool) := (impl_IsFrame.f k a0_0 a0_1 a0_2).bind fun t461 => (if t461 = true then ((impl_Frame_behind.f k a0_0 a0_1 a0_2 a1).bind fun bt462 => (some (bt462.1, bt462.2.1, bt462.2.2.1, bt462.2.2.2))) else (some (0, false, 0, false)))
set_option maxHeartbeats 8000000 in
set_option maxRecDepth 100000 in
theorem impl_FrameAfter.calls (k : Nat) (a0_0 : Int) (a0_1 : Bool) (a0_2 : Int) (a1 : ByteArray) (r1 : Int) (r2 : Bool) (r3 : Int) (r4 : Bool) (w : World) (h : impl_FrameAfter.f k a0_0 a0_1 a0_2 a1 = some (r1, r2, r3, r4)) :
  Calls Tryd.prog 27 #[.agg #[.int .i64 a0_0, .bool a0_1, .int .i64 a0_2], .string a1] w fun e w' => e = .returned (.tuple #[.agg #[.int .i64 r1, .bool r2, .int .i64 r3], .bool r4]) ∧ Below w.heap.size w w' := by
 have hu25 := Tryd.underlying25
 have HB := Aside0.mk (Below.refl w.heap.size w)
 have H : ((impl_IsFrame.f k a0_0 a0_1 a0_2).bind fun t461 => (if t461 = true then ((impl_Frame_behind.f k a0_0 a0_1 a0_2 a1).bind fun bt462 => (some (bt462.1, bt462.2.1, bt462.2.2.1, bt462.2.2.2))) else (some (0, false, 0, false)))) = some (r1, r2, r3, r4) := h
 clear h
 replace H := Option.bind_eq_some_iff.mp H
 obtain ⟨t461, A30, H⟩ := H
 (try dsimp only at H)
 have A3 := Aside0.mk A30
 clear A30
 by_cases c4 : t461 = true
 ·subst c4
  rw [if_pos rfl] at H
  replace H := Option.bind_eq_some_iff.mp H
  obtain ⟨⟨t462, t463, t464, t465⟩, A50, H⟩ := H
  (try dsimp only at H)
  have A5 := Aside0.mk A50
  clear A50
  simp only [Option.some.injEq, Prod.mk.injEq] at H
  obtain ⟨rfl, rfl, rfl, rfl⟩ := H
  go_enter Tryd.func27, Tryd.ntmps27
  go_wp2_with (first | ((with_reducible refine gate_dst (N := 2) rfl ?_); refine bxU (cs := #[.int .i64 a0_0, .bool a0_1, .int .i64 a0_2]) (t := 25) ?_; intro gb459 hg w6 hbox hb; have n0_ := bsU hb; have n1_ := Aside0.mk (hbox); have n2_ := geU hg; have n3_ := geU hg; clear HB; have HB := n0_; have BK459 := n1_; have GW459 := n2_; have GE459 := n3_; clear n0_ n1_ n2_ n3_; clear hb hbox hg) | ((with_reducible refine gate_dst (N := 4) rfl ?_); refine bxU (cs := #[.int .i64 0, .bool false, .int .i64 0]) (t := 25) ?_; intro gb460 hg w7 hbox hb; have n0_ := bbU BK459 hb; have n1_ := bsU hb; have n2_ := Aside0.mk (hbox); have n3_ := geU hg; have n4_ := geU hg; have n5_ := neU BK459 hg; have n6_ := enU BK459 hg; clear BK459; clear HB; have BK459 := n0_; have HB := n1_; have BK460 := n2_; have GW460 := n3_; have GE460 := n4_; have NB459_460 := n5_; have NB460_459 := n6_; clear n0_ n1_ n2_ n3_ n4_ n5_ n6_; clear hb hbox hg; have hnb8 := NB459_460.out; have hnc8 := NB460_459.out; obtain ⟨hcz9_0, hcz9_1, hcz9_2, hfz9_0, hfz9_1, hfz9_2⟩ := b3U BK459) | ((with_reducible refine gate_callee (f := 31) rfl ?_); refine goU (some 7) Tryd.func31 #[.agg #[.int .i64 a0_0, .bool a0_1, .int .i64 a0_2]] ?_; (with_reducible refine (impl_IsFrame.calls k a0_0 a0_1 a0_2 true _ A3.out).mono ?_); rintro e w10 ⟨rfl, hb⟩; refine ⟨_, rfl, ?_⟩; have n0_ := bbU BK459 hb; have n1_ := bbU BK460 hb; have n2_ := bsU hb; clear BK459; clear BK460; clear HB; have BK459 := n0_; have BK460 := n1_; have HB := n2_; clear n0_ n1_ n2_; (try clear hb); (try clear hb2); (try clear hk); (try clear hi); obtain ⟨hcz11_0, hcz11_1, hcz11_2, hfz11_0, hfz11_1, hfz11_2⟩ := b3U BK459) | ((with_reducible refine gate_callee (f := 40) rfl ?_); refine goU (some 12) Tryd.func40 #[.agg #[.int .i64 a0_0, .bool a0_1, .int .i64 a0_2], .string a1] ?_; (with_reducible refine (impl_Frame_behind.calls k a0_0 a0_1 a0_2 a1 t462 t463 t464 t465 _ A5.out).mono ?_); rintro e w12 ⟨rfl, hb⟩; refine ⟨_, rfl, ?_⟩; have n0_ := bbU BK459 hb; have n1_ := bbU BK460 hb; have n2_ := bsU hb; clear BK459; clear BK460; clear HB; have BK459 := n0_; have BK460 := n1_; have HB := n2_; clear n0_ n1_ n2_; (try clear hb); (try clear hb2); (try clear hk); (try clear hi); obtain ⟨hcz13_0, hcz13_1, hcz13_2, hfz13_0, hfz13_1, hfz13_2⟩ := b3U BK460))
  refine bodyPost_ret (results_ct rfl _ _ gb460 25 #[.int .i64 t462, .bool t463, .int .i64 t464] (0, 0) _ rfl bkU Tryd.underlying25 rfl (by kernel_rfl)) rfl ?_
  exact ⟨by first | rfl | (simp [errW_none, errW_some] <;> rfl) | (simp [*, errW_none, errW_some] <;> rfl), hbU⟩
 ·replace c4 := Bool.eq_false_iff.mpr c4
  subst c4
  rw [if_neg (show ¬ (false = true) by decide)] at H
  simp only [Option.some.injEq, Prod.mk.injEq] at H
  obtain ⟨rfl, rfl, rfl, rfl⟩ := H
  go_enter Tryd.func27, Tryd.ntmps27
  go_wp2_with (first | ((with_reducible refine gate_dst (N := 2) rfl ?_); refine bxU (cs := #[.int .i64 a0_0, .bool a0_1, .int .i64 a0_2]) (t := 25) ?_; intro gb459 hg w14 hbox hb; have n0_ := bsU hb; have n1_ := Aside0.mk (hbox); have n2_ := geU hg; have n3_ := geU hg; clear HB; have HB := n0_; have BK459 := n1_; have GW459 := n2_; have GE459 := n3_; clear n0_ n1_ n2_ n3_; clear hb hbox hg) | ((with_reducible refine gate_dst (N := 4) rfl ?_); refine bxU (cs := #[.int .i64 0, .bool false, .int .i64 0]) (t := 25) ?_; intro gb460 hg w15 hbox hb; have n0_ := bbU BK459 hb; have n1_ := bsU hb; have n2_ := Aside0.mk (hbox); have n3_ := geU hg; have n4_ := geU hg; have n5_ := neU BK459 hg; have n6_ := enU BK459 hg; clear BK459; clear HB; have BK459 := n0_; have HB := n1_; have BK460 := n2_; have GW460 := n3_; have GE460 := n4_; have NB459_460 := n5_; have NB460_459 := n6_; clear n0_ n1_ n2_ n3_ n4_ n5_ n6_; clear hb hbox hg; have hnb16 := NB459_460.out; have hnc16 := NB460_459.out; obtain ⟨hcz17_0, hcz17_1, hcz17_2, hfz17_0, hfz17_1, hfz17_2⟩ := b3U BK459) | ((with_reducible refine gate_callee (f := 31) rfl ?_); refine goU (some 7) Tryd.func31 #[.agg #[.int .i64 a0_0, .bool a0_1, .int .i64 a0_2]] ?_; (with_reducible refine (impl_IsFrame.calls k a0_0 a0_1 a0_2 false _ A3.out).mono ?_); rintro e w18 ⟨rfl, hb⟩; refine ⟨_, rfl, ?_⟩; have n0_ := bbU BK459 hb; have n1_ := bbU BK460 hb; have n2_ := bsU hb; clear BK459; clear BK460; clear HB; have BK459 := n0_; have BK460 := n1_; have HB := n2_; clear n0_ n1_ n2_; (try clear hb); (try clear hb2); (try clear hk); (try clear hi); obtain ⟨hcz19_0, hcz19_1, hcz19_2, hfz19_0, hfz19_1, hfz19_2⟩ := b3U BK460))
  refine bodyPost_ret (results_ct rfl _ _ gb460 25 #[.int .i64 0, .bool false, .int .i64 0] (0, 0) _ rfl bkU Tryd.underlying25 rfl (by kernel_rfl)) rfl ?_
  exact ⟨by first | rfl | (simp [errW_none, errW_some] <;> rfl) | (simp [*, errW_none, errW_some] <;> rfl), hbU⟩
def impl_MissBall.f (k : Nat) (a0_0 : Int) (a0_1 : Bool) (a0_2 : Int) : Option (Int × Bool × Int × Bool) := (impl_IsFrame.f k a0_0 a0_1 a0_2).bind fun t468 => (if t468 = true then (some (a0_0, false, a0_2, true)) else (some (0, false, 0, false)))
set_option maxHeartbeats 8000000 in
set_option maxRecDepth 100000 in
theorem impl_MissBall.calls (k : Nat) (a0_0 : Int) (a0_1 : Bool) (a0_2 : Int) (r1 : Int) (r2 : Bool) (r3 : Int) (r4 : Bool) (w : World) (h : impl_MissBall.f k a0_0 a0_1 a0_2 = some (r1, r2, r3, r4)) :
  Calls Tryd.prog 28 #[.agg #[.int .i64 a0_0, .bool a0_1, .int .i64 a0_2]] w fun e w' => e = .returned (.tuple #[.agg #[.int .i64 r1, .bool r2, .int .i64 r3], .bool r4]) ∧ Below w.heap.size w w' := by
 have hu25 := Tryd.underlying25
 have HB := Aside0.mk (Below.refl w.heap.size w)
 have H : ((impl_IsFrame.f k a0_0 a0_1 a0_2).bind fun t468 => (if t468 = true then (some (a0_0, false, a0_2, true)) else (some (0, false, 0, false)))) = some (r1, r2, r3, r4) := h
 clear h
 replace H := Option.bind_eq_some_iff.mp H
 obtain ⟨t468, A20, H⟩ := H
 (try dsimp only at H)
 have A2 := Aside0.mk A20
 clear A20
 by_cases c3 : t468 = true
 ·subst c3
  rw [if_pos rfl] at H
  simp only [Option.some.injEq, Prod.mk.injEq] at H
  obtain ⟨rfl, rfl, rfl, rfl⟩ := H
  go_enter Tryd.func28, Tryd.ntmps28
  go_wp2_with (first | ((with_reducible refine gate_dst (N := 1) rfl ?_); refine bxU (cs := #[.int .i64 a0_0, .bool a0_1, .int .i64 a0_2]) (t := 25) ?_; intro gb466 hg w4 hbox hb; have n0_ := bsU hb; have n1_ := Aside0.mk (hbox); have n2_ := geU hg; have n3_ := geU hg; clear HB; have HB := n0_; have BK466 := n1_; have GW466 := n2_; have GE466 := n3_; clear n0_ n1_ n2_ n3_; clear hb hbox hg) | ((with_reducible refine gate_dst (N := 2) rfl ?_); refine bxU (cs := #[.int .i64 0, .bool false, .int .i64 0]) (t := 25) ?_; intro gb467 hg w5 hbox hb; have n0_ := bbU BK466 hb; have n1_ := bsU hb; have n2_ := Aside0.mk (hbox); have n3_ := geU hg; have n4_ := geU hg; have n5_ := neU BK466 hg; have n6_ := enU BK466 hg; clear BK466; clear HB; have BK466 := n0_; have HB := n1_; have BK467 := n2_; have GW467 := n3_; have GE467 := n4_; have NB466_467 := n5_; have NB467_466 := n6_; clear n0_ n1_ n2_ n3_ n4_ n5_ n6_; clear hb hbox hg; have hnb6 := NB466_467.out; have hnc6 := NB467_466.out; obtain ⟨hcz7_0, hcz7_1, hcz7_2, hfz7_0, hfz7_1, hfz7_2⟩ := b3U BK466) | ((with_reducible refine gate_callee (f := 31) rfl ?_); refine goU (some 5) Tryd.func31 #[.agg #[.int .i64 a0_0, .bool a0_1, .int .i64 a0_2]] ?_; (with_reducible refine (impl_IsFrame.calls k a0_0 a0_1 a0_2 true _ A2.out).mono ?_); rintro e w8 ⟨rfl, hb⟩; refine ⟨_, rfl, ?_⟩; have n0_ := bbU BK466 hb; have n1_ := bbU BK467 hb; have n2_ := bsU hb; clear BK466; clear BK467; clear HB; have BK466 := n0_; have BK467 := n1_; have HB := n2_; clear n0_ n1_ n2_; (try clear hb); (try clear hb2); (try clear hk); (try clear hi); obtain ⟨hcz9_0, hcz9_1, hcz9_2, hfz9_0, hfz9_1, hfz9_2⟩ := b3U BK466; obtain ⟨hcz10_0, hcz10_1, hcz10_2, hfz10_0, hfz10_1, hfz10_2⟩ := b3U BK467))
  refine bodyPost_ret (results_ct rfl _ _ gb467 25 #[.int .i64 a0_0, .bool false, .int .i64 a0_2] (0, 0) _ rfl bkU Tryd.underlying25 rfl (by kernel_rfl)) rfl ?_
  exact ⟨by first | rfl | (simp [errW_none, errW_some] <;> rfl) | (simp [*, errW_none, errW_some] <;> rfl), hbU⟩
 ·replace c3 := Bool.eq_false_iff.mpr c3
  subst c3
  rw [if_neg (show ¬ (false = true) by decide)] at H
  simp only [Option.some.injEq, Prod.mk.injEq] at H
  obtain ⟨rfl, rfl, rfl, rfl⟩ := H
  go_enter Tryd.func28, Tryd.ntmps28
  go_wp2_with (first | ((with_reducible refine gate_dst (N := 1) rfl ?_); refine bxU (cs := #[.int .i64 a0_0, .bool a0_1, .int .i64 a0_2]) (t := 25) ?_; intro gb466 hg w11 hbox hb; have n0_ := bsU hb; have n1_ := Aside0.mk (hbox); have n2_ := geU hg; have n3_ := geU hg; clear HB; have HB := n0_; have BK466 := n1_; have GW466 := n2_; have GE466 := n3_; clear n0_ n1_ n2_ n3_; clear hb hbox hg) | ((with_reducible refine gate_dst (N := 2) rfl ?_); refine bxU (cs := #[.int .i64 0, .bool false, .int .i64 0]) (t := 25) ?_; intro gb467 hg w12 hbox hb; have n0_ := bbU BK466 hb; have n1_ := bsU hb; have n2_ := Aside0.mk (hbox); have n3_ := geU hg; have n4_ := geU hg; have n5_ := neU BK466 hg; have n6_ := enU BK466 hg; clear BK466; clear HB; have BK466 := n0_; have HB := n1_; have BK467 := n2_; have GW467 := n3_; have GE467 := n4_; have NB466_467 := n5_; have NB467_466 := n6_; clear n0_ n1_ n2_ n3_ n4_ n5_ n6_; clear hb hbox hg; have hnb13 := NB466_467.out; have hnc13 := NB467_466.out; obtain ⟨hcz14_0, hcz14_1, hcz14_2, hfz14_0, hfz14_1, hfz14_2⟩ := b3U BK466) | ((with_reducible refine gate_callee (f := 31) rfl ?_); refine goU (some 5) Tryd.func31 #[.agg #[.int .i64 a0_0, .bool a0_1, .int .i64 a0_2]] ?_; (with_reducible refine (impl_IsFrame.calls k a0_0 a0_1 a0_2 false _ A2.out).mono ?_); rintro e w15 ⟨rfl, hb⟩; refine ⟨_, rfl, ?_⟩; have n0_ := bbU BK466 hb; have n1_ := bbU BK467 hb; have n2_ := bsU hb; clear BK466; clear BK467; clear HB; have BK466 := n0_; have BK467 := n1_; have HB := n2_; clear n0_ n1_ n2_; (try clear hb); (try clear hb2); (try clear hk); (try clear hi); obtain ⟨hcz16_0, hcz16_1, hcz16_2, hfz16_0, hfz16_1, hfz16_2⟩ := b3U BK467))
  refine bodyPost_ret (results_ct rfl _ _ gb467 25 #[.int .i64 0, .bool false, .int .i64 0] (0, 0) _ rfl bkU Tryd.underlying25 rfl (by kernel_rfl)) rfl ?_
  exact ⟨by first | rfl | (simp [errW_none, errW_some] <;> rfl) | (simp [*, errW_none, errW_some] <;> rfl), hbU⟩
mutual
def impl_PlayFrame.j0 : Nat → List ByteArray → Bool → Int → Bool → Int → Option (List Int × Bool)
 | 0, _, _, _, _, _ => none
 | k + 1, x1, x20, x470000, x470001, x470002 => if x20 = true then (some (([] : List Int), false)) else (impl_PlayFrame.l0 k (([0, 0] : List Int)) x1 (x1.length : Int) 0 x470000 x470001 x470002)
def impl_PlayFrame.l0 : Nat → List Int → List ByteArray → Int → Int → Int → Bool → Int → Option (List Int × Bool)
 | 0, _, _, _, _, _, _, _ => none
 | k + 1, x6, x22, x23, x24, x470000, x470001, x470002 => if x24 < x23 then (if 0 ≤ x24 then (if x24 < (x22.length : Int) then ((impl_FrameAfter.f k x470000 x470001 x470002 (rdOf ByteArray.empty x22 x24)).bind fun bt475 => (if bt475.2.2.2 = true then ((impl_PointsOf.f k (rdOf ByteArray.empty x22 x24)).bind fun bt480 => (if 0 ≤ (Int.tmod x24 2) then (if (Int.tmod x24 2) < (x6.length : Int) then ((impl_MissBall.f k bt475.1 bt475.2.1 bt475.2.2.1).bind fun bt484 => (impl_PlayFrame.l0 k (x6.set ((Int.tmod x24 2) : Int).toNat (wrap64 ((rd x6 (Int.tmod x24 2)) + bt480.1))) x22 x23 (wrap64 (x24 + 1)) bt484.1 bt484.2.1 bt484.2.2.1)) else (none)) else (none))) else (some (([] : List Int), false)))) else (none)) else (none)) else (some (x6, true))
end
def impl_PlayFrame.f (k : Nat) (a0_0 : Int) (a0_1 : Bool) (a0_2 : Int) (l1 : List ByteArray) : Option (List Int × Bool) := (impl_IsFrame.f k a0_0 a0_1 a0_2).bind fun t470 => (if t470 = true then (impl_PlayFrame.j0 k l1 (decide ((l1.length : Int) > 100)) a0_0 a0_1 a0_2) else (impl_PlayFrame.j0 k l1 true a0_0 a0_1 a0_2))
set_option maxHeartbeats 8000000 in
set_option maxRecDepth 100000 in
theorem impl_PlayFrame.calls (k : Nat) (a0_0 : Int) (a0_1 : Bool) (a0_2 : Int) (A1 : Option Addr) (c1 : Nat) (l1 : List ByteArray) (r1 : List Int) (r2 : Bool) (w : World) (hr1 : Kd.C Kd.string w A1 l1.length l1) (hc1 : l1.length ≤ c1) (h : impl_PlayFrame.f k a0_0 a0_1 a0_2 l1 = some (r1, r2)) :
  Calls Tryd.prog 22 #[.agg #[.int .i64 a0_0, .bool a0_1, .int .i64 a0_2], .slice A1 l1.length c1] w fun e w' => ∃ v0_ : Value, e = .returned (.tuple #[v0_, .bool r2]) ∧ Kd.R (Kd.int .i64) 3 w' w.heap.size (fun _ => True) v0_ r1 ∧ Below w.heap.size w w' := by
 have hu25 := Tryd.underlying25
 have HR1 := Aside0.mk hr1
 have HC1 := Aside0.mk hc1
 clear hr1 hc1
 have HB := Aside0.mk (Below.refl w.heap.size w)
 have H : ((impl_IsFrame.f k a0_0 a0_1 a0_2).bind fun t470 => (if t470 = true then (impl_PlayFrame.j0 k l1 (decide ((l1.length : Int) > 100)) a0_0 a0_1 a0_2) else (impl_PlayFrame.j0 k l1 true a0_0 a0_1 a0_2))) = some (r1, r2) := h
 clear h
 have HC3 := Aside0.mk H
 clear H
 go_enter Tryd.func22, Tryd.ntmps22
 go_upto_region 1 with (first | ((with_reducible refine gate_dst (N := 2) rfl ?_); (try (refine gate_guard (by rfl) ?_; dsimp only)); refine bxU (cs := #[.int .i64 a0_0, .bool a0_1, .int .i64 a0_2]) (t := 25) ?_; intro gb469 hg w4 hbox hb; have n0_ := bsU hb; have n1_ := Aside0.mk (hbox); have n2_ := geU hg; have n3_ := geU hg; clear HB; have HB := n0_; have BK469 := n1_; have GW469 := n2_; have GE469 := n3_; clear n0_ n1_ n2_ n3_; clear hb hbox hg))
 (try simp only [Act.put, List.setIfInBounds_toArray, List.set_cons_zero, List.set_cons_succ])
 go_cut [20] (fun v20 wc => ∃ (kq : Nat) (x20_2 : Bool), v20 = .bool x20_2 ∧ Aside0 (impl_PlayFrame.j0 kq l1 x20_2 a0_0 a0_1 a0_2 = some (r1, r2)) ∧ Aside0 (kq ≤ k) ∧ Aside0 (wc.heap[gb469]? = some (.cells #[.int .i64 a0_0, .bool a0_1, .int .i64 a0_2] 25 (0, 0))) ∧ Aside0 (Below w.heap.size w wc))
 case first =>
  have H := HC3.out
  clear HC3
  replace H := Option.bind_eq_some_iff.mp H
  obtain ⟨t470, A50, H⟩ := H
  (try dsimp only at H)
  have A5 := Aside0.mk A50
  clear A50
  by_cases c6 : t470 = true
  ·subst c6
   rw [if_pos rfl] at H
   have H' := Aside0.mk H
   clear H
   obtain ⟨hcz7_0, hcz7_1, hcz7_2, hfz7_0, hfz7_1, hfz7_2⟩ := b3U BK469
   go_wp2_with (first | ((with_reducible refine gate_callee (f := 31) rfl ?_); refine goU (some 14) Tryd.func31 #[.agg #[.int .i64 a0_0, .bool a0_1, .int .i64 a0_2]] ?_; (with_reducible refine (impl_IsFrame.calls k a0_0 a0_1 a0_2 true _ A5.out).mono ?_); rintro e w8 ⟨rfl, hb⟩; refine ⟨_, rfl, ?_⟩; have n0_ := bbU BK469 hb; have n1_ := bsU hb; clear BK469; clear HB; have BK469 := n0_; have HB := n1_; clear n0_ n1_; (try clear hb); (try clear hb2); (try clear hk); (try clear hi)))
   go_meet
   case rel => exact ⟨_, (decide ((l1.length : Int) > 100)), eqU, H', ⟨by first | omega | exact Nat.le_refl _⟩, ⟨bkU⟩, ⟨hbU⟩⟩
  ·replace c6 := Bool.eq_false_iff.mpr c6
   subst c6
   rw [if_neg (show ¬ (false = true) by decide)] at H
   have H' := Aside0.mk H
   clear H
   obtain ⟨hcz9_0, hcz9_1, hcz9_2, hfz9_0, hfz9_1, hfz9_2⟩ := b3U BK469
   go_wp2_with (first | ((with_reducible refine gate_callee (f := 31) rfl ?_); refine goU (some 14) Tryd.func31 #[.agg #[.int .i64 a0_0, .bool a0_1, .int .i64 a0_2]] ?_; (with_reducible refine (impl_IsFrame.calls k a0_0 a0_1 a0_2 false _ A5.out).mono ?_); rintro e w10 ⟨rfl, hb⟩; refine ⟨_, rfl, ?_⟩; have n0_ := bbU BK469 hb; have n1_ := bsU hb; clear BK469; clear HB; have BK469 := n0_; have HB := n1_; clear n0_ n1_; (try clear hb); (try clear hb2); (try clear hk); (try clear hi)))
   go_meet
   case rel => exact ⟨_, (true), eqU, H', ⟨by first | omega | exact Nat.le_refl _⟩, ⟨bkU⟩, ⟨hbU⟩⟩
 case rest =>
  clear HC3
  (try clear c1); (try clear c3); (try clear c6); (try clear hcz7_0); (try clear hcz7_1); (try clear hcz7_2); (try clear hcz9_0); (try clear hcz9_1); (try clear hcz9_2); (try clear hfz7_0); (try clear hfz7_1); (try clear hfz7_2); (try clear hfz9_0); (try clear hfz9_1); (try clear hfz9_2)
  obtain ⟨kq, x20_2, rfl, HA, HJ2, BK469, HB⟩ := hcut
  cases kq with
  | zero => exact absurd HA.out (by simp [impl_PlayFrame.j0])
  | succ kj2 =>
   have H := HA.out
   clear HA
   simp only [impl_PlayFrame.j0] at H
   by_cases c11 : x20_2 = true
   ·subst c11
    rw [if_pos rfl] at H
    simp only [Option.some.injEq, Prod.mk.injEq] at H
    obtain ⟨rfl, rfl⟩ := H
    go_wp2
    go_ret2
    exact ⟨_, by first | rfl | (simp [errW_none, errW_some] <;> rfl) | (simp [*, errW_none, errW_some] <;> rfl), by first | exact Kd.R_nil _ _ _ _ _ | exact Kd.N_nil _ _ _ _ _ | exact Kd.V_nil _ _ _ _ _ | exact Kd.Q_nil _ _ _ _ _ | exact Kd.S_nil _ _ _ _ _, hbU⟩
   ·replace c11 := Bool.eq_false_iff.mpr c11
    subst c11
    rw [if_neg (show ¬ (false = true) by decide)] at H
    obtain ⟨y471, hy471⟩ : ∃ y_ : List Int, y_ = (([0, 0] : List Int)) := ⟨_, rfl⟩
    replace H : (impl_PlayFrame.l0 kj2 y471 l1 (l1.length : Int) 0 a0_0 a0_1 a0_2) = some (r1, r2) := by first | (rw [hy471]; with_reducible exact H) | (have H2_ := (Option.bind_some _ _).symm.trans H; rw [hy471]; with_reducible exact H2_) | (have H2_ := (Option.bind_some _ _).symm.trans H; with_reducible exact H2_) | with_reducible exact H | (rw [hy471]; exact H) | exact H
    have Ny471 := Aside0.mk hy471
    clear hy471
    have H' := Aside0.mk H
    clear H
    go_wp2_with (first | ((with_reducible refine gate_dst (N := 21) rfl ?_); (try (refine gate_guard (by rfl) ?_; dsimp only)); refine Kd.R_lit (Kd.int .i64) _ 3 ?hg (N := 21) ?hd (xs := ([0, 0] : List Int)) (inner := [.int .i64 0, .int .i64 0]) (ok := fun _ => True) (okp := fun _ => True) ?hr ?hp (fun _ hk => hk) trivial (Below.refl _ _) (Nat.le_refl _) (by simp) ?_; (case hd => rfl); (case hg => rfl); (case hr => first | (go_simp; done) | (go_simp; rfl)); (case hp => exact (Reps.one (show Kd.M (Kd.int .i64) _ _ _ 0 [.int .i64 0] from rfl) (Reps.one (show Kd.M (Kd.int .i64) _ _ _ 0 [.int .i64 0] from rfl) (Reps.none _ _)))); intro v472 w12 ho13 hb hg_ hnew_; clear hg_ hnew_; (first | rw [← Ny471.out] at ho13 | (simp only [Int.reduceToNat] at ho13; rw [← Ny471.out] at ho13)); have n0_ := Aside0.mk (Kd.R_lower ho13 (below_size hbU)); have n1_ := bbU BK469 hb; have n2_ := bsU hb; clear BK469; clear HB; have HO473 := n0_; have BK469 := n1_; have HB := n2_; clear n0_ n1_ n2_; clear hb ho13))
    go_loopg [24] kj2 (fun kq v24 w' => ∃ (x6_2 : List Int) (x24_2 : Int) (x470000_2 : Int) (x470001_2 : Bool) (x470002_2 : Int), v24 = .int .i64 x24_2 ∧ Aside0 (impl_PlayFrame.l0 kq x6_2 l1 (l1.length : Int) x24_2 x470000_2 x470001_2 x470002_2 = some (r1, r2)) ∧ Aside0 (kq ≤ kj2) ∧ Aside0 (Kd.R (Kd.int .i64) 3 w' w.heap.size (fun _ => True) v472 x6_2) ∧ Aside0 (w'.heap[gb469]? = some (.cells #[.int .i64 x470000_2, .bool x470001_2, .int .i64 x470002_2] 25 (0, 0))) ∧ Aside0 (Below w.heap.size w w'))
    case atStart => exact ⟨(y471), (0), (a0_0), (a0_1), (a0_2), eqU, H', ⟨Nat.le_refl _⟩, ⟨by (with_reducible repeat (first | apply Kd.R_alloc | apply Kd.R_drewN | apply Kd.R_drew)); exact HO473.out⟩, ⟨bkU⟩, ⟨hbU⟩⟩
    case round =>
     clear H'
     (try clear c1); (try clear c3); (try clear c6); (try clear c11); (try clear hcz7_0); (try clear hcz7_1); (try clear hcz7_2); (try clear hcz9_0); (try clear hcz9_1); (try clear hcz9_2); (try clear hfz7_0); (try clear hfz7_1); (try clear hfz7_2); (try clear hfz9_0); (try clear hfz9_1); (try clear hfz9_2)
     obtain ⟨x6_2, x24_2, x470000_2, x470001_2, x470002_2, rfl, HA, HK2, HO_6, BK469, HB⟩ := hrel
     cases gk with
     | zero => exact absurd HA.out (by simp [impl_PlayFrame.l0])
     | succ k2 =>
      have H := HA.out
      clear HA
      simp only [impl_PlayFrame.l0] at H
      by_cases c14 : x24_2 < (l1.length : Int)
      ·rw [if_pos c14] at H
       have c14b0 : decide (x24_2 < (l1.length : Int)) = true := decide_eq_true c14
       clear c14
       by_cases c15 : 0 ≤ x24_2
       ·rw [if_pos c15] at H
        have c15b0 : decide (0 ≤ x24_2) = true := decide_eq_true c15
        clear c15
        by_cases c16 : x24_2 < (l1.length : Int)
        ·rw [if_pos c16] at H
         have c16b0 : decide (x24_2 < (l1.length : Int)) = true := decide_eq_true c16
         clear c16
         replace H := Option.bind_eq_some_iff.mp H
         obtain ⟨⟨t475, t476, t477, t478⟩, A170, H⟩ := H
         (try dsimp only at H)
         have A17 := Aside0.mk A170
         clear A170
         by_cases c18 : t478 = true
         ·subst c18
          rw [if_pos rfl] at H
          replace H := Option.bind_eq_some_iff.mp H
          obtain ⟨⟨t480, t481⟩, A190, H⟩ := H
          (try dsimp only at H)
          have A19 := Aside0.mk A190
          clear A190
          obtain ⟨ji20, hji20⟩ : ∃ j_ : Int, (Int.tmod x24_2 2) = j_ := ⟨_, rfl⟩
          replace H : (if 0 ≤ (ji20) then (if (ji20) < (x6_2.length : Int) then ((impl_MissBall.f k2 t475 t476 t477).bind fun bt484 => (impl_PlayFrame.l0 k2 (x6_2.set ((ji20) : Int).toNat (wrap64 ((rd x6_2 (ji20)) + t480))) l1 (l1.length : Int) (wrap64 (x24_2 + 1)) bt484.1 bt484.2.1 bt484.2.2.1)) else (none)) else (none)) = some (r1, r2) := by first | (rw [hji20] at H; exact H) | (simp only [hji20] at H ⊢; exact H)
          (try rw [hji20] at A17)
          (try rw [hji20] at A19)
          by_cases c21 : 0 ≤ (ji20)
          ·rw [if_pos c21] at H
           have c21b0 : decide (0 ≤ (ji20)) = true := decide_eq_true c21
           clear c21
           by_cases c22 : (ji20) < (x6_2.length : Int)
           ·rw [if_pos c22] at H
            have c22b0 : decide ((ji20) < (x6_2.length : Int)) = true := decide_eq_true c22
            clear c22
            obtain ⟨y483, hy483⟩ : ∃ y_ : List Int, y_ = (x6_2.set ((ji20) : Int).toNat (wrap64 ((rd x6_2 (ji20)) + t480))) := ⟨_, rfl⟩
            replace H : ((impl_MissBall.f k2 t475 t476 t477).bind fun bt484 => (impl_PlayFrame.l0 k2 y483 l1 (l1.length : Int) (wrap64 (x24_2 + 1)) bt484.1 bt484.2.1 bt484.2.2.1)) = some (r1, r2) := by first | (rw [hy483]; with_reducible exact H) | (have H2_ := (Option.bind_some _ _).symm.trans H; rw [hy483]; with_reducible exact H2_) | (have H2_ := (Option.bind_some _ _).symm.trans H; with_reducible exact H2_) | with_reducible exact H | (rw [hy483]; exact H) | exact H
            have Ny483 := Aside0.mk hy483
            clear hy483
            replace H := Option.bind_eq_some_iff.mp H
            obtain ⟨⟨t484, t485, t486, t487⟩, A240, H⟩ := H
            (try dsimp only at H)
            have A24 := Aside0.mk A240
            clear A240
            have H' := Aside0.mk H
            clear H
            have p474 : 0 ≤ (x24_2 : Int) := of_decide_eq_true (by first | (with_reducible assumption) | assumption)
            have q474 : x24_2 < (l1.length : Int) := of_decide_eq_true (by first | (with_reducible assumption) | assumption)
            obtain ⟨ad474, e474, hx474_0⟩ := Kd.at_string HR1.out x24_2 p474 q474
            cases e474
            replace hx474_0 := (HB.out.cell (World.block_lt_of_cell? w _ hx474_0)).trans hx474_0
            replace p474 := eq_true p474
            replace q474 := eq_true q474
            obtain ⟨hcz25_0, hcz25_1, hcz25_2, hfz25_0, hfz25_1, hfz25_2⟩ := b3U BK469
            go_wp2_with (first | ((with_reducible refine gate_callee (f := 27) rfl ?_); refine goU (some 32) Tryd.func27 #[.agg #[.int .i64 x470000_2, .bool x470001_2, .int .i64 x470002_2], .string (rdOf ByteArray.empty l1 x24_2)] ?_; (with_reducible refine (impl_FrameAfter.calls k2 x470000_2 x470001_2 x470002_2 (rdOf ByteArray.empty l1 x24_2) t475 t476 t477 true _ A17.out).mono ?_); rintro e w26 ⟨rfl, hb⟩; refine ⟨_, rfl, ?_⟩; have n0_ := Aside0.mk (Kd.R_below (by (with_reducible repeat (first | apply Kd.R_alloc | apply Kd.R_drewN | apply Kd.R_drew)); exact HO_6.out) hb); have n1_ := bbU BK469 hb; have n2_ := bsU hb; clear HO_6; clear BK469; clear HB; have HO_6 := n0_; have BK469 := n1_; have HB := n2_; clear n0_ n1_ n2_; (try clear hb); (try clear hb2); (try clear hk); (try clear hi)) | ((with_reducible refine gate_dst (N := 9) rfl ?_); (try (refine gate_guard (by rfl) ?_; dsimp only)); refine bxU (cs := #[.int .i64 0, .bool false, .int .i64 0]) (t := 25) ?_; intro gb479 hg w27 hbox hb; have n0_ := Aside0.mk (Kd.R_below (by (with_reducible repeat (first | apply Kd.R_alloc | apply Kd.R_drewN | apply Kd.R_drew)); exact HO_6.out) hb); have n1_ := bbU BK469 hb; have n2_ := bsU hb; have n3_ := Aside0.mk (hbox); have n4_ := geU hg; have n5_ := geU hg; have n6_ := neU BK469 hg; have n7_ := enU BK469 hg; clear HO_6; clear BK469; clear HB; have HO_6 := n0_; have BK469 := n1_; have HB := n2_; have BK479 := n3_; have GW479 := n4_; have GE479 := n5_; have NB469_479 := n6_; have NB479_469 := n7_; clear n0_ n1_ n2_ n3_ n4_ n5_ n6_ n7_; clear hb hbox hg; have hnb28 := NB479_469.out; have hnc28 := NB469_479.out; obtain ⟨hcz29_0, hcz29_1, hcz29_2, hfz29_0, hfz29_1, hfz29_2⟩ := b3U BK479) | ((with_reducible refine gate_callee (f := 11) rfl ?_); refine goU (some 39) Tryd.func11 #[.string (rdOf ByteArray.empty l1 x24_2)] ?_; (with_reducible refine (impl_PointsOf.calls k2 (rdOf ByteArray.empty l1 x24_2) t480 t481 _ A19.out).mono ?_); rintro e w30 ⟨rfl, hb⟩; refine ⟨_, rfl, ?_⟩; have n0_ := Aside0.mk (Kd.R_below (by (with_reducible repeat (first | apply Kd.R_alloc | apply Kd.R_drewN | apply Kd.R_drew)); exact (Kd.R_mono (Kd.R_far (p := ⟨gb479, 2, none⟩) (Kd.R_far (p := ⟨gb479, 1, none⟩) (Kd.R_far (p := ⟨gb479, 0, none⟩) (Kd.R_types HO_6.out BK479.out (by decide)) (fun _ hk => hk.2) (.int .i64 t475)) (fun _ hk => hk.2) (.bool t476)) (fun _ hk => hk.2) (.int .i64 t477)) (fun _ h_ => h_.1))) hb); have n1_ := bbU BK469 hb; have n2_ := Aside0.mk (blk_below (g := gb479) (o := .cells #[.int .i64 t475, .bool t476, .int .i64 t477] 25 (0, 0)) bkU hb); have n3_ := bsU hb; clear HO_6; clear BK469; clear BK479; clear HB; have HO_6 := n0_; have BK469 := n1_; have BK479 := n2_; have HB := n3_; clear n0_ n1_ n2_ n3_; (try clear hb); (try clear hb2); (try clear hk); (try clear hi); obtain ⟨Ao31, co31, eo31⟩ := Kd.R_slice HO_6.out; subst eo31; have p482 : 0 ≤ ((ji20) : Int) := of_decide_eq_true (by first | (with_reducible assumption) | assumption); have q482 : (ji20) < (x6_2.length : Int) := of_decide_eq_true (by first | (with_reducible assumption) | assumption); obtain ⟨ad482, e482, hx482_0⟩ := Kd.at_int (Kd.R_reads' HO_6.out).2.2 (ji20) p482 q482; cases e482; replace p482 := eq_true p482; replace q482 := eq_true q482; have p23 : 0 ≤ ((ji20) : Int) := of_decide_eq_true (by first | (with_reducible assumption) | assumption); have q23 : ((ji20) : Int) < ((x6_2.length : Int) : Int) := of_decide_eq_true (by first | (with_reducible assumption) | assumption); obtain ⟨go23, co23, eo23, gb23, gl23, cl23, HG23⟩ := Kd.R_form HO_6.out (by omega); (first | cases eo23 | (injection eo23 with ea_ en_ ec_; (first | subst ea_ | (injection ea_ with ea_; subst ea_)); subst ec_; clear en_)); have GB23 := Aside0.mk gb23; have GG23 := Aside0.mk HG23; clear gb23 gl23 HG23; (first | simp only [add_plain] at hx482_0 | skip); obtain ⟨hx23_0, hf23_0⟩ := Kd.R_celln 0 HO_6.out ((ji20) : Int) p23 q23; replace p23 := eq_true p23; replace q23 := eq_true q23; obtain ⟨hy32_, hz32_⟩ := Kd.R_celln 0 HO_6.out ((ji20) : Int) (of_decide_eq_true (by first | (with_reducible assumption) | assumption)) (of_decide_eq_true (by first | (with_reducible assumption) | assumption)); have HP32 := Kd.R_putg HO_6.out ((ji20) : Int) (wrap64 ((rd x6_2 (ji20)) + t480))) | ((with_reducible refine gate_store (t := 3) (p := 49) rfl ?_); refine store_event (t := 3) (p := 49) (v := ?vo_w33) (w1 := (w30.setCell ⟨go23, ((ji20) : Int).toNat, none⟩ (.int .i64 (wrap64 ((rd x6_2 (ji20)) + t480))))) ?hg ?ho ?hn ?hr ?_; (case ho => rfl); (case hg => rfl); (case hn => rfl); (case hr => first | (go_simp; done) | (go_simp; rfl)); intro w33 hw; have hg : w30.grownBy w33 (some go23) := (by rw [hw]; exact HP32.2); have hp_ : Kd.R (Kd.int .i64) 3 w33 w.heap.size (fun _ => True) (.slice (some ⟨go23, 0, none⟩) x6_2.length co31) y483 := (by rw [hw, Ny483.out]; exact HP32.1); clear HP32; have n0_ := Aside0.mk (hp_); have n1_ := Aside0.mk (blk_grown (g := gb469) (o := .cells #[.int .i64 x470000_2, .bool x470001_2, .int .i64 x470002_2] 25 (0, 0)) bkU hg (Kd.R_ne HO_6.out BK469.out (by decide))); have n2_ := Aside0.mk (blk_grown (g := gb479) (o := .cells #[.int .i64 t475, .bool t476, .int .i64 t477] 25 (0, 0)) bkU hg (Kd.R_ne HO_6.out BK479.out (by decide))); have n3_ := Aside0.mk ((by rw [hw]; exact below_set (HB.out) GB23.out : Below w.heap.size w w33)); clear HO_6; clear BK469; clear BK479; clear HB; have HO_6 := n0_; have BK469 := n1_; have BK479 := n2_; have HB := n3_; clear n0_ n1_ n2_ n3_; clear hg hw hp_; obtain ⟨hcz34_0, hcz34_1, hcz34_2, hfz34_0, hfz34_1, hfz34_2⟩ := b3U BK479) | ((with_reducible refine gate_callee (f := 28) rfl ?_); refine goU (some 52) Tryd.func28 #[.agg #[.int .i64 t475, .bool t476, .int .i64 t477]] ?_; (with_reducible refine (impl_MissBall.calls k2 t475 t476 t477 t484 t485 t486 t487 _ A24.out).mono ?_); rintro e w35 ⟨rfl, hb⟩; refine ⟨_, rfl, ?_⟩; have n0_ := Aside0.mk (Kd.R_below (by (with_reducible repeat (first | apply Kd.R_alloc | apply Kd.R_drewN | apply Kd.R_drew)); exact HO_6.out) hb); have n1_ := bbU BK469 hb; have n2_ := bbU BK479 hb; have n3_ := bsU hb; clear HO_6; clear BK469; clear BK479; clear HB; have HO_6 := n0_; have BK469 := n1_; have BK479 := n2_; have HB := n3_; clear n0_ n1_ n2_ n3_; (try clear hb); (try clear hb2); (try clear hk); (try clear hi); obtain ⟨hcz36_0, hcz36_1, hcz36_2, hfz36_0, hfz36_1, hfz36_2⟩ := b3U BK469))
            go_roundg k2
            case measure => have := HJ2.out; have := HK2.out; omega
            case rel => exact ⟨(y483), (wrap64 (x24_2 + 1)), (t484), (t485), (t486), eqU, H', ⟨by have := HJ2.out; have := HK2.out; omega⟩, ⟨by (with_reducible repeat (first | apply Kd.R_alloc | apply Kd.R_drewN | apply Kd.R_drew)); exact Kd.R_mono (Kd.R_far (p := ⟨gb469, 2, none⟩) (Kd.R_far (p := ⟨gb469, 1, none⟩) (Kd.R_far (p := ⟨gb469, 0, none⟩) (Kd.R_types HO_6.out BK469.out (by decide)) (fun _ hk => hk.2) (.int .i64 t484)) (fun _ hk => hk.2) (.bool t485)) (fun _ hk => hk.2) (.int .i64 t486)) (fun _ hk => trivial)⟩, ⟨bkU⟩, ⟨hbU⟩⟩
           ·rw [if_neg c22] at H
            exact absurd H (by simp)
          ·rw [if_neg c21] at H
           exact absurd H (by simp)
         ·replace c18 := Bool.eq_false_iff.mpr c18
          subst c18
          rw [if_neg (show ¬ (false = true) by decide)] at H
          simp only [Option.some.injEq, Prod.mk.injEq] at H
          obtain ⟨rfl, rfl⟩ := H
          have p474 : 0 ≤ (x24_2 : Int) := of_decide_eq_true (by first | (with_reducible assumption) | assumption)
          have q474 : x24_2 < (l1.length : Int) := of_decide_eq_true (by first | (with_reducible assumption) | assumption)
          obtain ⟨ad474, e474, hx474_0⟩ := Kd.at_string HR1.out x24_2 p474 q474
          cases e474
          replace hx474_0 := (HB.out.cell (World.block_lt_of_cell? w _ hx474_0)).trans hx474_0
          replace p474 := eq_true p474
          replace q474 := eq_true q474
          obtain ⟨hcz37_0, hcz37_1, hcz37_2, hfz37_0, hfz37_1, hfz37_2⟩ := b3U BK469
          go_wp2_with (first | ((with_reducible refine gate_callee (f := 27) rfl ?_); refine goU (some 32) Tryd.func27 #[.agg #[.int .i64 x470000_2, .bool x470001_2, .int .i64 x470002_2], .string (rdOf ByteArray.empty l1 x24_2)] ?_; (with_reducible refine (impl_FrameAfter.calls k2 x470000_2 x470001_2 x470002_2 (rdOf ByteArray.empty l1 x24_2) t475 t476 t477 false _ A17.out).mono ?_); rintro e w38 ⟨rfl, hb⟩; refine ⟨_, rfl, ?_⟩; have n0_ := Aside0.mk (Kd.R_below (by (with_reducible repeat (first | apply Kd.R_alloc | apply Kd.R_drewN | apply Kd.R_drew)); exact HO_6.out) hb); have n1_ := bbU BK469 hb; have n2_ := bsU hb; clear HO_6; clear BK469; clear HB; have HO_6 := n0_; have BK469 := n1_; have HB := n2_; clear n0_ n1_ n2_; (try clear hb); (try clear hb2); (try clear hk); (try clear hi)) | ((with_reducible refine gate_dst (N := 9) rfl ?_); (try (refine gate_guard (by rfl) ?_; dsimp only)); refine bxU (cs := #[.int .i64 0, .bool false, .int .i64 0]) (t := 25) ?_; intro gb479 hg w39 hbox hb; have n0_ := Aside0.mk (Kd.R_below (by (with_reducible repeat (first | apply Kd.R_alloc | apply Kd.R_drewN | apply Kd.R_drew)); exact HO_6.out) hb); have n1_ := bbU BK469 hb; have n2_ := bsU hb; have n3_ := Aside0.mk (hbox); have n4_ := geU hg; have n5_ := geU hg; have n6_ := neU BK469 hg; have n7_ := enU BK469 hg; clear HO_6; clear BK469; clear HB; have HO_6 := n0_; have BK469 := n1_; have HB := n2_; have BK479 := n3_; have GW479 := n4_; have GE479 := n5_; have NB469_479 := n6_; have NB479_469 := n7_; clear n0_ n1_ n2_ n3_ n4_ n5_ n6_ n7_; clear hb hbox hg; have hnb40 := NB479_469.out; have hnc40 := NB469_479.out; obtain ⟨hcz41_0, hcz41_1, hcz41_2, hfz41_0, hfz41_1, hfz41_2⟩ := b3U BK479))
          go_ret2
          exact ⟨_, by first | rfl | (simp [errW_none, errW_some] <;> rfl) | (simp [*, errW_none, errW_some] <;> rfl), by first | exact Kd.R_nil _ _ _ _ _ | exact Kd.N_nil _ _ _ _ _ | exact Kd.V_nil _ _ _ _ _ | exact Kd.Q_nil _ _ _ _ _ | exact Kd.S_nil _ _ _ _ _, hbU⟩
        ·rw [if_neg c16] at H
         exact absurd H (by simp)
       ·rw [if_neg c15] at H
        exact absurd H (by simp)
      ·rw [if_neg c14] at H
       have c14b0 : decide (x24_2 < (l1.length : Int)) = false := decide_eq_false c14
       clear c14
       simp only [Option.some.injEq, Prod.mk.injEq] at H
       obtain ⟨rfl, rfl⟩ := H
       go_wp2
       go_ret2
       exact ⟨_, by first | rfl | (simp [errW_none, errW_some] <;> rfl) | (simp [*, errW_none, errW_some] <;> rfl), by (with_reducible repeat (first | apply Kd.R_alloc | apply Kd.R_drewN | apply Kd.R_drew)); exact HO_6.out, hbU⟩
end Go.Proofs.YtcmlmjgoidpabaaDoor.MFnFramesCounted

